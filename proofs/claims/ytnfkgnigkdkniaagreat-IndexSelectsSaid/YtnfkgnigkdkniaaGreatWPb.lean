import Derived.Test.YtnfkgnigkdkniaaGreatWPa
import Derived.Test.YtnfkgnigkdkniaaGreatVmSort
set_option linter.unusedVariables false
set_option linter.unusedSimpArgs false
set_option maxRecDepth 100000
noncomputable section
namespace Go.Vm
open Go.Proofs
variable {R:Type}
theorem G_S (a b:Int):(A_n a b).Pairwise fun x y=>x ≠ y:=by
  unfold A_n
  rw [List.pairwise_map]
  refine List.Pairwise.imp ?_ List.nodup_range
  intro x y h
  omega
theorem U_u {α β:Type} {R:β->β->Prop} {S:α->α->Prop} {l:List α} {f:α->List β} (hS:l.Pairwise S) (h1:∀ a ∈ l,(f a).Pairwise R) (h2:∀ a b,S a b->∀ x ∈ f a,∀ y ∈ f b,R x y):(l.flatMap f).Pairwise R:=by
  rw [List.pairwise_flatMap]
  exact ⟨h1,hS.imp fun {a b} h=>h2 a b h⟩
theorem P_a {c r b k:Int} {l:Rows} {w:List V} (h:w ∈ H_A c r b k l):(N'.of w).Comp=c/\(N'.of w).Res=r/\(N'.of w).Band=b/\(N'.of w).Precinct=k:=by
  unfold H_A at h
  obtain ⟨i,_,rfl⟩:=List.mem_map.1 h
  exact ⟨rfl,rfl,rfl,rfl⟩
theorem M_f {h:D'} {p:C'} {tile:Int} {id:G'} {w:List V} (hw:w ∈ M_y h p tile id):(N'.of w).Comp=id.Comp/\(N'.of w).Res=id.Res/\(N'.of w).Precinct=id.Precinct:=by
  unfold M_y T_P at hw
  obtain ⟨v,_,hv⟩:=List.mem_flatMap.1 hw
  obtain ⟨h1,h2,_,h4⟩:=P_a hv
  exact ⟨h1,h2,h4⟩
theorem D_W {α β:Type} {f g:α->List β}:∀ {l:List α},(∀ x ∈ l,f x=g x)->l.flatMap f=l.flatMap g
  | [],_=>rfl
  | x::l,h=>by rw [List.flatMap_cons,List.flatMap_cons,h x (List.mem_cons_self ..),D_W fun y hy=>h y (List.mem_cons_of_mem _ hy)]
theorem B_5:P_M=B_f:=rfl
theorem F_k:h_t=c_v:=rfl
theorem C_d (h:D') (t c:Int):f_Q h t c=H_z h t c:=by
  unfold f_Q H_z
  rw [B_5]
  by_cases h1:t<0
  · simp only [decide_eq_true h1];rfl
  · by_cases h2:t >= ((B_f h).length:Int)
    · simp only [decide_eq_true h2];rfl
    · by_cases h3:c<0
      · simp only [decide_eq_true h3,decide_eq_false h2];rfl
      · by_cases h4:c >= (h.Components.length:Int)
        · simp only [decide_eq_false h1,decide_eq_false h2,decide_eq_false h3,decide_eq_true h4]
          rfl
        · have i1:=A_c (i:=t) (n:=(B_f h).length) (by omega) (by omega)
          have i2:=A_c (i:=c) (n:=h.Components.length) (by omega) (by omega)
          simp only [decide_eq_false h1,decide_eq_false h2,decide_eq_false h3,decide_eq_false h4,i1,i2]
          rfl
theorem N_P {l res:Int} (hl:0<=l/\l<=5) (h0:0<=res) (h1:res<=l) {w:List V} (hw:w ∈ O_M l res) :
    0<=V.toInt (List.getD w 0 V.undef)/\V.toInt (List.getD w 0 V.undef)<=3*l/\(V.toInt (List.getD w 0 V.undef)+2) / 3=res:=by
  rw [O_8 hl h0 h1] at hw
  split at hw
  · rename_i hz
    rw [List.mem_singleton] at hw
    subst hw
    show 0<=(0:Int)/\(0:Int)<=_/\((0:Int)+2) / 3=_
    omega
  · rename_i hz
    simp only [List.mem_cons,List.not_mem_nil,or_false] at hw
    rcases hw with rfl | rfl | rfl
    · show 0<=3*res-2/\3*res-2<=_/\(3*res-2+2) / 3=_
      omega
    · show 0<=3*res-1/\3*res-1<=_/\(3*res-1+2) / 3=_
      omega
    · show 0<=3*res/\3*res<=_/\(3*res+2) / 3=_
      omega
theorem Q_d (h:D') {p:C'} (tile comp k:Int) (hn:N_5 p=true) {res:Int} (h0:0<=res) (h1:res<=p.Levels) :
    j_J (H_z h tile comp) p comp res k=M_y h p tile ⟨comp,res,k,0⟩:=by
  have hL:=(A_D hn).1
  unfold j_J M_y T_P
  refine D_W fun w hw=>?_
  obtain ⟨b0,b1,b2⟩:=N_P hL h0 h1 hw
  rw [<- U_t h tile comp k hn h0 h1 b0 b1 b2]
theorem J_N (r:F'):∀ {l:List V},l.length=4->setCells l 0 (F'.row r)=F'.row r
  | [a,b,c,d],_=>rfl
  | [],h=>by cases h
  | [_],h=>by cases h
  | [_,_],h=>by cases h
  | [_,_,_],h=>by cases h
  | _::_::_::_::_::_,h=>by simp at h
def R4 (n:Nat) (o:Rows):Prop:=o.length=n/\∀ w ∈ o,w.length=4
theorem R4.set {n:Nat} {o:Rows} (h:R4 n o) (i:Nat) (r:F'):R4 n (o.set i (F'.row r)):=by
  refine ⟨by rw [List.length_set];exact h.1,fun w hw=>?_⟩
  rcases List.mem_or_eq_of_mem_set hw with hw | rfl
  · exact h.2 w hw
  · rfl
theorem R4.at {n:Nat} {o:Rows} (h:R4 n o) {i:Nat} (hi:i<n):(List.getD o i []).length=4:=by
  have h1:i<o.length:=by rw [h.1];exact hi
  rw [List.getD_eq_getElem?_getD,List.getElem?_eq_getElem h1]
  exact h.2 _ (List.getElem_mem h1)
theorem J_O {r:F'} (hv:A_3 r=true):A_3 (P_1 r).e0=true:=by
  obtain ⟨⟨h1,h2,h3⟩,h4,h5,h6⟩:=A_u.1 hv
  exact A_u.2 ⟨⟨by show 0<=(r.X0+1) / 2;omega,by show (r.X0+1) / 2<=(r.X1+1) / 2;omega,by show (r.X1+1) / 2<=4096;omega⟩,by show 0<=(r.Y0+1) / 2;omega,by show (r.Y0+1) / 2<=(r.Y1+1) / 2;omega,by show (r.Y1+1) / 2<=4096;omega⟩
theorem F_e (a:F') (l i:Int) (w:F'):A_3 (C_S w (F_h a l i))=true:=by
  have hv:=M_o a l i
  obtain ⟨⟨h1,_⟩,h4,_⟩:=A_u.1 hv
  exact N_G (Or.inr hv) (Or.inr h1) (Or.inr h4)
theorem Q_e (a:F') (l m:Int):∀ (n N:Nat) (o:Rows) (w:F'),R4 N o->A_3 w=true->R4 N (O_e a l m n o w).1/\A_3 (O_e a l m n o w).2=true
  | 0,N,o,w,h,hw=>⟨h,hw⟩
  | n+1,N,o,w,h,hw=>by
    unfold O_e
    refine Q_e a l m n N _ _ (((h.set _ _).set _ _).set _ _) ?_
    rw [F_E (F_e _ _ _ _)]
    exact J_O (F_e _ _ _ _)
theorem f_y (k:Int):0<=O_d k/\O_d k<=4:=by
  have hc:∀ (b:Bool) (x y:Int),(0<=x/\x<=4)->(0<=y/\y<=4)->(0<=(bif b then x else y)/\(bif b then x else y)<=4):=by
    intro b x y hx hy
    cases b
    · exact hy
    · exact hx
  unfold O_d
  repeat' (first | exact ⟨by decide,by decide⟩ | refine hc _ _ _ ?_ ?_)
theorem S_9 (a:F') (l m:Int) (hl:0<=l/\l<=5) (hm:0<=m/\m<=4) (e:Rows->F'->Option R):∀ (i n:Nat) (o:Rows) (w:F'),i+1<=n->(i:Int)<=l->R4 (3*l+1).toNat o->A_3 w=true ->
    B_z l m a n (i:Int) o w (fun _ z g=>e z g)=e (O_e a l m i o w).1 (O_e a l m i o w).2
  | i,0,o,w,hn,_,_,_=>by omega
  | 0,n+1,o,w,_,_,_,_=>by
    show B_X l m a 0 o w _ _=_
    unfold B_X
    rfl
  | i+1,n+1,o,w,hn,hi,ho,hw=>by
    show B_X l m a ((i+1:Nat):Int) o w _ _=_
    obtain ⟨⟨h1,h2,h3⟩,h4,h5,h6⟩:=A_u.1 hw
    unfold B_X
    have c1:((i+1:Nat):Int)=(i:Int)+1:=by omega
    rw [c1]
    have hd:(i:Int)+1 > 0:=by omega
    simp only [decide_eq_true hd,cond_true]
    rw [w64 (n:=w.X0-m) (by omega) (by omega),w64 (n:=w.Y0-m) (by omega) (by omega),w64 (n:=w.X1+m) (by omega) (by omega),w64 (n:=w.Y1+m) (by omega) (by omega),
      w64 (n:=3*((i:Int)+1)) (by omega) (by omega),w64 (n:=3*((i:Int)+1)-2) (by omega) (by omega),w64 (n:=3*((i:Int)+1)-1) (by omega) (by omega),w64 (n:=(i:Int)+1-1) (by omega) (by omega)]
    have t1:(3*((i:Int)+1)-2).toNat=3*i+1:=by omega
    have t2:(3*((i:Int)+1)-1).toNat=3*i+2:=by omega
    have t3:(3*((i:Int)+1)).toNat=3*i+3:=by omega
    have hlen:=ho.1
    have r1:inR (3*((i:Int)+1)-2) o.length=true:=A_c (by omega) (by omega)
    have r2:inR (3*((i:Int)+1)-1) o.length=true:=A_c (by omega) (by omega)
    have r3:inR (3*((i:Int)+1)) o.length=true:=A_c (by omega) (by omega)
    simp only [List.length_set,r1,r2,r3,cond_true,t1,t2,t3]
    have s1:=ho.at (i:=3*i+1) (by omega)
    rw [J_N _ s1]
    have o1:=ho.set (3*i+1) (V_1 (C_S ⟨w.X0-m,w.Y0-m,w.X1+m,w.Y1+m⟩ (F_h a l ((i:Int)+1)))).e1
    have s2:=o1.at (i:=3*i+2) (by omega)
    rw [J_N _ s2]
    have o2:=o1.set (3*i+2) (V_1 (C_S ⟨w.X0-m,w.Y0-m,w.X1+m,w.Y1+m⟩ (F_h a l ((i:Int)+1)))).e2
    have s3:=o2.at (i:=3*i+3) (by omega)
    rw [J_N _ s3,show (i:Int)+1-1=(i:Int) by omega]
    refine (S_9 a l m hl hm e i n _ _ (by omega) (by omega) (o2.set _ _) ?_).trans ?_
    · rw [F_E (F_e _ _ _ _)]
      exact J_O (F_e _ _ _ _)
    · have e1:=show O_e a l m (i+1) o w=(fun (b:A_f)=>O_e a l m i (((o.set (3*i+1) (F'.row b.e1)).set (3*i+2) (F'.row b.e2)).set (3*i+3) (F'.row b.e3)) b.e0) (V_1 (C_S ⟨IntKind.wrap .i64 (w.X0-m),IntKind.wrap .i64 (w.Y0-m),IntKind.wrap .i64 (w.X1+m),IntKind.wrap .i64 (w.Y1+m)⟩ (F_h a l ((i:Int)+1)))) from rfl
      rw [w64 (n:=w.X0-m) (by omega) (by omega),w64 (n:=w.Y0-m) (by omega) (by omega),w64 (n:=w.X1+m) (by omega) (by omega),w64 (n:=w.Y1+m) (by omega) (by omega)] at e1
      rw [e1]
theorem K_s {a:F'} {l res k:Int}:N_c a l res k=true ↔ A_3 a=true/\(0<=l/\l<=5)/\(0<=res/\res<=l)/\O_d k ≠ 0:=by
  unfold N_c
  simp only [Bool.and_eq_true,decide_eq_true_eq,bne_iff_ne]
  constructor
  · rintro ⟨⟨⟨⟨⟨h1,h2⟩,h3⟩,h4⟩,h5⟩,h6⟩;exact ⟨h1,⟨h2,h3⟩,⟨h4,h5⟩,h6⟩
  · rintro ⟨h1,⟨h2,h3⟩,⟨h4,h5⟩,h6⟩;exact ⟨⟨⟨⟨⟨h1,h2⟩,h3⟩,h4⟩,h5⟩,h6⟩
theorem Q_f (n:Nat):R4 n (List.replicate n (F'.row ⟨0,0,0,0⟩)):=⟨List.length_replicate,fun w hw=>by rw [(List.mem_replicate.1 hw).2];rfl⟩
theorem T_a (a:F') (l res:Int) (win:F') (k:Int):K_e a l res win k some=some (V.data F'.sh (V_f a l res win k)):=by
  have hguard:N_c a l res k=false->(bif (!A_3 a)==false then (bif (bif (bif (bif !M_v l then true else decide (res<0)) then true else decide (res > l)) then true else (O_d k==0)) then true else false) else true)=true:=by
    intro hg
    rw [<- Bool.not_eq_true,K_s] at hg
    cases hv:A_3 a with
    | false=>rfl
    | true =>
      cases hlv:M_v l with
      | false=>rfl
      | true =>
        have hl:=A_B.1 hlv
        by_cases h1:res<0
        · simp only [decide_eq_true h1];rfl
        · by_cases h2:res > l
          · simp only [decide_eq_false h1,decide_eq_true h2];rfl
          · by_cases h3:O_d k=0
            · simp only [decide_eq_false h1,decide_eq_false h2,h3];rfl
            · exact absurd ⟨hv,hl,by omega,h3⟩ hg
  unfold K_e V_f
  cases hok:N_c a l res k with
  | false =>
    have hg:=hguard hok
    cases hv:A_3 a with
    | false=>rfl
    | true =>
      rw [hv] at hg
      simp only [Bool.not_true,beq_self_eq_true,cond_true] at hg ⊢
      cases hb:(bif (bif (bif !M_v l then true else decide (res<0)) then true else decide (res > l)) then true else (O_d k==0)) with
      | false=>rw [hb] at hg;cases hg
      | true=>rfl
  | true =>
    obtain ⟨hv,hl,hr,hk⟩:=K_s.1 hok
    have d1:¬ res<0:=by omega
    have d2:¬ res > l:=by omega
    have hcnt:V_e l=3*l+1:=by rw [A_G,if_pos hl]
    simp only [hv,A_B.2 hl,decide_eq_false d1,decide_eq_false d2,beq_eq_false_iff_ne.2 hk,Bool.not_true,beq_self_eq_true,cond_true,cond_false,hcnt]
    have b1:(0:Int)<=3*l+1:=by omega
    have b2:3*l+1<=3*l+1:=Int.le_refl _
    have b3:(3*l+1)*32<=140737488355328:=by omega
    have b4:3*l+1<=140737488355328:=by omega
    simp only [decide_eq_true b1,decide_eq_true b2,decide_eq_true b3,decide_eq_true b4,Bool.and_true,cond_true]
    show (bif C_R (C_S win (F_h a l res)) then some (V.data F'.sh (List.replicate (3*l+1).toNat (F'.row ⟨0,0,0,0⟩))) else _)=_
    cases he:C_R (C_S win (F_h a l res)) with
    | true=>rfl
    | false =>
      simp only [cond_false]
      have hm:=f_y k
      have hres:((res.toNat:Nat):Int)=res:=by omega
      have key:=S_9 a l (O_d k) hl hm (fun z g=>bif inR 0 z.length then some (V.data F'.sh (z.set 0 (setCells (z.getD 0 []) 0 (F'.row g)))) else none) res.toNat (N_t l (O_d k) res a (List.replicate (3*l+1).toNat (F'.row ⟨0,0,0,0⟩)) (C_S win (F_h a l res))) (List.replicate (3*l+1).toNat (F'.row ⟨0,0,0,0⟩)) (C_S win (F_h a l res)) (by
        show _<=Int.toNat (res-0)+1
        omega) (by omega) (Q_f _) (F_e _ _ _ _)
      rw [hres] at key
      refine key.trans ?_
      have hq:=(Q_e a l (O_d k) res.toNat _ _ (C_S win (F_h a l res)) (Q_f (3*l+1).toNat) (F_e _ _ _ _)).1
      have hi:inR 0 (O_e a l (O_d k) res.toNat (List.replicate (3*l+1).toNat (F'.row ⟨0,0,0,0⟩)) (C_S win (F_h a l res))).1.length=true:=A_c (Int.le_refl 0) (by rw [hq.1];omega)
      simp only [hi,cond_true]
      rw [J_N _ (hq.at (by omega))]
theorem b_c (h1:T_S) (h2:V_9) (h3:W_a) (h4:g_y) (h5:r_i) (h6:k_x) (h7:n_2) (h8:n_0):r_j:=by
  refine x_d ?_ ?_ ?_ ?_ ?_ ?_ ?_ ?_ (fun a l r w k _=>T_a a l r w k) <;> assumption
theorem g_G (k:Int):m_0 k=(O_d k != 0):=by
  unfold m_0 O_d
  by_cases h1:k=1
  · subst h1;rfl
  · by_cases h2:k=2
    · subst h2;rfl
    · by_cases h3:k=3
      · subst h3;rfl
      · simp only [beq_eq_false_iff_ne.2 h1,beq_eq_false_iff_ne.2 h2,beq_eq_false_iff_ne.2 h3,cond_false]
        rfl
theorem P_b (a:F') (l m:Int) (k:Int->Rows->F'->Option R):∀ (n:Nat) (i:Int) (o:Rows) (w:F'),B_3 l m a n i o w k=B_z l m a n i o w k
  | 0,i,o,w=>rfl
  | n+1,i,o,w=>by
    show J_r l m a i o w (fun i o w=>B_3 l m a n i o w k) k=B_X l m a i o w (fun i o w=>B_z l m a n i o w k) k
    rw [show (fun i o w=>B_3 l m a n i o w k)=(fun i o w=>B_z l m a n i o w k) from funext fun i=>funext fun o=>funext fun w=>P_b a l m k n i o w]
    unfold J_r B_X
    simp only [M_c]
    rfl
theorem b_d (a:F') (l res:Int) (win:F') (k:Int):P_0 a l res win k some=K_e a l res win k some:=by
  unfold P_0 K_e
  rw [A_S,g_G]
  simp only [K_h]
  simp only [F_y]
  cases hv:A_3 a with
  | false=>rfl
  | true =>
    cases hb:(bif (bif !M_v l then true else decide (res<0)) then true else decide (res > l)) with
    | true=>rfl
    | false =>
      by_cases hk:O_d k=0
      · simp only [hk]
        rfl
      · simp only [bne_iff_ne.2 hk,beq_eq_false_iff_ne.2 hk,P_b]
        rfl
theorem b_e (h1:V_7) (h2:c_E) (h3:T_R) (h4:h_N) (h5:r_F) (h6:f_X) (h7:r_G) (h8:n_s):r_H:=by
  refine y_f ?_ ?_ ?_ ?_ ?_ ?_ ?_ ?_ (fun a l r w k _=>(b_d a l r w k).trans (T_a a l r w k)) <;> assumption
theorem K_t (x:Option R):agree x x=x:=by
  unfold agree;rw [if_pos rfl]
theorem b_f:q_3:=w_p fun a hp _=>by
  unfold K_H at hp
  unfold T_0 m_V
  cases a with
  | nil=>simp only [hp,cond_true];exact K_t _
  | cons x l=>simp only [hp,cond_true];rfl
theorem b_g:q_4:=w_q fun a hp _=>by
  unfold K_I at hp
  unfold T_1 m_W
  cases a with
  | nil=>simp only [hp,cond_true];exact K_t _
  | cons x l=>simp only [hp,cond_true];rfl
theorem b_h:q_5:=w_r fun a hp _=>by
  unfold K_J at hp
  unfold T_2 m_X
  cases a with
  | nil=>simp only [hp,cond_true];exact K_t _
  | cons x l=>simp only [hp,cond_true];rfl
def C_h:C':=C'.mk (0:Int) (0:Int) (0:Int) (0:Int) (0:Int) [] (0:Int) (0:Int) (K'.mk false false false false false) false false false [] (0:Int) (0:Int)
theorem T_b {h:D'} (hn:h.Components.length<=4):G_Z h C_h=true:=by
  unfold G_Z
  have e1:K_H h.Components=true:=A_w (by omega)
  have e2:K_I C_h.Precincts=true:=by decide
  have e3:K_J C_h.Steps=true:=by decide
  rw [e1,e2,e3];rfl
theorem g_H {h:D'} (hn:h.Components.length<=4):c_u h C_h=(h,C_h):=by
  unfold c_u
  have e1:K_H h.Components=true:=A_w (by omega)
  have e2:K_I C_h.Precincts=true:=by decide
  have e3:K_J C_h.Steps=true:=by decide
  rw [e1,e2,e3];rfl
theorem A_U {h:D'} {p:C'} (hc:G_Y h p=0):h.Components.length<=4:=(K_o (B_g hc).1).2
theorem U_v (h:D') (p:C') (v:O'):R_b h p v=true:=by
  unfold R_b
  by_cases hc:G_Y h p=0
  · have hcl:=T_b (A_U hc)
    unfold C_h at hcl
    simp only [hc,hcl,wrapu_nonneg,decide_true,cond_true,bne_self_eq_false,cond_false,Bool.cond_self]
  · have hne:=bne_iff_ne.2 hc
    simp only [hne,cond_true]
theorem N_Q (h:D') (p:C') (v:O'):R_j h p v=true:=by
  unfold R_j V_2
  by_cases hc:G_Y h p=0
  · have hr:roomOK (0+h.Components.length) 32=true:=A_w (by have:=A_U hc;omega)
    simp only [hc,hr,wrapu_nonneg,decide_true,cond_true,bne_self_eq_false,cond_false,Bool.cond_self]
  · have hne:=bne_iff_ne.2 hc
    simp only [hne,cond_true]
theorem G_3 (h:D') (p:C') (v:O'):g_s h p v=O_Q h p v:=by
  unfold g_s O_Q V_2
  by_cases hc:G_Y h p=0
  · have hr:roomOK (0+h.Components.length) 32=true:=A_w (by have:=A_U hc;omega)
    have hcl:=T_b (A_U hc)
    have hce:=g_H (A_U hc)
    unfold C_h at hcl hce
    simp only [hc,hr,hcl,hce,wrapu_nonneg,decide_true,cond_true,bne_self_eq_false,cond_false]
    rfl
  · have hne:=bne_iff_ne.2 hc
    simp only [hne,cond_true]
theorem B_q {h:D'} {p:C'} {v:O'} (hz:(O_Q h p v).2=0):G_Y h p=0/\(0<=v.Layers/\v.Layers<=16)/\0<=v.Drop/\v.Drop<=p.Levels:=by
  unfold O_Q at hz
  by_cases hc:G_Y h p=0
  · refine ⟨hc,?_⟩
    simp only [hc,bne_self_eq_false,cond_false] at hz
    cases hb:(bif (bif (bif decide (v.Layers<0) then true else decide (v.Layers > 16)) then true else decide (v.Drop<0)) then true else decide (v.Drop > p.Levels)) with
    | true=>rw [hb] at hz;simp only [cond_true] at hz;exact absurd hz (by decide)
    | false =>
      have e:∀ (a b:Bool),(bif a then true else b)=(a||b):=by intro a b;cases a <;> rfl
      simp only [e,Bool.or_eq_false_iff,decide_eq_false_iff_not] at hb
      omega
  · have hne:=bne_iff_ne.2 hc
    simp only [hne,cond_true] at hz
    exact absurd hz hc
theorem N_R (h:D') (p:C') (t:Int):R_a h p t=true:=by
  unfold R_a
  rw [F_k,B_5]
  cases he:c_v h p t 0 with
  | false=>rfl
  | true =>
    obtain ⟨hc,ht,_⟩:=O_9.1 he
    obtain ⟨_,_,hn,_,_⟩:=B_g hc
    have hL:=(A_D hn).1
    have hp:F_v h p (F'.of (List.getD (B_f h) t.toNat []))=true:=by
      unfold F_v
      have:=A_U hc
      rw [Nat.ble_eq_true_of_le (by omega),decide_eq_true hL.2,Bool.and_self,Bool.true_and,List.all_eq_true]
      intro res hr
      have hrb:=A_C.1 hr
      have hb:=B_l hn hrb.1 (by omega)
      rw [decide_eq_true (show 0<=(A_X p res).X by omega),decide_eq_true (show 0<=(A_X p res).Y by omega)]
      rfl
    simp only [A_c ht.1 ht.2,hp,Bool.not_true,cond_false,cond_true]
theorem M_g {key:V}:∀ {rows:List (List V)},(∀ r ∈ rows,V.eqv key (r.headD V.undef)=false)->mapFind key rows=none
  | [],_=>rfl
  | r::rows,h=>by
    unfold mapFind
    rw [h r (List.mem_cons_self ..),M_g fun x hx=>h x (List.mem_cons_of_mem _ hx)]
    rfl
theorem b_i {key val:V} {rows:List (List V)} (h:∀ r ∈ rows,V.eqv key (r.headD V.undef)=false):mapPut rows key val=rows++[[key,val]]:=by
  unfold mapPut
  rw [M_g h]
theorem l_6 {n:Int} {j:Int} (h:j ∈ A_n 0 n):0<=j/\j<n:=A_C.1 h
theorem Q_g {α:Type} (f:Int->α) (n c:Int) (d:α) (h0:0<=c) (h1:c<n):List.getD ((A_n 0 n).map f) c.toNat d=f c:=by
  unfold A_n
  have:c.toNat<(n-0).toNat:=by omega
  rw [List.map_map,List.getD_eq_getElem?_getD,List.getElem?_map,List.getElem?_range this]
  show f (0+(c.toNat:Int))=f c
  congr 1
  omega
theorem N_S (h:D') (t c:Int):A_3 (H_z h t c)=true:=by
  have hc:∀ (b:Bool) (x y:F'),A_3 x=true->A_3 y=true->A_3 (bif b then x else y)=true:=by
    intro b x y hx hy
    cases b
    · exact hy
    · exact hx
  have hz:A_3 ⟨0,0,0,0⟩=true:=G_O
  have hdef:A_3 (default:F')=true:=by decide
  unfold H_z
  simp only []
  repeat' (first | with_reducible exact hz | with_reducible exact hdef | with_reducible exact M_b _ _ _ | with_reducible refine hc _ _ _ ?_ ?_)
theorem U_w (a:F') (l res:Int) (win:F') (k:Int) (h:N_c a l res k=true):R4 (3*l+1).toNat (V_f a l res win k):=by
  unfold V_f
  rw [h,cond_true]
  simp only []
  cases he:C_R (C_S win (F_h a l res)) with
  | true=>exact Q_f _
  | false=>exact ((Q_e a l (O_d k) res.toNat _ _ _ (Q_f (3*l+1).toNat) (F_e _ _ _ _)).1).set _ _
theorem U_x {p:C'} (h:P_O p=true):O_d p.Kernel ≠ 0:=by
  unfold P_O at h
  simp only [Bool.and_eq_true] at h
  have hk:=B_k.1 h.1.1
  have:p.Kernel=1 \/ p.Kernel=2 \/ p.Kernel=3:=by omega
  rcases this with e | e | e <;> rw [e] <;> decide
theorem y_r (x:Int):OR.c (elemV Tryz.prog h_f (V.int .i64 x))=true:=by kernel_rfl
theorem M_h (h:D'):(B_f h).length<=16777216:=by
  unfold B_f
  simp only []
  cases (F_t h != 0) with
  | true=>exact Nat.zero_le _
  | false=>exact F_G _ _ _
theorem g_I (n:Int) (h:D') (p:C') (hn:n<=16) (e:Option R) (kr:V->Option R) (m:Nat) (hm:(n-0).toNat+1<=m) :
    C_w n h p m 0 (fun _=>e) kr=bif (A_n 0 n).all (fun t=>!decide (g_p h p t > 400)) then e else kr (V.bool false):=by
  refine A_A (a:=0) (b:=n) (L:=fun m i=>C_w n h p m i (fun _=>e) kr) (ok:=fun t=>!decide (g_p h p t > 400)) (e:=e) (x:=kr (V.bool false)) (fun m i h0=>?_) m hm
  show H_3 n h p i _ _ kr=_
  unfold H_3
  by_cases hi:i<n
  · simp only [decide_eq_true hi,cond_true,N_R]
    rw [w64 (n:=i+1) (by omega) (by omega)]
    cases decide (g_p h p i > 400) <;> rfl
  · simp only [decide_eq_false hi,cond_false]
theorem g_J (h:D') (p:C'):P_V h p some=some (V.bool (h_u h p)):=by
  unfold P_V h_u V_0 V_2
  rw [B_5]
  simp only []
  cases h1:decide ((h.Components.length:Int) > 10) with
  | true=>rfl
  | false =>
    cases h2:decide ((p.Precincts.length:Int) > 10) with
    | true=>rfl
    | false =>
      cases h3:decide ((p.Steps.length:Int) > 40) with
      | true=>rfl
      | false =>
        cases h4:(F_t h != 0) with
        | true=>rfl
        | false =>
          cases h5:decide (IntKind.wrap .i64 (h.Area.X1-h.Area.X0) > 40) with
          | true=>rfl
          | false =>
            cases h6:decide (IntKind.wrap .i64 (h.Area.Y1-h.Area.Y0) > 40) with
            | true=>rfl
            | false =>
              cases h7:decide (((B_f h).length:Int) > 16) with
              | true=>rfl
              | false =>
                cases h8:(G_Y h p != 0) with
                | true=>rfl
                | false =>
                  have hn:((B_f h).length:Int)<=16:=by
                    have:=of_decide_eq_false h7
                    omega
                  refine (g_I ((B_f h).length:Int) h p hn (some (V.bool true)) some _ (Nat.le_refl _)).trans ?_
                  show _=some (V.bool ((A_n 0 ((B_f h).length:Int)).all fun t=>!decide (g_p h p t > 400)))
                  cases (A_n 0 ((B_f h).length:Int)).all (fun t=>!decide (g_p h p t > 400)) <;> rfl
theorem b_j (h1:g_u) (h2:c_F) (h3:h_O) (h4:q_T):q_U:=by
  refine v_H ?_ ?_ ?_ ?_ (fun h p _=>g_J h p) <;> assumption
def M_i (a b:F'):Prop:=(b.X0<=a.X0/\a.X0<a.X1/\a.X1<=b.X1)/\b.Y0<=a.Y0/\a.Y0<a.Y1/\a.Y1<=b.Y1
theorem M_i.trans {a b c:F'} (h1:M_i a b) (h2:M_i b c):M_i a c:=by
  unfold M_i at *;omega
theorem V_r (o:Rows) (i k:Nat) (x:List V):List.getD (o.set i x) k []=if i=k/\k<o.length then x else List.getD o k []:=by
  rw [List.getD_eq_getElem?_getD,List.getElem?_set]
  by_cases h:i=k
  · subst h
    by_cases h2:i<o.length
    · rw [if_pos rfl,if_pos h2,if_pos ⟨rfl,h2⟩];rfl
    · rw [if_pos rfl,if_neg h2,if_neg (fun h=>h2 h.2),List.getD_eq_getElem?_getD,List.getElem?_eq_none (by omega)]
  · rw [if_neg h,if_neg (fun hh=>h hh.1),List.getD_eq_getElem?_getD]
def Sub (a b:F'):Prop:=(b.X0<=a.X0/\a.X0<=a.X1/\a.X1<=b.X1)/\b.Y0<=a.Y0/\a.Y0<=a.Y1/\a.Y1<=b.Y1
theorem M_i.sub {a b:F'} (h:M_i a b):Sub a b:=by unfold M_i at h;unfold Sub;omega
theorem Sub.trans {a b c:F'} (h1:Sub a b) (h2:Sub b c):Sub a c:=by unfold Sub at *;omega
theorem sub_self {a:F'} (h:A_3 a=true):Sub a a:=by
  have:=A_u.1 h
  unfold Sub;omega
def LeR (a b:F'):Prop:=a=b \/ Sub a b
def LL (o o':Rows):Prop:=o.length=o'.length/\∀ k:Nat,LeR (F'.of (List.getD o k [])) (F'.of (List.getD o' k []))
theorem LL.set {o o':Rows} (h:LL o o') (i:Nat) {r r':F'} (hr:LeR r r'):LL (o.set i (F'.row r)) (o'.set i (F'.row r')):=by
  refine ⟨by rw [List.length_set,List.length_set];exact h.1,fun k=>?_⟩
  rw [V_r,V_r,h.1]
  split
  · exact hr
  · exact h.2 k
theorem D_b (f:List V->Bool):∀ (l:Rows) (i:Int),0<=i->decide (0<=A_H f l i)=l.any f
  | [],i,_=>rfl
  | w::l,i,h=>by
    rw [List.any_cons]
    unfold A_H
    cases f w with
    | true=>rw [cond_true,Bool.true_or];exact decide_eq_true h
    | false=>rw [cond_false,Bool.false_or];exact D_b f l (i+1) (by omega)
theorem M_j (f:List V->Bool):∀ (l:Rows) (i:Int),0<=i->¬ 0<=A_H f l i->A_H f l i=-1
  | [],i,_,_=>rfl
  | w::l,i,h,hn=>by
    unfold A_H at hn ⊢
    cases hf:f w with
    | true=>rw [hf,cond_true] at hn;exact absurd h hn
    | false=>rw [hf,cond_false] at hn;rw [cond_false];exact M_j f l (i+1) (by omega) hn
theorem P_c {l:Rows} {f:List V->Bool} {L:Nat->Int->Option R} {e:Option R} {x:Int->Option R}
    (hs:∀ n i,0<=i->i<=(l.length:Int)->L (n+1) i=bif decide (i<(l.length:Int)) then (bif f (List.getD l i.toNat []) then x i else L n (i+1)) else e) (n:Nat) (hn:((l.length:Int)-0).toNat+1<=n) :
    L n 0=bif l.any f then x (A_H f l 0) else e:=by
  have key:∀ (m i n:Nat),l.length-i=m->m+1<=n->i<=l.length->L n (i:Int)=bif (l.drop i).any f then x (A_H f (l.drop i) (i:Int)) else e:=by
    intro m
    induction m with
    | zero =>
      intro i n hm hn hi
      obtain ⟨n,rfl⟩:∃ k,n=k+1:=⟨n-1,by omega⟩
      have hil:¬ (i:Int)<(l.length:Int):=by omega
      rw [hs n _ (by omega) (by omega),decide_eq_false hil,List.drop_eq_nil_of_le (by omega)]
      rfl
    | succ m ih =>
      intro i n hm hn hi
      obtain ⟨n,rfl⟩:∃ k,n=k+1:=⟨n-1,by omega⟩
      have hil:(i:Int)<(l.length:Int):=by omega
      have hl:i<l.length:=by omega
      rw [hs n _ (by omega) (by omega),decide_eq_true hil,cond_true,List.drop_eq_getElem_cons hl,List.any_cons]
      have e1:List.getD l (i:Int).toNat []=l[i]:=by
        rw [Int.toNat_natCast,List.getD_eq_getElem?_getD,List.getElem?_eq_getElem hl];rfl
      rw [e1]
      cases hf:f l[i] with
      | true =>
        rw [Bool.true_or,cond_true,cond_true]
        unfold A_H
        rw [hf,cond_true]
      | false =>
        rw [Bool.false_or,cond_false]
        have:=ih (i+1) n (by omega) (by omega) (by omega)
        rw [show ((i+1:Nat):Int)=(i:Int)+1 by omega] at this
        rw [this]
        conv=>rhs;unfold A_H
        rw [hf,cond_false]
  have:=key l.length 0 n (by omega) (by omega) (by omega)
  simpa using this
theorem T_c (f:List V->Bool) (l:Rows):(bif l.any f then some (V.int .i64 (A_H f l 0)) else some (V.int .i64 (-1)))=some (V.int .i64 (A_H f l 0)):=by
  have h1:=D_b f l 0 (Int.le_refl 0)
  cases h:l.any f with
  | true=>rfl
  | false =>
    rw [h,decide_eq_false_iff_not] at h1
    rw [cond_false,M_j f l 0 (Int.le_refl 0) h1]
theorem b_k (h1:r_k):r_l:=x_g h1 fun a v b hp _=>by
  unfold K_L at hp
  rw [Bool.and_eq_true] at hp
  have hl:a.length<=1099511627776:=Nat.le_of_ble_eq_true hp.1
  have hall:=List.all_eq_true.1 hp.2
  unfold T_6 m_l
  refine (P_c (l:=a) (f:=fun w=>j_F (N'.of w) v b) (L:=fun n i=>D_B a v b (a.length:Int) n i (fun _=>some (V.int .i64 (-1))) some) (e:=some (V.int .i64 (-1))) (x:=fun i=>some (V.int .i64 i)) (fun n i h0 hle=>?_) _ (Nat.le_refl _)).trans (T_c _ _)
  show I_J a v b (a.length:Int) i _ _ _=_
  unfold I_J
  by_cases hi:i<(a.length:Int)
  · have hil:i.toNat<a.length:=by omega
    have hpre:N_d (N'.of (List.getD a i.toNat [])) v b=true:=by
      rw [List.getD_eq_getElem?_getD,List.getElem?_eq_getElem hil]
      exact hall _ (List.getElem_mem hil)
    simp only [decide_eq_true hi,cond_true,A_c h0 hi,hpre]
    rw [w64 (n:=i+1) (by omega) (by omega)]
  · simp only [decide_eq_false hi,cond_false]
theorem b_l:p_h:=x_X fun l id hp _=>by
  have hl:l.length<=1099511627776:=Nat.le_of_ble_eq_true hp
  unfold U_g h_F
  refine (P_c (l:=l) (f:=D_m id) (L:=fun n i=>D_N l (l.length:Int) id n i (fun _=>some (V.int .i64 (-1))) some) (e:=some (V.int .i64 (-1))) (x:=fun i=>some (V.int .i64 i)) (fun n i h0 hle=>?_) _ (Nat.le_refl _)).trans (T_c _ _)
  show J_h l (l.length:Int) id i _ _ _=_
  unfold J_h
  by_cases hi:i<(l.length:Int)
  · simp only [decide_eq_true hi,cond_true,A_c h0 hi]
    rw [w64 (n:=i+1) (by omega) (by omega)]
    rfl
  · simp only [decide_eq_false hi,cond_false]
theorem b_m:r_K:=y_m fun a b hp _=>by
  have hl:a.length<=1048576:=Nat.le_of_ble_eq_true hp
  unfold U_l h_H
  by_cases hlen:(a.length:Int)=(b.length:Int)
  · have hb:((a.length:Int) != (b.length:Int))=false:=by rw [hlen];exact bne_self_eq_false _
    have hb':((a.length:Int)==(b.length:Int))=true:=by rw [hlen];exact beq_self_eq_true _
    simp only [hb,hb',cond_false,Bool.true_and]
    refine (A_A (a:=0) (b:=(a.length:Int)) (L:=fun n i=>D_U a b (a.length:Int) n i (fun _=>some (V.bool true)) some) (ok:=fun i=>H_D (List.getD a i.toNat []) (List.getD b i.toNat [])) (e:=some (V.bool true)) (x:=some (V.bool false)) (fun n i h0=>?_) _ (Nat.le_refl _)).trans ?_
    · show J_C a b (a.length:Int) i _ _ _=_
      unfold J_C H_D
      by_cases hi:i<(a.length:Int)
      · simp only [decide_eq_true hi,cond_true,A_c h0 hi,A_c (n:=b.length) h0 (by omega)]
        rw [w64 (n:=i+1) (by omega) (by omega)]
        cases (((U'.of (List.getD a i.toNat [])).From==(U'.of (List.getD b i.toNat [])).From)&&(((U'.of (List.getD a i.toNat [])).To==(U'.of (List.getD b i.toNat [])).To)&&true)) <;> rfl
      · simp only [decide_eq_false hi,cond_false]
    · cases (A_n 0 (a.length:Int)).all (fun i=>H_D (List.getD a i.toNat []) (List.getD b i.toNat [])) <;> rfl
  · have hb:=bne_iff_ne.2 hlen
    have hb':=beq_eq_false_iff_ne.2 hlen
    simp only [hb,hb',cond_true,Bool.false_and]
theorem O_l (a0:Rows) (s:U') (o:Rows):(K_d a0 s o).length=o.length:=by
  unfold K_d
  simp only []
  generalize (bif decide ((0:Int) > s.From) then (0:Int) else s.From)=x
  generalize (bif decide ((a0.length:Int)<s.To) then (a0.length:Int) else s.To)=y
  cases decide (x<y) with
  | false=>rfl
  | true=>rw [cond_true];exact C_l _ _ _
theorem b_n:q_V:=v_K fun a0 a1 hp _=>by
  unfold O_P at hp
  rw [Bool.and_eq_true] at hp
  have h0:a0.length<=1048576:=Nat.le_of_ble_eq_true hp.1
  have h1:a1.length<=1048576:=Nat.le_of_ble_eq_true hp.2
  unfold T_X m_U
  have b1:(0:Int)<=(a0.length:Int):=by omega
  have b2:(a0.length:Int)<=(a0.length:Int):=Int.le_refl _
  have b3:(a0.length:Int)*1<=140737488355328:=by omega
  have b4:(a0.length:Int)<=140737488355328:=by omega
  simp only [decide_eq_true b1,decide_eq_true b2,decide_eq_true b3,decide_eq_true b4,Bool.and_self,cond_true,Int.toNat_natCast]
  refine (A_o (b:=(a1.length:Int)) (L:=fun n i s=>D_t a0 a1 (a1.length:Int) n i s (fun _ z=>some (V.data [.int .u8] z))) (g:=fun s i=>(fun o w=>K_d a0 (U'.of w) o) s (List.getD a1 i.toNat [])) (e:=fun z=>some (V.data [.int .u8] z)) (fun i s=>0<=i/\s.length=a0.length) ?_ ?_ _ 0 _ ⟨Int.le_refl 0,List.length_replicate⟩ (Nat.le_refl _)).trans ?_
  · intro n i s ⟨hi0,hs⟩
    show H_5 a0 a1 (a1.length:Int) i s _ _=_
    unfold H_5 K_d
    by_cases hi:i<(a1.length:Int)
    · simp only [decide_eq_true hi,cond_true,A_c hi0 hi]
      rw [w64 (n:=i+1) (by omega) (by omega)]
      have hx:0<=(bif decide ((0:Int) > (U'.of (List.getD a1 i.toNat [])).From) then (0:Int) else (U'.of (List.getD a1 i.toNat [])).From):=by
        by_cases hc:(0:Int) > (U'.of (List.getD a1 i.toNat [])).From
        · rw [decide_eq_true hc];exact Int.le_refl 0
        · rw [decide_eq_false hc,cond_false];omega
      have hy:(bif decide ((a0.length:Int)<(U'.of (List.getD a1 i.toNat [])).To) then (a0.length:Int) else (U'.of (List.getD a1 i.toNat [])).To)<=(a0.length:Int):=by
        by_cases hc:(a0.length:Int)<(U'.of (List.getD a1 i.toNat [])).To
        · rw [decide_eq_true hc];exact Int.le_refl _
        · rw [decide_eq_false hc,cond_false];omega
      generalize (bif decide ((0:Int) > (U'.of (List.getD a1 i.toNat [])).From) then (0:Int) else (U'.of (List.getD a1 i.toNat [])).From)=x at hx ⊢
      generalize (bif decide ((a0.length:Int)<(U'.of (List.getD a1 i.toNat [])).To) then (a0.length:Int) else (U'.of (List.getD a1 i.toNat [])).To)=y at hy ⊢
      by_cases hxy:x<y
      · have c1:x<=y:=by omega
        have c2:y<=(s.length:Int):=by rw [hs];exact hy
        simp only [decide_eq_true hxy,decide_eq_true hx,decide_eq_true c1,decide_eq_true c2,decide_eq_true hy,Bool.and_self,cond_true]
      · simp only [decide_eq_false hxy,cond_false]
    · simp only [decide_eq_false hi,cond_false]
  · intro i s ⟨hi0,hs⟩ hi
    exact ⟨by omega,(O_l _ _ _).trans hs⟩
  · rw [B_P (fun o w=>K_d a0 (U'.of w) o)]
theorem U_y:F_i=true:=by kernel_rfl
theorem l_7:g_q=true:=by kernel_rfl
theorem J_P {α:Type} {le:α->α->Prop}:∀ {z z':List α},z.Perm z'->z.Pairwise le->z'.Pairwise le->(∀ a ∈ z,∀ b ∈ z,le a b->le b a->a=b)->z=z'
  | [],z',hp,_,_,_=>(List.Perm.nil_eq hp)
  | a::t,[],hp,_,_,_=>by have:=hp.length_eq;simp at this
  | a::t,b::t',hp,h1,h2,h3=>by
    have p1:=List.pairwise_cons.1 h1
    have p2:=List.pairwise_cons.1 h2
    have hab:a=b:=by
      have ha:a ∈ b::t':=hp.mem_iff.1 (List.mem_cons_self ..)
      have hb:b ∈ a::t:=hp.mem_iff.2 (List.mem_cons_self ..)
      rcases List.mem_cons.1 ha with e | ha
      · exact e
      · rcases List.mem_cons.1 hb with e | hb
        · exact e.symm
        · exact h3 a (List.mem_cons_self ..) b (List.mem_cons_of_mem _ hb) (p1.1 b hb) (p2.1 a ha)
    subst hab
    rw [J_P (List.Perm.cons_inv hp) p1.2 p2.2 fun x hx y hy=>h3 x (List.mem_cons_of_mem _ hx) y (List.mem_cons_of_mem _ hy)]
theorem T_d (p:List V->Bool) (s:Rows):s=(s.reverse.dropWhile p).reverse++(s.reverse.takeWhile p).reverse:=by
  have h:=List.takeWhile_append_dropWhile (p:=p) (l:=s.reverse)
  have:=congrArg List.reverse h
  rw [List.reverse_append,List.reverse_reverse] at this
  exact this.symm
theorem T_e (lt:List V->List V->Bool) (s:Rows) (x:List V):(c_x lt s x).Perm (x::s):=by
  unfold c_x
  refine List.perm_middle.trans (List.Perm.cons x ?_)
  rw [<- T_d]
def Asc (lt:List V->List V->Bool) (s:Rows):Prop:=s.Pairwise fun a b=>lt b a=false
theorem J_Q {p:List V->Bool}:∀ {l:Rows} {x:List V},x ∈ l.takeWhile p->p x=true
  | a::l,x,h=>by
    rw [List.takeWhile_cons] at h
    split at h
    · rename_i hp
      rcases List.mem_cons.1 h with rfl | h
      · exact hp
      · exact J_Q h
    · cases h
theorem g_K {lt:List V->List V->Bool} (hS:Go.Sort.SWO lt) {s:Rows} (h:Asc lt s) (x:List V):Asc lt (c_x lt s x):=by
  have hd:=T_d (lt x) s
  unfold Asc at h ⊢
  rw [hd,List.pairwise_append] at h
  obtain ⟨h1,h2,h3⟩:=h
  have hT:∀ t ∈ (s.reverse.takeWhile (lt x)).reverse,lt t x=false:=by
    intro t ht
    have ht':=J_Q (List.mem_reverse.1 ht)
    rw [<- Bool.not_eq_true]
    intro hc
    have:=hS.trans _ _ _ hc ht'
    rw [hS.irrefl] at this
    cases this
  have hP:∀ p ∈ (s.reverse.dropWhile (lt x)).reverse,lt x p=false:=by
    intro p hp
    cases hdw:s.reverse.dropWhile (lt x) with
    | nil=>rw [hdw] at hp;cases hp
    | cons q r =>
      have hq:lt x q=false:=by
        have:=List.head_dropWhile_not (lt x) (l:=s.reverse) (by rw [hdw];simp)
        simpa [hdw] using this
      rw [hdw] at hp h1
      rw [List.reverse_cons] at hp h1
      rcases List.mem_append.1 hp with hp | hp
      · have:=(List.pairwise_append.1 h1).2.2 p hp q (by simp)
        exact hS.ntrans _ _ _ hq this
      · rw [List.mem_singleton] at hp;subst hp;exact hq
  unfold c_x
  rw [List.pairwise_append]
  refine ⟨h1,List.pairwise_cons.2 ⟨hT,h2⟩,?_⟩
  intro p hp t ht
  rcases List.mem_cons.1 ht with rfl | ht
  · exact hP p hp
  · exact h3 p hp t ht
theorem N_T {lt:List V->List V->Bool} (hS:Go.Sort.SWO lt):∀ (l s:Rows),Asc lt s->Asc lt (l.foldl (c_x lt) s)/\(l.foldl (c_x lt) s).Perm (s++l)
  | [],s,h=>⟨h,by rw [List.append_nil];exact List.Perm.refl _⟩
  | x::l,s,h=>by
    rw [List.foldl_cons]
    obtain ⟨h1,h2⟩:=N_T hS l (c_x lt s x) (g_K hS h x)
    refine ⟨h1,h2.trans ?_⟩
    refine ((T_e lt s x).append_right l).trans ?_
    exact (List.perm_middle (l₁:=s) (l₂:=l) (a:=x)).symm
theorem N_U {lt:List V->List V->Bool} (hS:Go.Sort.SWO lt) (l:Rows):Asc lt (N_b lt l):=(N_T hS l [] List.Pairwise.nil).1
theorem A_6 {lt:List V->List V->Bool} (hS:Go.Sort.SWO lt) (l:Rows):(N_b lt l).Perm l:=by
  have:=(N_T hS l [] List.Pairwise.nil).2
  rwa [List.nil_append] at this
theorem V_s (x y:Y'):V_g x y=true ↔ x.e0<y.e0 \/ (x.e0=y.e0/\(x.e1<y.e1 \/ (x.e1=y.e1/\(x.e2<y.e2 \/ (x.e2=y.e2/\(x.e3<y.e3 \/ (x.e3=y.e3/\(x.e4<y.e4 \/ (x.e4=y.e4/\x.e5<y.e5))))))))):=by
  have e:∀ (a b:Int) (c:Bool),(bif (a != b) then decide (a<b) else c)=true ↔ a<b \/ (a=b/\c=true):=by
    intro a b c
    by_cases h:a=b
    · subst h
      rw [bne_self_eq_false,cond_false]
      constructor
      · intro h;exact .inr ⟨rfl,h⟩
      · rintro (h | h)
        · omega
        · exact h.2
    · rw [bne_iff_ne.2 h,cond_true,decide_eq_true_eq]
      constructor
      · intro h;exact .inl h
      · rintro (h' | h')
        · exact h'
        · exact absurd h'.1 h
  unfold V_g
  simp only [e,Bool.false_eq_true,and_false,or_false]
theorem K_u (x y:Y'):V_g x y=false ↔ ¬ (x.e0<y.e0 \/ (x.e0=y.e0/\(x.e1<y.e1 \/ (x.e1=y.e1/\(x.e2<y.e2 \/ (x.e2=y.e2/\(x.e3<y.e3 \/ (x.e3=y.e3/\(x.e4<y.e4 \/ (x.e4=y.e4/\x.e5<y.e5)))))))))):=by
  rw [<- V_s,Bool.not_eq_true]
theorem V_t {α:Type} {lt:α->α->Bool} (f:α->Y') (h:∀ a b,lt a b=V_g (f a) (f b)):Go.Sort.SWO lt where
  irrefl x:=by rw [h,K_u];omega
  trans x y z h1 h2:=by rw [h,V_s] at *;omega
  ntrans x y z h1 h2:=by rw [h,K_u] at *;omega
theorem q_j (x y:Int):N_a x y=bif decide (x<y) then -1 else bif decide (x > y) then 1 else 0:=by
  have e:∀ a:Int,h_y a=false:=by
    intro a
    unfold h_y
    exact bne_self_eq_false a
  unfold N_a
  simp only [e,cond_false]
theorem T_f (a b:I') (p:C'):decide (m_k a b p<0)=V_g (R_e p.Order a) (R_e p.Order b):=by
  have e:∀ (a b c:Int),decide ((bif (a != b) then N_a a b else c)<0)=bif (a != b) then decide (a<b) else decide (c<0):=by
    intro a b c
    by_cases h:a=b
    · subst h;simp only [bne_self_eq_false,cond_false]
    · simp only [bne_iff_ne.2 h,cond_true,q_j]
      by_cases h1:a<b
      · simp only [decide_eq_true h1,cond_true];rfl
      · have h2:a > b:=by omega
        simp only [decide_eq_false h1,decide_eq_true h2,cond_true,cond_false];rfl
  unfold m_k V_g
  simp only [e]
  rfl
theorem T_g (p:C') (a b:List V):c_y p a b=V_g (R_e p.Order (I'.of a)) (R_e p.Order (I'.of b)):=T_f _ _ _
theorem M_k (p:C'):Go.Sort.SWO (c_y p):=V_t (fun a=>R_e p.Order (I'.of a)) (T_g p)
theorem U_z {o:Int} {a b:I'} (h1:V_g (R_e o a) (R_e o b)=false) (h2:V_g (R_e o b) (R_e o a)=false):a.id=b.id:=by
  rw [K_u] at h1 h2
  have hq:∀ (x y:G'),x.Comp=y.Comp->x.Res=y.Res->x.Precinct=y.Precinct->x.Layer=y.Layer->x=y:=by
    intro x y e1 e2 e3 e4
    obtain ⟨x1,x2,x3,x4⟩:=x
    obtain ⟨y1,y2,y3,y4⟩:=y
    simp only at e1 e2 e3 e4
    subst e1;subst e2;subst e3;subst e4;rfl
  unfold R_e at h1 h2
  by_cases c1:o=1
  · rw [show (o==(1:Int))=true from beq_iff_eq.2 c1] at h1 h2
    simp only [cond_true] at h1 h2
    exact hq _ _ (by omega) (by omega) (by omega) (by omega)
  · rw [show (o==(1:Int))=false from beq_eq_false_iff_ne.2 c1] at h1 h2
    by_cases c2:o=2
    · rw [show (o==(2:Int))=true from beq_iff_eq.2 c2] at h1 h2
      simp only [cond_true,cond_false] at h1 h2
      exact hq _ _ (by omega) (by omega) (by omega) (by omega)
    · rw [show (o==(2:Int))=false from beq_eq_false_iff_ne.2 c2] at h1 h2
      by_cases c3:o=3
      · rw [show (o==(3:Int))=true from beq_iff_eq.2 c3] at h1 h2
        simp only [cond_true,cond_false] at h1 h2
        exact hq _ _ (by omega) (by omega) (by omega) (by omega)
      · rw [show (o==(3:Int))=false from beq_eq_false_iff_ne.2 c3] at h1 h2
        by_cases c4:o=4
        · rw [show (o==(4:Int))=true from beq_iff_eq.2 c4] at h1 h2
          simp only [cond_true,cond_false] at h1 h2
          exact hq _ _ (by omega) (by omega) (by omega) (by omega)
        · rw [show (o==(4:Int))=false from beq_eq_false_iff_ne.2 c4] at h1 h2
          simp only [cond_false] at h1 h2
          exact hq _ _ (by omega) (by omega) (by omega) (by omega)
theorem B_r {k:Nat} (a:List V) {i:Nat} (h:i<k):V.toInt (List.getD (M_1 k (a.map V.toInt)) i V.undef)=V.toInt (List.getD a i V.undef):=by
  unfold M_1
  rw [List.getD_eq_getElem?_getD,List.getElem?_map,List.getElem?_range h]
  show (a.map V.toInt).getD i 0=_
  rw [List.getD_eq_getElem?_getD,List.getElem?_map,List.getD_eq_getElem?_getD]
  cases a[i]? <;> rfl
theorem f_z (a:List V):I'.of (M_1 6 (a.map V.toInt))=I'.of a:=by
  unfold I'.of
  rw [B_r a (by decide),B_r a (by decide),B_r a (by decide),B_r a (by decide),B_r a (by decide),B_r a (by decide)]
theorem T_h (a:List V):U'.of (M_1 2 (a.map V.toInt))=U'.of a:=by
  unfold U'.of
  rw [B_r a (by decide),B_r a (by decide)]
theorem N_V (p:C') (z:Rows):sortedBy (O_g p) z ↔ Asc (c_y p) z:=by
  unfold sortedBy Asc
  have:(fun a b:List V=>¬ O_g p (b.map V.toInt) (a.map V.toInt)<0)=fun a b=>c_y p b a=false:=by
    funext a b
    unfold O_g c_y
    rw [f_z,f_z,decide_eq_false_iff_not]
  rw [this]
theorem A_7 {b:Int} {L:Nat->Int->Rows->Option R} {f:Int->Rows} {e:Rows->Option R} (M N:Nat) (hf:∀ i,0<=i->i<b->(f i).length<=M)
    (hs:∀ n i s,0<=i->s.length<=N+i.toNat*M->L (n+1) i s=bif decide (i<b) then L n (i+1) (s++f i) else e s) (n:Nat) (s:Rows) (h:s.length<=N) (hn:(b-0).toNat+1<=n) :
    L n 0 s=e (s++(A_n 0 b).flatMap f):=by
  rw [<- C_n]
  refine A_o (fun i s=>0<=i/\s.length<=N+i.toNat*M) (fun n i s h=>hs n i s h.1 h.2) ?_ n 0 s ⟨Int.le_refl 0,by omega⟩ hn
  intro i s ⟨h0,h1⟩ hi
  have h2:(i+1).toNat=i.toNat+1:=by omega
  refine ⟨by omega,?_⟩
  rw [List.length_append,h2,Nat.add_mul]
  have:=hf i h0 hi
  omega
theorem A_I {h:D'} {p:C'} {t:Int}:T_r h p t=0 ↔ G_Y h p=0/\0<=t/\t<((B_f h).length:Int):=by
  unfold T_r
  by_cases h1:G_Y h p=0
  · simp only [h1,bne_self_eq_false,cond_false,true_and]
    by_cases h2:t<0
    · simp only [decide_eq_true h2]
      constructor
      · intro h;cases h
      · intro h;omega
    · have h4:0<=t:=by omega
      simp only [decide_eq_false h2,beq_self_eq_true,cond_true]
      by_cases h3:t >= ((B_f h).length:Int)
      · simp only [decide_eq_true h3,cond_true]
        constructor
        · intro h;cases h
        · intro h;omega
      · simp only [decide_eq_false h3,cond_false]
        constructor
        · intro _;omega
        · intro _;trivial
  · simp only [bne_iff_ne.2 h1,cond_true,h1,false_and]
theorem T_i {h:D'} {p:C'} {r:F'} {id:G'} (hc:0<=id.Comp/\id.Comp<(h.Components.length:Int)) (hr:0<=id.Res/\id.Res<=p.Levels) (hl:p.Levels<=5):R_d h p r id=true:=by
  unfold R_d
  rw [w64 (n:=p.Levels-id.Res) (by omega) (by omega)]
  have h0:(0:Int)<=p.Levels-id.Res:=by omega
  simp only [A_c hc.1 hc.2,decide_eq_true h0,cond_true]
  cases (!(j_E r (A_X p id.Res).X (A_X p id.Res).Y id.Precinct).2) <;> rfl
def pkL (h:D') (p:C') (tile comp res k:Int):Rows:=(A_n 0 p.Layers).map fun layer=>R_f h p tile comp res k layer
def pkK (h:D') (p:C') (tile comp res:Int):Rows:=(A_n 0 (IntKind.wrap .i64 ((M_9 h p tile comp res).2.1*(M_9 h p tile comp res).2.2))).flatMap fun k=>pkL h p tile comp res k
def pkR (h:D') (p:C') (tile comp:Int):Rows:=(A_n 0 (p.Levels+1)).flatMap fun res=>pkK h p tile comp res
theorem M_z (h:D') (p:C') (tile:Int):F_w h p tile=(A_n 0 (h.Components.length:Int)).flatMap fun comp=>pkR h p tile comp:=rfl
theorem nK (h:D') (p:C') (tile comp res:Int):IntKind.wrap .i64 ((M_9 h p tile comp res).2.1*(M_9 h p tile comp res).2.2)=C_g h p tile comp res:=by
  have:=J_M h p tile comp res
  unfold C_g at this ⊢
  exact w64 (by omega) (by omega)
theorem P_d {h:D'} {p:C'} (hl:1<=p.Layers/\p.Layers<=16) (tile comp res k:Int):(pkL h p tile comp res k).length<=16:=by
  unfold pkL
  rw [List.length_map,A_q]
  omega
theorem P_e {h:D'} {p:C'} (hl:1<=p.Layers/\p.Layers<=16) (tile comp res:Int):(pkK h p tile comp res).length<=1048576:=by
  unfold pkK
  rw [nK]
  have h1:=B_e (fun k=>pkL h p tile comp res k) 16 0 (C_g h p tile comp res) fun k=>P_d hl tile comp res k
  have h2:=J_M h p tile comp res
  have h3:(C_g h p tile comp res-0).toNat<=65536:=by omega
  have:=Nat.mul_le_mul_right 16 h3
  omega
theorem P_f {h:D'} {p:C'} (hl:1<=p.Layers/\p.Layers<=16) (hL:0<=p.Levels/\p.Levels<=5) (tile comp:Int):(pkR h p tile comp).length<=6291456:=by
  unfold pkR
  have h1:=B_e (fun res=>pkK h p tile comp res) 1048576 0 (p.Levels+1) fun res=>P_e hl tile comp res
  have h3:(p.Levels+1-0).toNat<=6:=by omega
  have:=Nat.mul_le_mul_right 1048576 h3
  omega
theorem M_l {h:D'} {p:C'} (hl:1<=p.Layers/\p.Layers<=16) (hL:0<=p.Levels/\p.Levels<=5) (hc:h.Components.length<=4) (tile:Int):(F_w h p tile).length<=25165824:=by
  rw [M_z]
  have h1:=B_e (fun comp=>pkR h p tile comp) 6291456 0 (h.Components.length:Int) fun comp=>P_f hl hL tile comp
  have h3:((h.Components.length:Int)-0).toNat<=4:=by omega
  have:=Nat.mul_le_mul_right 6291456 h3
  omega
theorem y_s (j0 j1 j2 j3 j4 j5 j6 j7 j8:Int) (h:D') (p:C') (r0:F') (tile comp res k:Int) (at0:X') (e:Rows->Option R) (hl:1<=p.Layers/\p.Layers<=16) (n:Nat) (s:Rows) (z:Int)
    (hs:s.length<=100000000) (hn:(p.Layers-0).toNat+1<=n) (ha:at0=(m_j h p (M_9 h p tile comp res).1 ⟨comp,res,k,0⟩).1) :
    C_B j0 j1 j2 j3 j4 j5 j6 j7 j8 p.Layers h p r0 comp res k at0 n 0 s z (fun _ r _=>e r)=e (s++pkL h p tile comp res k):=by
  have e1:∀ (l:List Int) (q:Rows × Int),(l.foldl (fun (q:Rows × Int) i=>(q.1++[R_f h p tile comp res k i],i)) q).1=q.1++l.map fun layer=>R_f h p tile comp res k layer:=by
    intro l
    induction l with
    | nil=>intro q;exact (List.append_nil _).symm
    | cons a l ih=>intro q;rw [List.foldl_cons,ih,List.map_cons,List.append_assoc];rfl
  refine (A_o (b:=p.Layers) (L:=fun n i q=>C_B j0 j1 j2 j3 j4 j5 j6 j7 j8 p.Layers h p r0 comp res k at0 n i q.1 q.2 (fun _ r _=>e r)) (g:=fun (q:Rows × Int) i=>(q.1++[R_f h p tile comp res k i],i)) (e:=fun q=>e q.1) (fun i q=>0<=i/\q.1.length<=100000000+i.toNat) ?_ ?_ n 0 (s,z) ⟨Int.le_refl 0,by simp only [];omega⟩ hn).trans ?_
  · intro n i q ⟨h0,h1⟩
    show I_s j0 j1 j2 j3 j4 j5 j6 j7 j8 p.Layers h p r0 comp res k at0 i q.1 q.2 _ _=_
    unfold I_s
    by_cases hi:i<p.Layers
    · have hroom:roomOK (q.1.length+1) 48=true:=A_w (by omega)
      simp only [decide_eq_true hi,cond_true,hroom]
      rw [w64 (n:=i+1) (by omega) (by omega),ha]
      rfl
    · simp only [decide_eq_false hi,cond_false]
  · intro i q ⟨h0,h1⟩ hi
    refine ⟨by omega,?_⟩
    simp only [List.length_append,List.length_cons,List.length_nil]
    omega
  · exact congrArg e (e1 _ _)
theorem y_t (j0 j3 j4 j5 j6:Int) (h:D') (p:C') (tile comp res:Int) (e:Rows->Option R) (hl:1<=p.Layers/\p.Layers<=16) (hL:p.Levels<=5) (hc:0<=comp/\comp<(h.Components.length:Int)) (hr:0<=res/\res<=p.Levels) (n:Nat) (s:Rows)
    (hs:s.length<=50000000) (hn:(C_g h p tile comp res-0).toNat+1<=n) :
    B_U j0 comp res j3 j4 j5 j6 (C_g h p tile comp res) h p (M_9 h p tile comp res).1 n 0 s (fun _ r=>e r)=e (s++pkK h p tile comp res):=by
  have hK:=J_M h p tile comp res
  have e1:pkK h p tile comp res=(A_n 0 (C_g h p tile comp res)).flatMap fun k=>pkL h p tile comp res k:=by unfold pkK;rw [nK]
  rw [e1]
  refine A_7 (L:=fun n i s=>B_U j0 comp res j3 j4 j5 j6 (C_g h p tile comp res) h p (M_9 h p tile comp res).1 n i s (fun _ r=>e r)) 16 50000000 (fun i _ _=>P_d hl tile comp res i) ?_ n s hs hn
  intro n i s h0 h1
  show I_u j0 comp res j3 j4 j5 j6 (C_g h p tile comp res) h p (M_9 h p tile comp res).1 i s _ _=_
  unfold I_u
  by_cases hi:i<C_g h p tile comp res
  · simp only [decide_eq_true hi,cond_true,T_i (r:=(M_9 h p tile comp res).1) (id:=⟨comp,res,i,0⟩) hc hr hL]
    rw [w64 (n:=i+1) (by omega) (by omega)]
    exact y_s (e:=fun r=>B_U j0 comp res j3 j4 j5 j6 (C_g h p tile comp res) h p (M_9 h p tile comp res).1 n (i+1) r (fun _ r=>e r)) (hl:=hl) (hs:=by omega) (hn:=Nat.le_refl _) (ha:=rfl) ..
  · simp only [decide_eq_false hi,cond_false]
theorem y_u (j2 j3:Int) (h:D') (p:C') (tile comp:Int) (e:Rows->Option R) (hl:1<=p.Layers/\p.Layers<=16) (hL:0<=p.Levels/\p.Levels<=5) (hc:0<=comp/\comp<(h.Components.length:Int)) (n:Nat) (s:Rows)
    (hs:s.length<=40000000) (hn:(p.Levels+1-0).toNat+1<=n) :
    B_V tile comp j2 j3 (p.Levels+1) h p n 0 s (fun _ r=>e r)=e (s++pkR h p tile comp):=by
  refine A_7 (L:=fun n i s=>B_V tile comp j2 j3 (p.Levels+1) h p n i s (fun _ r=>e r)) 1048576 40000000 (fun i _ _=>P_e hl tile comp i) ?_ n s hs hn
  intro n i s h0 h1
  show I_w tile comp j2 j3 (p.Levels+1) h p i s _ _=_
  unfold I_w
  by_cases hi:i<p.Levels+1
  · simp only [decide_eq_true hi,cond_true,nK]
    rw [w64 (n:=i+1) (by omega) (by omega)]
    exact y_t (e:=fun r=>B_V tile comp j2 j3 (p.Levels+1) h p n (i+1) r (fun _ r=>e r)) (hl:=hl) (hL:=hL.2) (hc:=hc) (hr:=⟨h0,by omega⟩) (hs:=by omega) (hn:=Nat.le_refl _) ..
  · simp only [decide_eq_false hi,cond_false]
theorem y_v (h:D') (p:C') (tile:Int) (e:Rows->Option R) (hl:1<=p.Layers/\p.Layers<=16) (hL:0<=p.Levels/\p.Levels<=5) (hc:h.Components.length<=4) (n:Nat)
    (hn:((h.Components.length:Int)-0).toNat+1<=n) :
    B_W tile (h.Components.length:Int) h p n 0 [] (fun _ r=>e r)=e (F_w h p tile):=by
  have:=A_7 (b:=(h.Components.length:Int)) (e:=e) (f:=fun comp=>pkR h p tile comp) (L:=fun n i s=>B_W tile (h.Components.length:Int) h p n i s (fun _ r=>e r)) 6291456 0 (fun i _ _=>P_f hl hL tile i) ?_ n [] (Nat.le_refl _) hn
  · rw [List.nil_append] at this;exact this
  intro n i s h0 h1
  show I_y tile (h.Components.length:Int) h p i s _ _=_
  unfold I_y
  by_cases hi:i<(h.Components.length:Int)
  · simp only [decide_eq_true hi,cond_true]
    rw [w64 (n:=i+1) (by omega) (by omega),w64 (n:=p.Levels+1) (by omega) (by omega)]
    exact y_u (e:=fun r=>B_W tile (h.Components.length:Int) h p n (i+1) r (fun _ r=>e r)) (hl:=hl) (hL:=hL) (hc:=⟨h0,hi⟩) (hs:=by omega) (hn:=Nat.le_refl _) ..
  · simp only [decide_eq_false hi,cond_false]
theorem N_W {h:D'} {p:C'} {tile:Int} {w:List V} (hw:w ∈ F_w h p tile):∃ comp res k layer,((0<=comp/\comp<(h.Components.length:Int))/\(0<=res/\res<p.Levels+1)/\(0<=k/\k<C_g h p tile comp res)/\(0<=layer/\layer<p.Layers))/\w=R_f h p tile comp res k layer:=by
  rw [M_z] at hw
  obtain ⟨comp,hcomp,hw⟩:=List.mem_flatMap.1 hw
  unfold pkR at hw
  obtain ⟨res,hres,hw⟩:=List.mem_flatMap.1 hw
  unfold pkK at hw
  rw [nK] at hw
  obtain ⟨k,hk,hw⟩:=List.mem_flatMap.1 hw
  unfold pkL at hw
  obtain ⟨layer,hlay,rfl⟩:=List.mem_map.1 hw
  exact ⟨comp,res,k,layer,⟨A_C.1 hcomp,A_C.1 hres,A_C.1 hk,A_C.1 hlay⟩,rfl⟩
theorem T_j (q:I'):I'.of (I'.row q)=q:=rfl
theorem g_L {h:D'} {p:C'} {tile:Int} {a b:List V} (ha:a ∈ F_w h p tile) (hb:b ∈ F_w h p tile) (h1:c_y p a b=false) (h2:c_y p b a=false):a=b:=by
  obtain ⟨c1,r1,k1,l1,_,rfl⟩:=N_W ha
  obtain ⟨c2,r2,k2,l2,_,rfl⟩:=N_W hb
  rw [T_g] at h1 h2
  have:=U_z h1 h2
  unfold R_f at this
  rw [T_j,T_j] at this
  simp only [G'.mk.injEq] at this
  obtain ⟨rfl,rfl,rfl,rfl⟩:=this
  rfl
theorem M_q {h:D'} {p:C'} {tile:Int} {z z':Rows} (hp:z.Perm (F_w h p tile)) (hp':z'.Perm (F_w h p tile)) (h1:Asc (c_y p) z) (h2:Asc (c_y p) z'):z=z' :=
  J_P (hp.trans hp'.symm) h1 h2 fun a ha b hb h3 h4=>g_L (hp.mem_iff.1 ha) (hp.mem_iff.1 hb) h4 h3
theorem b_o (h1:r_b) (h2:r_e) (h3:M_3 Tryz.prog O_2):o_x:=w_4 h1 h2 h3 fun h p tile hp _=>by
  unfold R_g at hp
  have hck:=A_I.1 (beq_iff_eq.1 hp)
  have hok:=B_g hck.1
  have hn:=A_D hok.2.2.1
  have hc:=A_U hck.1
  unfold T_3
  simp only []
  refine (y_v (h:=h) (p:=p) (tile:=tile) (e:=fun r=>bif (Nat.blt (List.length r) 4611686018427387904&&true&&(r.all fun r=>V_b (r.map V.toInt))) then anyS (fun z=>z.Perm r/\sortedBy (O_g p) z) fun z8=>some (V.data O'.sh z8) else none) hn.2.2.2.1 hn.1 hc _ (Nat.le_refl _)).trans ?_
  have hlen:=M_l (h:=h) (p:=p) hn.2.2.2.1 hn.1 hc tile
  have hb:Nat.blt (F_w h p tile).length 4611686018427387904=true:=Nat.ble_eq_true_of_le (by omega)
  have hall:((F_w h p tile).all fun r=>V_b (r.map V.toInt))=true:=List.all_eq_true.2 fun _ _=>rfl
  simp only [hb,hall,Bool.and_self,cond_true]
  unfold Q_s
  refine anyS_eq ⟨N_b (c_y p) (F_w h p tile),A_6 (M_k p) _,(N_V p _).2 (N_U (M_k p) _)⟩ ?_
  rintro z ⟨hz1,hz2⟩
  rw [M_q hz1 (A_6 (M_k p) _) ((N_V p _).1 hz2) (N_U (M_k p) _)]
theorem C_O {h:D'} {p:C'} {tile:Int} (hck:T_r h p tile=0):(Q_s h p tile).length<=25165824:=by
  have hk:=A_I.1 hck
  have hok:=B_g hk.1
  have hn:=A_D hok.2.2.1
  have hc:=A_U hk.1
  unfold Q_s
  rw [(A_6 (M_k p) _).length_eq]
  exact M_l hn.2.2.2.1 hn.1 hc tile
theorem b_p (h1:q_7) (h2:o_x):o_z:=w_5 h1 h2 fun h p tile _=>by
  unfold T_4 M_x
  simp only []
  by_cases hz:T_r h p tile=0
  · have hpre:R_g h p tile=true:=beq_iff_eq.2 hz
    have hlen:=C_O hz
    simp only [hz,bne_self_eq_false,cond_false,hpre,cond_true]
    refine (A_7 (b:=((Q_s h p tile).length:Int)) (L:=fun n i s=>D_z (Q_s h p tile) ((Q_s h p tile).length:Int) n i s (fun _ r=>some (V.tup [V.data F'.sh r,V.int .i64 0]))) (f:=fun i=>[G'.row (I'.of (List.getD (Q_s h p tile) i.toNat [])).id]) (e:=fun r=>some (V.tup [V.data F'.sh r,V.int .i64 0])) 1 0 (fun _ _ _=>Nat.le_refl _) ?_ _ [] (Nat.le_refl _) (Nat.le_refl _)).trans ?_
    · intro n i s h0 h1
      show I_A (Q_s h p tile) ((Q_s h p tile).length:Int) i s _ _=_
      unfold I_A
      by_cases hi:i<((Q_s h p tile).length:Int)
      · have hroom:roomOK (s.length+1) 32=true:=A_w (by omega)
        simp only [decide_eq_true hi,cond_true,A_c h0 hi,hroom]
        rw [w64 (n:=i+1) (by omega) (by omega)]
      · simp only [decide_eq_false hi,cond_false]
    · rw [List.nil_append,<- List.map_eq_flatMap,D_5 fun w=>G'.row (I'.of w).id]
  · simp only [bne_iff_ne.2 hz,cond_true]
theorem A_8 (h:D') (p:C') (t c r:Int):H_e h p t c r=M_9 h p t c r:=by
  unfold H_e M_9 j_H
  simp only [F_k,C_d,C_c,S_8,P_N,B_E]
theorem C_i (h:D') (p:C') (t:Int):j_G h p t=T_r h p t:=rfl
theorem V_u (c x y:Int) (h:D') (p:C') (r:F') (e:Int->Option R):∀ (k n:Nat) (s i:Int),(p.Levels-i).toNat=k->k<=5->0<=i->p.Levels<=5->0<=s->s*2 ^ k<=4096->k+1<=n->D_K c h p x y r n s i (fun s _=>e s)=e (s*2 ^ k)
  | 0,n,s,i,hk,_,h0,hL,hs0,hs,hn=>by
    obtain ⟨n,rfl⟩:∃ k,n=k+1:=⟨n-1,by omega⟩
    show D_J c h p x y r s i _ _=_
    unfold D_J
    have hi:¬ i<p.Levels:=by omega
    simp only [decide_eq_false hi,cond_false]
    rw [Int.pow_zero,Int.mul_one]
  | k+1,n,s,i,hk,hk5,h0,hL,hs0,hs,hn=>by
    obtain ⟨n,rfl⟩:∃ k,n=k+1:=⟨n-1,by omega⟩
    show D_J c h p x y r s i _ _=_
    unfold D_J
    have hi:i<p.Levels:=by omega
    have hp:=(A_2 (n:=k) (by omega)).1
    have e1:s*2 ^ (k+1)=2*s*2 ^ k:=by rw [Int.pow_succ,Int.mul_comm (2 ^ k) 2,<- Int.mul_assoc,Int.mul_comm s 2]
    have h2:2*s*1<=2*s*2 ^ k:=Int.mul_le_mul_of_nonneg_left hp (by omega)
    rw [e1] at hs ⊢
    simp only [decide_eq_true hi,cond_true]
    rw [w64 (n:=2*s) (by omega) (by omega),w64 (n:=i+1) (by omega) (by omega)]
    exact V_u c x y h p r e k n (2*s) (i+1) (by omega) (by omega) (by omega) hL (by omega) hs (by omega)
theorem b_q (h1:f_W) (h2:m_G):o_8:=x_R h1 h2 fun h p r c res k hp _=>by
  unfold O_T at hp
  simp only [Bool.and_eq_true,decide_eq_true_eq] at hp
  obtain ⟨⟨⟨hc,h0⟩,h1⟩,h5⟩:=hp
  unfold U_c m_o
  have hk:(p.Levels-res).toNat<=5:=by omega
  refine (V_u c 0 0 h p _ (fun s=>bif (inR c (List.length h.Components)) then
      (bif (inR c (List.length h.Components)) then some (V.agg [(V.int .i64 (IntKind.wrap .i64 (IntKind.wrap .i64 ((V_5 r (Q_q p res).X (Q_q p res).Y k).1.X0*s)*V.toInt (List.getD (List.getD h.Components c.toNat []) 2 V.undef)))),
        (V.int .i64 (IntKind.wrap .i64 (IntKind.wrap .i64 ((V_5 r (Q_q p res).X (Q_q p res).Y k).1.Y0*s)*V.toInt (List.getD (List.getD h.Components c.toNat []) 3 V.undef))))]) else none) else none) _ _ 1 res rfl hk h0 h5 (by decide) ?_ (Nat.le_refl _)).trans ?_
  · have:=(A_2 (n:=(p.Levels-res).toNat) (by omega)).2
    omega
  · simp only [hc,cond_true,Int.one_mul]
    rfl
def kyL (h:D') (p:C') (tile comp res k:Int):Rows:=(A_n 0 p.Layers).map fun layer=>h_E h p tile comp res k layer
def kyK (h:D') (p:C') (tile comp res:Int):Rows:=(A_n 0 (C_g h p tile comp res)).flatMap fun k=>kyL h p tile comp res k
def kyR (h:D') (p:C') (tile comp:Int):Rows:=(A_n 0 (p.Levels+1)).flatMap fun res=>kyK h p tile comp res
theorem U_A (h:D') (p:C') (tile:Int):R_k h p tile=(A_n 0 (h.Components.length:Int)).flatMap fun comp=>kyR h p tile comp:=by
  unfold R_k kyR kyK
  simp only [A_8,nK]
  rfl
theorem P_g {h:D'} {p:C'} (hl:1<=p.Layers/\p.Layers<=16) (tile comp res k:Int):(kyL h p tile comp res k).length<=16:=by
  unfold kyL
  rw [List.length_map,A_q]
  omega
theorem P_h {h:D'} {p:C'} (hl:1<=p.Layers/\p.Layers<=16) (tile comp res:Int):(kyK h p tile comp res).length<=1048576:=by
  unfold kyK
  have h1:=B_e (fun k=>kyL h p tile comp res k) 16 0 (C_g h p tile comp res) fun k=>P_g hl tile comp res k
  have h2:=J_M h p tile comp res
  have h3:(C_g h p tile comp res-0).toNat<=65536:=by omega
  have:=Nat.mul_le_mul_right 16 h3
  omega
theorem b_r {h:D'} {p:C'} (hl:1<=p.Layers/\p.Layers<=16) (hL:0<=p.Levels/\p.Levels<=5) (tile comp:Int):(kyR h p tile comp).length<=6291456:=by
  unfold kyR
  have h1:=B_e (fun res=>kyK h p tile comp res) 1048576 0 (p.Levels+1) fun res=>P_h hl tile comp res
  have h3:(p.Levels+1-0).toNat<=6:=by omega
  have:=Nat.mul_le_mul_right 1048576 h3
  omega
theorem q_k (j0 j3 j4:Int) (h:D') (p:C') (r0:F') (tile comp res k:Int) (at0:X') (e:Rows->Option R) (hl:1<=p.Layers/\p.Layers<=16) (n:Nat) (s:Rows)
    (hs:s.length<=100000000) (hn:(p.Layers-0).toNat+1<=n) (ha:at0=m_o h p (H_e h p tile comp res).1 comp res k) :
    C_H j0 comp res j3 j4 k h p r0 at0 n 0 s (fun _ r=>e r)=e (s++kyL h p tile comp res k):=by
  unfold kyL
  rw [List.map_eq_flatMap]
  refine A_7 (L:=fun n i s=>C_H j0 comp res j3 j4 k h p r0 at0 n i s (fun _ r=>e r)) 1 100000000 (fun i _ _=>Nat.le_refl _) ?_ n s hs hn
  intro n i s h0 h1
  show I_5 j0 comp res j3 j4 k h p r0 at0 i s _ _=_
  unfold I_5
  by_cases hi:i<p.Layers
  · have hroom:roomOK (s.length+1) 80=true:=A_w (by omega)
    simp only [decide_eq_true hi,cond_true,hroom]
    rw [w64 (n:=i+1) (by omega) (by omega),ha]
    rfl
  · simp only [decide_eq_false hi,cond_false]
theorem N_X {h:D'} {p:C'} {r:F'} {comp res k:Int} (hc:0<=comp/\comp<(h.Components.length:Int)) (hr:0<=res/\res<=p.Levels) (hl:p.Levels<=5):O_T h p r comp res k=true:=by
  unfold O_T
  simp only [A_c hc.1 hc.2,decide_eq_true hr.1,decide_eq_true hr.2,decide_eq_true hl,Bool.and_self]
theorem q_l (j0:Int) (h:D') (p:C') (tile comp res:Int) (e:Rows->Option R) (hl:1<=p.Layers/\p.Layers<=16) (hL:p.Levels<=5) (hc:0<=comp/\comp<(h.Components.length:Int)) (hr:0<=res/\res<=p.Levels) (n:Nat) (s:Rows)
    (hs:s.length<=50000000) (hn:(C_g h p tile comp res-0).toNat+1<=n) :
    B_0 j0 comp res (H_e h p tile comp res).2.1 (H_e h p tile comp res).2.2 h p (H_e h p tile comp res).1 n 0 s (fun _ r=>e r)=e (s++kyK h p tile comp res):=by
  have hK:=J_M h p tile comp res
  have hw:IntKind.wrap .i64 ((H_e h p tile comp res).2.1*(H_e h p tile comp res).2.2)=C_g h p tile comp res:=by rw [A_8];exact nK ..
  unfold kyK
  refine A_7 (L:=fun n i s=>B_0 j0 comp res (H_e h p tile comp res).2.1 (H_e h p tile comp res).2.2 h p (H_e h p tile comp res).1 n i s (fun _ r=>e r)) 16 50000000 (fun i _ _=>P_g hl tile comp res i) ?_ n s hs hn
  intro n i s h0 h1
  show I_7 j0 comp res (H_e h p tile comp res).2.1 (H_e h p tile comp res).2.2 h p (H_e h p tile comp res).1 i s _ _=_
  unfold I_7
  simp only [hw]
  by_cases hi:i<C_g h p tile comp res
  · simp only [decide_eq_true hi,cond_true,N_X (r:=(H_e h p tile comp res).1) (k:=i) hc hr hL]
    rw [w64 (n:=i+1) (by omega) (by omega)]
    exact q_k (e:=fun r=>B_0 j0 comp res (H_e h p tile comp res).2.1 (H_e h p tile comp res).2.2 h p (H_e h p tile comp res).1 n (i+1) r (fun _ r=>e r)) (hl:=hl) (hs:=by omega) (hn:=Nat.le_refl _) (ha:=rfl) ..
  · simp only [decide_eq_false hi,cond_false]
theorem q_m (h:D') (p:C') (tile comp:Int) (e:Rows->Option R) (hl:1<=p.Layers/\p.Layers<=16) (hL:0<=p.Levels/\p.Levels<=5) (hc:0<=comp/\comp<(h.Components.length:Int)) (n:Nat) (s:Rows)
    (hs:s.length<=40000000) (hn:(p.Levels+1-0).toNat+1<=n) :
    B_1 tile comp h p n 0 s (fun _ r=>e r)=e (s++kyR h p tile comp):=by
  unfold kyR
  refine A_7 (L:=fun n i s=>B_1 tile comp h p n i s (fun _ r=>e r)) 1048576 40000000 (fun i _ _=>P_h hl tile comp i) ?_ n s hs hn
  intro n i s h0 h1
  show I_9 tile comp h p i s _ _=_
  unfold I_9
  by_cases hi:i<p.Levels+1
  · have hi':i<=p.Levels:=by omega
    simp only [decide_eq_true hi,decide_eq_true hi',cond_true]
    rw [w64 (n:=i+1) (by omega) (by omega)]
    have hw:IntKind.wrap .i64 ((H_e h p tile comp i).2.1*(H_e h p tile comp i).2.2)=C_g h p tile comp i:=by rw [A_8];exact nK ..
    exact q_l (e:=fun r=>B_1 tile comp h p n (i+1) r (fun _ r=>e r)) (hl:=hl) (hL:=hL.2) (hc:=hc) (hr:=⟨h0,by omega⟩) (hs:=by omega) (hn:=by unfold N_z;simp only [hw];exact Nat.le_refl _) ..
  · have hi':¬ i<=p.Levels:=by omega
    simp only [decide_eq_false hi,decide_eq_false hi',cond_false]
theorem b_s (h1:o_3) (h2:o_8) (h3:r_y):p_b:=x_U h1 h2 h3 fun h p tile hp _=>by
  unfold O_U at hp
  rw [C_i] at hp
  have hck:=A_I.1 (beq_iff_eq.1 hp)
  have hok:=B_g hck.1
  have hN:=A_D hok.2.2.1
  have hc:=A_U hck.1
  have hl:=hN.2.2.2.1
  have hL:=hN.1
  unfold U_d
  rw [U_A]
  refine (A_7 (b:=(h.Components.length:Int)) (e:=fun r=>some (V.data Z'.sh r)) (f:=fun comp=>kyR h p tile comp) (L:=fun n i s=>C_I tile h p n i s (fun _ r=>some (V.data Z'.sh r))) 6291456 0 (fun i _ _=>b_r hl hL tile i) ?_ _ [] (Nat.le_refl _) (Nat.le_refl _)).trans ?_
  · intro n i s h0 h1
    show J_b tile h p i s _ _=_
    unfold J_b
    by_cases hi:i<(h.Components.length:Int)
    · simp only [decide_eq_true hi,cond_true]
      rw [w64 (n:=i+1) (by omega) (by omega)]
      exact q_m (e:=fun r=>C_I tile h p n (i+1) r (fun _ r=>some (V.data Z'.sh r))) (hl:=hl) (hL:=hL) (hc:=⟨h0,hi⟩) (hs:=by omega) (hn:=by unfold N_A;simp only [];omega) ..
    · simp only [decide_eq_false hi,cond_false]
  · rw [List.nil_append]
theorem l_8 (p:List V->Bool) (l:Rows):l.drop (l.takeWhile p).length=l.dropWhile p:=by
  have h:=List.takeWhile_append_dropWhile (p:=p) (l:=l)
  conv=>lhs;rw [show l.drop (l.takeWhile p).length=(l.takeWhile p++l.dropWhile p).drop (l.takeWhile p).length by rw [h]]
  exact List.drop_left
theorem U_B (a:Rows) (y:List V) (b:Rows):F_x a (y::b)=(a.takeWhile fun x=>F_m x y).map V_h++V_h y::F_x (a.dropWhile fun x=>F_m x y) b:=by rw [F_x]
theorem f_A (a b:Rows) (k:Int) (bb:Bool) (e:Int->Rows->Option R) (hk:0<=k/\k<(b.length:Int)) (ha:a.length<=549755813888):∀ (d n i:Nat) (out:Rows),a.length-i=d->d+1<=n->i<=a.length->out.length+d<=1099511627776 ->
    D_G a b k bb n (i:Int) out e=e ((i+((a.drop i).takeWhile fun x=>F_m x (List.getD b k.toNat [])).length:Nat):Int) (out++((a.drop i).takeWhile fun x=>F_m x (List.getD b k.toNat [])).map V_h)
  | 0,n,i,out,hd,hn,hi,ho=>by
    obtain ⟨n,rfl⟩:∃ k,n=k+1:=⟨n-1,by omega⟩
    show D_F a b k bb i out _ _=_
    unfold D_F
    have h1:¬ (i:Int)<(a.length:Int):=by omega
    have e1:inR (i:Int) a.length=false:=by simp [inR];omega
    rw [List.drop_eq_nil_of_le (by omega)]
    simp only [decide_eq_false h1,e1,A_c hk.1 hk.2]
    simp only [Bool.false_or,Bool.true_or,show (!(false==true))=true from rfl,cond_true,show ((false==true))=false from rfl,cond_false,List.takeWhile_nil,List.length_nil,List.map_nil,List.append_nil,Nat.add_zero]
    rfl
  | d+1,n,i,out,hd,hn,hi,ho=>by
    obtain ⟨n,rfl⟩:∃ k,n=k+1:=⟨n-1,by omega⟩
    show D_F a b k bb i out _ _=_
    unfold D_F
    have h1:(i:Int)<(a.length:Int):=by omega
    have hil:i<a.length:=by omega
    have hroom:roomOK (out.length+1) 80=true:=A_w (by omega)
    simp only [decide_eq_true h1,A_c (i:=(i:Int)) (n:=a.length) (by omega) h1,A_c hk.1 hk.2,Bool.true_or,cond_true,beq_self_eq_true,hroom,Int.toNat_natCast]
    have e1:a.drop i=List.getD a i []::a.drop (i+1):=by
      have:=Q_a (l:=a) (i:=(i:Int)) (by omega) h1
      simpa using this
    have e2:V_g (Y'.mk (V.toInt (List.getD (List.getD a i []) 4 V.undef)) (V.toInt (List.getD (List.getD a i []) 5 V.undef)) (V.toInt (List.getD (List.getD a i []) 6 V.undef)) (V.toInt (List.getD (List.getD a i []) 7 V.undef)) (V.toInt (List.getD (List.getD a i []) 8 V.undef)) (V.toInt (List.getD (List.getD a i []) 9 V.undef)))
       (Y'.mk (V.toInt (List.getD (List.getD b k.toNat []) 4 V.undef)) (V.toInt (List.getD (List.getD b k.toNat []) 5 V.undef)) (V.toInt (List.getD (List.getD b k.toNat []) 6 V.undef)) (V.toInt (List.getD (List.getD b k.toNat []) 7 V.undef)) (V.toInt (List.getD (List.getD b k.toNat []) 8 V.undef)) (V.toInt (List.getD (List.getD b k.toNat []) 9 V.undef)))=F_m (List.getD a i []) (List.getD b k.toNat []):=rfl
    rw [e2,e1,List.takeWhile_cons]
    cases hl:F_m (List.getD a i []) (List.getD b k.toNat []) with
    | true =>
      simp only [cond_true,if_true]
      rw [w64 (n:=(i:Int)+1) (by omega) (by omega)]
      have:=f_A a b k bb e hk ha d n (i+1) (out++[V_h (List.getD a i [])]) (by omega) (by omega) (by omega) (by rw [List.length_append];simp only [List.length_cons,List.length_nil];omega)
      rw [show ((i+1:Nat):Int)=(i:Int)+1 by omega] at this
      refine (this).trans ?_
      rw [List.map_cons,List.append_assoc,List.length_cons]
      rw [show i+1+(List.takeWhile (fun x=>F_m x (List.getD b k.toNat [])) (List.drop (i+1) a)).length=i+((List.takeWhile (fun x=>F_m x (List.getD b k.toNat [])) (List.drop (i+1) a)).length+1) by omega]
      rfl
    | false=>simp [cond_false]
theorem f_B (a b:Rows) (e:Rows->Option R) (ha:a.length<=549755813888) (hb:b.length<=549755813888) (KN:Int->Int->Rows->Option R) (hKN:∀ (i:Nat) (j:Int) (out:Rows),i<=a.length->out.length+(a.length-i)<=1099511627776->KN (i:Int) j out=e (out++a.drop i)) :
    ∀ (d n i k:Nat) (out:Rows),b.length-k=d->d+1<=n->i<=a.length->k<=b.length->out.length+(a.length-i)+d<=1099511627776 ->
    D_I a b n (i:Int) (k:Int) out KN=e (out++F_x (a.drop i) (b.drop k))
  | 0,n,i,k,out,hd,hn,hi,hk,ho=>by
    obtain ⟨n,rfl⟩:∃ k,n=k+1:=⟨n-1,by omega⟩
    show D_H a b i k out _ _=_
    unfold D_H
    have h1:¬ (k:Int)<(b.length:Int):=by omega
    simp only [decide_eq_false h1,cond_false]
    rw [show b.drop k=[] from List.drop_eq_nil_of_le (by omega),hKN i _ out hi (by omega)]
    rfl
  | d+1,n,i,k,out,hd,hn,hi,hk,ho=>by
    obtain ⟨n,rfl⟩:∃ k,n=k+1:=⟨n-1,by omega⟩
    show D_H a b i k out _ _=_
    unfold D_H
    have h1:(k:Int)<(b.length:Int):=by omega
    simp only [decide_eq_true h1,cond_true]
    have e1:b.drop k=List.getD b k []::b.drop (k+1):=by
      have:=Q_a (l:=b) (i:=(k:Int)) (by omega) h1
      simpa using this
    have htw:((a.drop i).takeWhile fun x=>F_m x (List.getD b k [])).length<=a.length-i:=by
      have:=(List.takeWhile_sublist (fun x=>F_m x (List.getD b k [])) (l:=a.drop i)).length_le
      rwa [List.length_drop] at this
    refine (f_A a b (k:Int) true (hk:=⟨by omega,h1⟩) (ha:=ha) (d:=a.length-i) (n:=_) (i:=i) (out:=out) rfl (by unfold N_x;omega) hi (by omega) (e:=_)).trans ?_
    simp only [Int.toNat_natCast]
    generalize htw':(a.drop i).takeWhile (fun x=>F_m x (List.getD b k []))=tw at htw
    have hroom:roomOK ((out++tw.map V_h).length+1) 80=true:=by
      rw [List.length_append,List.length_map]
      exact A_w (by omega)
    simp only [A_c (i:=(k:Int)) (n:=b.length) (by omega) h1,cond_true,hroom]
    rw [w64 (n:=(k:Int)+1) (by omega) (by omega)]
    have:=f_B a b e ha hb KN hKN d n (i+tw.length) (k+1) (out++tw.map V_h++[V_h (List.getD b k [])]) (by omega) (by omega) (by omega) (by omega) (by simp only [List.length_append,List.length_map,List.length_cons,List.length_nil];omega)
    rw [show ((k+1:Nat):Int)=(k:Int)+1 by omega] at this
    refine this.trans ?_
    rw [e1,U_B,htw',<- l_8,htw',List.drop_drop,List.append_assoc,List.append_assoc]
    rfl
theorem b_t (h1:r_t):m_E:=x_C h1 fun a b hp _=>by
  unfold O_S at hp
  rw [Bool.and_eq_true] at hp
  have ha:a.length<=549755813888:=Nat.le_of_ble_eq_true hp.1
  have hb:b.length<=549755813888:=Nat.le_of_ble_eq_true hp.2
  unfold U_b m_n
  refine (f_B a b (fun r=>some (V.data Z'.sh r)) ha hb _ ?_ b.length _ 0 0 [] (by omega) (by unfold N_y;simp only [];omega) (by omega) (by omega) (by simp only [List.length_nil];omega)).trans ?_
  · intro i j out hi ho
    have c1:(0:Int)<=(i:Int):=by omega
    have c2:(i:Int)<=(a.length:Int):=by omega
    have c3:(a.length:Int)<=(a.length:Int):=Int.le_refl _
    have hroom:roomOK (out.length+(List.drop i a).length) 80=true:=by
      rw [List.length_drop]
      exact A_w (by omega)
    simp only [decide_eq_true c1,decide_eq_true c2,decide_eq_true c3,Bool.and_self,cond_true,Int.toNat_natCast,List.take_length,hroom]
  · rw [List.nil_append,List.drop_zero,List.drop_zero]
theorem M_A:∀ (n m:Nat) (l:Rows),l.length<=n->l.length<=m->H_a n l=H_a m l
  | 0,m,l,h1,h2=>by
    have:l=[]:=List.length_eq_zero_iff.1 (by omega)
    subst this
    cases m <;> rfl
  | n+1,0,l,h1,h2=>by
    have:l=[]:=List.length_eq_zero_iff.1 (by omega)
    subst this
    rfl
  | n+1,m+1,l,h1,h2=>by
    unfold H_a
    by_cases h:l.length<2
    · have:Nat.blt l.length 2=true:=Nat.ble_eq_true_of_le h
      rw [this];rfl
    · rw [M_A n m (l.take (l.length / 2)) (by rw [List.length_take];omega) (by rw [List.length_take];omega),M_A n m (l.drop (l.length / 2)) (by rw [List.length_drop];omega) (by rw [List.length_drop];omega)]
theorem P_i:∀ (b a:Rows),(∀ w ∈ a,V_h w=w)->(∀ w ∈ b,V_h w=w)->(F_x a b).Perm (a++b)
  | [],a,ha,hb=>by unfold F_x;rw [List.append_nil]
  | y::b,a,ha,hb=>by
    unfold F_x
    have e1:(a.takeWhile fun x=>F_m x y).map V_h=a.takeWhile fun x=>F_m x y:=by
      refine (List.map_congr_left fun w hw=>?_).trans (List.map_id _)
      exact ha w ((List.takeWhile_sublist _).subset hw)
    rw [e1,hb y (List.mem_cons_self ..)]
    have h:=P_i b (a.dropWhile fun x=>F_m x y) (fun w hw=>ha w ((List.dropWhile_sublist _).subset hw)) (fun w hw=>hb w (List.mem_cons_of_mem _ hw))
    have h2:=List.takeWhile_append_dropWhile (p:=fun x=>F_m x y) (l:=a)
    conv=>rhs;rw [<- h2]
    rw [List.append_assoc]
    refine List.Perm.append_left _ ?_
    refine (List.Perm.cons y h).trans ?_
    exact (List.perm_middle).symm
theorem K_v:∀ (n:Nat) (l:Rows),(∀ w ∈ l,V_h w=w)->(H_a n l).Perm l
  | 0,l,_=>List.Perm.refl _
  | n+1,l,h=>by
    unfold H_a
    by_cases h2:l.length<2
    · have:Nat.blt l.length 2=true:=Nat.ble_eq_true_of_le h2
      rw [this];exact List.Perm.refl _
    · have:Nat.blt l.length 2=false:=by
        rw [<- Bool.not_eq_true];intro hc;exact h2 (Nat.le_of_ble_eq_true hc)
      rw [this,cond_false]
      have hp1:=K_v n (l.take (l.length / 2)) fun w hw=>h w ((List.take_sublist _ _).subset hw)
      have hp2:=K_v n (l.drop (l.length / 2)) fun w hw=>h w ((List.drop_sublist _ _).subset hw)
      have:=P_i (H_a n (l.drop (l.length / 2))) (H_a n (l.take (l.length / 2))) (fun w hw=>h w ((List.take_sublist _ _).subset (hp1.mem_iff.1 hw))) (fun w hw=>h w ((List.drop_sublist _ _).subset (hp2.mem_iff.1 hw)))
      refine this.trans ((hp1.append hp2).trans ?_)
      rw [List.take_append_drop]
theorem J_R:∀ (b a:Rows),(F_x a b).length=a.length+b.length
  | [],a=>rfl
  | y::b,a=>by
    unfold F_x
    have h2:=congrArg List.length (List.takeWhile_append_dropWhile (p:=fun x=>F_m x y) (l:=a))
    rw [List.length_append] at h2
    rw [List.length_append,List.length_cons,List.length_map,J_R b,List.length_cons]
    omega
theorem B_6:∀ (n:Nat) (l:Rows),(H_a n l).length=l.length
  | 0,l=>rfl
  | n+1,l=>by
    unfold H_a
    by_cases h2:l.length<2
    · have:Nat.blt l.length 2=true:=Nat.ble_eq_true_of_le h2
      rw [this];rfl
    · have:Nat.blt l.length 2=false:=by
        rw [<- Bool.not_eq_true];intro hc;exact h2 (Nat.le_of_ble_eq_true hc)
      rw [this,cond_false]
      unfold m_n
      rw [J_R,B_6 n,B_6 n,List.length_take,List.length_drop]
      omega
theorem N_Y (rn:Nat) (l:Rows) (hl:l.length<=rn) (hl2:l.length<=549755813888):B_A rn l some=some (V.data Z'.sh (A_h l)):=by
  unfold B_A
  by_cases h2:l.length<2
  · have h3:(l.length:Int)<2:=by omega
    simp only [decide_eq_true h3,cond_true]
    unfold A_h
    have:H_a l.length l=l:=by
      cases hz:l.length with
      | zero=>rfl
      | succ n =>
        unfold H_a
        have hb:Nat.blt l.length 2=true:=Nat.ble_eq_true_of_le h2
        rw [hb];rfl
    rw [this]
  · have h3:¬ (l.length:Int)<2:=by omega
    have hd:Int.tdiv (l.length:Int) 2=((l.length / 2:Nat):Int):=by
      rw [Int.tdiv_eq_ediv_of_nonneg (by omega)];omega
    have hw:IntKind.wrap .i64 ((l.length / 2:Nat):Int)=((l.length / 2:Nat):Int):=w64 (by omega) (by omega)
    have c1:(0:Int)<=((l.length / 2:Nat):Int):=by omega
    have c2:((l.length / 2:Nat):Int)<=(l.length:Int):=by omega
    have c3:(l.length:Int)<=(l.length:Int):=Int.le_refl _
    have b1:Nat.blt (List.take (l.length / 2) l).length rn=true:=Nat.ble_eq_true_of_le (by rw [List.length_take];omega)
    have b2:Nat.blt (List.drop (l.length / 2) l).length rn=true:=Nat.ble_eq_true_of_le (by rw [List.length_drop];omega)
    have hp:O_S (A_h (List.take (l.length / 2) l)) (A_h (List.drop (l.length / 2) l))=true:=by
      unfold O_S A_h
      rw [B_6,B_6,Bool.and_eq_true]
      exact ⟨Nat.ble_eq_true_of_le (by rw [List.length_take];omega),Nat.ble_eq_true_of_le (by rw [List.length_drop];omega)⟩
    simp only [decide_eq_false h3,cond_false,hd,hw,decide_eq_true c1,decide_eq_true c2,decide_eq_true c3,Bool.and_self,Bool.true_and,cond_true,Int.toNat_natCast,List.drop_zero,List.take_length,b1,b2,hp]
    congr 1
    conv=>rhs;unfold A_h
    obtain ⟨n,hn⟩:∃ n,l.length=n+1:=⟨l.length-1,by omega⟩
    conv=>rhs;rw [hn];unfold H_a
    have:Nat.blt l.length 2=false:=by
      rw [<- Bool.not_eq_true];intro hc;exact h2 (Nat.le_of_ble_eq_true hc)
    rw [this,cond_false]
    unfold A_h
    rw [M_A _ n (l.take (l.length / 2)) (Nat.le_refl _) (by rw [List.length_take];omega),M_A _ n (l.drop (l.length / 2)) (Nat.le_refl _) (by rw [List.length_drop];omega)]
theorem T_k (h1:m_E):∀ rn:Nat,rn<=549755813889->Good1 (R:=V) Tryz.prog 121 (D_8 rn)
  | 0,_=>goodHook1 fun l hp=>by
    unfold D_d at hp
    split at hp
    · rename_i x0
      exact absurd (Nat.le_of_ble_eq_true hp) (by omega)
    · cases hp
  | rn+1,hrn=>goodHook1 fun l hp=>by
    unfold D_d at hp
    split at hp
    · rename_i x0
      have hl:=Nat.le_of_ble_eq_true hp
      exact I_3 rn (T_k h1 rn (by omega)) h1 x0 fun hr=>N_Y rn x0 (by omega) (by omega)
    · cases hp
theorem J_S (h1:m_E):C_X:=goodHook1 fun l hp=>by
  unfold H_E at hp
  split at hp
  · rename_i x0
    have hl:x0.length<=549755813888:=Nat.le_of_ble_eq_true hp
    exact I_3 549755813888 (T_k h1 _ (by omega)) h1 x0 fun hr=>N_Y _ x0 hl hl
  · cases hp
theorem G_T {α:Type} {f g:α->Bool}:∀ {l:List α},(∀ w ∈ l,f w=g w)->l.any f=l.any g
  | [],_=>rfl
  | a::l,h=>by rw [List.any_cons,List.any_cons,h a (List.mem_cons_self ..),G_T fun w hw=>h w (List.mem_cons_of_mem _ hw)]
def q_n (h:D') (p:C') (t:Int) (id:G'):Prop:=(0<=t/\t<((B_f h).length:Int))/\(0<=id.Comp/\id.Comp<(h.Components.length:Int))/\(0<=id.Res/\id.Res<=p.Levels)/\(0<=id.Precinct/\id.Precinct<C_g h p t id.Comp id.Res)/\(0<=id.Layer/\id.Layer<p.Layers)
def f_C (p:C') (v:O'):Int:=if v.Layers > 0/\v.Layers<=p.Layers then v.Layers else p.Layers
def C_P (h:D') (p:C') (t:Int) (id:G') (v:O'):Bool:=!decide (id.Layer >= f_C p v)&&(!decide (id.Res > p.Levels-v.Drop)&&(M_y h p t id).any fun w=>A_1 v.Window||B_J h p t v (N'.of w))
theorem Q_h {p:C'} {v:O'} (h0:0<=v.Layers):j_I p v=f_C p v:=by
  unfold j_I f_C
  by_cases h1:v.Layers=0
  · rw [if_neg (by omega)];simp [h1]
  · by_cases h2:v.Layers > p.Layers
    · rw [if_neg (by omega)];simp [h1,h2]
    · rw [if_pos (by omega)];simp only [beq_eq_false_iff_ne.2 h1,decide_eq_false h2,cond_false]
theorem M_m {h:D'} {p:C'} {v:O'} (h0:0<=v.Layers) (hd:0<=v.Drop/\v.Drop<=5):R_h h p v=true/\T_s h p v=(f_C p v,p,v,B_f h,h,P_P v):=by
  have hu:(0:Int)<=IntKind.wrap .u64 v.Drop:=by rw [m_h (by omega) (by omega)];omega
  unfold R_h T_s f_C P_P
  simp only [decide_eq_true hu,cond_true]
  by_cases h1:v.Layers > 0
  · simp only [decide_eq_true h1,cond_true,true_and]
    by_cases h2:p.Layers<v.Layers
    · rw [if_neg (by omega)];simp only [decide_eq_true h2,cond_true]
    · rw [if_pos (by omega)];simp only [decide_eq_false h2,cond_false]
  · simp only [decide_eq_false h1,cond_false,true_and]
    rw [if_neg (by omega)]
theorem V_v {h:D'} {p:C'} {tile:Int} {id:G'} {w:List V} (hl:0<=p.Levels/\p.Levels<=5) (hr:0<=id.Res/\id.Res<=p.Levels) (hw:w ∈ M_y h p tile id):0<=(N'.of w).Band/\(N'.of w).Band<=3*p.Levels:=by
  unfold M_y at hw
  obtain ⟨x,hx,hw⟩:=List.mem_flatMap.1 hw
  unfold T_P at hw
  have hb:=N_P hl hr.1 hr.2 hx
  rw [(P_a hw).2.2.1]
  exact ⟨hb.1,hb.2.1⟩
theorem f_D {h:D'} {p:C'} {v:O'} (hz:(O_Q h p v).2=0) (t c:Int):N_c (H_z h t c) p.Levels (IntKind.wrap .i64 (p.Levels-v.Drop)) p.Kernel=true:=by
  have hv:=B_q hz
  have hok:=B_g hv.1
  have hN:=A_D hok.2.2.1
  rw [w64 (n:=p.Levels-v.Drop) (by omega) (by omega)]
  exact K_s.2 ⟨N_S h t c,hN.1,by omega,U_x hok.2.1⟩
theorem J_T {h:D'} {p:C'} {v:O'} (hz:(O_Q h p v).2=0) (t c:Int):(F_j h p t v c).length=(3*p.Levels+1).toNat:=(U_w _ _ _ _ _ (f_D hz t c)).1
theorem M_r {h:D'} {p:C'} {t:Int} {id:G'} (hc:G_Y h p=0) (hk:q_n h p t id):f_O h p t id=M_y h p t id:=by
  have hE:c_v h p t id.Comp=true:=O_9.2 ⟨hc,hk.1,hk.2.1⟩
  unfold f_O
  simp only [hE,Bool.not_true,cond_false]
theorem Q_i {h:D'} {p:C'} {t:Int} {id:G'} (hc:G_Y h p=0) (hk:q_n h p t id):f_V h p t id=M_y h p t id:=by
  unfold f_V
  have hp:=hk.2.2.2.1
  have h1:¬ id.Precinct<0:=by omega
  have h2:¬ id.Precinct >= C_g h p t id.Comp id.Res:=by omega
  simp only [A_8,nK,decide_eq_false h1,decide_eq_false h2,cond_false,C_d]
  rw [Q_d h t id.Comp id.Precinct (B_g hc).2.2.1 hk.2.2.1.1 hk.2.2.1.2]
  rfl
theorem N_Z {h:D'} {p:C'} {v:O'} {t:Int} {id:G'} (hz:(O_Q h p v).2=0) (hk:q_n h p t id) :
    R_i t id (f_C p v) p v (B_f h) h (P_P v)=true/\m_m t id (f_C p v) p v (B_f h) h (P_P v)=C_P h p t id v:=by
  have hv:=B_q hz
  have hok:=B_g hv.1
  have hN:=A_D hok.2.2.1
  have hlen:=J_T hz t id.Comp
  have hd:IntKind.wrap .i64 (p.Levels-v.Drop)=p.Levels-v.Drop:=w64 (by omega) (by omega)
  have hI:∀ w ∈ M_y h p t id,inR (N'.of w).Band (F_j h p t v id.Comp).length=true:=by
    intro w hw
    have:=V_v hN.1 hk.2.2.1 hw
    rw [hlen]
    exact A_c this.1 (by omega)
  have h11:∀ w ∈ M_y h p t id,N_d (N'.of w) v (F_j h p t v id.Comp)=true/\j_F (N'.of w) v (F_j h p t v id.Comp)=(A_1 v.Window||B_J h p t v (N'.of w)):=by
    intro w hw
    have e1:((v.Window.X0==(0:Int))&&((v.Window.Y0==(0:Int))&&((v.Window.X1==(0:Int))&&((v.Window.Y1==(0:Int))&&true))))=A_1 v.Window:=rfl
    unfold N_d j_F
    simp only [hI w hw,Bool.true_or,cond_true,e1]
    have e2:(N'.of w).Comp=id.Comp:=(M_f hw).1
    cases A_1 v.Window with
    | true=>exact ⟨rfl,rfl⟩
    | false =>
      refine ⟨rfl,?_⟩
      unfold B_J
      rw [e2]
      rfl
  have hpre:K_L (M_y h p t id) v (F_j h p t v id.Comp)=true:=by
    unfold K_L
    rw [Bool.and_eq_true]
    exact ⟨Nat.ble_eq_true_of_le (Nat.le_trans (C_N h p t id) (by omega)),List.all_eq_true.2 fun w hw=>(h11 w hw).1⟩
  have hC:G_0 (M_y h p t id) v (F_j h p t v id.Comp)=true/\h_z (M_y h p t id) v (F_j h p t v id.Comp)=(M_y h p t id).any fun w=>A_1 v.Window||B_J h p t v (N'.of w):=by
    unfold G_0 h_z
    simp only [hpre,cond_true,true_and]
    unfold m_l
    refine (D_b _ _ 0 (Int.le_refl 0)).trans (G_T fun w hw=>(h11 w hw).2)
  unfold R_i m_m C_P
  simp only [hd]
  by_cases hl:id.Layer >= f_C p v
  · simp only [decide_eq_true hl,cond_true,Bool.not_true,Bool.false_and,and_self]
  · by_cases hr:id.Res > p.Levels-v.Drop
    · simp only [decide_eq_false hl,decide_eq_true hr,cond_true,cond_false,Bool.not_true,Bool.not_false,Bool.false_and,Bool.true_and,and_self]
    · simp only [decide_eq_false hl,decide_eq_false hr,cond_true,cond_false,Bool.not_false,Bool.true_and,A_c hk.1.1 hk.1.2,A_c hk.2.1.1 hk.2.1.2,M_r hv.1 hk]
      have e1:((v.Window.X0==(0:Int))&&((v.Window.Y0==(0:Int))&&((v.Window.X1==(0:Int))&&((v.Window.Y1==(0:Int))&&true))))=A_1 v.Window:=rfl
      unfold F_j c_z A_p at hC
      rw [hd] at hC
      simp only [e1]
      cases hW:A_1 v.Window with
      | true =>
        rw [hW] at hC
        simp only [Bool.not_true,cond_false] at hC ⊢
        rw [hC.1]
        exact ⟨rfl,hC.2⟩
      | false =>
        rw [hW] at hC
        simp only [Bool.not_false,cond_true] at hC ⊢
        rw [hC.1]
        exact ⟨rfl,hC.2⟩
theorem Q_j {h:D'} {p:C'} {v:O'} {t c:Int} (hz:(O_Q h p v).2=0) (ht:0<=t/\t<((B_f h).length:Int)) (hc:0<=c/\c<(h.Components.length:Int)) :
    N_f h p t c v=true/\j_L h p t c v=F_j h p t v c:=by
  have hv:=B_q hz
  have hN:=A_D (B_g hv.1).2.2.1
  have hu:(0:Int)<=IntKind.wrap .u64 v.Drop:=by rw [m_h (by omega) (by omega)];omega
  have e1:((v.Window.X0==(0:Int))&&((v.Window.Y0==(0:Int))&&((v.Window.X1==(0:Int))&&((v.Window.Y1==(0:Int))&&true))))=A_1 v.Window:=rfl
  unfold N_f j_L F_j c_z A_p P_P
  simp only [decide_eq_true hu,cond_true,A_c hc.1 hc.2,B_5,A_c ht.1 ht.2,e1,C_d,C_b,A_5,j_K]
  cases A_1 v.Window with
  | true=>exact ⟨rfl,rfl⟩
  | false=>exact ⟨rfl,rfl⟩
theorem N_0 {h:D'} {p:C'} {v:O'} {t:Int} {id:G'} (hz:(O_Q h p v).2=0) (hk:q_n h p t id) :
    O_W h p t id v=true/\j_M h p t id v=C_P h p t id v:=by
  have hv:=B_q hz
  have hN:=A_D (B_g hv.1).2.2.1
  have hlen:=J_T hz t id.Comp
  have hd:IntKind.wrap .i64 (p.Levels-v.Drop)=p.Levels-v.Drop:=w64 (by omega) (by omega)
  have hB:∀ w ∈ M_y h p t id,O_V h p t (N'.of w) v=true/\b_K h p t (N'.of w) v=(!decide (id.Res > p.Levels-v.Drop)&&(A_1 v.Window||B_J h p t v (N'.of w))):=by
    intro w hw
    obtain ⟨e2,e3,_⟩:=M_f hw
    have hb:=V_v hN.1 hk.2.2.1 hw
    have hI:inR (N'.of w).Band (F_j h p t v id.Comp).length=true:=by
      rw [hlen];exact A_c hb.1 (by omega)
    have e1:((v.Window.X0==(0:Int))&&((v.Window.Y0==(0:Int))&&((v.Window.X1==(0:Int))&&((v.Window.Y1==(0:Int))&&true))))=A_1 v.Window:=rfl
    obtain ⟨hp1,hp2⟩:=Q_j hz hk.1 hk.2.1
    unfold O_V b_K B_J
    simp only [hd,e3,e2,e1,hp1,hp2,hI,cond_true]
    cases decide (id.Res > p.Levels-v.Drop) with
    | true=>exact ⟨rfl,rfl⟩
    | false =>
      cases A_1 v.Window with
      | true=>exact ⟨rfl,rfl⟩
      | false=>exact ⟨rfl,rfl⟩
  unfold O_W j_M C_P
  rw [Q_i hv.1 hk,Q_h hv.2.1.1]
  refine ⟨?_,?_⟩
  · rw [Bool.and_eq_true]
    exact ⟨Nat.ble_eq_true_of_le (Nat.le_trans (C_N h p t id) (by omega)),List.all_eq_true.2 fun w hw=>(hB w hw).1⟩
  · rw [G_T fun w hw=>(hB w hw).2]
    cases decide (id.Layer >= f_C p v) with
    | true=>rfl
    | false =>
      cases decide (id.Res > p.Levels-v.Drop) with
      | true=>simp
      | false=>simp
theorem J_U (l:Rows) (id:G'):T_O l id=l.any (D_m id):=rfl
theorem U_C (l:Rows) (id:G'):decide (h_F l id<0)=!T_O l id:=by
  rw [J_U,<- D_b (D_m id) l 0 (Int.le_refl 0)]
  unfold h_F
  by_cases h:A_H (D_m id) l 0<0
  · have h2:¬ 0<=A_H (D_m id) l 0:=by omega
    rw [decide_eq_true h,decide_eq_false h2];rfl
  · have h2:0<=A_H (D_m id) l 0:=by omega
    rw [decide_eq_false h,decide_eq_true h2];rfl
theorem q_o {h:D'} {p:C'} {tile:Int}:∀ w ∈ R_k h p tile,V_h w=w:=by
  intro w hw
  rw [U_A] at hw
  obtain ⟨comp,_,hw⟩:=List.mem_flatMap.1 hw
  obtain ⟨res,_,hw⟩:=List.mem_flatMap.1 hw
  obtain ⟨k,_,hw⟩:=List.mem_flatMap.1 hw
  obtain ⟨layer,_,rfl⟩:=List.mem_map.1 hw
  rfl
def P_j (w:List V):List V:=G'.row (I'.of w).id
def f_E (w:List V):List V:=G'.row (G'.of w)
theorem g_M (h:D') (p:C') (tile:Int):(R_k h p tile).map f_E=(F_w h p tile).map P_j:=by
  rw [U_A,M_z,List.map_flatMap,List.map_flatMap]
  refine D_W fun comp _=>?_
  unfold kyR pkR
  rw [List.map_flatMap,List.map_flatMap]
  refine D_W fun res _=>?_
  unfold kyK pkK
  rw [nK,List.map_flatMap,List.map_flatMap]
  refine D_W fun k _=>?_
  unfold kyL pkL
  rw [List.map_map,List.map_map]
  rfl
theorem f_F (h:D') (p:C') (t:Int):(P_R h p t).2=(M_x h p t).2/\(P_R h p t).1.Perm (M_x h p t).1:=by
  unfold P_R M_x
  rw [C_i]
  cases T_r h p t != 0 with
  | true=>exact ⟨rfl,List.Perm.refl _⟩
  | false =>
    refine ⟨rfl,?_⟩
    show ((A_h (R_k h p t)).map f_E).Perm ((Q_s h p t).map P_j)
    have h1:=(K_v (R_k h p t).length (R_k h p t) q_o).map f_E
    have h2:=(A_6 (M_k p) (F_w h p t)).map P_j
    rw [g_M] at h1
    exact h1.trans h2.symm
theorem f_G (h:D') (p:C') (t:Int) (id:G'):T_O (P_R h p t).1 id=T_O (M_x h p t).1 id:=by
  rw [J_U,J_U]
  exact (f_F h p t).2.any_eq
theorem T_l (h:D') (p:C') (e:V'):H_B h p e=F_l h p e:=by
  have hc:decide (e.Span.From > e.Span.To)=decide (e.Span.To<e.Span.From):=rfl
  unfold H_B F_l
  rw [U_C,f_G,Bool.not_not,hc]
theorem P_k {id:G'} {w:List V}:D_m id w=true ↔ G'.of w=id:=by
  unfold D_m
  simp only [Bool.and_eq_true,beq_iff_eq,and_true]
  obtain ⟨a,b,c,d⟩:=id
  constructor
  · rintro ⟨h1,h2,h3,h4⟩
    simp only at h1 h2 h3 h4
    rw [<- h1,<- h2,<- h3,<- h4]
  · intro h
    rw [h]
    exact ⟨rfl,rfl,rfl,rfl⟩
theorem J_V {h:D'} {p:C'} {e:V'} (hc:G_Y h p=0) (he:F_l h p e=true):q_n h p e.Tile e.ID/\0<=e.Span.From:=by
  unfold F_l at he
  simp only [Bool.and_eq_true,Bool.not_eq_true',decide_eq_false_iff_not] at he
  obtain ⟨⟨⟨⟨h1,h2⟩,h3⟩,h4⟩,h5⟩:=he
  refine ⟨?_,by omega⟩
  have ht:0<=e.Tile/\e.Tile<((B_f h).length:Int):=by omega
  have hck:T_r h p e.Tile=0:=A_I.2 ⟨hc,ht⟩
  rw [J_U,List.any_eq_true] at h5
  obtain ⟨w,hw,hs⟩:=h5
  rw [P_k] at hs
  unfold M_x at hw
  rw [hck] at hw
  replace hw:w ∈ (Q_s h p e.Tile).map P_j:=hw
  obtain ⟨x,hx,rfl⟩:=List.mem_map.1 hw
  have hx':x ∈ F_w h p e.Tile:=(A_6 (M_k p) _).mem_iff.1 hx
  obtain ⟨comp,res,k,layer,hr,rfl⟩:=N_W hx'
  have e1:G'.of (P_j (R_f h p e.Tile comp res k layer))=⟨comp,res,k,layer⟩:=rfl
  rw [e1] at hs
  rw [<- hs]
  exact ⟨ht,hr.1,by simp only [];omega,hr.2.2.1,hr.2.2.2⟩
def q_p (x y:List V):Prop:=(I'.of x).id ≠ (I'.of y).id
theorem Q_k {h:D'} {p:C'} {tile comp res k:Int} {w:List V} (hw:w ∈ pkL h p tile comp res k):(I'.of w).id.Comp=comp/\(I'.of w).id.Res=res/\(I'.of w).id.Precinct=k:=by
  unfold pkL at hw
  obtain ⟨l,_,rfl⟩:=List.mem_map.1 hw
  exact ⟨rfl,rfl,rfl⟩
theorem U_D {h:D'} {p:C'} {tile comp res:Int} {w:List V} (hw:w ∈ pkK h p tile comp res):(I'.of w).id.Comp=comp/\(I'.of w).id.Res=res:=by
  unfold pkK at hw
  obtain ⟨k,_,hw⟩:=List.mem_flatMap.1 hw
  exact ⟨(Q_k hw).1,(Q_k hw).2.1⟩
theorem f_H {h:D'} {p:C'} {tile comp:Int} {w:List V} (hw:w ∈ pkR h p tile comp):(I'.of w).id.Comp=comp:=by
  unfold pkR at hw
  obtain ⟨k,_,hw⟩:=List.mem_flatMap.1 hw
  exact (U_D hw).1
theorem b_u (h:D') (p:C') (tile:Int):(F_w h p tile).Pairwise q_p:=by
  rw [M_z]
  refine U_u (G_S _ _) (fun comp _=>?_) fun a b hab x hx y hy he=>hab ?_
  · unfold pkR
    refine U_u (G_S _ _) (fun res _=>?_) fun a b hab x hx y hy he=>hab ?_
    · unfold pkK
      refine U_u (G_S _ _) (fun k _=>?_) fun a b hab x hx y hy he=>hab ?_
      · unfold pkL
        rw [List.pairwise_map]
        refine (G_S _ _).imp fun {a b} hab he=>hab ?_
        have:=congrArg G'.Layer he
        exact this
      · have:=congrArg G'.Precinct he
        rw [(Q_k hx).2.2,(Q_k hy).2.2] at this
        exact this
    · have:=congrArg G'.Res he
      rw [(U_D hx).2,(U_D hy).2] at this
      exact this
  · have:=congrArg G'.Comp he
    rw [f_H hx,f_H hy] at this
    exact this
def l_9 (x y:List V):Prop:=G'.of x ≠ G'.of y
theorem g_N (h:D') (p:C') (t:Int):(M_x h p t).1.Pairwise l_9:=by
  unfold M_x
  cases T_r h p t != 0 with
  | true=>exact List.Pairwise.nil
  | false =>
    show ((Q_s h p t).map P_j).Pairwise l_9
    rw [List.pairwise_map]
    have h1:(Q_s h p t).Pairwise q_p:=((A_6 (M_k p) (F_w h p t)).pairwise_iff fun {a b} hab he=>hab he.symm).2 (b_u h p t)
    exact h1.imp fun {a b} hab he=>hab he
theorem P_l (h:D') (p:C') (t:Int):(M_x h p t).1.length<=25165824:=by
  unfold M_x
  by_cases hz:T_r h p t=0
  · simp only [hz,bne_self_eq_false,cond_false,List.length_map]
    exact C_O hz
  · simp only [bne_iff_ne.2 hz,cond_true,List.length_nil]
    omega
theorem eqvP (a b:G'):V.eqv (G'.v a) (G'.v b)=((a.Comp==b.Comp)&&((a.Res==b.Res)&&((a.Precinct==b.Precinct)&&((a.Layer==b.Layer)&&true)))):=rfl
theorem V_w {a b:G'}:V.eqv (G'.v a) (G'.v b)=true ↔ a=b:=by
  rw [eqvP]
  obtain ⟨a1,a2,a3,a4⟩:=a
  obtain ⟨b1,b2,b3,b4⟩:=b
  simp only [Bool.and_eq_true,beq_iff_eq,and_true,G'.mk.injEq]
theorem q_q (a b:G'):eqT Tryz.prog 8 A_0 (G'.v a) (G'.v b)=some (V.eqv (G'.v a) (G'.v b)):=by
  kernel_rfl
def m_a (l:Rows) (i:Int):List V:=[G'.v (G'.of (List.getD l i.toNat [])),V.int .i64 i]
theorem T_m (l:Rows) (i:Int):(m_a l i).headD V.undef=G'.v (G'.of (List.getD l i.toNat [])):=rfl
theorem P_m (l:Rows) (L:List Int) (a:G'):keyOK Tryz.prog A_0 (G'.v a) (L.map (m_a l))=true:=by
  unfold keyOK
  rw [q_q,Option.isSome_some,Bool.true_and,List.all_eq_true]
  intro r hr
  obtain ⟨i,_,rfl⟩:=List.mem_map.1 hr
  rw [T_m,q_q]
  exact beq_self_eq_true _
theorem Q_l (l:Rows):pmap l=(A_n 0 (l.length:Int)).map (m_a l):=rfl
theorem N_1 (key:V):∀ rows:List (List V),(mapFind key rows).isSome=rows.any fun r=>V.eqv key (r.headD V.undef)
  | []=>rfl
  | r::rows=>by
    unfold mapFind
    rw [List.any_cons,<- N_1 key rows]
    cases V.eqv key (r.headD V.undef) with
    | true=>rfl
    | false=>rw [cond_false,Bool.false_or,Option.isSome_map]
theorem U_E (l:Rows) (id:G'):mapHas (pmap l) (G'.v id)=T_O l id:=by
  unfold mapHas
  rw [N_1,Q_l,J_U,List.any_map]
  have h:=D_5 (D_m id) l
  have h2:((A_n 0 (l.length:Int)).map fun i=>D_m id (List.getD l i.toNat [])).any (fun b=>b)=(l.map (D_m id)).any (fun b=>b):=by rw [h]
  rw [List.any_map,List.any_map] at h2
  refine Eq.trans ?_ h2
  refine G_T fun i _=>?_
  show V.eqv (G'.v id) (G'.v (G'.of (List.getD l i.toNat [])))=D_m id (List.getD l i.toNat [])
  rw [Bool.eq_iff_iff,V_w,P_k]
  exact eq_comm
theorem P_n (key:V):∀ (rows:List (List V)) (i:Nat),mapFind key rows=some i->i<rows.length
  | [],i,h=>by cases h
  | r::rows,i,h=>by
    unfold mapFind at h
    cases hb:V.eqv key (r.headD V.undef) with
    | true=>rw [hb] at h;cases h;exact Nat.succ_pos _
    | false =>
      rw [hb,cond_false] at h
      cases hm:mapFind key rows with
      | none=>rw [hm] at h;cases h
      | some j =>
        rw [hm] at h
        cases h
        have:=P_n key rows j hm
        rw [List.length_cons]
        exact Nat.succ_lt_succ this
theorem U_F (l:Rows) (key:V):∃ n,mapGet (pmap l) key (V.int .i64 0)=V.int .i64 n:=by
  unfold mapGet
  cases hm:mapFind key (pmap l) with
  | none=>exact ⟨0,rfl⟩
  | some i =>
    have hi:=P_n _ _ _ hm
    rw [Q_l,List.length_map,A_q] at hi
    refine ⟨(i:Int),?_⟩
    show ((pmap l).getD i []).getD 1 V.undef=_
    rw [Q_l]
    have:=Q_g (m_a l) (l.length:Int) (i:Int) [] (by omega) (by omega)
    rw [Int.toNat_natCast] at this
    rw [this]
    rfl
theorem g_O (r0:Rows) (i1 i2:Int) (l:Rows) (h:D') (p:C') (r32:Rows) (hd:l.Pairwise l_9) (hl:l.length<=1099511627776) (e:Rows->Option R) (m:Nat) (hm:((l.length:Int)-0).toNat+1<=m) :
    C_C r0 i1 i2 l (l.length:Int) h p r32 l m 0 [] (fun _ z=>e z)=e (pmap l):=by
  rw [Q_l]
  refine (A_o (b:=(l.length:Int)) (L:=fun n i s=>C_C r0 i1 i2 l (l.length:Int) h p r32 l n i s (fun _ z=>e z)) (g:=fun s i=>s++[m_a l i]) (e:=e) (fun i t=>0<=i/\t=(A_n 0 i).map (m_a l)) ?_ ?_ m 0 [] ⟨Int.le_refl 0,rfl⟩ hm).trans ?_
  · intro n i t ⟨h0,hb⟩
    show I_C r0 i1 i2 l (l.length:Int) h p r32 l i t _ _=_
    unfold I_C
    by_cases hi:i<(l.length:Int)
    · subst hb
      simp only [decide_eq_true hi,cond_true,A_c h0 hi,P_m,Bool.and_true]
      rw [w64 (n:=i+1) (by omega) (by omega),b_i (rows:=(A_n 0 i).map (m_a l))]
      · rfl
      · intro r hr
        obtain ⟨j,hj,rfl⟩:=List.mem_map.1 hr
        have hj:=l_6 hj
        rw [T_m,<- Bool.not_eq_true,V_w]
        have hjl:j.toNat<l.length:=by omega
        have hil:i.toNat<l.length:=by omega
        have:=List.pairwise_iff_getElem.1 hd j.toNat i.toNat hjl hil (by omega)
        intro he
        apply this
        rw [List.getD_eq_getElem?_getD,List.getD_eq_getElem?_getD,List.getElem?_eq_getElem hjl,List.getElem?_eq_getElem hil] at he
        exact he.symm
    · simp only [decide_eq_false hi,cond_false]
  · intro i t ⟨h0,hb⟩ hi
    refine ⟨by omega,?_⟩
    rw [hb,Q_4 (by omega),List.map_append]
    rfl
  · rw [A_4,List.nil_append]
def sv4 (l r:Rows):Option V:=C_D l (l.length:Int) r (N_s l (l.length:Int) 0 r) 0 (fun _=>some (V.tup [V.data A_b.sh r,V.int .i64 0])) some
theorem b_v (h1:h_Q) (h2:o_z):o_B:=w_6 h1 h2 fun h p l hp _=>by
  unfold O_R at hp
  rw [Bool.and_eq_true] at hp
  have hc:G_Y h p=0:=beq_iff_eq.1 hp.1
  have hl:l.length<=1048576:=Nat.le_of_ble_eq_true hp.2
  have ht:=M_h h
  unfold T_5 Q_t
  refine (A_7 (b:=((B_f h).length:Int)) (f:=fun t=>[D_7 h p t]) (L:=fun n i s=>D_A l ((B_f h).length:Int) h p n i s (fun _ r=>sv4 l r) some) (e:=sv4 l) 1 0 (fun _ _ _=>Nat.le_refl _) ?_ _ [] (Nat.le_refl _) (Nat.le_refl _)).trans ?_
  · intro n i s h0 hs
    show I_E l ((B_f h).length:Int) h p i s _ _ _=_
    unfold I_E
    by_cases hi:i<((B_f h).length:Int)
    · have hz:(M_x h p i).2=0:=by
        unfold M_x
        rw [A_I.2 ⟨hc,h0,hi⟩]
        rfl
      have hroom:roomOK (s.length+1) 32=true:=A_w (by omega)
      simp only [decide_eq_true hi,cond_true,hz,bne_self_eq_false,cond_false]
      refine (g_O (hd:=g_N h p i) (hl:=Nat.le_trans (P_l h p i) (by omega)) (e:=_) (hm:=Nat.le_refl _) ..).trans ?_
      simp only [hroom,cond_true]
      rw [w64 (n:=i+1) (by omega) (by omega)]
      rfl
    · simp only [decide_eq_false hi,cond_false]
  · rw [List.nil_append,<- List.map_eq_flatMap]
    unfold sv4
    refine (A_A (a:=0) (b:=(l.length:Int)) (L:=fun n i=>C_D l (l.length:Int) ((A_n 0 ((B_f h).length:Int)).map (D_7 h p)) n i (fun _=>some (V.tup [V.data A_b.sh ((A_n 0 ((B_f h).length:Int)).map (D_7 h p)),V.int .i64 0])) some) (ok:=fun i=>F_l h p (V'.of (List.getD l i.toNat []))) (e:=some (V.tup [V.data A_b.sh ((A_n 0 ((B_f h).length:Int)).map (D_7 h p)),V.int .i64 0])) (x:=some (V.tup [V.data A_b.sh [],V.int .i64 1])) (fun n i h0=>?_) _ (Nat.le_refl _)).trans ?_
    · show I_G l (l.length:Int) ((A_n 0 ((B_f h).length:Int)).map (D_7 h p)) i _ _ _=_
      unfold I_G
      by_cases hi:i<(l.length:Int)
      · have hlen:((A_n 0 ((B_f h).length:Int)).map (D_7 h p)).length=(B_f h).length:=by rw [List.length_map,A_q];omega
        simp only [decide_eq_true hi,cond_true,A_c h0 hi,hlen]
        generalize V'.of (List.getD l i.toNat [])=s
        unfold F_l
        by_cases c1:s.Tile<0
        · simp only [decide_eq_true c1,Bool.not_true,Bool.false_and,cond_false]
          rfl
        · by_cases c2:s.Tile >= ((B_f h).length:Int)
          · simp only [decide_eq_false c1,decide_eq_true c2,Bool.not_true,Bool.not_false,Bool.false_and,Bool.true_and,cond_false,cond_true,beq_self_eq_true]
          · by_cases c3:s.Span.From<0
            · simp only [decide_eq_false c1,decide_eq_false c2,decide_eq_true c3,Bool.not_true,Bool.not_false,Bool.false_and,Bool.true_and,cond_false,cond_true,beq_self_eq_true]
            · by_cases c4:s.Span.To<s.Span.From
              · simp only [decide_eq_false c1,decide_eq_false c2,decide_eq_false c3,decide_eq_true c4,Bool.not_true,Bool.not_false,Bool.false_and,Bool.true_and,cond_false,cond_true,beq_self_eq_true]
              · have ht0:0<=s.Tile:=by omega
                have ht1:s.Tile<((B_f h).length:Int):=by omega
                have e1:V.toMap (List.getD (List.getD ((A_n 0 ((B_f h).length:Int)).map (D_7 h p)) s.Tile.toNat []) 1 V.undef)=pmap (M_x h p s.Tile).1:=by
                  rw [Q_g (D_7 h p) _ _ _ ht0 ht1];rfl
                obtain ⟨g,hg⟩:=U_F (M_x h p s.Tile).1 (G'.v s.ID)
                have hk:keyOK Tryz.prog A_0 (G'.v s.ID) (pmap (M_x h p s.Tile).1)=true:=P_m _ _ _
                simp only [decide_eq_false c1,decide_eq_false c2,decide_eq_false c3,decide_eq_false c4,Bool.not_true,Bool.not_false,Bool.false_and,Bool.true_and,cond_false,cond_true,beq_self_eq_true,A_c ht0 ht1,e1,hg,y_r,hk,Bool.and_self,U_E]
                rw [w64 (n:=i+1) (by omega) (by omega)]
                cases T_O (M_x h p s.Tile).1 s.ID <;> rfl
      · simp only [decide_eq_false hi,cond_false]
    · rw [B_I fun w=>F_l h p (V'.of w)]
      cases l.all fun w=>F_l h p (V'.of w) <;> rfl
theorem V_x {α β:Type} (F:List α->List β) (l:List (List α)):(A_n 0 (l.length:Int)).flatMap (fun i=>F (l.getD i.toNat []))=l.flatMap F:=by
  rw [List.flatMap_def,List.flatMap_def,D_5 F l]
theorem H_d {α β:Type} (c:α->Bool) (g:α->β):∀ l:List α,l.flatMap (fun w=>bif c w then [g w] else [])=(l.filter c).map g
  | []=>rfl
  | w::l=>by
    rw [List.flatMap_cons,H_d c g l,List.filter_cons]
    cases c w <;> rfl
theorem Q_m {l:Rows} {i:Int} (h0:0<=i) (h1:i<(l.length:Int)):List.getD l i.toNat [] ∈ l:=by
  have hi:i.toNat<l.length:=by omega
  rw [List.getD_eq_getElem?_getD,List.getElem?_eq_getElem hi]
  exact List.getElem_mem hi
theorem N_2 (h:D') (p:C') (t:Int):(P_R h p t).1.length<=25165824:=by
  rw [(f_F h p t).2.length_eq]
  exact P_l h p t
theorem b_w (h1:r_s) (h2:C_X) (h3:p_b):p_d:=x_V h1 h2 h3 fun h p tile _=>by
  have hlen:=N_2 h p tile
  unfold P_R at hlen
  unfold U_e P_R
  simp only [C_i] at hlen ⊢
  by_cases hz:T_r h p tile=0
  · have hpre:O_U h p tile=true:=by unfold O_U;rw [C_i];exact beq_iff_eq.2 hz
    simp only [hz,bne_self_eq_false,cond_false,List.length_map] at hlen
    have hpre2:B_K (R_k h p tile)=true:=by
      unfold B_K
      unfold A_h at hlen
      rw [B_6] at hlen
      exact Nat.ble_eq_true_of_le (by omega)
    simp only [hz,bne_self_eq_false,cond_false,hpre,hpre2,cond_true]
    refine (A_7 (b:=((A_h (R_k h p tile)).length:Int)) (L:=fun n i s=>D_L (A_h (R_k h p tile)) n i s (fun _ r=>some (V.tup [V.data F'.sh r,V.int .i64 0]))) (f:=fun i=>[G'.row (G'.of (List.getD (A_h (R_k h p tile)) i.toNat []))]) (e:=fun r=>some (V.tup [V.data F'.sh r,V.int .i64 0])) 1 0 (fun _ _ _=>Nat.le_refl _) ?_ _ [] (Nat.le_refl _) (Nat.le_refl _)).trans ?_
    · intro n i s h0 h1
      show J_d (A_h (R_k h p tile)) i s _ _=_
      unfold J_d
      by_cases hi:i<((A_h (R_k h p tile)).length:Int)
      · have hroom:roomOK (s.length+1) 32=true:=A_w (by omega)
        simp only [decide_eq_true hi,cond_true,A_c h0 hi,hroom]
        rw [w64 (n:=i+1) (by omega) (by omega)]
      · simp only [decide_eq_false hi,cond_false]
    · rw [List.nil_append,<- List.map_eq_flatMap,D_5 fun w=>G'.row (G'.of w)]
  · simp only [bne_iff_ne.2 hz,cond_true]
theorem b_x (h1:c_F) (h2:p_d):p_f:=x_W h1 h2 fun h p _=>by
  have ht:=M_h h
  unfold U_f f_T
  rw [B_5,List.map_eq_flatMap]
  refine (A_7 (b:=((B_f h).length:Int)) (f:=fun t=>[[V.data G'.sh (P_R h p t).1]]) (L:=fun n i s=>D_M ((B_f h).length:Int) h p n i s (fun _ r=>some (V.data [.sl F'.sh] r))) (e:=fun r=>some (V.data [.sl F'.sh] r)) 1 0 (fun _ _ _=>Nat.le_refl _) ?_ _ [] (Nat.le_refl _) (Nat.le_refl _)).trans ?_
  · intro n i s h0 hs
    show J_f ((B_f h).length:Int) h p i s _ _=_
    unfold J_f
    by_cases hi:i<((B_f h).length:Int)
    · have hroom:roomOK (s.length+1) 24=true:=A_w (by omega)
      simp only [decide_eq_true hi,cond_true,hroom]
      rw [w64 (n:=i+1) (by omega) (by omega)]
    · simp only [decide_eq_false hi,cond_false]
  · rw [List.nil_append]
theorem b_y (h1:p_f) (h2:p_h):p_j:=x_Y h1 h2 fun h p l hp _=>by
  have hl:l.length<=1048576:=Nat.le_of_ble_eq_true hp
  unfold U_h V_6
  refine (A_A (a:=0) (b:=(l.length:Int)) (L:=fun n i=>D_O (f_T h p) l (l.length:Int) n i (fun _=>some (V.int .i64 0)) some) (ok:=fun i=>H_B h p (V'.of (List.getD l i.toNat []))) (e:=some (V.int .i64 0)) (x:=some (V.int .i64 1)) (fun n i h0=>?_) _ (Nat.le_refl _)).trans ?_
  · show J_j (f_T h p) l (l.length:Int) i _ _ _=_
    unfold J_j
    by_cases hi:i<(l.length:Int)
    · have hlen:(f_T h p).length=(B_f h).length:=by unfold f_T;rw [List.length_map,A_q];omega
      simp only [decide_eq_true hi,cond_true,A_c h0 hi,hlen]
      generalize V'.of (List.getD l i.toNat [])=s
      unfold H_B
      by_cases c1:s.Tile<0
      · simp only [decide_eq_true c1,Bool.not_true,Bool.false_and,cond_false]
        rfl
      · by_cases c2:s.Tile >= ((B_f h).length:Int)
        · simp only [decide_eq_false c1,decide_eq_true c2,Bool.not_true,Bool.not_false,Bool.false_and,Bool.true_and,cond_false,cond_true,beq_self_eq_true]
        · by_cases c3:s.Span.From<0
          · simp only [decide_eq_false c1,decide_eq_false c2,decide_eq_true c3,Bool.not_true,Bool.not_false,Bool.false_and,Bool.true_and,cond_false,cond_true,beq_self_eq_true]
          · by_cases c4:s.Span.From > s.Span.To
            · simp only [decide_eq_false c1,decide_eq_false c2,decide_eq_false c3,decide_eq_true c4,Bool.not_true,Bool.not_false,Bool.false_and,Bool.true_and,cond_false,cond_true,beq_self_eq_true]
            · have ht0:0<=s.Tile:=by omega
              have ht1:s.Tile<((B_f h).length:Int):=by omega
              have e1:V.toRows (List.getD (List.getD (f_T h p) s.Tile.toNat []) 0 V.undef)=(P_R h p s.Tile).1:=by
                unfold f_T
                rw [Q_g (fun t=>[V.data G'.sh (P_R h p t).1]) _ _ _ ht0 ht1];rfl
              have hpl:V_i (P_R h p s.Tile).1 s.ID=true:=Nat.ble_eq_true_of_le (Nat.le_trans (N_2 h p s.Tile) (by omega))
              simp only [decide_eq_false c1,decide_eq_false c2,decide_eq_false c3,decide_eq_false c4,Bool.not_true,Bool.not_false,Bool.false_and,Bool.true_and,cond_false,cond_true,beq_self_eq_true,A_c ht0 ht1,e1,hpl]
              rw [w64 (n:=i+1) (by omega) (by omega)]
              cases decide (h_F (P_R h p s.Tile).1 s.ID<0) <;> rfl
    · simp only [decide_eq_false hi,cond_false]
  · rw [B_I fun w=>H_B h p (V'.of w)]
    cases l.all fun w=>H_B h p (V'.of w) <;> rfl
theorem b_z (h1:r_z) (h2:r_E) (h3:r_I):p_x:=y_k h1 h2 h3 fun h p t id v hp _=>by
  unfold O_W at hp
  rw [Bool.and_eq_true] at hp
  have hl:(f_V h p t id).length<=1099511627776:=Nat.le_of_ble_eq_true hp.1
  have hall:=List.all_eq_true.1 hp.2
  unfold U_j j_M
  simp only []
  generalize hB:f_V h p t id=B at *
  cases decide (id.Layer >= j_I p v) with
  | true=>rfl
  | false =>
    simp only [cond_false]
    refine (A_A (a:=0) (b:=(B.length:Int)) (L:=fun n i=>D_P t B (B.length:Int) h p v n i (fun _=>some (V.bool false)) some) (ok:=fun i=>!b_K h p t (N'.of (List.getD B i.toNat [])) v) (e:=some (V.bool false)) (x:=some (V.bool true)) (fun n i h0=>?_) _ (Nat.le_refl _)).trans ?_
    · show J_t t B (B.length:Int) h p v i _ _ _=_
      unfold J_t
      by_cases hi:i<(B.length:Int)
      · simp only [decide_eq_true hi,cond_true,A_c h0 hi,hall _ (Q_m h0 hi)]
        rw [w64 (n:=i+1) (by omega) (by omega)]
        cases b_K h p t (N'.of (List.getD B i.toNat [])) v <;> rfl
      · simp only [decide_eq_false hi,cond_false]
    · rw [B_I fun w=>!b_K h p t (N'.of w) v]
      have:(B.all fun w=>!b_K h p t (N'.of w) v)=!(B.any fun w=>b_K h p t (N'.of w) v):=by rw [List.not_any_eq_all_not]
      rw [this]
      cases B.any fun w=>b_K h p t (N'.of w) v <;> rfl
def j_g (l:Rows):Prop:=∀ w ∈ l,U'.row (U'.of w)=w
theorem M_B (a:Rows) (x:List V) (b:Rows):List.getD (a++x::b) a.length []=x:=by
  rw [List.getD_eq_getElem?_getD,List.getElem?_append_right (Nat.le_refl _),Nat.sub_self];rfl
theorem U_G (a:Rows) (x z:List V) (b:Rows):(a++x::b).set a.length z=a++z::b:=by
  rw [List.set_append_right _ _ (Nat.le_refl _),Nat.sub_self];rfl
theorem J_W {w:List V} (hw:U'.row (U'.of w)=w) (s:U'):setCells w 0 (U'.row s)=U'.row s:=by
  rw [<- hw];rfl
theorem q_r (i0:Int) (e:Rows->Option R) (x:List V) (hx:U'.row (U'.of x)=x):∀ (r q:Rows) (n:Nat),j_g r->r.length<=600->r.length+1<=n ->
    D_S i0 n (r.length:Int) (r.reverse++x::q) (fun _ z=>e z)=e ((r.dropWhile (B_v x)).reverse++x::((r.takeWhile (B_v x)).reverse++q))
  | [],q,n,hr,hl,hn=>by
    obtain ⟨n,rfl⟩:∃ k,n=k+1:=⟨n-1,by omega⟩
    show D_R i0 _ _ _ _=_
    unfold D_R
    have c:decide (((0:Nat):Int) > 0)=false:=rfl
    simp only [List.length_nil,List.reverse_nil,List.nil_append,c]
    simp only [show (!(false==true))=true from rfl,Bool.or_true,cond_true,cond_false]
    rfl
  | y::r,q,n,hr,hl,hn=>by
    obtain ⟨n,rfl⟩:∃ k,n=k+1:=⟨n-1,by omega⟩
    show D_R i0 _ _ _ _=_
    unfold D_R
    have hy:U'.row (U'.of y)=y:=hr y (List.mem_cons_self ..)
    have hpos:((y::r).length:Int) > 0:=by rw [List.length_cons];omega
    have hw:IntKind.wrap .i64 (((y::r).length:Int)-1)=(r.length:Int):=by
      rw [List.length_cons] at hl ⊢
      rw [w64 (by omega) (by omega)];omega
    have e1:(y::r).reverse++x::q=r.reverse++y::x::q:=by rw [List.reverse_cons,List.append_assoc];rfl
    have e2:r.reverse++y::x::q=(r.reverse++[y])++x::q:=by rw [List.append_assoc];rfl
    have hlen:(r.reverse++y::x::q).length=r.length+q.length+2:=by simp only [List.length_append,List.length_reverse,List.length_cons];omega
    have i1:inR ((y::r).length:Int) (r.reverse++y::x::q).length=true:=A_c (by omega) (by rw [hlen,List.length_cons];omega)
    have i2:inR (r.length:Int) (r.reverse++y::x::q).length=true:=A_c (by omega) (by rw [hlen];omega)
    have g1:List.getD (r.reverse++y::x::q) ((y::r).length) []=x:=by
      have:=M_B (r.reverse++[y]) x q
      rw [List.length_append,List.length_reverse] at this
      rw [e2];exact this
    have g2:List.getD (r.reverse++y::x::q) r.length []=y:=by
      have:=M_B r.reverse y (x::q)
      rwa [List.length_reverse] at this
    rw [e1]
    simp only [decide_eq_true hpos,hw,i1,i2,Bool.true_or,cond_true,Int.toNat_natCast,g1,g2]
    have e3:decide (V.toInt (List.getD x 0 V.undef)<V.toInt (List.getD y 0 V.undef))=B_v x y:=rfl
    rw [e3,List.dropWhile_cons,List.takeWhile_cons]
    cases hlt:B_v x y with
    | false=>simp only [cond_false,Bool.false_eq_true,if_false,List.reverse_cons,List.append_assoc,List.reverse_nil,List.nil_append,List.singleton_append]
    | true =>
      have s1:(r.reverse++y::x::q).set ((y::r).length) (setCells x 0 (U'.row (U'.of y)))=r.reverse++y::y::q:=by
        have:=U_G (r.reverse++[y]) x y q
        rw [List.length_append,List.length_reverse] at this
        rw [J_W hx,hy,e2]
        refine this.trans ?_
        rw [List.append_assoc];rfl
      have hlen2:(r.reverse++y::y::q).length=(r.reverse++y::x::q).length:=by simp only [List.length_append,List.length_cons]
      have g3:List.getD (r.reverse++y::y::q) r.length []=y:=by
        have:=M_B r.reverse y (y::q)
        rwa [List.length_reverse] at this
      have s2:(r.reverse++y::y::q).set r.length (setCells y 0 (U'.row (U'.of x)))=r.reverse++x::y::q:=by
        have:=U_G r.reverse y x (y::q)
        rw [List.length_reverse] at this
        rw [J_W hy,hx];exact this
      simp only [cond_true,if_true,s1,hlen2,i2,g3,s2]
      refine (q_r i0 e x hx r (y::q) n (fun w hw=>hr w (List.mem_cons_of_mem _ hw)) (by rw [List.length_cons] at hl;omega) (by rw [List.length_cons] at hn;omega)).trans ?_
      rw [List.reverse_cons,List.append_assoc]
      rfl
theorem q_s (e:Rows->Option R):∀ (d n i:Nat) (s rest:Rows),rest.length=d->s.length=i->d+1<=n->i+d<=600->j_g (s++rest) ->
    B_B n (i:Int) (s++rest) (fun _ z=>e z)=e (rest.foldl (c_x B_v) s)
  | 0,n,i,s,rest,hd,hs,hn,hl,hnm=>by
    obtain ⟨n,rfl⟩:∃ k,n=k+1:=⟨n-1,by omega⟩
    have:rest=[]:=List.length_eq_zero_iff.1 hd
    subst this
    show D_T _ _ _ _=_
    unfold D_T
    have h1:¬ (i:Int)<((s++[]).length:Int):=by rw [List.append_nil];omega
    simp only [decide_eq_false h1,cond_false]
    rw [List.append_nil]
    rfl
  | d+1,n,i,s,x::rest,hd,hs,hn,hl,hnm=>by
    obtain ⟨n,rfl⟩:∃ k,n=k+1:=⟨n-1,by omega⟩
    rw [List.length_cons] at hd
    show D_T _ _ _ _=_
    unfold D_T
    have h1:(i:Int)<((s++x::rest).length:Int):=by rw [List.length_append,List.length_cons];omega
    have hx:U'.row (U'.of x)=x:=hnm x (List.mem_append_right _ (List.mem_cons_self ..))
    have hsn:j_g s.reverse:=fun w hw=>hnm w (List.mem_append_left _ (List.mem_reverse.1 hw))
    simp only [decide_eq_true h1,cond_true]
    have hi:(i:Int)=(s.reverse.length:Int):=by rw [List.length_reverse,hs]
    have hss:s++x::rest=s.reverse.reverse++x::rest:=by rw [List.reverse_reverse]
    have hp:=T_e B_v s x
    have:=q_s e d n (i+1) (c_x B_v s x) rest (by omega) (by rw [hp.length_eq,List.length_cons,hs]) (by omega) (by omega) (by
      intro w hw
      rcases List.mem_append.1 hw with hw | hw
      · rcases List.mem_cons.1 (hp.mem_iff.1 hw) with rfl | hw
        · exact hx
        · exact hnm w (List.mem_append_left _ hw)
      · exact hnm w (List.mem_append_right _ (List.mem_cons_of_mem _ hw)))
    rw [show ((i+1:Nat):Int)=(i:Int)+1 by omega] at this
    rw [w64 (n:=(i:Int)+1) (by omega) (by omega)]
    rw [List.foldl_cons,<- this,hss,hi]
    refine (q_r (s.reverse.length:Int) (fun z=>B_B n ((s.reverse.length:Int)+1) z fun _ z=>e z) x hx s.reverse rest _ hsn (by rw [List.length_reverse];omega) (by unfold N_D;omega)).trans ?_
    unfold c_x
    rw [List.append_assoc]
    rfl
theorem b_A (e:Rows->Option R) (l:Rows) (hl:l.length<=600) (hn:j_g l):B_B (F_B 1 l) 1 l (fun _ z=>e z)=e (N_b B_v l):=by
  unfold F_B
  simp only []
  cases l with
  | nil=>rfl
  | cons x l =>
    rw [List.length_cons] at hl
    have:=q_s e l.length (Int.toNat (((x::l).length:Int)-1)+1) 1 [x] l rfl rfl (by rw [List.length_cons];omega) (by omega) hn
    exact this
theorem C_Q (o:Rows) (w:List V):(A_W o w).length<=o.length+1:=by
  unfold A_W
  cases (decide (0<o.length)&&decide ((U'.of w).From<=V.toInt (List.getD (List.getD o (o.length-1) []) 1 V.undef))) with
  | true=>rw [cond_true,List.length_set];omega
  | false=>rw [cond_false,List.length_append];exact Nat.le_refl _
theorem q_t (z:Rows) (hz:z.length<=600) (e:Rows->Option R) (n:Nat) (hn:((z.length:Int)-0).toNat+1<=n):B_C (z.length:Int) z n 0 [] (fun _ r=>e r)=e (P_Q z):=by
  refine (A_o (b:=(z.length:Int)) (L:=fun n i s=>B_C (z.length:Int) z n i s (fun _ r=>e r)) (g:=fun s i=>A_W s (List.getD z i.toNat [])) (e:=e) (fun i s=>0<=i/\s.length<=i.toNat) ?_ ?_ n 0 [] ⟨Int.le_refl 0,Nat.le_refl 0⟩ hn).trans ?_
  · intro n i s ⟨h0,hs⟩
    show J_A (z.length:Int) z i s _ _=_
    unfold J_A A_W
    by_cases hi:i<(z.length:Int)
    · have hroom:roomOK (s.length+1) 16=true:=A_w (by omega)
      simp only [decide_eq_true hi,cond_true,A_c h0 hi,hroom]
      rw [w64 (n:=i+1) (by omega) (by omega),w64 (n:=(s.length:Int)-1) (by omega) (by omega)]
      by_cases hp:0<s.length
      · have hp2:(s.length:Int)-1 >= 0:=by omega
        have e1:((s.length:Int)-1).toNat=s.length-1:=by omega
        simp only [decide_eq_true hp,decide_eq_true hp2,A_c (i:=(s.length:Int)-1) (n:=s.length) hp2 (by omega),Bool.true_or,Bool.true_and,cond_true,e1]
        cases decide ((U'.of (List.getD z i.toNat [])).From<=V.toInt (List.getD (List.getD s (s.length-1) []) 1 V.undef)) <;> rfl
      · have hp2:¬ (s.length:Int)-1 >= 0:=by omega
        simp only [decide_eq_false hp,decide_eq_false hp2,Bool.false_and,cond_false,show (!(false==true))=true from rfl,Bool.or_true,cond_true]
    · simp only [decide_eq_false hi,cond_false]
  · intro i s ⟨h0,hs⟩ hi
    refine ⟨by omega,?_⟩
    have:=C_Q s (List.getD z i.toNat [])
    omega
  · rw [B_P A_W]
    rfl
theorem q_u (z:Rows) (hz:z.length<=600) (e:Rows->Option R) (n:Nat) (hn:((z.length:Int)-0).toNat+1<=n):B_Z (z.length:Int) z n 0 [] (fun _ r=>e r)=e (P_Q z):=by
  refine (A_o (b:=(z.length:Int)) (L:=fun n i s=>B_Z (z.length:Int) z n i s (fun _ r=>e r)) (g:=fun s i=>A_W s (List.getD z i.toNat [])) (e:=e) (fun i s=>0<=i/\s.length<=i.toNat) ?_ ?_ n 0 [] ⟨Int.le_refl 0,Nat.le_refl 0⟩ hn).trans ?_
  · intro n i s ⟨h0,hs⟩
    show I_X (z.length:Int) z i s _ _=_
    unfold I_X A_W
    by_cases hi:i<(z.length:Int)
    · have hroom:roomOK (s.length+1) 16=true:=A_w (by omega)
      simp only [decide_eq_true hi,cond_true,A_c h0 hi,hroom]
      rw [w64 (n:=i+1) (by omega) (by omega),w64 (n:=(s.length:Int)-1) (by omega) (by omega)]
      by_cases hp:0<s.length
      · have hp2:(s.length:Int)-1 >= 0:=by omega
        have hp3:(s.length:Int) > 0:=by omega
        have e1:((s.length:Int)-1).toNat=s.length-1:=by omega
        simp only [decide_eq_true hp,decide_eq_true hp3,A_c (i:=(s.length:Int)-1) (n:=s.length) hp2 (by omega),Bool.true_or,Bool.true_and,cond_true,e1]
        cases decide ((U'.of (List.getD z i.toNat [])).From<=V.toInt (List.getD (List.getD s (s.length-1) []) 1 V.undef)) <;> rfl
      · have hp3:¬ (s.length:Int) > 0:=by omega
        simp only [decide_eq_false hp,decide_eq_false hp3,Bool.false_and,cond_false,show (!(false==true))=true from rfl,Bool.or_true,cond_true]
    · simp only [decide_eq_false hi,cond_false]
  · intro i s ⟨h0,hs⟩ hi
    refine ⟨by omega,?_⟩
    have:=C_Q s (List.getD z i.toNat [])
    omega
  · rw [B_P A_W]
    rfl
def B_7:List U'->U'->List U'
  | [],x=>[x]
  | s::r,x=>bif decide (x.From<=s.To) then ⟨s.From,bif decide (x.To > s.To) then x.To else s.To⟩::r else x::s::r
theorem b_B {x y:U'} (hf:x.From=y.From) (hx:x.From<x.To) (hy:y.From<y.To):∀ o,B_7 (B_7 o x) y=B_7 (B_7 o y) x
  | []=>by
    obtain ⟨f,a⟩:=x
    obtain ⟨g,b⟩:=y
    simp only at hf hx hy
    subst hf
    have h1:f<=a:=by omega
    have h2:f<=b:=by omega
    simp only [B_7,decide_eq_true h1,decide_eq_true h2,cond_true]
    by_cases h:a=b
    · subst h;rfl
    · by_cases h3:b > a
      · have h4:¬ a > b:=by omega
        simp only [decide_eq_true h3,decide_eq_false h4,cond_true,cond_false]
      · have h4:a > b:=by omega
        simp only [decide_eq_false h3,decide_eq_true h4,cond_true,cond_false]
  | ⟨u,t⟩::r=>by
    obtain ⟨f,a⟩:=x
    obtain ⟨g,b⟩:=y
    simp only at hf hx hy
    subst hf
    have h1:f<=a:=by omega
    have h2:f<=b:=by omega
    by_cases ht:f<=t
    · simp only [B_7,decide_eq_true ht,cond_true]
      have m1:f<=(bif decide (a > t) then a else t):=by
        by_cases h:a > t
        · rw [decide_eq_true h];exact h1
        · rw [decide_eq_false h];exact ht
      have m2:f<=(bif decide (b > t) then b else t):=by
        by_cases h:b > t
        · rw [decide_eq_true h];exact h2
        · rw [decide_eq_false h];exact ht
      simp only [decide_eq_true m1,decide_eq_true m2,cond_true]
      congr 2
      by_cases ha:a > t <;> by_cases hb:b > t <;> simp only [ha,hb,decide_true,decide_false,cond_true,cond_false]
      · by_cases h3:b > a
        · have h4:¬ a > b:=by omega
          simp only [decide_eq_true h3,decide_eq_false h4,cond_true,cond_false]
        · by_cases h4:a > b
          · simp only [decide_eq_false h3,decide_eq_true h4,cond_true,cond_false]
          · simp only [decide_eq_false h3,decide_eq_false h4,cond_false];omega
      · have h3:¬ b > a:=by omega
        simp only [decide_eq_false h3,cond_false]
      · have h3:¬ a > b:=by omega
        simp only [decide_eq_false h3,cond_false]
    · simp only [B_7,decide_eq_false ht,cond_false,decide_eq_true h1,decide_eq_true h2,cond_true]
      by_cases h:a=b
      · subst h;rfl
      · by_cases h3:b > a
        · have h4:¬ a > b:=by omega
          simp only [decide_eq_true h3,decide_eq_false h4,cond_true,cond_false]
        · have h4:a > b:=by omega
          simp only [decide_eq_false h3,decide_eq_true h4,cond_true,cond_false]
theorem P_o {x:U'} (hx:x.From<x.To):∀ (A:List U') (B o:List U'),(∀ a ∈ A,a.From=x.From/\a.From<a.To)->(A++x::B).foldl B_7 o=(x::(A++B)).foldl B_7 o
  | [],B,o,_=>rfl
  | a::A,B,o,h=>by
    have ha:=h a (List.mem_cons_self ..)
    have ih:=P_o hx A B (B_7 o a) fun y hy=>h y (List.mem_cons_of_mem _ hy)
    show (A++x::B).foldl B_7 (B_7 o a)=((A++B).foldl B_7 (B_7 (B_7 o x) a))
    rw [ih,<- b_B ha.1 ha.2 hx]
    rfl
theorem T_n:∀ (z z' o:List U'),z.Perm z'->z.Pairwise (fun a b=>a.From<=b.From)->z'.Pairwise (fun a b=>a.From<=b.From)->(∀ a ∈ z,a.From<a.To)->z.foldl B_7 o=z'.foldl B_7 o
  | [],z',o,hp,_,_,_=>by rw [List.Perm.nil_eq hp]
  | x::t,z',o,hp,h1,h2,h3=>by
    have hx:=h3 x (List.mem_cons_self ..)
    obtain ⟨A,B,rfl⟩:=List.append_of_mem (hp.mem_iff.1 (List.mem_cons_self ..))
    have p1:=List.pairwise_cons.1 h1
    have p2:=List.pairwise_append.1 h2
    have hA:∀ a ∈ A,a.From=x.From/\a.From<a.To:=by
      intro a ha
      have hm:a ∈ x::t:=hp.mem_iff.2 (List.mem_append_left _ ha)
      have hle:=p2.2.2 a ha x (List.mem_cons_self ..)
      refine ⟨?_,h3 a hm⟩
      rcases List.mem_cons.1 hm with rfl | hm
      · rfl
      · have:=p1.1 a hm
        omega
    rw [P_o hx A B o hA]
    show t.foldl B_7 (B_7 o x)=(A++B).foldl B_7 (B_7 o x)
    refine T_n t (A++B) (B_7 o x) (List.Perm.cons_inv (hp.trans List.perm_middle)) p1.2 ?_ fun a ha=>h3 a (List.mem_cons_of_mem _ ha)
    rw [List.pairwise_append]
    exact ⟨p2.1,(List.pairwise_cons.1 p2.2.1).2,fun a ha b hb=>p2.2.2 a ha b (List.mem_cons_of_mem _ hb)⟩
theorem N_3 (s:U'):U'.of (U'.row s)=s:=rfl
theorem Q_n (o:List U') (x:U'):A_W ((o.map U'.row).reverse) (U'.row x)=((B_7 o x).map U'.row).reverse:=by
  cases o with
  | nil=>rfl
  | cons s r =>
    unfold A_W
    have e1:((s::r).map U'.row).reverse=(r.map U'.row).reverse++U'.row s::[]:=by rw [List.map_cons,List.reverse_cons]
    have hrl:(r.map U'.row).reverse.length=r.length:=by rw [List.length_reverse,List.length_map]
    have hl:((r.map U'.row).reverse++U'.row s::[]).length=r.length+1:=by rw [List.length_append,hrl];rfl
    have hp:0<r.length+1:=by omega
    have hg:=M_B (r.map U'.row).reverse (U'.row s) []
    rw [hrl] at hg
    have hs:=fun z=>U_G (r.map U'.row).reverse (U'.row s) z []
    rw [hrl] at hs
    rw [e1]
    simp only [hl,decide_eq_true hp,Bool.true_and,Nat.add_sub_cancel,hg,hs,N_3]
    have e2:V.toInt (List.getD (U'.row s) 1 V.undef)=s.To:=rfl
    rw [e2]
    unfold B_7
    by_cases hc:x.From<=s.To
    · simp only [decide_eq_true hc,cond_true,List.map_cons,List.reverse_cons]
      rfl
    · simp only [decide_eq_false hc,cond_false,List.map_cons,List.reverse_cons]
theorem K_w:∀ (z o:List U'),(z.map U'.row).foldl A_W ((o.map U'.row).reverse)=((z.foldl B_7 o).map U'.row).reverse
  | [],o=>rfl
  | x::z,o=>by
    rw [List.map_cons,List.foldl_cons,Q_n,K_w z (B_7 o x)]
    rfl
theorem f_I {z:Rows} (h:j_g z):z=(z.map U'.of).map U'.row:=by
  rw [List.map_map]
  refine Eq.symm ((List.map_congr_left fun w hw=>?_).trans (List.map_id _))
  exact h w hw
def q_v (z:Rows):Prop:=z.Pairwise fun a b=>(U'.of a).From<=(U'.of b).From
theorem b_C {z z':Rows} (hp:z.Perm z') (h1:q_v z) (h2:q_v z') (hn:j_g z) (hv:∀ w ∈ z,(U'.of w).From<(U'.of w).To):P_Q z=P_Q z':=by
  have hn':j_g z':=fun w hw=>hn w (hp.mem_iff.2 hw)
  unfold P_Q
  rw [f_I hn,f_I hn']
  have e1:=K_w (z.map U'.of) []
  have e2:=K_w (z'.map U'.of) []
  simp only [List.map_nil,List.reverse_nil] at e1 e2
  rw [e1,e2,T_n (z.map U'.of) (z'.map U'.of) [] (hp.map _) (List.pairwise_map.2 h1) (List.pairwise_map.2 h2)]
  intro a ha
  obtain ⟨w,hw,rfl⟩:=List.mem_map.1 ha
  exact hv w hw
theorem M_C:Go.Sort.SWO B_v where
  irrefl x:=by unfold B_v;exact decide_eq_false (by omega)
  trans x y z h1 h2:=by unfold B_v at *;rw [decide_eq_true_eq] at *;omega
  ntrans x y z h1 h2:=by unfold B_v at *;rw [decide_eq_false_iff_not] at *;omega
theorem T_o (l:Rows):q_v (N_b B_v l):=(N_U M_C l).imp fun {a b} h=>by
  unfold B_v at h
  rw [decide_eq_false_iff_not] at h
  omega
theorem T_p (z:Rows):(P_Q z).length<=z.length:=by
  have:∀ (z o:Rows),(z.foldl A_W o).length<=o.length+z.length:=by
    intro z
    induction z with
    | nil=>intro o;exact Nat.le_refl _
    | cons w z ih =>
      intro o
      rw [List.foldl_cons,List.length_cons]
      have:=ih (A_W o w)
      have:=C_Q o w
      omega
  have:=this z []
  rw [List.length_nil,Nat.zero_add] at this
  exact this
def A_v (h:D') (p:C') (l:Rows) (v:O'):Rows:=(l.filter fun w=>decide ((V'.of w).Span.From<(V'.of w).Span.To)&&C_P h p (V'.of w).Tile (V'.of w).ID v).map fun w=>U'.row (V'.of w).Span
theorem F_f {α:Type} {f g:α->Bool}:∀ {l:List α},(∀ w ∈ l,f w=g w)->l.filter f=l.filter g
  | [],_=>rfl
  | a::l,h=>by rw [List.filter_cons,List.filter_cons,h a (List.mem_cons_self ..),F_f fun w hw=>h w (List.mem_cons_of_mem _ hw)]
theorem P_p {h:D'} {p:C'} {l:Rows} {v:O'} (hz:(O_Q h p v).2=0) (ha:∀ w ∈ l,F_l h p (V'.of w)=true):T_Q h p l v=A_v h p l v:=by
  have hv:=B_q hz
  have hL:=(A_D (B_g hv.1).2.2.1).1
  unfold T_Q A_v
  rw [F_f fun w hw=>?_]
  unfold m_Y
  rw [(M_m hv.2.1.1 ⟨hv.2.2.1,by omega⟩).2]
  simp only []
  rw [(N_Z hz (J_V hv.1 (ha w hw)).1).2]
theorem P_q {h:D'} {p:C'} {l:Rows} {v:O'} (hz:(O_Q h p v).2=0) (ha:∀ w ∈ l,F_l h p (V'.of w)=true):H_C h p l v=A_v h p l v:=by
  have hv:=B_q hz
  unfold H_C A_v
  rw [F_f fun w hw=>?_]
  rw [(N_0 hz (J_V hv.1 (ha w hw)).1).2]
theorem N_4 (h:D') (p:C') (l:Rows) (v:O'):(A_v h p l v).length<=l.length:=by
  unfold A_v
  rw [List.length_map]
  exact List.length_filter_le ..
theorem M_D {h:D'} {p:C'} {l:Rows} {v:O'} {w:List V} (hw:w ∈ A_v h p l v):∃ x ∈ l,w=U'.row (V'.of x).Span/\(V'.of x).Span.From<(V'.of x).Span.To:=by
  unfold A_v at hw
  obtain ⟨x,hx,rfl⟩:=List.mem_map.1 hw
  rw [List.mem_filter,Bool.and_eq_true,decide_eq_true_eq] at hx
  exact ⟨x,hx.1,rfl,hx.2.1⟩
theorem V_y (h:D') (p:C') (l:Rows) (v:O'):j_g (A_v h p l v):=by
  intro w hw
  obtain ⟨x,_,rfl,_⟩:=M_D hw
  rfl
theorem b_D (h1:r_r) (h2:p_j) (h3:p_x):r_J:=y_l h1 h2 h3 fun h p l v hp _=>by
  have hl:l.length<=600:=Nat.le_of_ble_eq_true hp
  unfold U_k V_k
  simp only [N_Q,cond_true,G_3]
  by_cases hz:(O_Q h p v).2=0
  · have hpe:V_j h p l=true:=Nat.ble_eq_true_of_le (by omega)
    simp only [hz,bne_self_eq_false,cond_false,hpe,cond_true]
    cases hall:l.all fun w=>H_B h p (V'.of w) with
    | false =>
      have he:V_6 h p l=1:=by unfold V_6;rw [hall];rfl
      simp only [he]
      rfl
    | true =>
      have he:V_6 h p l=0:=by unfold V_6;rw [hall];rfl
      have ha:∀ w ∈ l,F_l h p (V'.of w)=true:=fun w hw=>by rw [<- T_l];exact List.all_eq_true.1 hall w hw
      have hv:=B_q hz
      simp only [he,bne_self_eq_false,cond_false]
      have hlen:=N_4 h p l v
      rw [P_q hz ha]
      refine (A_7 (b:=(l.length:Int)) (f:=fun i=>(fun w=>bif decide ((V'.of w).Span.From<(V'.of w).Span.To)&&C_P h p (V'.of w).Tile (V'.of w).ID v then [U'.row (V'.of w).Span] else []) (List.getD l i.toNat [])) (L:=fun n i s=>D_Q l (l.length:Int) h p v n i s _) (e:=fun r=>B_B (F_B 1 r) 1 r (fun _ r2=>B_C (r2.length:Int) r2 (J_z (r2.length:Int) 0 r2 []) 0 [] (fun _ r3=>some (V.tup [V.data U'.sh r3,V.int .i64 0])))) 1 0 (fun i _ _=>?_) ?_ _ [] (Nat.le_refl _) (Nat.le_refl _)).trans ?_
      · simp only []
        cases (decide ((V'.of (List.getD l i.toNat [])).Span.From<(V'.of (List.getD l i.toNat [])).Span.To)&&C_P h p (V'.of (List.getD l i.toNat [])).Tile (V'.of (List.getD l i.toNat [])).ID v) <;> simp
      · intro n i s h0 hs
        show J_v l (l.length:Int) h p v i s _ _=_
        unfold J_v
        by_cases hi:i<(l.length:Int)
        · have hroom:roomOK (s.length+1) 16=true:=A_w (by omega)
          obtain ⟨w1,w2⟩:=N_0 hz (J_V hv.1 (ha _ (Q_m h0 hi))).1
          simp only [decide_eq_true hi,cond_true,A_c h0 hi,w1,w2,hroom]
          rw [w64 (n:=i+1) (by omega) (by omega)]
          cases decide ((V'.of (List.getD l i.toNat [])).Span.From<(V'.of (List.getD l i.toNat [])).Span.To) with
          | false=>simp only [Bool.false_and,cond_false,List.append_nil,show (false==true)=false from rfl]
          | true =>
            cases C_P h p (V'.of (List.getD l i.toNat [])).Tile (V'.of (List.getD l i.toNat [])).ID v with
            | false=>simp only [Bool.true_and,cond_false,cond_true,List.append_nil,beq_self_eq_true]
            | true=>simp only [Bool.true_and,cond_true,beq_self_eq_true]
        · simp only [decide_eq_false hi,cond_false]
      · rw [List.nil_append,V_x (fun w=>bif decide ((V'.of w).Span.From<(V'.of w).Span.To)&&C_P h p (V'.of w).Tile (V'.of w).ID v then [U'.row (V'.of w).Span] else []) l,H_d]
        rw [show (l.filter fun w=>decide ((V'.of w).Span.From<(V'.of w).Span.To)&&C_P h p (V'.of w).Tile (V'.of w).ID v).map (fun w=>U'.row (V'.of w).Span)=A_v h p l v from rfl]
        refine (b_A (fun r2=>B_C (r2.length:Int) r2 (J_z (r2.length:Int) 0 r2 []) 0 [] (fun _ r3=>some (V.tup [V.data U'.sh r3,V.int .i64 0]))) (A_v h p l v) (by omega) (V_y h p l v)).trans ?_
        have hpl:=(A_6 M_C (A_v h p l v)).length_eq
        exact q_t (N_b B_v (A_v h p l v)) (by omega) (fun r3=>some (V.tup [V.data U'.sh r3,V.int .i64 0])) _ (Nat.le_refl _)
  · simp only [bne_iff_ne.2 hz,cond_true]
theorem J_X {z:Rows} (hd:∀ w ∈ z,0<=(U'.of w).From/\(U'.of w).From<9223372036854775808):sortedBy N_g z ↔ q_v z:=by
  have key:∀ a b:List V,(0<=(U'.of a).From/\(U'.of a).From<9223372036854775808)->(0<=(U'.of b).From/\(U'.of b).From<9223372036854775808)->((¬ N_g (b.map V.toInt) (a.map V.toInt)<0) ↔ (U'.of a).From<=(U'.of b).From):=by
    intro a b ha hb
    unfold N_g q_M
    rw [T_h,T_h]
    simp only []
    rw [w64 (by omega) (by omega)]
    omega
  unfold sortedBy q_v
  constructor
  · intro h
    exact (List.Pairwise.and_mem.1 h).imp fun {a b} hab=>(key a b (hd a hab.1) (hd b hab.2.1)).1 hab.2.2
  · intro h
    exact (List.Pairwise.and_mem.1 h).imp fun {a b} hab=>(key a b (hd a hab.1) (hd b hab.2.1)).2 hab.2.2
theorem g_P (s:U'):O_I ((U'.row s).map V.toInt)=(decide (0<=s.From)&&decide (s.From<9223372036854775808)):=rfl
theorem b_E (h1:q_6) (h2:o_B) (h3:r_g) (h4:r_p) (h5:M_3 Tryz.prog O_3):r_q:=x_v h1 h2 h3 h4 h5 fun h p l v hp _=>by
  unfold K_M at hp
  rw [Bool.and_eq_true] at hp
  have hl:l.length<=600:=Nat.le_of_ble_eq_true hp.1
  have hbig:=List.all_eq_true.1 hp.2
  unfold U_a f_P
  simp only [U_v,cond_true]
  by_cases hz:(O_Q h p v).2=0
  · have hv:=B_q hz
    have hL:=(A_D (B_g hv.1).2.2.1).1
    have hpe:O_R h p l=true:=by
      unfold O_R
      rw [Bool.and_eq_true]
      exact ⟨beq_iff_eq.2 hv.1,Nat.ble_eq_true_of_le (by omega)⟩
    simp only [hz,bne_self_eq_false,cond_false,hpe,cond_true]
    cases hall:l.all fun w=>F_l h p (V'.of w) with
    | false =>
      have he:(Q_t h p l).2=1:=by unfold Q_t;rw [hall];rfl
      simp only [he]
      rfl
    | true =>
      have he:(Q_t h p l).2=0:=by unfold Q_t;rw [hall];rfl
      have ha:∀ w ∈ l,F_l h p (V'.of w)=true:=fun w hw=>List.all_eq_true.1 hall w hw
      obtain ⟨n1,n2⟩:=M_m (h:=h) (p:=p) (v:=v) hv.2.1.1 ⟨hv.2.2.1,by omega⟩
      simp only [he,bne_self_eq_false,cond_false,n1,cond_true,n2]
      have hlen:=N_4 h p l v
      rw [P_p hz ha]
      refine (A_7 (b:=(l.length:Int)) (f:=fun i=>(fun w=>bif decide ((V'.of w).Span.From<(V'.of w).Span.To)&&C_P h p (V'.of w).Tile (V'.of w).ID v then [U'.row (V'.of w).Span] else []) (List.getD l i.toNat [])) (L:=fun n i s=>D_D (f_C p v) p v (B_f h) h (P_P v) l (l.length:Int) n i s _) (e:=fun r=>bif (Nat.blt (List.length r) 4611686018427387904&&true&&(r.all fun r=>O_I (r.map V.toInt))) then anyS (fun z=>z.Perm r/\sortedBy N_g z) (fun z=>B_Z (z.length:Int) z (N_w (z.length:Int) 0 z []) 0 [] (fun _ r3=>some (V.tup [V.data U'.sh r3,V.int .i64 0]))) else none) 1 0 (fun i _ _=>?_) ?_ _ [] (Nat.le_refl _) (Nat.le_refl _)).trans ?_
      · simp only []
        cases (decide ((V'.of (List.getD l i.toNat [])).Span.From<(V'.of (List.getD l i.toNat [])).Span.To)&&C_P h p (V'.of (List.getD l i.toNat [])).Tile (V'.of (List.getD l i.toNat [])).ID v) <;> simp
      · intro n i s h0 hs
        show I_V (f_C p v) p v (B_f h) h (P_P v) l (l.length:Int) i s _ _=_
        unfold I_V
        by_cases hi:i<(l.length:Int)
        · have hroom:roomOK (s.length+1) 16=true:=A_w (by omega)
          obtain ⟨w1,w2⟩:=N_Z hz (J_V hv.1 (ha _ (Q_m h0 hi))).1
          simp only [decide_eq_true hi,cond_true,A_c h0 hi,w1,w2,hroom]
          rw [w64 (n:=i+1) (by omega) (by omega)]
          cases decide ((V'.of (List.getD l i.toNat [])).Span.From<(V'.of (List.getD l i.toNat [])).Span.To) with
          | false=>simp only [Bool.false_and,cond_false,List.append_nil,show (false==true)=false from rfl]
          | true =>
            cases C_P h p (V'.of (List.getD l i.toNat [])).Tile (V'.of (List.getD l i.toNat [])).ID v with
            | false=>simp only [Bool.true_and,cond_false,cond_true,List.append_nil,beq_self_eq_true]
            | true=>simp only [Bool.true_and,cond_true,beq_self_eq_true]
        · simp only [decide_eq_false hi,cond_false]
      · rw [List.nil_append,V_x (fun w=>bif decide ((V'.of w).Span.From<(V'.of w).Span.To)&&C_P h p (V'.of w).Tile (V'.of w).ID v then [U'.row (V'.of w).Span] else []) l,H_d]
        rw [show (l.filter fun w=>decide ((V'.of w).Span.From<(V'.of w).Span.To)&&C_P h p (V'.of w).Tile (V'.of w).ID v).map (fun w=>U'.row (V'.of w).Span)=A_v h p l v from rfl]
        have hb:Nat.blt (A_v h p l v).length 4611686018427387904=true:=Nat.ble_eq_true_of_le (by omega)
        have hD:∀ w ∈ A_v h p l v,0<=(U'.of w).From/\(U'.of w).From<9223372036854775808:=by
          intro w hw
          obtain ⟨x,hx,rfl,_⟩:=M_D hw
          refine ⟨(J_V hv.1 (ha x hx)).2,?_⟩
          have:=hbig x hx
          rw [decide_eq_true_eq] at this
          exact this
        have hV:∀ w ∈ A_v h p l v,(U'.of w).From<(U'.of w).To:=by
          intro w hw
          obtain ⟨x,hx,rfl,hlt⟩:=M_D hw
          exact hlt
        have hN:=V_y h p l v
        have hdom:((A_v h p l v).all fun r=>O_I (r.map V.toInt))=true:=List.all_eq_true.2 fun w hw=>by
          obtain ⟨x,hx,rfl,_⟩:=M_D hw
          have:=hD _ hw
          rw [N_3] at this
          rw [g_P,decide_eq_true this.1,decide_eq_true this.2]
          rfl
        simp only [hb,hdom,Bool.and_self,cond_true]
        have hip:=A_6 M_C (A_v h p l v)
        refine anyS_eq ⟨N_b B_v (A_v h p l v),hip,(J_X fun w hw=>hD w (hip.mem_iff.1 hw)).2 (T_o _)⟩ ?_
        rintro z ⟨hz1,hz2⟩
        have hpl:=hz1.length_eq
        refine (q_u z (by omega) (fun r3=>some (V.tup [V.data U'.sh r3,V.int .i64 0])) _ (Nat.le_refl _)).trans ?_
        rw [b_C (hz1.trans hip.symm) ((J_X fun w hw=>hD w (hz1.mem_iff.1 hw)).1 hz2) (T_o _) (fun w hw=>hN w (hz1.mem_iff.1 hw)) fun w hw=>hV w (hz1.mem_iff.1 hw)]
  · simp only [bne_iff_ne.2 hz,cond_true]
theorem U_H (h:D') (p:C') (l:Rows):V_6 h p l=(Q_t h p l).2:=by
  unfold V_6 Q_t
  have:(fun w=>H_B h p (V'.of w))=fun w=>F_l h p (V'.of w):=by funext w;exact T_l h p _
  rw [this]
  cases l.all fun w=>F_l h p (V'.of w) <;> rfl
theorem f_J (h:D') (p:C') (l:Rows) (v:O'):f_P h p l v=V_k h p l v:=by
  unfold f_P V_k
  rw [G_3,U_H]
  by_cases hz:(O_Q h p v).2=0
  · simp only [hz,bne_self_eq_false,cond_false]
    cases hall:l.all fun w=>F_l h p (V'.of w) with
    | false =>
      have he:(Q_t h p l).2=1:=by unfold Q_t;rw [hall];rfl
      rw [he];rfl
    | true =>
      have he:(Q_t h p l).2=0:=by unfold Q_t;rw [hall];rfl
      have ha:∀ w ∈ l,F_l h p (V'.of w)=true:=fun w hw=>List.all_eq_true.1 hall w hw
      rw [P_p hz ha,P_q hz ha]
  · simp only [bne_iff_ne.2 hz,cond_true]
theorem O_m (l:Rows):h_H l l=true:=by
  unfold h_H H_D
  rw [beq_self_eq_true,Bool.true_and,List.all_eq_true]
  intro i _
  simp only [beq_self_eq_true,Bool.and_self]
theorem Q_o (h:D') (p:C') (l:Rows) (v:O'):(V_k h p l v).1.length<=l.length:=by
  unfold V_k
  cases (g_s h p v).2 != 0 with
  | true=>exact Nat.zero_le _
  | false =>
    cases V_6 h p l != 0 with
    | true=>exact Nat.zero_le _
    | false =>
      show (P_Q (N_b B_v (H_C h p l v))).length<=l.length
      refine Nat.le_trans (T_p _) ?_
      rw [(A_6 M_C _).length_eq]
      unfold H_C
      rw [List.length_map]
      exact List.length_filter_le ..
theorem U_I (h:D') (p:C') (q:A_d) (hq:∀ w ∈ q.Entries,(V'.of w).Span.From<9223372036854775808):R_l h p q=true/\m_1 h p q=true:=by
  unfold R_l m_1
  simp only [U_y,l_7,cond_true]
  cases h_u h p with
  | false=>exact ⟨rfl,rfl⟩
  | true =>
    simp only [Bool.not_true,beq_self_eq_true,cond_true]
    by_cases hl:(q.Entries.length:Int) > 600
    · simp only [decide_eq_true hl,cond_true,and_self]
    · have hl':q.Entries.length<=600:=by omega
      have p1:K_M h p q.Entries q.View=true:=by
        unfold K_M
        rw [Bool.and_eq_true]
        exact ⟨Nat.ble_eq_true_of_le hl',List.all_eq_true.2 fun w hw=>decide_eq_true (hq w hw)⟩
      have p2:O_X h p q.Entries q.View=true:=Nat.ble_eq_true_of_le hl'
      have p3:O_Y (V_k h p q.Entries q.View).1 (V_k h p q.Entries q.View).1=true:=Nat.ble_eq_true_of_le (Nat.le_trans (Q_o h p q.Entries q.View) (by omega))
      simp only [decide_eq_false hl,cond_false,p1,p2,f_J,p3,O_m,beq_self_eq_true,cond_true,and_self]
def P_r:Go.Shelf.Ren:=⟨fun | 6=>108 | 15=>51 | 14=>131 | 28=>92 | 29=>93 | 20=>147 | 21=>148 | 22=>149 | 23=>150 | 24=>151 | 25=>152 | 26=>153 | 27=>154 | 46=>161 | 47=>116 | 48=>117 | 49=>162 | 50=>163 | 57=>164 | n=>n,fun | 22=>122 | 24=>125 | 25=>156 | 3=>3 | 39=>86 | 0=>0 | 53=>141 | 55=>143 | 4=>4 | 46=>135 | 45=>134 | 50=>95 | 5=>5 | 9=>9 | 66=>163 | 70=>167 | 76=>185 | 77=>178 | n=>n,fun n=>n⟩
theorem q_w:Go.Proofs.SlLaysF0.n6 Tryz.prog P_r where
  mixed:=by kernel_rfl
  f6:=⟨Tryz.f108.name,by kernel_rfl,Tryz.func108.trans (congrArg some (by kernel_rfl))⟩
  f14:=⟨Tryz.f131.name,by kernel_rfl,Tryz.func131.trans (congrArg some (by kernel_rfl))⟩
  f15:=Tryz.func51.trans (congrArg some (by kernel_rfl))
  f20:=⟨Tryz.f147.name,by kernel_rfl,Tryz.func147.trans (congrArg some (by kernel_rfl))⟩
  f21:=⟨Tryz.f148.name,by kernel_rfl,Tryz.func148.trans (congrArg some (by kernel_rfl))⟩
  f22:=⟨Tryz.f149.name,by kernel_rfl,Tryz.func149.trans (congrArg some (by kernel_rfl))⟩
  f23:=⟨Tryz.f150.name,by kernel_rfl,Tryz.func150.trans (congrArg some (by kernel_rfl))⟩
  f24:=⟨Tryz.f151.name,by kernel_rfl,Tryz.func151.trans (congrArg some (by kernel_rfl))⟩
  f25:=⟨Tryz.f152.name,by kernel_rfl,Tryz.func152.trans (congrArg some (by kernel_rfl))⟩
  f26:=⟨Tryz.f153.name,by kernel_rfl,Tryz.func153.trans (congrArg some (by kernel_rfl))⟩
  f27:=⟨Tryz.f154.name,by kernel_rfl,Tryz.func154.trans (congrArg some (by kernel_rfl))⟩
  f28:=Tryz.func92.trans (congrArg some (by kernel_rfl))
  f29:=Tryz.func93.trans (congrArg some (by kernel_rfl))
  f46:=⟨Tryz.f161.name,by kernel_rfl,Tryz.func161.trans (congrArg some (by kernel_rfl))⟩
  f47:=Tryz.func116.trans (congrArg some (by kernel_rfl))
  f48:=Tryz.func117.trans (congrArg some (by kernel_rfl))
  f49:=⟨Tryz.f162.name,by kernel_rfl,Tryz.func162.trans (congrArg some (by kernel_rfl))⟩
  f50:=⟨Tryz.f163.name,by kernel_rfl,Tryz.func163.trans (congrArg some (by kernel_rfl))⟩
  f57:=⟨Tryz.f164.name,by kernel_rfl,Tryz.func164.trans (congrArg some (by kernel_rfl))⟩
  t0:=Tryz.underlying0
  a0:=Tryz.isAgg0
  z0:=Tryz.sizeOf0
  v0:=Tryz.zeroValue0
  t3:=Tryz.underlying3
  a3:=Tryz.isAgg3
  z3:=Tryz.sizeOf3
  v3:=Tryz.zeroValue3
  t4:=Tryz.underlying4
  a4:=Tryz.isAgg4
  z4:=Tryz.sizeOf4
  v4:=Tryz.zeroValue4
  t5:=Tryz.underlying5
  a5:=Tryz.isAgg5
  z5:=Tryz.sizeOf5
  v5:=Tryz.zeroValue5
  t9:=Tryz.underlying9
  a9:=Tryz.isAgg9
  z9:=Tryz.sizeOf9
  v9:=Tryz.zeroValue9
  t22:=Tryz.underlying122
  a22:=Tryz.isAgg122
  z22:=Tryz.sizeOf122
  v22:=Tryz.zeroValue122
  t25:=Tryz.underlying156
  a25:=Tryz.isAgg156
  z25:=Tryz.sizeOf156
  v25:=Tryz.zeroValue156
  t39:=Tryz.underlying86
  a39:=Tryz.isAgg86
  z39:=Tryz.sizeOf86
  v39:=Tryz.zeroValue86
  t45:=Tryz.underlying134
  a45:=Tryz.isAgg134
  z45:=Tryz.sizeOf134
  v45:=Tryz.zeroValue134
  t46:=Tryz.underlying135
  a46:=Tryz.isAgg135
  z46:=Tryz.sizeOf135
  v46:=Tryz.zeroValue135
  t50:=Tryz.underlying95
  a50:=Tryz.isAgg95
  z50:=Tryz.sizeOf95
  v50:=Tryz.zeroValue95
  t53:=Tryz.underlying141
  a53:=Tryz.isAgg141
  z53:=Tryz.sizeOf141
  v53:=Tryz.zeroValue141
  t55:=Tryz.underlying143
  a55:=Tryz.isAgg143
  z55:=Tryz.sizeOf143
  v55:=Tryz.zeroValue143
  t66:=Tryz.underlying163
  a66:=Tryz.isAgg163
  z66:=Tryz.sizeOf163
  v66:=Tryz.zeroValue163
  t70:=Tryz.underlying167
  a70:=Tryz.isAgg167
  z70:=Tryz.sizeOf167
  v70:=Tryz.zeroValue167
  t76:=Tryz.underlying185
  a76:=Tryz.isAgg185
  z76:=Tryz.sizeOf185
  v76:=Tryz.zeroValue185
  t77:=Tryz.underlying178
  a77:=Tryz.isAgg178
  z77:=Tryz.sizeOf178
  v77:=Tryz.zeroValue178
def P_s:Go.Shelf.Ren:=⟨fun | 6=>18 | 15=>51 | 14=>50 | 28=>92 | 29=>93 | 20=>84 | 21=>85 | 22=>86 | 23=>87 | 24=>88 | 25=>89 | 26=>90 | 27=>91 | 46=>115 | 47=>116 | 48=>117 | 49=>118 | 50=>119 | 57=>135 | n=>n,fun | 22=>43 | 24=>58 | 25=>71 | 3=>3 | 39=>86 | 0=>0 | 53=>141 | 55=>143 | 4=>4 | 46=>135 | 45=>134 | 50=>95 | 5=>5 | 9=>9 | 66=>163 | 70=>167 | 76=>185 | 77=>178 | n=>n,fun n=>n⟩
theorem q_x:Go.Proofs.SlLaysF0.n6 Tryz.prog P_s where
  mixed:=by kernel_rfl
  f6:=⟨Tryz.f18.name,by kernel_rfl,Tryz.func18.trans (congrArg some (by kernel_rfl))⟩
  f14:=⟨Tryz.f50.name,by kernel_rfl,Tryz.func50.trans (congrArg some (by kernel_rfl))⟩
  f15:=Tryz.func51.trans (congrArg some (by kernel_rfl))
  f20:=⟨Tryz.f84.name,by kernel_rfl,Tryz.func84.trans (congrArg some (by kernel_rfl))⟩
  f21:=⟨Tryz.f85.name,by kernel_rfl,Tryz.func85.trans (congrArg some (by kernel_rfl))⟩
  f22:=⟨Tryz.f86.name,by kernel_rfl,Tryz.func86.trans (congrArg some (by kernel_rfl))⟩
  f23:=⟨Tryz.f87.name,by kernel_rfl,Tryz.func87.trans (congrArg some (by kernel_rfl))⟩
  f24:=⟨Tryz.f88.name,by kernel_rfl,Tryz.func88.trans (congrArg some (by kernel_rfl))⟩
  f25:=⟨Tryz.f89.name,by kernel_rfl,Tryz.func89.trans (congrArg some (by kernel_rfl))⟩
  f26:=⟨Tryz.f90.name,by kernel_rfl,Tryz.func90.trans (congrArg some (by kernel_rfl))⟩
  f27:=⟨Tryz.f91.name,by kernel_rfl,Tryz.func91.trans (congrArg some (by kernel_rfl))⟩
  f28:=Tryz.func92.trans (congrArg some (by kernel_rfl))
  f29:=Tryz.func93.trans (congrArg some (by kernel_rfl))
  f46:=⟨Tryz.f115.name,by kernel_rfl,Tryz.func115.trans (congrArg some (by kernel_rfl))⟩
  f47:=Tryz.func116.trans (congrArg some (by kernel_rfl))
  f48:=Tryz.func117.trans (congrArg some (by kernel_rfl))
  f49:=⟨Tryz.f118.name,by kernel_rfl,Tryz.func118.trans (congrArg some (by kernel_rfl))⟩
  f50:=⟨Tryz.f119.name,by kernel_rfl,Tryz.func119.trans (congrArg some (by kernel_rfl))⟩
  f57:=⟨Tryz.f135.name,by kernel_rfl,Tryz.func135.trans (congrArg some (by kernel_rfl))⟩
  t0:=Tryz.underlying0
  a0:=Tryz.isAgg0
  z0:=Tryz.sizeOf0
  v0:=Tryz.zeroValue0
  t3:=Tryz.underlying3
  a3:=Tryz.isAgg3
  z3:=Tryz.sizeOf3
  v3:=Tryz.zeroValue3
  t4:=Tryz.underlying4
  a4:=Tryz.isAgg4
  z4:=Tryz.sizeOf4
  v4:=Tryz.zeroValue4
  t5:=Tryz.underlying5
  a5:=Tryz.isAgg5
  z5:=Tryz.sizeOf5
  v5:=Tryz.zeroValue5
  t9:=Tryz.underlying9
  a9:=Tryz.isAgg9
  z9:=Tryz.sizeOf9
  v9:=Tryz.zeroValue9
  t22:=Tryz.underlying43
  a22:=Tryz.isAgg43
  z22:=Tryz.sizeOf43
  v22:=Tryz.zeroValue43
  t25:=Tryz.underlying71
  a25:=Tryz.isAgg71
  z25:=Tryz.sizeOf71
  v25:=Tryz.zeroValue71
  t39:=Tryz.underlying86
  a39:=Tryz.isAgg86
  z39:=Tryz.sizeOf86
  v39:=Tryz.zeroValue86
  t45:=Tryz.underlying134
  a45:=Tryz.isAgg134
  z45:=Tryz.sizeOf134
  v45:=Tryz.zeroValue134
  t46:=Tryz.underlying135
  a46:=Tryz.isAgg135
  z46:=Tryz.sizeOf135
  v46:=Tryz.zeroValue135
  t50:=Tryz.underlying95
  a50:=Tryz.isAgg95
  z50:=Tryz.sizeOf95
  v50:=Tryz.zeroValue95
  t53:=Tryz.underlying141
  a53:=Tryz.isAgg141
  z53:=Tryz.sizeOf141
  v53:=Tryz.zeroValue141
  t55:=Tryz.underlying143
  a55:=Tryz.isAgg143
  z55:=Tryz.sizeOf143
  v55:=Tryz.zeroValue143
  t66:=Tryz.underlying163
  a66:=Tryz.isAgg163
  z66:=Tryz.sizeOf163
  v66:=Tryz.zeroValue163
  t70:=Tryz.underlying167
  a70:=Tryz.isAgg167
  z70:=Tryz.sizeOf167
  v70:=Tryz.zeroValue167
  t76:=Tryz.underlying185
  a76:=Tryz.isAgg185
  z76:=Tryz.sizeOf185
  v76:=Tryz.zeroValue185
  t77:=Tryz.underlying178
  a77:=Tryz.isAgg178
  z77:=Tryz.sizeOf178
  v77:=Tryz.zeroValue178
theorem g_Q {l:List V} {zs:List At} (h:T.getL [] l=some zs):l=[]:=by
  cases l with
  | nil=>rfl
  | cons a l=>simp [T.getL] at h
theorem q_y (h:r_h) (x y:List Int):M_P Tryz.prog 19 ([.agg (M_1 2 x),.agg (M_1 2 y)]++[]) (.int .i64 (N_g x y)):=by
  obtain ⟨v,hv,he⟩:=h _ some (.int .i64 (N_g x y)) (show z_g [.agg [.int .i64 (x.getD 0 0),.int .i64 (x.getD 1 0)],.agg [.int .i64 (y.getD 0 0),.int .i64 (y.getD 1 0)]] some=some (.int .i64 (N_g x y)) from by kernel_rfl)
  cases he
  exact hv
theorem m_b {α:Type} (f:α->Int) (c:α->α->Int) (h:∀ x y,c x y<0 ↔ f x<f y):Go.Sort.SWO (Go.Proofs.ltOf c) where
  irrefl x:=by unfold Go.Proofs.ltOf;rw [decide_eq_false_iff_not,h];omega
  trans x y z h1 h2:=by unfold Go.Proofs.ltOf at *;rw [decide_eq_true_eq,h] at *;omega
  ntrans x y z h1 h2:=by unfold Go.Proofs.ltOf at *;rw [decide_eq_false_iff_not,h] at *;omega
theorem D_X (h:r_h):M_3 Tryz.prog O_3:=by
  intro sf g caps c dom cf hk
  have e:O_3.k sf g caps=bif Nat.beq sf 18&&Nat.beq g 19 then l_W caps else none:=rfl
  rw [e] at hk
  cases hb:Nat.beq sf 18&&Nat.beq g 19 with
  | false=>rw [hb] at hk;cases hk
  | true =>
    rw [hb,cond_true] at hk
    rw [Bool.and_eq_true] at hb
    have h1:sf=18:=Nat.eq_of_beq_eq_true hb.1
    have h2:g=19:=Nat.eq_of_beq_eq_true hb.2
    subst h1;subst h2
    unfold l_W at hk
    split at hk
    · rename_i hg
      have hc:=g_Q hg
      subst hc
      cases hk
      refine Q_5 (ρ:=P_s) q_x 2 (by decide) Tryz.isAgg58 Tryz.sizeOf58 [] (by decide) N_g ?_ 19 [] ⟨Tryz.f18,_,Tryz.func18,rfl,by kernel_rfl⟩ fun x y _ _=>q_y h x y
      refine m_b (fun x=>x.1.getD 0 0) _ fun x y=>?_
      have hx:=x.2
      have hy:=y.2
      unfold O_I at hx hy
      rw [Bool.and_eq_true,decide_eq_true_eq,decide_eq_true_eq] at hx hy
      have e2:N_g x.1 y.1=IntKind.wrap .i64 (x.1.getD 0 0-y.1.getD 0 0):=rfl
      rw [e2,w64 (by omega) (by omega)]
      omega
    · cases hk
theorem q_z (h:r_f) (x y:List Int) (p:C'):M_P Tryz.prog 109 ([.agg (M_1 6 x),.agg (M_1 6 y)]++[V.pdat C'.sh (C'.row p) 0]) (.int .i64 (O_g p x y)):=by
  obtain ⟨v,hv,he⟩:=h _ some (.int .i64 (O_g p x y)) (show z_b [.agg [.int .i64 (x.getD 0 0),.int .i64 (x.getD 1 0),.int .i64 (x.getD 2 0),.int .i64 (x.getD 3 0),.int .i64 (x.getD 4 0),.int .i64 (x.getD 5 0)],.agg [.int .i64 (y.getD 0 0),.int .i64 (y.getD 1 0),.int .i64 (y.getD 2 0),.int .i64 (y.getD 3 0),.int .i64 (y.getD 4 0),.int .i64 (y.getD 5 0)],V.pdat C'.sh (C'.row p) 0] some=some (.int .i64 (O_g p x y)) from by kernel_rfl)
  cases he
  exact hv
theorem q_A (p:C') {D:List Int->Bool}:Go.Sort.SWO (Go.Proofs.ltOf fun x y:Dm D=>O_g p x.1 y.1):=V_t (fun x=>R_e p.Order (I'.of (M_1 6 x.1))) fun a b=>T_f _ _ _
theorem D_Y (h:r_f):M_3 Tryz.prog O_2:=by
  intro sf g caps c dom cf hk
  have e:O_2.k sf g caps=bif Nat.beq sf 108&&Nat.beq g 109 then l_X caps else none:=rfl
  rw [e] at hk
  cases hb:Nat.beq sf 108&&Nat.beq g 109 with
  | false=>rw [hb] at hk;cases hk
  | true =>
    rw [hb,cond_true] at hk
    rw [Bool.and_eq_true] at hb
    have h1:sf=108:=Nat.eq_of_beq_eq_true hb.1
    have h2:g=109:=Nat.eq_of_beq_eq_true hb.2
    subst h1;subst h2
    unfold l_X at hk
    split at hk
    · rename_i x0 x1 x2 x3 x4 x5 x6 x7 x8 x9 x10 x11 x12 x13 x14 x15 x16 x17 x18 hg
      have hc:=getL_putL _ _ _ hg []
      have hcap:caps=[V.pdat C'.sh (C'.row (C'.mk x0 x1 x2 x3 x4 x5 x6 x7 (K'.mk x8 x9 x10 x11 x12) x13 x14 x15 x16 x17 x18)) 0]:=(congrArg Prod.fst hc).symm
      subst hcap
      cases hk
      exact Q_5 (ρ:=P_r) q_w 6 (by decide) Tryz.isAgg125 Tryz.sizeOf125 [] (by decide) _ (q_A _) 109 _ ⟨Tryz.f108,_,Tryz.func108,rfl,by kernel_rfl⟩ fun x y _ _=>q_z h x y _
    · cases hk
end Go.Vm
