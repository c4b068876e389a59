import Derived.Test.YtnfkgnigkdkniaaGreatWG0
import Derived.Test.YtnfkgnigkdkniaaGreatWG1
import Derived.Test.YtnfkgnigkdkniaaGreatWG2
import Derived.Test.YtnfkgnigkdkniaaGreatWG3
import Derived.Test.YtnfkgnigkdkniaaGreatWG4
import Derived.Test.YtnfkgnigkdkniaaGreatWG5
import Derived.Test.YtnfkgnigkdkniaaGreatWG6
import Derived.Test.YtnfkgnigkdkniaaGreatWG7
import Derived.Test.YtnfkgnigkdkniaaGreatWG8
import Derived.Test.YtnfkgnigkdkniaaGreatWG9
import Derived.Test.YtnfkgnigkdkniaaGreatWG10
import Derived.Test.YtnfkgnigkdkniaaGreatWG11
import Derived.Test.YtnfkgnigkdkniaaGreatWG12
set_option linter.unusedVariables false
set_option linter.unusedSimpArgs false
set_option maxRecDepth 100000
noncomputable section
namespace Go.Vm
open Go.Proofs
variable {R:Type}
theorem A_w {n b:Nat} (h:n*b<=140737488355328):roomOK n b=true:=Nat.ble_eq_true_of_le h
theorem A_c {i:Int} {n:Nat} (h0:0<=i) (h1:i<(n:Int)):inR i n=true:=by simp [inR,h0,h1]
theorem y_p {lo hi x:Int} (h:inB lo hi x=true):(bif decide (x<lo) then true else decide (x > hi))=false:=by
  rw [inB,Bool.not_eq_true'] at h;exact h
theorem y_q {lo hi x:Int} (h:inB lo hi x=false):(bif decide (x<lo) then true else decide (x > hi))=true:=by
  rw [inB,Bool.not_eq_false'] at h;exact h
theorem B_k {lo hi x:Int}:inB lo hi x=true ↔ lo<=x/\x<=hi:=by
  unfold inB
  by_cases h1:x<lo
  · simp [h1];omega
  · simp [h1];omega
theorem A_u {r:F'}:A_3 r=true ↔ (0<=r.X0/\r.X0<=r.X1/\r.X1<=4096)/\(0<=r.Y0/\r.Y0<=r.Y1/\r.Y1<=4096):=by
  have e:∀ (a b:Bool),(bif a then b else false)=(a&&b):=by intro a b;cases a <;> rfl
  unfold A_3
  simp only [e,Bool.and_eq_true,decide_eq_true_eq]
  omega
theorem S_U {r:F'}:C_R r=true ↔ r.X1<=r.X0 \/ r.Y1<=r.Y0:=by
  unfold C_R
  by_cases h:r.X0 >= r.X1
  · simp [h]
  · simp [h]
theorem N_E {r:F'}:C_R r=false ↔ r.X0<r.X1/\r.Y0<r.Y1:=by
  rw [<- Bool.not_eq_true,S_U];omega
theorem C_L {x w:Int} (hx:0<=x) (hx2:x<=4611686018427387904) (hw:1<=w):D_k x w=x / w:=by
  have h1:decide (w<1)=false:=by simp;omega
  have h2:(w != 0)=true:=by simp;omega
  have hq0:0<=x / w:=Int.ediv_nonneg hx (by omega)
  have hq1:x / w<=x:=Int.ediv_le_self _ hx
  have h3:decide (Int.tmod x w<0)=false:=by
    rw [Int.tmod_eq_emod_of_nonneg hx]
    have:=Int.emod_nonneg x (show w ≠ 0 by omega)
    simp;omega
  unfold D_k
  simp only [h1,h2,h3,cond_false,cond_true]
  rw [Int.tdiv_eq_ediv_of_nonneg hx,w64 (by omega) (by omega)]
theorem G_N {x w:Int} (hx:0<=x) (hx2:x<=4611686018427387904) (hw:1<=w):B_F x w=bif decide (x % w > 0) then x / w+1 else x / w:=by
  have h1:decide (w<1)=false:=by simp;omega
  have h2:(w != 0)=true:=by simp;omega
  have hq0:0<=x / w:=Int.ediv_nonneg hx (by omega)
  have hq1:x / w<=x:=Int.ediv_le_self _ hx
  unfold B_F
  simp only [h1,h2,cond_false,cond_true]
  rw [Int.tmod_eq_emod_of_nonneg hx,Int.tdiv_eq_ediv_of_nonneg hx,w64 (n:=x / w) (by omega) (by omega),w64 (n:=x / w+1) (by omega) (by omega)]
theorem N_F {x w:Int} (hx:0<=x) (hx2:x<=4096) (hw:1<=w):0<=D_k x w/\D_k x w<=x:=by
  rw [C_L hx (by omega) hw]
  exact ⟨Int.ediv_nonneg hx (by omega),Int.ediv_le_self _ hx⟩
theorem C_j {x w:Int} (hx:0<=x) (hx2:x<=4096) (hw:1<=w):0<=B_F x w/\B_F x w<=x:=by
  rw [G_N hx (by omega) hw]
  have hq0:0<=x / w:=Int.ediv_nonneg hx (by omega)
  have hm:=Int.mul_ediv_add_emod x w
  have hq1:x / w<=x:=Int.ediv_le_self _ hx
  by_cases h:x % w > 0
  · simp only [decide_eq_true h,cond_true]
    refine ⟨by omega,?_⟩
    have:x / w<=w*(x / w):=by
      have:=Int.mul_le_mul_of_nonneg_right hw hq0
      omega
    omega
  · simp only [decide_eq_false h,cond_false];omega
theorem M_a {x y w:Int} (hx:0<=x) (hxy:x<=y) (hy2:y<=4096) (hw:1<=w):B_F x w<=B_F y w:=by
  rw [G_N hx (by omega) hw,G_N (by omega) (by omega) hw]
  have h1:=Int.mul_ediv_add_emod x w
  have h2:=Int.mul_ediv_add_emod y w
  have h3:=Int.emod_lt_of_pos x (show 0<w by omega)
  have h4:=Int.emod_lt_of_pos y (show 0<w by omega)
  have h5:=Int.emod_nonneg x (show w ≠ 0 by omega)
  have h6:=Int.emod_nonneg y (show w ≠ 0 by omega)
  have h7:x / w<=y / w:=Int.ediv_le_ediv (by omega) hxy
  by_cases ha:x % w > 0
  · by_cases hb:y % w > 0
    · simp only [decide_eq_true ha,decide_eq_true hb,cond_true];omega
    · simp only [decide_eq_true ha,decide_eq_false hb,cond_true,cond_false]
      apply Decidable.byContradiction
      intro hn
      have:x / w=y / w:=by omega
      rw [this] at h1
      omega
  · by_cases hb:y % w > 0
    · simp only [decide_eq_false ha,decide_eq_true hb,cond_true,cond_false];omega
    · simp only [decide_eq_false ha,decide_eq_false hb,cond_false];omega
theorem f_g (r:F') (dx dy:Int):D_j r dx dy=if A_3 r=true/\(1<=dx/\dx<=4096)/\1<=dy/\dy<=4096 then ⟨B_F r.X0 dx,B_F r.Y0 dy,B_F r.X1 dx,B_F r.Y1 dy⟩ else ⟨0,0,0,0⟩:=by
  unfold D_j
  cases hv:A_3 r with
  | false=>simp
  | true =>
    by_cases h1:dx<1
    · rw [if_neg (by omega)];simp [h1]
    by_cases h2:dx > 4096
    · rw [if_neg (by omega)];simp [h1,h2]
    by_cases h3:dy<1
    · rw [if_neg (by omega)];simp [h1,h2,h3]
    by_cases h4:dy > 4096
    · rw [if_neg (by omega)];simp [h1,h2,h3,h4]
    rw [if_pos ⟨rfl,by omega⟩]
    simp only [h1,h2,h3,h4,decide_false,Bool.not_true,cond_false]
theorem G_O:A_3 ⟨0,0,0,0⟩=true:=A_u.2 (by decide)
theorem M_b (r:F') (dx dy:Int):A_3 (D_j r dx dy)=true:=by
  rw [f_g]
  split
  · rename_i h
    obtain ⟨hv,hx,hy⟩:=h
    obtain ⟨⟨h1,h2,h3⟩,h4,h5,h6⟩:=A_u.1 hv
    refine A_u.2 ⟨⟨?_,?_,?_⟩,?_,?_,?_⟩
    · exact (C_j (by omega) (by omega) (by omega)).1
    · exact M_a (by omega) (by omega) (by omega) (by omega)
    · have:=(C_j (x:=r.X1) (w:=dx) (by omega) (by omega) (by omega)).2
      show B_F r.X1 dx<=4096
      omega
    · exact (C_j (by omega) (by omega) (by omega)).1
    · exact M_a (by omega) (by omega) (by omega) (by omega)
    · have:=(C_j (x:=r.Y1) (w:=dy) (by omega) (by omega) (by omega)).2
      show B_F r.Y1 dy<=4096
      omega
  · exact G_O
theorem S_V (a b:F'):C_S a b=if max a.X0 b.X0<min a.X1 b.X1/\max a.Y0 b.Y0<min a.Y1 b.Y1 then ⟨max a.X0 b.X0,max a.Y0 b.Y0,min a.X1 b.X1,min a.Y1 b.Y1⟩ else ⟨0,0,0,0⟩:=by
  have e1:(bif decide (b.X0 > a.X0) then b.X0 else a.X0)=max a.X0 b.X0:=by
    by_cases h:b.X0 > a.X0
    · simp only [decide_eq_true h,cond_true];omega
    · simp only [decide_eq_false h,cond_false];omega
  have e2:(bif decide (b.Y0 > a.Y0) then b.Y0 else a.Y0)=max a.Y0 b.Y0:=by
    by_cases h:b.Y0 > a.Y0
    · simp only [decide_eq_true h,cond_true];omega
    · simp only [decide_eq_false h,cond_false];omega
  have e3:(bif decide (b.X1<a.X1) then b.X1 else a.X1)=min a.X1 b.X1:=by
    by_cases h:b.X1<a.X1
    · simp only [decide_eq_true h,cond_true];omega
    · simp only [decide_eq_false h,cond_false];omega
  have e4:(bif decide (b.Y1<a.Y1) then b.Y1 else a.Y1)=min a.Y1 b.Y1:=by
    by_cases h:b.Y1<a.Y1
    · simp only [decide_eq_true h,cond_true];omega
    · simp only [decide_eq_false h,cond_false];omega
  unfold C_S
  simp only [e1,e2,e3,e4]
  cases he:C_R ⟨max a.X0 b.X0,max a.Y0 b.Y0,min a.X1 b.X1,min a.Y1 b.Y1⟩ with
  | true =>
    have:=S_U.1 he
    simp only at this
    rw [if_neg (by omega)];rfl
  | false =>
    have:=N_E.1 he
    simp only at this
    rw [if_pos (by omega)];rfl
theorem N_G {a b:F'} (h:A_3 a=true \/ A_3 b=true) (h2:0<=a.X0 \/ 0<=b.X0) (h3:0<=a.Y0 \/ 0<=b.Y0):A_3 (C_S a b)=true:=by
  rw [S_V]
  split
  · rename_i hh
    refine A_u.2 ?_
    rcases h with h | h <;> have h1:=A_u.1 h <;> (refine ⟨⟨?_,?_,?_⟩,?_,?_,?_⟩ <;> (simp only [];omega))
  · exact G_O
theorem D_e:K_b=B_F:=rfl
theorem B_D:M_5=D_k:=rfl
theorem A_S:M_4=A_3:=rfl
theorem B_4:O_b=C_R:=rfl
theorem U_m:q_K=j_C:=rfl
theorem C_b:O_K=C_S:=rfl
theorem A_5:M_u=D_j:=rfl
theorem B_E:Q_q=A_X:=rfl
theorem F_C (x lo hi:Int):P_L x lo hi=inB lo hi x:=by
  unfold P_L inB
  by_cases h1:lo<=x
  · by_cases h2:x<=hi
    · have h3:¬ x<lo:=by omega
      have h4:¬ x > hi:=by omega
      simp [h1,h2,h3,h4]
    · have h3:¬ x<lo:=by omega
      have h4:x > hi:=by omega
      simp [h1,h2,h3,h4]
  · have h3:x<lo:=by omega
    simp [h1,h3]
theorem A_A {a b:Int} {L:Nat->Int->Option R} {ok:Int->Bool} {e x:Option R}
    (hs:∀ n i,a<=i->L (n+1) i=bif decide (i<b) then (bif ok i then L n (i+1) else x) else e) (n:Nat) (hn:(b-a).toNat+1<=n):L n a=bif (A_n a b).all ok then e else x :=
  U_8 (fun n i h0 h1 hok=>by rw [hs n i h0,decide_eq_true h1,hok];rfl) (fun n i h0 h1 hok=>by rw [hs n i h0,decide_eq_true h1,hok];rfl) (fun n i h0 h1=>by rw [hs n i h0,decide_eq_false h1];rfl) n hn
theorem A_o {S R:Type} {b:Int} {L:Nat->Int->S->Option R} {g:S->Int->S} {e:S->Option R} (I:Int->S->Prop)
    (hs:∀ n i s,I i s->L (n+1) i s=bif decide (i<b) then L n (i+1) (g s i) else e s)
    (hI:∀ i s,I i s->i<b->I (i+1) (g s i)) (n:Nat) (i:Int) (s:S) (h:I i s) (hn:(b-i).toNat+1<=n):L n i s=e ((A_n i b).foldl g s) :=
  D_h I (fun n i s h0 h1=>by rw [hs n i s h0,decide_eq_true h1];rfl) hI (fun n i s h0 h1=>by rw [hs n i s h0,decide_eq_false h1];rfl) n i s h hn
theorem K_f (lo hi a:Int) (k:IntKind):K_F lo hi [[V.int k a]]=inB lo hi a:=by
  show (inB lo hi a&&true)=_
  rw [Bool.and_true]
theorem K_g (lo hi a b:Int) (k:IntKind):K_F lo hi [[V.int k a],[V.int k b]]=(inB lo hi a&&inB lo hi b):=by
  show (inB lo hi a&&(inB lo hi b&&true))=_
  rw [Bool.and_true]
theorem G_P (lo hi a:Int) (k:IntKind):A_O lo hi [[V.int k a]]=true:=rfl
theorem G_Q (lo hi a b:Int) (k:IntKind):A_O lo hi [[V.int k a],[V.int k b]]=true:=rfl
theorem g_z (b:Bool):((!b)==false)=b:=by cases b <;> rfl
theorem F_D (b:Bool):(b==false)=!b:=by cases b <;> rfl
theorem V_l (b:Bool):(b==true)=b:=by cases b <;> rfl
theorem A_B {l:Int}:M_v l=true ↔ 0<=l/\l<=5:=by
  unfold M_v
  by_cases h:l >= 0
  · simp only [decide_eq_true h,cond_true,decide_eq_true_eq];omega
  · simp only [decide_eq_false h,cond_false];constructor
    · intro h;cases h
    · intro h2;omega
theorem F_a {l:Int}:M_v l=false ↔ ¬ (0<=l/\l<=5):=by rw [<- Bool.not_eq_true,A_B]
theorem K_h (l:Int):(b_I l==0)=!M_v l:=by
  rw [F_y,A_G]
  cases h:M_v l with
  | true =>
    have:=A_B.1 h
    rw [if_pos this]
    exact beq_eq_false_iff_ne.2 (by omega)
  | false =>
    have:=F_a.1 h
    rw [if_neg this];rfl
theorem O_h (l i:Int):m_Z l i=O_M l i:=by
  unfold m_Z O_M
  simp only [K_h]
theorem A_2 {n:Nat} (h:n<=12):(1:Int)<=2 ^ n/\(2:Int) ^ n<=4096:=by
  have:n=0 \/ n=1 \/ n=2 \/ n=3 \/ n=4 \/ n=5 \/ n=6 \/ n=7 \/ n=8 \/ n=9 \/ n=10 \/ n=11 \/ n=12:=by omega
  rcases this with rfl | rfl | rfl | rfl | rfl | rfl | rfl | rfl | rfl | rfl | rfl | rfl | rfl <;> decide
theorem F_b {a:Int} (h0:0<=a) (h1:a<=12):IntKind.wrap .i64 (1*2 ^ (min (Int.toNat (IntKind.wrap .u64 a)) 64))=2 ^ a.toNat:=by
  rw [m_h h0 (by omega),Nat.min_eq_left (by omega),Int.one_mul]
  have:=A_2 (n:=a.toNat) (by omega)
  exact w64 (by omega) (by omega)
theorem V_m {a:Int} (h0:0<=a) (h1:a<=12):IntKind.wrap .i64 (1*2 ^ (min (Int.toNat a) 64))=2 ^ a.toNat:=by
  rw [Nat.min_eq_left (by omega),Int.one_mul]
  have:=A_2 (n:=a.toNat) (by omega)
  exact w64 (by omega) (by omega)
theorem J_E (r:F') (l i:Int):F_h r l i=if (0<=l/\l<=5)/\0<=i/\i<=l then D_j r (2 ^ (l-i).toNat) (2 ^ (l-i).toNat) else ⟨0,0,0,0⟩:=by
  unfold F_h
  cases h:M_v l with
  | false =>
    have:=F_a.1 h
    rw [if_neg (by omega)];rfl
  | true =>
    have hl:=A_B.1 h
    by_cases h1:i<0
    · rw [if_neg (by omega)];simp [h1]
    · by_cases h2:i > l
      · rw [if_neg (by omega)];simp [h1,h2]
      · rw [if_pos (by omega)]
        simp only [decide_eq_false h1,decide_eq_false h2,Bool.not_true,cond_false,wrapu_nonneg,decide_true,cond_true]
        rw [w64 (n:=l-i) (by omega) (by omega),F_b (by omega) (by omega)]
theorem M_o (r:F') (l i:Int):A_3 (F_h r l i)=true:=by
  rw [J_E]
  split
  · exact M_b _ _ _
  · exact G_O
theorem C_9 {x:Int} (h0:0<=x) (h1:x<=4096):IntKind.wrap .i64 (Int.tdiv (IntKind.wrap .i64 (x+1)) 2)=(x+1) / 2:=by
  rw [w64 (n:=x+1) (by omega) (by omega),Int.tdiv_eq_ediv_of_nonneg (by omega),w64 (by omega) (by omega)]
theorem J_F {x:Int} (h0:0<=x) (h1:x<=4096):IntKind.wrap .i64 (Int.tdiv (IntKind.wrap .i64 (x+0)) 2)=x / 2:=by
  rw [w64 (n:=x+0) (by omega) (by omega),Int.add_zero,Int.tdiv_eq_ediv_of_nonneg (by omega),w64 (by omega) (by omega)]
theorem G_R {x:Int} (h0:0<=x) (h1:x<=4096):IntKind.wrap .i64 (Int.tdiv x 2)=x / 2:=by
  rw [Int.tdiv_eq_ediv_of_nonneg (by omega),w64 (by omega) (by omega)]
def P_1 (r:F'):A_f:=⟨⟨(r.X0+1) / 2,(r.Y0+1) / 2,(r.X1+1) / 2,(r.Y1+1) / 2⟩,⟨r.X0 / 2,(r.Y0+1) / 2,r.X1 / 2,(r.Y1+1) / 2⟩,⟨(r.X0+1) / 2,r.Y0 / 2,(r.X1+1) / 2,r.Y1 / 2⟩,⟨r.X0 / 2,r.Y0 / 2,r.X1 / 2,r.Y1 / 2⟩⟩
theorem F_E {r:F'} (hv:A_3 r=true):V_1 r=P_1 r:=by
  obtain ⟨⟨h1,h2,h3⟩,h4,h5,h6⟩:=A_u.1 hv
  have e0:IntKind.wrap .i64 (1-intBits .and .i64 0 1)=1:=by decide
  have e1:IntKind.wrap .i64 (1-intBits .and .i64 1 1)=0:=by decide
  have e2:IntKind.wrap .i64 (1-intBits .and .i64 2 1)=1:=by decide
  have e3:IntKind.wrap .i64 (1-intBits .and .i64 3 1)=0:=by decide
  unfold V_1 P_1
  simp only [hv,Bool.not_true,cond_false,e0,e1,e2,e3]
  rw [C_9 h1 (by omega),C_9 h4 (by omega),C_9 (x:=r.X1) (by omega) h3,C_9 (x:=r.Y1) (by omega) h6,J_F h1 (by omega),J_F h4 (by omega),J_F (x:=r.X1) (by omega) h3,J_F (x:=r.Y1) (by omega) h6]
theorem M_c (r:F'):h_q r=V_1 r:=by
  cases hv:A_3 r with
  | false =>
    unfold h_q V_1
    rw [A_S]
    simp only [hv,Bool.not_false,cond_true]
  | true =>
    rw [F_E hv]
    obtain ⟨⟨h1,h2,h3⟩,h4,h5,h6⟩:=A_u.1 hv
    unfold h_q P_1
    rw [A_S]
    simp only [hv,Bool.not_true,cond_false]
    unfold B_9
    simp only [cond_false,cond_true]
    rw [C_9 h1 (by omega),C_9 h4 (by omega),C_9 (x:=r.X1) (by omega) h3,C_9 (x:=r.Y1) (by omega) h6,G_R h1 (by omega),G_R h4 (by omega),G_R (x:=r.X1) (by omega) h3,G_R (x:=r.Y1) (by omega) h6]
theorem F_c (r:F') (l i:Int):c_t r l i=Q_r r l i:=by
  unfold c_t Q_r P_N
  rw [F_z,A_S]
  simp only [M_c]
theorem K_i {S R:Type} {b:Int} {L:Nat->Int->S->Option R} {ok:Int->Bool} {g:S->Int->S} {e:S->Option R} {x:Option R} (I:Int->S->Prop)
    (hs:∀ n i s,I i s->L (n+1) i s=bif decide (i<b) then (bif ok i then L n (i+1) (g s i) else x) else e s)
    (hI:∀ i s,I i s->i<b->I (i+1) (g s i)):∀ (n:Nat) (i:Int) (s:S),I i s->(b-i).toNat+1<=n->L n i s=bif (A_n i b).all ok then e ((A_n i b).foldl g s) else x
  | 0,i,s,h,hn=>by omega
  | n+1,i,s,h,hn=>by
    rw [hs n i s h]
    by_cases hi:i<b
    · rw [decide_eq_true hi,F_s hi,List.all_cons,List.foldl_cons]
      cases hg:ok i with
      | true =>
        simp only [cond_true,Bool.true_and]
        exact K_i I hs hI n (i+1) _ (hI i s h hi) (by omega)
      | false=>rfl
    · rw [decide_eq_false hi,F_M (by omega)];rfl
theorem V_n {a b m:Int}:j_D a b m=true ↔ (0<=a/\a<=m)/\0<=b/\b<=m:=by
  have e:∀ (a b:Bool),(bif a then b else false)=(a&&b):=by intro a b;cases a <;> rfl
  unfold j_D
  simp only [e,Bool.and_eq_true,decide_eq_true_eq]
  omega
theorem f_h {x y a:Int} (hx:0<=x) (hy:1<=y) (hx2:x<=4096) (hy2:y<=4096) (ha:0<=a) (ha2:a<=12) :
    g_r x y a=(x / 2 ^ a.toNat,(y-1) / 2 ^ a.toNat-x / 2 ^ a.toNat+1):=by
  have hp:=A_2 (n:=a.toNat) (by omega)
  have q1:0<=x / 2 ^ a.toNat:=Int.ediv_nonneg hx (by omega)
  have q2:x / 2 ^ a.toNat<=x:=Int.ediv_le_self _ hx
  have q3:0<=(y-1) / 2 ^ a.toNat:=Int.ediv_nonneg (by omega) (by omega)
  have q4:(y-1) / 2 ^ a.toNat<=y-1:=Int.ediv_le_self _ (by omega)
  unfold g_r
  simp only [wrapu_nonneg,decide_true,cond_true]
  rw [m_h ha (by omega),Nat.min_eq_left (by omega),w64 (n:=y-1) (by omega) (by omega),Int.fdiv_eq_ediv_of_nonneg _ (by omega),Int.fdiv_eq_ediv_of_nonneg _ (by omega),w64 (n:=(y-1) / 2 ^ a.toNat-x / 2 ^ a.toNat) (by omega) (by omega),w64 (by omega) (by omega)]
def A_s (x y a:Int):Int:=(y-1) / 2 ^ a.toNat-x / 2 ^ a.toNat+1
theorem C_M {x y a:Int} (hx:0<=x) (hxy:x<y) (hy2:y<=4096) (ha:0<=a) (ha2:a<=12):1<=A_s x y a/\A_s x y a<=4096/\0<=x / 2 ^ a.toNat/\x / 2 ^ a.toNat<=4096:=by
  have hp:=A_2 (n:=a.toNat) (by omega)
  have q1:0<=x / 2 ^ a.toNat:=Int.ediv_nonneg hx (by omega)
  have q2:x / 2 ^ a.toNat<=x:=Int.ediv_le_self _ hx
  have q3:x / 2 ^ a.toNat<=(y-1) / 2 ^ a.toNat:=Int.ediv_le_ediv (by omega) (by omega)
  have q4:(y-1) / 2 ^ a.toNat<=y-1:=Int.ediv_le_self _ (by omega)
  unfold A_s
  omega
theorem F_F (r:F') (a b m:Int) (hm:m<=12):A_J r a b m=if (A_3 r=true/\C_R r=false)/\((0<=a/\a<=m)/\0<=b/\b<=m)/\A_s r.X0 r.X1 a*A_s r.Y0 r.Y1 b<=65536 then
    (r.X0 / 2 ^ a.toNat,r.Y0 / 2 ^ b.toNat,A_s r.X0 r.X1 a,A_s r.Y0 r.Y1 b) else (0,0,0,0):=by
  unfold A_J
  cases hv:A_3 r with
  | false=>rw [if_neg (by simp)];rfl
  | true =>
    cases he:C_R r with
    | true=>rw [if_neg (by simp)];rfl
    | false =>
      cases hx:j_D a b m with
      | false =>
        have:¬ ((0<=a/\a<=m)/\0<=b/\b<=m):=fun h=>by rw [V_n.2 h] at hx;cases hx
        rw [if_neg (fun h=>this h.2.1)];rfl
      | true =>
        have hab:=V_n.1 hx
        obtain ⟨⟨h1,h2,h3⟩,h4,h5,h6⟩:=A_u.1 hv
        obtain ⟨g1,g2⟩:=N_E.1 he
        simp only [Bool.not_true,beq_self_eq_true,cond_true,cond_false]
        rw [f_h h1 (by omega) (by omega) h3 hab.1.1 (by omega),f_h h4 (by omega) (by omega) h6 hab.2.1 (by omega)]
        have b1:=C_M h1 g1 h3 hab.1.1 (by omega)
        have b2:=C_M h4 g2 h6 hab.2.1 (by omega)
        show (bif decide (IntKind.wrap .i64 (A_s r.X0 r.X1 a*A_s r.Y0 r.Y1 b) > 65536) then ((0:Int),(0:Int),(0:Int),(0:Int)) else (r.X0 / 2 ^ a.toNat,r.Y0 / 2 ^ b.toNat,A_s r.X0 r.X1 a,A_s r.Y0 r.Y1 b))=_
        have hmul:A_s r.X0 r.X1 a*A_s r.Y0 r.Y1 b<=4096*4096:=Int.mul_le_mul (by omega) (by omega) (by omega) (by omega)
        have hmul0:0<=A_s r.X0 r.X1 a*A_s r.Y0 r.Y1 b:=Int.mul_nonneg (by omega) (by omega)
        rw [w64 (by omega) (by omega)]
        by_cases hb:A_s r.X0 r.X1 a*A_s r.Y0 r.Y1 b > 65536
        · rw [if_neg (by omega),decide_eq_true hb];rfl
        · rw [if_pos ⟨⟨by trivial,by trivial⟩,hab,by omega⟩,decide_eq_false hb];rfl
theorem K_j (r:F') (a b m:Int) (hm:m<=12):(0<=(A_J r a b m).1/\(A_J r a b m).1<=4096)/\(0<=(A_J r a b m).2.1/\(A_J r a b m).2.1<=4096)/\(0<=(A_J r a b m).2.2.1/\(A_J r a b m).2.2.1<=4096)/\(0<=(A_J r a b m).2.2.2/\(A_J r a b m).2.2.2<=4096)/\(A_J r a b m).2.2.1*(A_J r a b m).2.2.2<=65536:=by
  rw [F_F r a b m hm]
  split
  · rename_i h
    obtain ⟨⟨hv,he⟩,hab,hp⟩:=h
    obtain ⟨⟨h1,h2,h3⟩,h4,h5,h6⟩:=A_u.1 hv
    obtain ⟨g1,g2⟩:=N_E.1 he
    have b1:=C_M h1 g1 h3 hab.1.1 (by omega)
    have b2:=C_M h4 g2 h6 hab.2.1 (by omega)
    simp only []
    omega
  · simp only []
    omega
theorem V_o {x w:Int} (hx:1<=x) (hx2:x<=4096) (hw:1<=w):B_F x w=(x-1) / w+1:=by
  rw [G_N (by omega) (by omega) hw]
  have h1:=Int.mul_ediv_add_emod x w
  have h3:=Int.emod_lt_of_pos x (show 0<w by omega)
  have h5:=Int.emod_nonneg x (show w ≠ 0 by omega)
  by_cases h:x % w > 0
  · simp only [decide_eq_true h,cond_true]
    congr 1
    have:x-1=(x % w-1)+w*(x / w):=by omega
    have hz:(x % w-1) / w=0:=Int.ediv_eq_zero_of_lt (by omega) (by omega)
    rw [this,Int.add_mul_ediv_left _ _ (by omega),hz,Int.zero_add]
  · simp only [decide_eq_false h,cond_false]
    have:x-1=(w-1)+w*(x / w-1):=by
      have:w*(x / w-1)=w*(x / w)-w:=by rw [Int.mul_sub,Int.mul_one]
      omega
    have hz:(w-1) / w=0:=Int.ediv_eq_zero_of_lt (by omega) (by omega)
    rw [this,Int.add_mul_ediv_left _ _ (by omega),hz]
    omega
theorem C_c (r:F') (a b:Int):V_4 r a b=((A_J r a b 12).2.2.1,(A_J r a b 12).2.2.2):=by
  rw [F_F r a b 12 (by omega)]
  unfold V_4
  rw [A_S,B_4,D_e,B_D]
  cases hv:A_3 r with
  | false=>rw [if_neg (by simp)];rfl
  | true =>
    cases he:C_R r with
    | true=>rw [if_neg (by simp)];rfl
    | false =>
      by_cases d1:a<0
      · rw [if_neg (by omega)];simp [d1]
      by_cases d2:a > 12
      · rw [if_neg (by omega)];simp [d1,d2]
      by_cases d3:b<0
      · rw [if_neg (by omega)];simp [d1,d2,d3]
      by_cases d4:b > 12
      · rw [if_neg (by omega)];simp [d1,d2,d3,d4]
      obtain ⟨⟨h1,h2,h3⟩,h4,h5,h6⟩:=A_u.1 hv
      obtain ⟨g1,g2⟩:=N_E.1 he
      have b1:=C_M (a:=a) h1 g1 h3 (by omega) (by omega)
      have b2:=C_M (a:=b) h4 g2 h6 (by omega) (by omega)
      have p1:=A_2 (n:=a.toNat) (by omega)
      have p2:=A_2 (n:=b.toNat) (by omega)
      simp only [decide_eq_false d1,decide_eq_false d2,decide_eq_false d3,decide_eq_false d4,Bool.not_true,beq_self_eq_true,cond_true,cond_false,wrapu_nonneg,decide_true]
      rw [F_b (a:=a) (by omega) (by omega),F_b (a:=b) (by omega) (by omega),V_o (x:=r.X1) (by omega) h3 (by omega),V_o (x:=r.Y1) (by omega) h6 (by omega),C_L h1 (by omega) (by omega),C_L h4 (by omega) (by omega)]
      have e1:(r.X1-1) / 2 ^ a.toNat+1-r.X0 / 2 ^ a.toNat=A_s r.X0 r.X1 a:=by unfold A_s;omega
      have e2:(r.Y1-1) / 2 ^ b.toNat+1-r.Y0 / 2 ^ b.toNat=A_s r.Y0 r.Y1 b:=by unfold A_s;omega
      rw [e1,e2,w64 (n:=A_s r.X0 r.X1 a) (by omega) (by omega),w64 (n:=A_s r.Y0 r.Y1 b) (by omega) (by omega)]
      have hmul:A_s r.X0 r.X1 a*A_s r.Y0 r.Y1 b<=4096*4096:=Int.mul_le_mul (by omega) (by omega) (by omega) (by omega)
      have hmul0:0<=A_s r.X0 r.X1 a*A_s r.Y0 r.Y1 b:=Int.mul_nonneg (by omega) (by omega)
      rw [w64 (by omega) (by omega)]
      by_cases hb:A_s r.X0 r.X1 a*A_s r.Y0 r.Y1 b > 65536
      · rw [if_neg (by omega),decide_eq_true hb];rfl
      · rw [if_pos ⟨⟨by trivial,by trivial⟩,by omega,by omega⟩,decide_eq_false hb];rfl
theorem M_d (r:F') (a b i:Int):f_R r a b i=K_K r a b i:=by
  unfold f_R K_K
  rw [C_c,B_D]
  by_cases d1:i<0
  · simp [d1]
  by_cases d2:i >= IntKind.wrap .i64 ((A_J r a b 12).2.2.1*(A_J r a b 12).2.2.2)
  · simp [d1,d2]
  · have hg:(A_3 r=true/\C_R r=false)/\((0<=a/\a<=12)/\0<=b/\b<=12)/\A_s r.X0 r.X1 a*A_s r.Y0 r.Y1 b<=65536:=by
      apply Decidable.byContradiction
      intro hn
      rw [F_F r a b 12 (by omega),if_neg hn] at d2
      apply d2
      show i >= IntKind.wrap .i64 (0*0)
      rw [w64 (by omega) (by omega)]
      omega
    have he:A_J r a b 12=(r.X0 / 2 ^ a.toNat,r.Y0 / 2 ^ b.toNat,A_s r.X0 r.X1 a,A_s r.Y0 r.Y1 b):=by rw [F_F r a b 12 (by omega),if_pos hg]
    obtain ⟨⟨hv,hem⟩,hab,hp⟩:=hg
    obtain ⟨⟨h1,h2,h3⟩,h4,h5,h6⟩:=A_u.1 hv
    have p1:=A_2 (n:=a.toNat) (by omega)
    have p2:=A_2 (n:=b.toNat) (by omega)
    obtain ⟨g1,g2⟩:=N_E.1 hem
    have b1:=C_M (a:=a) h1 g1 h3 (by omega) (by omega)
    rw [he] at d2 ⊢
    simp only at d2
    have hc:(A_s r.X0 r.X1 a != 0)=true:=bne_iff_ne.2 (by omega)
    simp only [decide_eq_false d1,decide_eq_false d2,cond_false,wrapu_nonneg,decide_true,cond_true,hc]
    rw [F_b (a:=a) (by omega) (by omega),F_b (a:=b) (by omega) (by omega),C_L h1 (by omega) (by omega),C_L h4 (by omega) (by omega)]
theorem l_Y (c r:Int) {a b:Int} (ha:0<=a/\a<=12) (hb:0<=b/\b<=12):R_c c r a b=⟨IntKind.wrap .i64 (c*2 ^ a.toNat),IntKind.wrap .i64 (r*2 ^ b.toNat),IntKind.wrap .i64 (IntKind.wrap .i64 (c+1)*2 ^ a.toNat),IntKind.wrap .i64 (IntKind.wrap .i64 (r+1)*2 ^ b.toNat)⟩:=by
  unfold R_c
  simp only [wrapu_nonneg,decide_true,cond_true]
  rw [m_h ha.1 (by omega),m_h hb.1 (by omega),Nat.min_eq_left (by omega),Nat.min_eq_left (by omega)]
theorem H_b (c r:Int) {a b:Int} (ha:0<=a/\a<=12) (hb:0<=b/\b<=12):f_S c r a b=R_c c r a b:=by
  rw [l_Y c r ha hb]
  unfold f_S
  simp only [wrapu_nonneg,decide_true,cond_true]
  rw [F_b ha.1 ha.2,F_b hb.1 hb.2]
theorem P_2 {r:F'} {a b i:Int} (h:(K_K r a b i).2.2=true):(0<=i/\i<(A_J r a b 12).2.2.1*(A_J r a b 12).2.2.2) /\
    ((A_3 r=true/\C_R r=false)/\((0<=a/\a<=12)/\0<=b/\b<=12)/\A_s r.X0 r.X1 a*A_s r.Y0 r.Y1 b<=65536):=by
  have bd:=K_j r a b 12 (by omega)
  have hm0:0<=(A_J r a b 12).2.2.1*(A_J r a b 12).2.2.2:=Int.mul_nonneg bd.2.2.1.1 bd.2.2.2.1.1
  by_cases d1:i<0
  · unfold K_K at h;simp [d1] at h
  by_cases d2:i >= IntKind.wrap .i64 ((A_J r a b 12).2.2.1*(A_J r a b 12).2.2.2)
  · unfold K_K at h;simp [d1,d2] at h
  rw [w64 (by omega) (by omega)] at d2
  refine ⟨by omega,?_⟩
  apply Decidable.byContradiction
  intro hn
  rw [F_F r a b 12 (by omega),if_neg hn] at d2
  simp only at d2
  omega
theorem N_H (r:F') (a b i:Int):V_5 r a b i=(bif (K_K r a b i).2.2 then (C_S r (R_c (K_K r a b i).1 (K_K r a b i).2.1 a b),true) else (⟨0,0,0,0⟩,false)):=by
  unfold V_5
  rw [M_d,C_b]
  cases h:(K_K r a b i).2.2 with
  | false=>simp only [h,Bool.not_false,cond_true,cond_false]
  | true =>
    obtain ⟨_,_,hab,_⟩:=P_2 h
    simp only [h,Bool.not_true,cond_true,cond_false]
    rw [H_b _ _ hab.1 hab.2]
theorem U_n {r:F'}:A_1 r=true ↔ r=⟨0,0,0,0⟩:=by
  unfold A_1
  simp only [Bool.and_eq_true,beq_iff_eq,and_true]
  constructor
  · rintro ⟨h1,h2,h3,h4⟩
    obtain ⟨a,b,c,d⟩:=r
    simp only at h1 h2 h3 h4
    rw [h1,h2,h3,h4]
  · rintro rfl;exact ⟨rfl,rfl,rfl,rfl⟩
theorem O_5 (r:F'):(bif A_1 r then ((⟨0,0,0,0⟩:F'),true) else (r,true))=(r,true):=by
  cases h:A_1 r with
  | true=>rw [U_n.1 h];rfl
  | false=>rfl
theorem f_i (r s:F') (o a b i:Int):b_J r s o a b i=if (K_K r a b i).2.2=true/\A_3 s=true/\(0<=o/\o<=3) then
    (if o=0 then (C_S s (R_c (K_K r a b i).1 (K_K r a b i).2.1 a b),true)
     else if a=0 \/ b=0 then (⟨0,0,0,0⟩,false) else (C_S s (R_c (K_K r a b i).1 (K_K r a b i).2.1 (a-1) (b-1)),true)) else (⟨0,0,0,0⟩,false):=by
  unfold b_J
  cases hp:(K_K r a b i).2.2 with
  | false=>rw [if_neg (by simp)];simp only [hp];rfl
  | true =>
    cases hv:A_3 s with
    | false=>rw [if_neg (by simp)];simp only [hp];rfl
    | true =>
      obtain ⟨_,_,hab,_⟩:=P_2 hp
      by_cases d1:o<0
      · rw [if_neg (by omega)];simp only [hp,decide_eq_true d1];rfl
      by_cases d2:o > 3
      · rw [if_neg (by omega)];simp only [hp,decide_eq_false d1,decide_eq_true d2];rfl
      rw [if_pos ⟨by trivial,by trivial,by omega⟩]
      simp only [hp,decide_eq_false d1,decide_eq_false d2,Bool.not_true,beq_self_eq_true,cond_true,cond_false]
      by_cases ho:o=0
      · subst ho
        rw [if_pos rfl]
        exact O_5 _
      · rw [if_neg ho,show (o != 0)=true from bne_iff_ne.2 ho]
        simp only [cond_true]
        by_cases ha:a=0
        · rw [if_pos (.inl ha),show (a==0)=true by rw [ha];rfl];rfl
        · by_cases hb:b=0
          · rw [if_pos (.inr hb),show (a==0)=false from beq_eq_false_iff_ne.2 ha,show (b==0)=true by rw [hb];rfl];rfl
          · rw [if_neg (by omega),show (a==0)=false from beq_eq_false_iff_ne.2 ha,show (b==0)=false from beq_eq_false_iff_ne.2 hb,w64 (n:=a-1) (by omega) (by omega),w64 (n:=b-1) (by omega) (by omega)]
            exact O_5 _
theorem F_d (r s:F') (o a b i:Int):h_G r s o a b i=b_J r s o a b i:=by
  rw [f_i]
  unfold h_G
  rw [M_d,A_S,C_b]
  cases hp:(K_K r a b i).2.2 with
  | false=>rw [if_neg (by simp)];simp only [hp];rfl
  | true =>
    cases hv:A_3 s with
    | false=>rw [if_neg (by simp)];simp only [hp];rfl
    | true =>
      obtain ⟨_,_,hab,_⟩:=P_2 hp
      by_cases d1:o<0
      · rw [if_neg (by omega)];simp only [hp,decide_eq_true d1];rfl
      by_cases d2:o > 3
      · rw [if_neg (by omega)];simp only [hp,decide_eq_false d1,decide_eq_true d2];rfl
      rw [if_pos ⟨by trivial,by trivial,by omega⟩]
      simp only [hp,decide_eq_false d1,decide_eq_false d2,Bool.not_true,beq_self_eq_true,cond_true,cond_false]
      by_cases ho:o=0
      · subst ho
        rw [if_pos rfl,H_b _ _ hab.1 hab.2]
        rfl
      · rw [if_neg ho,show (o==0)=false from beq_eq_false_iff_ne.2 ho]
        simp only [cond_false]
        by_cases ha:a=0
        · rw [if_pos (.inl ha),show (a==0)=true by rw [ha];rfl];rfl
        · by_cases hb:b=0
          · rw [if_pos (.inr hb),show (a==0)=false from beq_eq_false_iff_ne.2 ha,show (b==0)=true by rw [hb];rfl];rfl
          · rw [if_neg (by omega),show (a==0)=false from beq_eq_false_iff_ne.2 ha,show (b==0)=false from beq_eq_false_iff_ne.2 hb,w64 (n:=a-1) (by omega) (by omega),w64 (n:=b-1) (by omega) (by omega),H_b _ _ (by omega) (by omega)]
            rfl
theorem U_o {a b c:Int} (h1:a<=b) (h2:b<=c):A_n a c=A_n a b++A_n b c:=by
  have key:∀ (n:Nat) (a:Int),a<=b->(b-a).toNat=n->A_n a c=A_n a b++A_n b c:=by
    intro n
    induction n with
    | zero =>
      intro a ha hn
      have:a=b:=by omega
      subst this
      rw [F_M (Int.le_refl a),List.nil_append]
    | succ n ih =>
      intro a ha hn
      rw [F_s (a:=a) (b:=c) (by omega),F_s (a:=a) (b:=b) (by omega),List.cons_append,ih (a+1) (by omega) (by omega)]
  exact key _ a h1 rfl
theorem a_M (k c:Int):A_n k (k+c)=(A_n 0 c).map fun i=>k+i:=by
  unfold A_n
  rw [List.map_map,show k+c-k=c-0 by omega]
  apply List.map_congr_left
  intro i _
  simp only [Function.comp]
  omega
theorem V_p {α:Type} (f:Int->Int->α) {c:Int} (hc:0<=c):∀ (r:Nat),(A_n 0 (c*(r:Int))).map (fun i=>f (i % c) (i / c))=(A_n 0 (r:Int)).flatMap fun j=>(A_n 0 c).map fun i=>f i j
  | 0=>by
    rw [show c*((0:Nat):Int)=0 by simp,F_M (Int.le_refl 0)]
    rfl
  | r+1=>by
    have hm:0<=c*(r:Int):=Int.mul_nonneg hc (by omega)
    have e1:c*((r+1:Nat):Int)=c*(r:Int)+c:=by
      rw [show ((r+1:Nat):Int)=(r:Int)+1 by omega,Int.mul_add,Int.mul_one]
    rw [e1,U_o (b:=c*(r:Int)) hm (by omega),List.map_append,V_p f hc r,a_M,show ((r+1:Nat):Int)=(r:Int)+1 by omega,Q_4 (by omega),List.flatMap_append]
    congr 1
    simp only [List.flatMap_cons,List.flatMap_nil,List.append_nil,List.map_map]
    apply List.map_congr_left
    intro i hi
    obtain ⟨h0,h1⟩:=A_C.1 hi
    simp only [Function.comp]
    rw [Int.add_comm,Int.add_mul_emod_self_left,Int.add_mul_ediv_left _ _ (by omega),Int.emod_eq_of_lt h0 h1,Int.ediv_eq_zero_of_lt h0 h1,Int.zero_add]
theorem l_Z:g_w:=v_V fun lo hi l hp hr=>by
  have hl:l.length<=1048576:=Nat.le_of_ble_eq_true hp
  have h:=U_8 (a:=0) (b:=(l.length:Int)) (L:=fun n i=>B_x lo hi l (l.length:Int) n i (fun _=>some (V.bool true)) some)
    (ok:=fun i=>inB lo hi (V.toInt (List.getD (l.getD i.toNat []) 0 V.undef))) (e:=some (V.bool true)) (x:=some (V.bool false))
    (fun n i h0 hi' hok=>by
      show B_R lo hi l (l.length:Int) i (fun y=>B_x lo hi l (l.length:Int) n y (fun _=>some (V.bool true)) some) _ _=_
      unfold B_R
      simp only [decide_eq_true hi',cond_true,A_c h0 hi',y_p hok,cond_false]
      rw [w64 (by omega) (by omega)])
    (fun n i h0 hi' hok=>by
      show B_R lo hi l (l.length:Int) i (fun y=>B_x lo hi l (l.length:Int) n y (fun _=>some (V.bool true)) some) _ _=_
      unfold B_R
      simp only [decide_eq_true hi',cond_true,A_c h0 hi',y_q hok,cond_false])
    (fun n i h0 hi'=>by
      show B_R lo hi l (l.length:Int) i (fun y=>B_x lo hi l (l.length:Int) n y (fun _=>some (V.bool true)) some) _ _=_
      unfold B_R
      simp only [decide_eq_false hi',cond_false])
    (N_n lo hi l (l.length:Int) 0) (Nat.le_refl _)
  refine Eq.trans h ?_
  rw [B_I (fun w=>inB lo hi (V.toInt (List.getD w 0 V.undef)))]
  show _=some (V.bool (l.all fun w=>inB lo hi (V.toInt (List.getD w 0 V.undef))))
  cases l.all fun w=>inB lo hi (V.toInt (List.getD w 0 V.undef)) <;> rfl
theorem S_W (w h lf rt bt j:Int) (a:F') (e:Rows->Option R) (hrt:rt<=1099511627776) :
    ∀ (n:Nat) (i:Int) (s:Rows),(0<=i/\s.length+(rt-i).toNat<=1099511627776)->(rt-i).toNat+1<=n ->
      B_y w h lf rt bt j a n i s (fun _ r=>e r)=e ((A_n i rt).foldl (fun s i=>s++[F'.row (D_l a w h j i)]) s):=by
  refine D_h (L:=fun n i s=>B_y w h lf rt bt j a n i s (fun _ r=>e r)) (fun i s=>0<=i/\s.length+(rt-i).toNat<=1099511627776) ?_ ?_ ?_
  · intro n i s ⟨h0,hl⟩ hi
    show D_u w h lf rt bt j a i s (fun y z=>B_y w h lf rt bt j a n y z (fun _ r=>e r)) _=_
    unfold D_u
    have hroom:roomOK (s.length+1) 32=true:=A_w (by omega)
    simp only [decide_eq_true hi,cond_true,hroom]
    rw [w64 (n:=i+1) (by omega) (by omega)]
    unfold D_l
    rw [w64 (n:=i+1) (by omega) (by omega)]
  · intro i s ⟨h0,hl⟩ hi
    refine ⟨by omega,?_⟩
    rw [List.length_append]
    show s.length+1+_<=_
    omega
  · intro n i s _ hi
    show D_u w h lf rt bt j a i s (fun y z=>B_y w h lf rt bt j a n y z (fun _ r=>e r)) _=_
    unfold D_u
    simp only [decide_eq_false hi,cond_false]
theorem D_a {a b m:Nat} (h:a=b+1):a*m=b*m+m:=by rw [h,Nat.add_mul,Nat.one_mul]
theorem S_X (w h lf rt bt:Int) (a:F') (e:Rows->Option R) (hlf:0<=lf) (hrt:rt<=1099511627776) (hbt:bt<=1099511627776) :
    ∀ (n:Nat) (j:Int) (s:Rows),(0<=j/\s.length+(bt-j).toNat*(rt-lf).toNat<=1099511627776)->(bt-j).toNat+1<=n ->
      B_d w h lf rt bt a n j s (fun _ r=>e r)=e ((A_n j bt).foldl (fun s j=>(A_n lf rt).foldl (fun s i=>s++[F'.row (D_l a w h j i)]) s) s):=by
  refine D_h (L:=fun n j s=>B_d w h lf rt bt a n j s (fun _ r=>e r)) (fun j s=>0<=j/\s.length+(bt-j).toNat*(rt-lf).toNat<=1099511627776) ?_ ?_ ?_
  · intro n j s ⟨h0,hl⟩ hi
    show D_v w h lf rt bt a j s (fun y z=>B_d w h lf rt bt a n y z (fun _ r=>e r)) _=_
    unfold D_v
    have hm:=D_a (a:=(bt-j).toNat) (b:=(bt-(j+1)).toNat) (m:=(rt-lf).toNat) (by omega)
    simp only [decide_eq_true hi,cond_true]
    rw [w64 (n:=j+1) (by omega) (by omega)]
    exact S_W w h lf rt bt j a (fun r=>B_d w h lf rt bt a n (j+1) r (fun _ r=>e r)) hrt _ lf s ⟨hlf,by omega⟩ (Nat.le_refl _)
  · intro j s ⟨h0,hl⟩ hi
    have hm:=D_a (a:=(bt-j).toNat) (b:=(bt-(j+1)).toNat) (m:=(rt-lf).toNat) (by omega)
    refine ⟨by omega,?_⟩
    rw [A_4,List.length_append,List.length_map,A_q]
    omega
  · intro n j s _ hi
    show D_v w h lf rt bt a j s (fun y z=>B_d w h lf rt bt a n y z (fun _ r=>e r)) _=_
    unfold D_v
    simp only [decide_eq_false hi,cond_false]
theorem O_6 (w h lf rt tp bt:Int) (a:F'):(A_n tp bt).foldl (fun s j=>(A_n lf rt).foldl (fun s i=>s++[F'.row (D_l a w h j i)]) s) []=((A_n tp bt).flatMap fun j=>(A_n lf rt).map fun i=>D_l a w h j i).map F'.row:=by
  have e:(fun (s:Rows) (j:Int)=>(A_n lf rt).foldl (fun s i=>s++[F'.row (D_l a w h j i)]) s)=fun s j=>s++(A_n lf rt).map (fun i=>F'.row (D_l a w h j i)):=by
    funext s j
    rw [A_4]
  rw [e,C_n,List.nil_append,List.map_flatMap]
  simp only [List.map_map]
  rfl
theorem N_I {a b:Nat} (ha:a<=4096) (hb:b<=4096):a*b<=16777216:=by
  have:=Nat.mul_le_mul ha hb
  omega
theorem H_c {r:F'} {w h:Int} (hv:A_3 r=true) (hw:¬ w<1) (hh:¬ h<1) :
    0<=D_k r.X0 w/\B_F r.X1 w<=4096/\0<=D_k r.Y0 h/\B_F r.Y1 h<=4096:=by
  obtain ⟨⟨h1,h2,h3⟩,h4,h5,h6⟩:=A_u.1 hv
  have a1:=N_F (x:=r.X0) (w:=w) (by omega) (by omega) (by omega)
  have a2:=C_j (x:=r.X1) (w:=w) (by omega) (by omega) (by omega)
  have a3:=N_F (x:=r.Y0) (w:=h) (by omega) (by omega) (by omega)
  have a4:=C_j (x:=r.Y1) (w:=h) (by omega) (by omega) (by omega)
  omega
theorem a_N (h_K0:T_S) (h_J1:V_9) (h_D1:W_a) (h_G1:h_P) (h_E7:k_p):m_x :=
  v_4 (h_K0:=h_K0) (h_J1:=h_J1) (h_D1:=h_D1) (h_G1:=h_G1) (h_E7:=h_E7) fun r w h hr=>by
    unfold T_Y T_M F_g M_7
    cases hv:A_3 r with
    | false=>simp
    | true =>
      cases he:C_R r with
      | true=>simp
      | false =>
        by_cases hw:w<1
        · simp [hw]
        by_cases hh:h<1
        · simp [hw,hh]
        obtain ⟨b1,b2,b3,b4⟩:=H_c hv hw hh
        simp only [decide_eq_false hw,decide_eq_false hh,cond_false,cond_true,Bool.not_true,Bool.not_false,Bool.true_and,Bool.and_true,beq_self_eq_true]
        cases hbig:decide (IntKind.wrap .i64 (IntKind.wrap .i64 (B_F r.X1 w-D_k r.X0 w)*IntKind.wrap .i64 (B_F r.Y1 h-D_k r.Y0 h)) > 65536) with
        | true=>rfl
        | false =>
          simp only [cond_false,Bool.not_false,cond_true]
          have hm:=N_I (a:=(B_F r.Y1 h-D_k r.Y0 h).toNat) (b:=(B_F r.X1 w-D_k r.X0 w).toNat) (by omega) (by omega)
          refine (S_X w h (D_k r.X0 w) (B_F r.X1 w) (B_F r.Y1 h) r (fun q=>some (V.data F'.sh q)) b1 (by omega) (by omega) _ (D_k r.Y0 h) [] ⟨b3,by simp only [List.length_nil];omega⟩ (Nat.le_refl _)).trans ?_
          rw [O_6]
theorem a_O (a:F') (w h j i:Int):O_K a ⟨IntKind.wrap .i64 (i*w),IntKind.wrap .i64 (j*h),IntKind.wrap .i64 (IntKind.wrap .i64 (i*w)+w),IntKind.wrap .i64 (IntKind.wrap .i64 (j*h)+h)⟩=D_l a w h j i:=by
  have e:∀ (i w:Int),IntKind.wrap .i64 (IntKind.wrap .i64 (i*w)+w)=IntKind.wrap .i64 (IntKind.wrap .i64 (i+1)*w):=by
    intro i w
    rw [D_6,H_x,Int.add_mul,Int.one_mul]
  unfold D_l
  rw [e,e]
  rfl
theorem U_p (w h lf rt bt j:Int) (a:F') (e:Rows->Option R) (hrt:rt<=1099511627776) :
    ∀ (n:Nat) (i:Int) (s:Rows),(0<=i/\s.length+(rt-i).toNat<=1099511627776)->(rt-i).toNat+1<=n ->
      B_w w h lf rt bt j a n i s (fun _ r=>e r)=e ((A_n i rt).foldl (fun s i=>s++[F'.row (D_l a w h j i)]) s):=by
  refine D_h (L:=fun n i s=>B_w w h lf rt bt j a n i s (fun _ r=>e r)) (fun i s=>0<=i/\s.length+(rt-i).toNat<=1099511627776) ?_ ?_ ?_
  · intro n i s ⟨h0,hl⟩ hi
    show D_n w h lf rt bt j a i s (fun y z=>B_w w h lf rt bt j a n y z (fun _ r=>e r)) _=_
    unfold D_n
    have hroom:roomOK (s.length+1) 32=true:=A_w (by omega)
    simp only [decide_eq_true hi,cond_true,hroom,a_O]
    rw [w64 (n:=i+1) (by omega) (by omega)]
  · intro i s ⟨h0,hl⟩ hi
    refine ⟨by omega,?_⟩
    rw [List.length_append]
    show s.length+1+_<=_
    omega
  · intro n i s _ hi
    show D_n w h lf rt bt j a i s (fun y z=>B_w w h lf rt bt j a n y z (fun _ r=>e r)) _=_
    unfold D_n
    simp only [decide_eq_false hi,cond_false]
theorem U_q (w h lf rt bt:Int) (a:F') (e:Rows->Option R) (hlf:0<=lf) (hrt:rt<=1099511627776) (hbt:bt<=1099511627776) :
    ∀ (n:Nat) (j:Int) (s:Rows),(0<=j/\s.length+(bt-j).toNat*(rt-lf).toNat<=1099511627776)->(bt-j).toNat+1<=n ->
      B_c w h lf rt bt a n j s (fun _ r=>e r)=e ((A_n j bt).foldl (fun s j=>(A_n lf rt).foldl (fun s i=>s++[F'.row (D_l a w h j i)]) s) s):=by
  refine D_h (L:=fun n j s=>B_c w h lf rt bt a n j s (fun _ r=>e r)) (fun j s=>0<=j/\s.length+(bt-j).toNat*(rt-lf).toNat<=1099511627776) ?_ ?_ ?_
  · intro n j s ⟨h0,hl⟩ hi
    show D_o w h lf rt bt a j s (fun y z=>B_c w h lf rt bt a n y z (fun _ r=>e r)) _=_
    unfold D_o
    have hm:=D_a (a:=(bt-j).toNat) (b:=(bt-(j+1)).toNat) (m:=(rt-lf).toNat) (by omega)
    simp only [decide_eq_true hi,cond_true]
    rw [w64 (n:=j+1) (by omega) (by omega)]
    exact U_p w h lf rt bt j a (fun r=>B_c w h lf rt bt a n (j+1) r (fun _ r=>e r)) hrt _ lf s ⟨hlf,by omega⟩ (Nat.le_refl _)
  · intro j s ⟨h0,hl⟩ hi
    have hm:=D_a (a:=(bt-j).toNat) (b:=(bt-(j+1)).toNat) (m:=(rt-lf).toNat) (by omega)
    refine ⟨by omega,?_⟩
    rw [A_4,List.length_append,List.length_map,A_q]
    omega
  · intro n j s _ hi
    show D_o w h lf rt bt a j s (fun y z=>B_c w h lf rt bt a n y z (fun _ r=>e r)) _=_
    unfold D_o
    simp only [decide_eq_false hi,cond_false]
theorem a_P (h_L1:V_7) (h_F5:c_E) (h_K8:T_R) (h_I2:h_I) (h_G3:h_K):m_s :=
  v_f (h_L1:=h_L1) (h_F5:=h_F5) (h_K8:=h_K8) (h_I2:=h_I2) (h_G3:=h_G3) fun r w h hr=>by
    unfold T_T h_k T_M F_g M_7
    rw [A_S,B_4,D_e,B_D]
    cases hv:A_3 r with
    | false=>simp
    | true =>
      cases he:C_R r with
      | true=>simp
      | false =>
        by_cases hw:w<1
        · simp [hw]
        by_cases hh:h<1
        · simp [hw,hh]
        obtain ⟨b1,b2,b3,b4⟩:=H_c hv hw hh
        simp only [decide_eq_false hw,decide_eq_false hh,cond_false,cond_true,Bool.not_true,Bool.not_false,Bool.true_and,Bool.and_true,beq_self_eq_true]
        cases hbig:decide (IntKind.wrap .i64 (IntKind.wrap .i64 (B_F r.X1 w-D_k r.X0 w)*IntKind.wrap .i64 (B_F r.Y1 h-D_k r.Y0 h)) > 65536) with
        | true=>rfl
        | false =>
          simp only [cond_false,Bool.not_false,cond_true]
          have hm:=N_I (a:=(B_F r.Y1 h-D_k r.Y0 h).toNat) (b:=(B_F r.X1 w-D_k r.X0 w).toNat) (by omega) (by omega)
          refine (U_q w h (D_k r.X0 w) (B_F r.X1 w) (B_F r.Y1 h) r (fun q=>some (V.data F'.sh q)) b1 (by omega) (by omega) _ (D_k r.Y0 h) [] ⟨b3,by simp only [List.length_nil];omega⟩ (Nat.le_refl _)).trans ?_
          rw [O_6]
theorem P_3 (h:D') (i:Int) (again kn:Int->Option R) (kr:V->Option R) (h0:0<=i) (hl:h.Components.length<=1048576) :
    H_8 h.Components (h.Components.length:Int) h i again kn kr=bif decide (i<(h.Components.length:Int)) then (bif C_o h.Area (h.Components.getD i.toNat []) then again (i+1) else kr (V.int .i64 12)) else kn i:=by
  unfold H_8
  by_cases hi:i<(h.Components.length:Int)
  · simp only [decide_eq_true hi,cond_true,A_c h0 hi,K_f,K_g,G_P,G_Q,g_z]
    rw [w64 (n:=i+1) (by omega) (by omega)]
    unfold C_o
    cases inB 1 16 (H'.of (h.Components.getD i.toNat [])).Depth <;> cases inB 1 4 (H'.of (h.Components.getD i.toNat [])).DX <;> cases inB 1 4 (H'.of (h.Components.getD i.toNat [])).DY <;>
      cases C_R (D_j h.Area (H'.of (h.Components.getD i.toNat [])).DX (H'.of (h.Components.getD i.toNat [])).DY) <;> rfl
  · simp only [decide_eq_false hi,cond_false]
theorem P_4 (h:D') (i:Int) (again kn:Int->Option R) (kr:V->Option R) (h0:0<=i) (hl:h.Components.length<=1048576) :
    I_a h.Components (h.Components.length:Int) h i again kn kr=bif decide (i<(h.Components.length:Int)) then (bif A_T h.Area (h.Components.getD i.toNat []) then again (i+1) else kr (V.int .i64 5)) else kn i:=by
  unfold I_a
  by_cases hi:i<(h.Components.length:Int)
  · simp only [decide_eq_true hi,cond_true,A_c h0 hi]
    rw [w64 (n:=i+1) (by omega) (by omega)]
    unfold A_T
    cases decide (j_C (D_j h.Area (H'.of (h.Components.getD i.toNat [])).DX (H'.of (h.Components.getD i.toNat [])).DY) > 1048576) <;> rfl
  · simp only [decide_eq_false hi,cond_false]
theorem P_5 (h:D') (e:Option R) (kr:V->Option R) (hl:h.Components.length<=1048576) :
    C_x h.Components (h.Components.length:Int) h (N_o h.Components (h.Components.length:Int) 0 h) 0 (fun _=>e) kr=bif h.Components.all (C_o h.Area) then e else kr (V.int .i64 12):=by
  refine (A_A (a:=0) (b:=(h.Components.length:Int)) (L:=fun n i=>C_x h.Components (h.Components.length:Int) h n i (fun _=>e) kr) (ok:=fun i=>C_o h.Area (h.Components.getD i.toNat [])) (e:=e) (x:=kr (V.int .i64 12)) (fun n i h0=>P_3 h i _ _ kr h0 hl) _ (Nat.le_refl _)).trans ?_
  rw [B_I (C_o h.Area)]
theorem P_6 (h:D') (e:Option R) (kr:V->Option R) (hl:h.Components.length<=1048576) :
    C_y h.Components (h.Components.length:Int) h (N_p h.Components (h.Components.length:Int) 0 h) 0 (fun _=>e) kr=bif h.Components.all (A_T h.Area) then e else kr (V.int .i64 5):=by
  refine (A_A (a:=0) (b:=(h.Components.length:Int)) (L:=fun n i=>C_y h.Components (h.Components.length:Int) h n i (fun _=>e) kr) (ok:=fun i=>A_T h.Area (h.Components.getD i.toNat [])) (e:=e) (x:=kr (V.int .i64 5)) (fun n i h0=>P_4 h i _ _ kr h0 hl) _ (Nat.le_refl _)).trans ?_
  rw [B_I (A_T h.Area)]
theorem f_j (h:D'):P_W h some=some (V.int .i64 (F_t h)):=by
  unfold P_W F_t M_6
  simp only [K_f,K_g,G_P,G_Q,g_z,F_D,cond_true]
  cases hv:A_3 h.Area with
  | false=>rfl
  | true =>
    cases he:C_R h.Area with
    | true=>rfl
    | false =>
      cases hw:inB 1 4096 h.TileW with
      | false=>rfl
      | true =>
        cases hh:inB 1 4096 h.TileH with
        | false=>rfl
        | true =>
          cases hc:inB 1 4 (h.Components.length:Int) with
          | false=>rfl
          | true =>
            have hl:h.Components.length<=1048576:=by have:=B_k.1 hc;omega
            simp only [cond_true,cond_false,Bool.not_true,Bool.not_false,Bool.true_and,Bool.and_true]
            rw [P_5 h _ some hl,P_6 h _ some hl]
            cases ha:h.Components.all (C_o h.Area) with
            | false=>rfl
            | true =>
              unfold O_J
              simp only [cond_true]
              cases decide (IntKind.wrap .i64 (IntKind.wrap .i64 (B_F h.Area.X1 h.TileW-D_k h.Area.X0 h.TileW)*IntKind.wrap .i64 (B_F h.Area.Y1 h.TileH-D_k h.Area.Y0 h.TileH)) > 1024) with
              | true=>rfl
              | false=>cases h.Components.all (A_T h.Area) <;> rfl
theorem a_Q (h1:T_S) (h2:V_9) (h3:f_Y) (h4:g_w) (h5:h_P) (h6:k_p) (h7:q_Y):k_s:=by
  refine v_0 ?_ ?_ ?_ ?_ ?_ ?_ ?_ (fun h _=>f_j h) <;> assumption
theorem K_k (h:D') (i:Int) (again kn:Int->Option R) (kr:V->Option R) (h0:0<=i) (hl:h.Components.length<=1048576) :
    H_G h i again kn kr=bif decide (i<(h.Components.length:Int)) then (bif C_o h.Area (h.Components.getD i.toNat []) then again (i+1) else kr (V.int .i64 12)) else kn i:=by
  unfold H_G
  rw [A_5,B_4]
  by_cases hi:i<(h.Components.length:Int)
  · simp only [decide_eq_true hi,cond_true,A_c h0 hi,F_C,g_z]
    rw [w64 (n:=i+1) (by omega) (by omega)]
    unfold C_o
    cases inB 1 16 (H'.of (h.Components.getD i.toNat [])).Depth <;> cases inB 1 4 (H'.of (h.Components.getD i.toNat [])).DX <;> cases inB 1 4 (H'.of (h.Components.getD i.toNat [])).DY <;>
      cases C_R (D_j h.Area (H'.of (h.Components.getD i.toNat [])).DX (H'.of (h.Components.getD i.toNat [])).DY) <;> rfl
  · simp only [decide_eq_false hi,cond_false]
theorem K_l (h:D') (i:Int) (again kn:Int->Option R) (kr:V->Option R) (h0:0<=i) (hl:h.Components.length<=1048576) :
    H_I h i again kn kr=bif decide (i<(h.Components.length:Int)) then (bif A_T h.Area (h.Components.getD i.toNat []) then again (i+1) else kr (V.int .i64 5)) else kn i:=by
  unfold H_I
  rw [A_5,U_m]
  by_cases hi:i<(h.Components.length:Int)
  · simp only [decide_eq_true hi,cond_true,A_c h0 hi]
    rw [w64 (n:=i+1) (by omega) (by omega)]
    unfold A_T
    cases decide (j_C (D_j h.Area (H'.of (h.Components.getD i.toNat [])).DX (H'.of (h.Components.getD i.toNat [])).DY) > 1048576) <;> rfl
  · simp only [decide_eq_false hi,cond_false]
theorem K_m (h:D') (e:Option R) (kr:V->Option R) (hl:h.Components.length<=1048576) :
    C_p h (N_h 0 h) 0 (fun _=>e) kr=bif h.Components.all (C_o h.Area) then e else kr (V.int .i64 12):=by
  refine (A_A (a:=0) (b:=(h.Components.length:Int)) (L:=fun n i=>C_p h n i (fun _=>e) kr) (ok:=fun i=>C_o h.Area (h.Components.getD i.toNat [])) (e:=e) (x:=kr (V.int .i64 12)) (fun n i h0=>K_k h i _ _ kr h0 hl) _ (Nat.le_refl _)).trans ?_
  rw [B_I (C_o h.Area)]
theorem K_n (h:D') (e:Option R) (kr:V->Option R) (hl:h.Components.length<=1048576) :
    C_q h (N_i 0 h) 0 (fun _=>e) kr=bif h.Components.all (A_T h.Area) then e else kr (V.int .i64 5):=by
  refine (A_A (a:=0) (b:=(h.Components.length:Int)) (L:=fun n i=>C_q h n i (fun _=>e) kr) (ok:=fun i=>A_T h.Area (h.Components.getD i.toNat [])) (e:=e) (x:=kr (V.int .i64 5)) (fun n i h0=>K_l h i _ _ kr h0 hl) _ (Nat.le_refl _)).trans ?_
  rw [B_I (A_T h.Area)]
theorem S_Y (h:D'):q_J h=O_J h:=rfl
theorem P_7 (h:D'):P_S h some=some (V.int .i64 (F_t h)):=by
  unfold P_S F_t M_6
  rw [A_S,B_4,S_Y]
  simp only [F_C,g_z,F_D,cond_true]
  cases hv:A_3 h.Area with
  | false=>rfl
  | true =>
    cases he:C_R h.Area with
    | true=>rfl
    | false =>
      cases hw:inB 1 4096 h.TileW with
      | false=>rfl
      | true =>
        cases hh:inB 1 4096 h.TileH with
        | false=>rfl
        | true =>
          cases hc:inB 1 4 (h.Components.length:Int) with
          | false=>rfl
          | true =>
            have hl:h.Components.length<=1048576:=by have:=B_k.1 hc;omega
            simp only [cond_true,cond_false,Bool.not_true,Bool.not_false,Bool.true_and,Bool.and_true]
            rw [K_m h _ some hl,K_n h _ some hl]
            cases ha:h.Components.all (C_o h.Area) with
            | false=>rfl
            | true =>
              simp only [cond_true]
              cases decide (O_J h > 1024) with
              | true=>rfl
              | false=>cases h.Components.all (A_T h.Area) <;> rfl
theorem a_R (h1:T_R) (h2:V_7) (h3:V_8) (h4:m_p) (h5:q_O) (h7:q_P):g_u:=by
  refine v_c ?_ ?_ ?_ ?_ ?_ ?_ (fun h _=>P_7 h) <;> assumption
theorem O_i (h:D') (p:C') (i:Int) (again kn:Int->Option R) (kr:V->Option R) (h0:0<=i) (hl:p.Precincts.length<=1048576) :
    I_d p.Precincts (p.Precincts.length:Int) h p i again kn kr=bif decide (i<(p.Precincts.length:Int)) then (bif (inB (bif decide (1<i) then 1 else i) 12 (X'.of (p.Precincts.getD i.toNat [])).X&&inB (bif decide (1<i) then 1 else i) 12 (X'.of (p.Precincts.getD i.toNat [])).Y) then again (i+1) else kr (V.bool false)) else kn i:=by
  unfold I_d
  by_cases hi:i<(p.Precincts.length:Int)
  · simp only [decide_eq_true hi,cond_true,A_c h0 hi,K_g,G_Q]
    rw [w64 (n:=i+1) (by omega) (by omega)]
    cases inB (bif decide (1<i) then 1 else i) 12 (X'.of (p.Precincts.getD i.toNat [])).X <;> cases inB (bif decide (1<i) then 1 else i) 12 (X'.of (p.Precincts.getD i.toNat [])).Y <;> rfl
  · simp only [decide_eq_false hi,cond_false]
theorem G_2 (h:D') (p:C') (e:Option R) (kr:V->Option R) (hl:p.Precincts.length<=1048576) :
    B_S p.Precincts (p.Precincts.length:Int) h p (I_c p.Precincts (p.Precincts.length:Int) 0 h p) 0 (fun _=>e) kr=bif K_G p.Precincts then e else kr (V.bool false) :=
  A_A (a:=0) (b:=(p.Precincts.length:Int)) (L:=fun n i=>B_S p.Precincts (p.Precincts.length:Int) h p n i (fun _=>e) kr) (ok:=fun i=>inB (bif decide (1<i) then 1 else i) 12 (X'.of (p.Precincts.getD i.toNat [])).X&&inB (bif decide (1<i) then 1 else i) 12 (X'.of (p.Precincts.getD i.toNat [])).Y) (e:=e) (x:=kr (V.bool false)) (fun n i h0=>O_i h p i _ _ kr h0 hl) _ (Nat.le_refl _)
theorem a_S (h:D') (p:C'):(bif ((p.Color==(0:Int))==false) then
 let x20:Int:=(((List.length h.Components):Nat):Int)
 let b21:Bool:=(decide (x20 >= (3:Int)))
 bif ((inR (0:Int) (List.length h.Components))||!(b21==true)) then
 let w22:List V:=(List.getD h.Components (0:Nat) [])
 let s23:H':=(H'.of w22)
 bif ((inR (1:Int) (List.length h.Components))||!(b21==true)) then
 let w24:List V:=(List.getD h.Components (1:Nat) [])
 let s25:H':=(H'.of w24)
 let b26:Bool:=((s23.Depth==s25.Depth)&&((s23.Signed==s25.Signed)&&((s23.DX==s25.DX)&&((s23.DY==s25.DY)&&true))))
 let b27:Bool:=(bif b21 then b26 else false)
 bif ((inR (0:Int) (List.length h.Components))||!(b27==true)) then
 let w28:List V:=(List.getD h.Components (0:Nat) [])
 let s29:H':=(H'.of w28)
 bif ((inR (2:Int) (List.length h.Components))||!(b27==true)) then
 let w30:List V:=(List.getD h.Components (2:Nat) [])
 let s31:H':=(H'.of w30)
 let b32:Bool:=((s29.Depth==s31.Depth)&&((s29.Signed==s31.Signed)&&((s29.DX==s31.DX)&&((s29.DY==s31.DY)&&true))))
 let b33:Bool:=(bif b27 then b32 else false)
 some (V.bool b33)
 else none
 else none
 else none
 else none
 else
 some (V.bool true))=some (V.bool (O_L h p)):=by
  unfold O_L V_c
  cases hc:p.Color==0 with
  | true=>rfl
  | false =>
    by_cases h3:(h.Components.length:Int) >= 3
    · have i0:inR 0 h.Components.length=true:=A_c (by omega) (by omega)
      have i1:inR 1 h.Components.length=true:=A_c (by omega) (by omega)
      have i2:inR 2 h.Components.length=true:=A_c (by omega) (by omega)
      simp only [decide_eq_true h3,i0,i1,i2,Bool.true_or,cond_true,beq_self_eq_true,Bool.false_or,Bool.true_and]
      congr 2
      cases ((H'.of (h.Components.getD 0 [])).Depth==(H'.of (h.Components.getD 1 [])).Depth)&&(((H'.of (h.Components.getD 0 [])).Signed==(H'.of (h.Components.getD 1 [])).Signed)&&(((H'.of (h.Components.getD 0 [])).DX==(H'.of (h.Components.getD 1 [])).DX)&&(((H'.of (h.Components.getD 0 [])).DY==(H'.of (h.Components.getD 1 [])).DY)&&true))) <;> rfl
    · simp only [decide_eq_false h3]
      have e1:∀ x:Bool,(x||!(false==true))=true:=by intro x;cases x <;> rfl
      simp only [e1,cond_true,cond_false,beq_self_eq_true,Bool.false_or,Bool.false_and]
theorem f_k (h:D') (p:C') (hL:0<=p.Levels/\p.Levels<=5):(bif (A_O (1:Int) (16:Int) [[(V.int .i64 p.Layers)]]) then
 let c13:Bool:=(K_F (1:Int) (16:Int) [[(V.int .i64 p.Layers)]])
 bif ((!c13)==false) then
 let x14:Int:=(((List.length p.Steps):Nat):Int)
 let x15:Int:=(IntKind.wrap .i64 ((3:Int)*p.Levels))
 let x16:Int:=(IntKind.wrap .i64 (x15+(1:Int)))
 bif ((x14 != x16)==false) then
 bif (A_O (1:Int) (65536:Int) p.Steps) then
 let c17:Bool:=(K_F (1:Int) (65536:Int) p.Steps)
 bif (!c17) then
 some (V.bool false)
 else
 bif (A_O (8:Int) (32:Int) [[(V.int .i64 p.Dead)]]) then
 let c18:Bool:=(K_F (8:Int) (32:Int) [[(V.int .i64 p.Dead)]])
 bif ((!c18)==false) then
 bif (A_O (0:Int) (30:Int) [[(V.int .i64 p.Shift)]]) then
 let c19:Bool:=(K_F (0:Int) (30:Int) [[(V.int .i64 p.Shift)]])
 bif (!c19) then
 some (V.bool false)
 else
 bif ((p.Color==(0:Int))==false) then
 let x20:Int:=(((List.length h.Components):Nat):Int)
 let b21:Bool:=(decide (x20 >= (3:Int)))
 bif ((inR (0:Int) (List.length h.Components))||!(b21==true)) then
 let w22:List V:=(List.getD h.Components (0:Nat) [])
 let s23:H':=(H'.of w22)
 bif ((inR (1:Int) (List.length h.Components))||!(b21==true)) then
 let w24:List V:=(List.getD h.Components (1:Nat) [])
 let s25:H':=(H'.of w24)
 let b26:Bool:=((s23.Depth==s25.Depth)&&((s23.Signed==s25.Signed)&&((s23.DX==s25.DX)&&((s23.DY==s25.DY)&&true))))
 let b27:Bool:=(bif b21 then b26 else false)
 bif ((inR (0:Int) (List.length h.Components))||!(b27==true)) then
 let w28:List V:=(List.getD h.Components (0:Nat) [])
 let s29:H':=(H'.of w28)
 bif ((inR (2:Int) (List.length h.Components))||!(b27==true)) then
 let w30:List V:=(List.getD h.Components (2:Nat) [])
 let s31:H':=(H'.of w30)
 let b32:Bool:=((s29.Depth==s31.Depth)&&((s29.Signed==s31.Signed)&&((s29.DX==s31.DX)&&((s29.DY==s31.DY)&&true))))
 let b33:Bool:=(bif b27 then b32 else false)
 some (V.bool b33)
 else none
 else none
 else none
 else none
 else
 some (V.bool true)
 else none
 else
 some (V.bool false)
 else none
 else none
 else
 some (V.bool false)
 else
 some (V.bool false)
 else none)=some (V.bool (inB 1 16 p.Layers&&((p.Steps.length:Int)==3*p.Levels+1)&&F_u p.Steps&&inB 8 32 p.Dead&&inB 0 30 p.Shift&&O_L h p)):=by
  have hc:=a_S h p
  simp only [K_f,K_g,G_P,G_Q,cond_true,cond_false,F_D,V_l,Bool.not_not,Bool.not_true,Bool.not_false,Bool.true_and,Bool.and_true,Bool.and_false,Bool.false_and] at hc ⊢
  rw [w64 (n:=3*p.Levels) (by omega) (by omega),w64 (n:=3*p.Levels+1) (by omega) (by omega)]
  cases inB 1 16 p.Layers with
  | false=>rfl
  | true =>
    by_cases hs:(p.Steps.length:Int)=3*p.Levels+1
    · have e1:((p.Steps.length:Int) != 3*p.Levels+1)=false:=by simp [hs]
      have e2:((p.Steps.length:Int)==3*p.Levels+1)=true:=by simp [hs]
      have e3:A_O 1 65536 p.Steps=true:=Nat.ble_eq_true_of_le (by omega)
      simp only [e1,e2,e3,cond_true,Bool.not_false,Bool.true_and]
      show (bif !(F_u p.Steps) then _ else _)=_
      cases F_u p.Steps with
      | false=>rfl
      | true =>
        cases inB 8 32 p.Dead with
        | false=>rfl
        | true =>
          cases inB 0 30 p.Shift with
          | false=>rfl
          | true=>exact hc
    · have e1:((p.Steps.length:Int) != 3*p.Levels+1)=true:=by simp [hs]
      have e2:((p.Steps.length:Int)==3*p.Levels+1)=false:=by simp [hs]
      simp only [e1,e2,cond_true,cond_false,Bool.not_true,Bool.and_false,Bool.false_and]
theorem S_Z (h:D') (p:C'):P_X h p some=some (V.bool (b_H h p)):=by
  unfold P_X b_H N_5
  cases hL:inB 0 5 p.Levels with
  | false =>
    simp only [K_f,K_g,G_P,G_Q,cond_true,cond_false,F_D,V_l,Bool.not_not,Bool.not_true,Bool.not_false,Bool.true_and,Bool.and_true,Bool.and_false,Bool.false_and,hL]
  | true =>
    have hL':=B_k.1 hL
    have ht:=f_k h p hL'
    simp only [K_f,K_g,G_P,G_Q,cond_true,cond_false,F_D,V_l,Bool.not_not,Bool.not_true,Bool.not_false,Bool.true_and,Bool.and_true,Bool.and_false,Bool.false_and,hL] at ht ⊢
    cases hX:inB 2 6 p.BlockX with
    | false=>rfl
    | true =>
      cases hY:inB 2 6 p.BlockY with
      | false=>rfl
      | true =>
        simp only [cond_true,cond_false,Bool.not_true,Bool.true_and,Bool.and_true]
        rw [w64 (n:=p.Levels+1) (by omega) (by omega)]
        by_cases hz:(p.Precincts.length:Int)=0
        · have e1:((p.Precincts.length:Int) != 0)=false:=by rw [hz];rfl
          have e2:((p.Precincts.length:Int)==0)=true:=by rw [hz];rfl
          have e3:K_G p.Precincts=true:=by
            unfold K_G
            rw [hz,F_M (Int.le_refl 0)];rfl
          simp only [e1,e2,cond_false,Bool.true_or,Bool.and_true]
          rw [G_2 h p _ some (by omega),e3,cond_true,ht]
          congr 2
          cases inB 1 16 p.Layers <;> cases inB 8 32 p.Dead <;> cases inB 0 30 p.Shift <;> cases ((p.Steps.length:Int)==3*p.Levels+1) <;> cases F_u p.Steps <;> rfl
        · have e1:((p.Precincts.length:Int) != 0)=true:=bne_iff_ne.2 hz
          have e2:((p.Precincts.length:Int)==0)=false:=beq_eq_false_iff_ne.2 hz
          by_cases hp:(p.Precincts.length:Int)=p.Levels+1
          · have e3:((p.Precincts.length:Int) != p.Levels+1)=false:=by simp [hp]
            have e4:((p.Precincts.length:Int)==p.Levels+1)=true:=by simp [hp]
            simp only [e1,e2,e3,e4,cond_true,cond_false,Bool.false_or,Bool.true_and]
            rw [G_2 h p _ some (by omega),ht]
            cases K_G p.Precincts with
            | false =>
              simp only [cond_false,Bool.and_false,Bool.false_and]
            | true =>
              simp only [cond_true,Bool.and_true]
              congr 2
              cases inB 1 16 p.Layers <;> cases inB 8 32 p.Dead <;> cases inB 0 30 p.Shift <;> cases ((p.Steps.length:Int)==3*p.Levels+1) <;> cases F_u p.Steps <;> rfl
          · have e3:((p.Precincts.length:Int) != p.Levels+1)=true:=by simp [hp]
            have e4:((p.Precincts.length:Int)==p.Levels+1)=false:=by simp [hp]
            simp only [e1,e2,e3,e4,cond_true,cond_false,Bool.false_or,Bool.false_and,Bool.and_false]
theorem a_T (h1:g_w):n_P:=v_1 (h_E3:=h1) fun h p _=>S_Z h p
theorem J_G (p:C') (i:Int) (again kn:Int->Option R) (kr:V->Option R) (h0:0<=i) (hl:p.Steps.length<=1048576) :
    H_M p i again kn kr=bif decide (i<(p.Steps.length:Int)) then (bif inB 1 65536 (V.toInt (List.getD (p.Steps.getD i.toNat []) 0 V.undef)) then again (i+1) else kr (V.bool false)) else kn i:=by
  unfold H_M
  by_cases hi:i<(p.Steps.length:Int)
  · simp only [decide_eq_true hi,cond_true,A_c h0 hi,F_C]
    rw [w64 (n:=i+1) (by omega) (by omega)]
    cases inB 1 65536 (V.toInt (List.getD (p.Steps.getD i.toNat []) 0 V.undef)) <;> rfl
  · simp only [decide_eq_false hi,cond_false]
theorem J_H (p:C') (e:Option R) (kr:V->Option R) (hl:p.Steps.length<=1048576) :
    C_r p (N_j 0 p) 0 (fun _=>e) kr=bif F_u p.Steps then e else kr (V.bool false):=by
  refine (A_A (a:=0) (b:=(p.Steps.length:Int)) (L:=fun n i=>C_r p n i (fun _=>e) kr) (ok:=fun i=>inB 1 65536 (V.toInt (List.getD (p.Steps.getD i.toNat []) 0 V.undef))) (e:=e) (x:=kr (V.bool false)) (fun n i h0=>J_G p i _ _ kr h0 hl) _ (Nat.le_refl _)).trans ?_
  rw [B_I (fun w=>inB 1 65536 (V.toInt (List.getD w 0 V.undef)))]
  rfl
theorem J_I (p:C') (i:Int) (again kn:Int->Option R) (kr:V->Option R) (h0:0<=i) (hl:p.Precincts.length<=1048576) :
    H_O p i again kn kr=bif decide (i<(p.Precincts.length:Int)) then (bif (inB (bif decide (1<i) then 1 else i) 12 (X'.of (p.Precincts.getD i.toNat [])).X&&inB (bif decide (1<i) then 1 else i) 12 (X'.of (p.Precincts.getD i.toNat [])).Y) then again (i+1) else kr (V.bool false)) else kn i:=by
  unfold H_O
  by_cases hi:i<(p.Precincts.length:Int)
  · simp only [decide_eq_true hi,cond_true,A_c h0 hi,F_C,Bool.true_or,F_D,Bool.not_not]
    rw [w64 (n:=i+1) (by omega) (by omega)]
    show (bif inB (bif decide (1<i) then 1 else i) 12 (X'.of (p.Precincts.getD i.toNat [])).X then (bif !inB (bif decide (1<i) then 1 else i) 12 (X'.of (p.Precincts.getD i.toNat [])).Y then kr (V.bool false) else again (i+1)) else kr (V.bool false))=_
    cases inB (bif decide (1<i) then 1 else i) 12 (X'.of (p.Precincts.getD i.toNat [])).X <;> cases inB (bif decide (1<i) then 1 else i) 12 (X'.of (p.Precincts.getD i.toNat [])).Y <;> rfl
  · simp only [decide_eq_false hi,cond_false]
theorem J_J (p:C') (e:Option R) (kr:V->Option R) (hl:p.Precincts.length<=1048576) :
    C_s p (N_k 0 p) 0 (fun _=>e) kr=bif K_G p.Precincts then e else kr (V.bool false) :=
  A_A (a:=0) (b:=(p.Precincts.length:Int)) (L:=fun n i=>C_s p n i (fun _=>e) kr) (ok:=fun i=>inB (bif decide (1<i) then 1 else i) 12 (X'.of (p.Precincts.getD i.toNat [])).X&&inB (bif decide (1<i) then 1 else i) 12 (X'.of (p.Precincts.getD i.toNat [])).Y) (e:=e) (x:=kr (V.bool false)) (fun n i h0=>J_I p i _ _ kr h0 hl) _ (Nat.le_refl _)
theorem M_p (p:C'):P_T p some=some (V.bool (N_5 p)):=by
  unfold P_T N_5
  simp only [F_C,F_D,Bool.not_not]
  cases hL:inB 0 5 p.Levels with
  | false=>simp only [cond_false,Bool.false_and]
  | true =>
    have hL':=B_k.1 hL
    rw [w64 (n:=3*p.Levels) (by omega) (by omega),w64 (n:=3*p.Levels+1) (by omega) (by omega),w64 (n:=p.Levels+1) (by omega) (by omega)]
    cases inB 2 6 p.BlockX with
    | false=>rfl
    | true =>
      cases inB 2 6 p.BlockY with
      | false=>rfl
      | true =>
        cases inB 1 16 p.Layers with
        | false=>rfl
        | true =>
          cases inB 8 32 p.Dead with
          | false=>rfl
          | true =>
            cases inB 0 30 p.Shift with
            | false=>rfl
            | true =>
              by_cases hs:(p.Steps.length:Int)=3*p.Levels+1
              · have e1:((p.Steps.length:Int) != 3*p.Levels+1)=false:=by simp [hs]
                have e2:((p.Steps.length:Int)==3*p.Levels+1)=true:=by simp [hs]
                simp only [e1,e2,cond_true,cond_false,Bool.true_and]
                rw [J_H p _ some (by omega)]
                cases F_u p.Steps with
                | false=>rfl
                | true =>
                  by_cases hz:(p.Precincts.length:Int)=0
                  · have e3:((p.Precincts.length:Int)==0)=true:=by rw [hz];rfl
                    simp only [e3,cond_true,Bool.true_or,Bool.true_and]
                  · have e3:((p.Precincts.length:Int)==0)=false:=beq_eq_false_iff_ne.2 hz
                    by_cases hp:(p.Precincts.length:Int)=p.Levels+1
                    · have e4:((p.Precincts.length:Int) != p.Levels+1)=false:=by simp [hp]
                      have e5:((p.Precincts.length:Int)==p.Levels+1)=true:=by simp [hp]
                      simp only [e3,e4,e5,cond_true,cond_false,Bool.true_and,Bool.false_or]
                      rw [J_J p _ some (by omega)]
                      cases K_G p.Precincts <;> rfl
                    · have e4:((p.Precincts.length:Int) != p.Levels+1)=true:=by simp [hp]
                      have e5:((p.Precincts.length:Int)==p.Levels+1)=false:=by simp [hp]
                      simp only [e3,e4,e5,cond_true,cond_false,Bool.true_and,Bool.false_or,Bool.false_and]
              · have e1:((p.Steps.length:Int) != 3*p.Levels+1)=true:=by simp [hs]
                have e2:((p.Steps.length:Int)==3*p.Levels+1)=false:=by simp [hs]
                simp only [e1,e2,cond_true,cond_false,Bool.false_and,Bool.and_false]
theorem a_U (h1:m_p):n_i:=v_k (h_M7:=h1) fun p _=>M_p p
theorem A_D {p:C'} (h:N_5 p=true):(0<=p.Levels/\p.Levels<=5)/\(2<=p.BlockX/\p.BlockX<=6)/\(2<=p.BlockY/\p.BlockY<=6)/\(1<=p.Layers/\p.Layers<=16)/\(p.Precincts.length=0 \/ ((p.Precincts.length:Int)=p.Levels+1/\K_G p.Precincts=true)):=by
  unfold N_5 at h
  simp only [Bool.and_eq_true,Bool.or_eq_true,beq_iff_eq] at h
  obtain ⟨⟨⟨⟨⟨⟨⟨⟨h1,h2⟩,h3⟩,h4⟩,h5⟩,h6⟩,h7⟩,h8⟩,h9⟩:=h
  refine ⟨B_k.1 h1,B_k.1 h2,B_k.1 h3,B_k.1 h4,?_⟩
  rcases h9 with h9 | h9
  · exact .inl (by omega)
  · exact .inr h9
theorem B_l {p:C'} (h:N_5 p=true) {res:Int} (h0:0<=res) (h1:res<=p.Levels) :
    (min res 1<=(A_X p res).X/\(A_X p res).X<=12)/\(min res 1<=(A_X p res).Y/\(A_X p res).Y<=12):=by
  obtain ⟨hL,_,_,_,hp⟩:=A_D h
  unfold A_X
  have d1:¬ res<0:=by omega
  have d2:¬ res > p.Levels:=by omega
  simp only [decide_eq_false d1,decide_eq_false d2,cond_false]
  rcases hp with hz | ⟨hn,hok⟩
  · have e:((p.Precincts.length:Int)==0)=true:=by rw [hz];rfl
    rw [e]
    show (min res 1<=12/\(12:Int)<=12)/\(min res 1<=12/\(12:Int)<=12)
    omega
  · have e:((p.Precincts.length:Int)==0)=false:=beq_eq_false_iff_ne.2 (by omega)
    have d3:¬ res >= (p.Precincts.length:Int):=by omega
    rw [e]
    simp only [cond_false,decide_eq_false d3,A_c (i:=res) (n:=p.Precincts.length) h0 (by omega),cond_true]
    have:=List.all_eq_true.1 hok res (A_C.2 ⟨h0,by omega⟩)
    simp only [Bool.and_eq_true] at this
    obtain ⟨a,b⟩:=this
    have a':=B_k.1 a
    have b':=B_k.1 b
    have em:(bif decide (1<res) then 1 else res)=min res 1:=by
      by_cases hr:1<res
      · simp only [decide_eq_true hr,cond_true];omega
      · simp only [decide_eq_false hr,cond_false];omega
    rw [em] at a' b'
    exact ⟨a',b'⟩
theorem M_e (l i0:Int) (a:F') (e:Int->Option R) (h0:0<=i0) (hl:l<=5):∀ (k:Nat) (i:Int) (n:Nat),i0<=i->i<=l->(l-i).toNat=k->k+1<=n ->
    C_t l a 0 0 0 0 n (2 ^ (i-i0).toNat) i (fun s _=>e s)=e (2 ^ (l-i0).toNat)
  | k,i,0,_,_,_,hn=>by omega
  | 0,i,n+1,h1,h2,h3,hn=>by
    have:i=l:=by omega
    subst this
    show D_p i a 0 0 0 0 (2 ^ (i-i0).toNat) i _ _=_
    unfold D_p
    rw [decide_eq_false (Int.lt_irrefl i)]
    rfl
  | k+1,i,n+1,h1,h2,h3,hn=>by
    have hi:i<l:=by omega
    show D_p l a 0 0 0 0 (2 ^ (i-i0).toNat) i (fun y z=>C_t l a 0 0 0 0 n y z (fun s _=>e s)) _=_
    unfold D_p
    have hp:=A_2 (n:=(i-i0).toNat) (by omega)
    have e1:(i+1-i0).toNat=(i-i0).toNat+1:=by omega
    have e2:IntKind.wrap .i64 (2*2 ^ (i-i0).toNat)=2 ^ (i+1-i0).toNat:=by
      rw [w64 (by omega) (by omega),e1,Int.pow_succ,Int.mul_comm]
    simp only [decide_eq_true hi,cond_true]
    rw [e2,w64 (n:=i+1) (by omega) (by omega)]
    exact M_e l i0 a e h0 hl k (i+1) n (by omega) (by omega) (by omega) (by omega)
theorem a_V (h1:V_8) (h2:h_N):f_X:=v_r (h_I9:=h1) (h_L0:=h2) fun r l i _=>by
  unfold T_U P_N
  rw [A_5,J_E]
  simp only [K_h]
  cases hv:M_v l with
  | false =>
    have:=F_a.1 hv
    rw [if_neg (by omega)];rfl
  | true =>
    have hl:=A_B.1 hv
    by_cases d1:i<0
    · rw [if_neg (by omega)]
      simp only [decide_eq_true d1,Bool.not_true,cond_false,cond_true];rfl
    · by_cases d2:i > l
      · rw [if_neg (by omega)]
        simp only [decide_eq_false d1,decide_eq_true d2,Bool.not_true,cond_false,cond_true];rfl
      · rw [if_pos (by omega)]
        simp only [decide_eq_false d1,decide_eq_false d2,Bool.not_true,cond_false,cond_true]
        have:=M_e l i r (fun s=>some (F'.v (D_j r s s))) (by omega) hl.2 (l-i).toNat i ((l-i).toNat+1) (Int.le_refl i) (by omega) rfl (Nat.le_refl _)
        have e0:(2:Int) ^ (i-i).toNat=1:=by rw [Int.sub_self];rfl
        rw [e0] at this
        exact this
theorem f_l (x res:Int) (rows:Rows) (n2 j:Int) (bl:Rows) (p:C') (t r:F') (qx qy i:Int) (again kn:Int->Option R) (kr:V->Option R) (h0:0<=i) (hl:bl.length<=1048576) :
    I_j x res rows n2 j bl (bl.length:Int) p t r qx qy i again kn kr=bif decide (i<(bl.length:Int)) then (bif (fun w=>!decide (V_d (Q_r r p.Levels (V.toInt (List.getD w 0 V.undef))) (bif decide (qx<p.BlockX) then qx else p.BlockX) (bif decide (qy<p.BlockY) then qy else p.BlockY) > 65536)) (bl.getD i.toNat []) then again (i+1) else kr (V.bool false)) else kn i:=by
  unfold I_j
  by_cases hi:i<(bl.length:Int)
  · simp only [decide_eq_true hi,cond_true,A_c h0 hi]
    rw [w64 (n:=i+1) (by omega) (by omega)]
    cases decide (V_d (Q_r r p.Levels (V.toInt (List.getD (bl.getD i.toNat []) 0 V.undef))) (bif decide (qx<p.BlockX) then qx else p.BlockX) (bif decide (qy<p.BlockY) then qy else p.BlockY) > 65536) <;> rfl
  · simp only [decide_eq_false hi,cond_false]
theorem S_0 (x res:Int) (rows:Rows) (n2 j:Int) (bl:Rows) (p:C') (t r:F') (qx qy:Int) (e:Option R) (kr:V->Option R) (hl:bl.length<=1048576) :
    B_T x res rows n2 j bl (bl.length:Int) p t r qx qy (I_i x res rows n2 j bl (bl.length:Int) 0 p t r qx qy) 0 (fun _=>e) kr=bif bl.all (fun w=>!decide (V_d (Q_r r p.Levels (V.toInt (List.getD w 0 V.undef))) (bif decide (qx<p.BlockX) then qx else p.BlockX) (bif decide (qy<p.BlockY) then qy else p.BlockY) > 65536)) then e else kr (V.bool false):=by
  refine (A_A (a:=0) (b:=(bl.length:Int)) (L:=fun n i=>B_T x res rows n2 j bl (bl.length:Int) p t r qx qy n i (fun _=>e) kr) (ok:=fun i=>(fun w=>!decide (V_d (Q_r r p.Levels (V.toInt (List.getD w 0 V.undef))) (bif decide (qx<p.BlockX) then qx else p.BlockX) (bif decide (qy<p.BlockY) then qy else p.BlockY) > 65536)) (bl.getD i.toNat [])) (e:=e) (x:=kr (V.bool false)) (fun n i h0=>f_l x res rows n2 j bl p t r qx qy i _ _ kr h0 hl) _ (Nat.le_refl _)).trans ?_
  rw [B_I (fun w=>!decide (V_d (Q_r r p.Levels (V.toInt (List.getD w 0 V.undef))) (bif decide (qx<p.BlockX) then qx else p.BlockX) (bif decide (qy<p.BlockY) then qy else p.BlockY) > 65536))]
theorem B_L (l i:Int):(O_M l i).length<=3:=by
  unfold O_M
  simp only []
  generalize (bif bif bif !M_v l then true else decide (i<0) then true else decide (i > l) then true else false)=z
  cases (bif (bif (!M_v l) then true else decide (i<0)) then true else decide (i > l)) with
  | true=>simp
  | false=>cases (i==0) <;> simp
theorem f_m (rows:Rows) (n2 j:Int) (p:C') (t r:F') (s res:Int) (again kn:Int->Int->Option R) (kr:V->Option R) (h0:0<=res) (hl:p.Levels<=5) :
    I_l rows n2 j p t r s res again kn kr=bif decide (res<p.Levels+1) then (bif K_c p r res then again (IntKind.wrap .i64 (s+g_o p r res)) (res+1) else kr (V.bool false)) else kn s res:=by
  unfold I_l
  by_cases hi:res<=p.Levels
  · have hi':res<p.Levels+1:=by omega
    have hIn:=B_L p.Levels res
    simp only [decide_eq_true hi,decide_eq_true hi',cond_true]
    by_cases hr:res > 0
    · rw [decide_eq_true hr]
      simp only [cond_true]
      rw [S_0 _ _ _ _ _ _ p t r _ _ _ kr (by omega)]
      unfold K_c
      rw [decide_eq_true hr,w64 (n:=res+1) (by omega) (by omega)]
      rfl
    · rw [decide_eq_false hr]
      simp only [cond_false]
      rw [S_0 _ _ _ _ _ _ p t r _ _ _ kr (by omega)]
      unfold K_c
      rw [decide_eq_false hr,w64 (n:=res+1) (by omega) (by omega)]
      rfl
  · have hi':¬ res<p.Levels+1:=by omega
    simp only [decide_eq_false hi,decide_eq_false hi',cond_false]
theorem f_n (rows:Rows) (n2 j:Int) (p:C') (t r:F') (s:Int) (e:Int->Option R) (kr:V->Option R) (hl:p.Levels<=5) :
    C_z rows n2 j p t r (N_q s 0 rows n2 j p t r) s 0 (fun s _=>e s) kr=bif (A_n 0 (p.Levels+1)).all (K_c p r) then e ((A_n 0 (p.Levels+1)).foldl (fun s res=>IntKind.wrap .i64 (s+g_o p r res)) s) else kr (V.bool false):=by
  refine K_i (b:=p.Levels+1) (L:=fun n res s=>C_z rows n2 j p t r n s res (fun s _=>e s) kr) (ok:=K_c p r) (g:=fun s res=>IntKind.wrap .i64 (s+g_o p r res)) (e:=e) (x:=kr (V.bool false)) (fun i _=>0<=i) (fun n i s h0=>f_m rows n2 j p t r s i _ _ kr h0 hl) (fun i s h0 _=>by omega) _ 0 s (Int.le_refl 0) ?_
  show _<=Int.toNat (p.Levels-0)+2
  omega
theorem f_o (rows:Rows) (p:C') (t:F') (s i:Int) (again kn:Int->Int->Option R) (kr:V->Option R) (h0:0<=i) (hr:rows.length<=1048576) (hl:p.Levels<=5) :
    I_n rows (rows.length:Int) p t s i again kn kr=bif decide (i<(rows.length:Int)) then (bif (fun w=>(A_n 0 (p.Levels+1)).all (K_c p (A_p t w))) (rows.getD i.toNat []) then again ((fun s w=>(A_n 0 (p.Levels+1)).foldl (fun s res=>IntKind.wrap .i64 (s+g_o p (A_p t w) res)) s) s (rows.getD i.toNat [])) (i+1) else kr (V.bool false)) else kn s i:=by
  unfold I_n
  by_cases hi:i<(rows.length:Int)
  · simp only [decide_eq_true hi,cond_true,A_c h0 hi]
    refine (f_n _ _ _ p t _ s (fun z=>again z (IntKind.wrap .i64 (i+1))) kr hl).trans ?_
    rw [w64 (n:=i+1) (by omega) (by omega)]
    rfl
  · simp only [decide_eq_false hi,cond_false]
theorem l_0 (h:D') (p:C') (t:F') (hr:h.Components.length<=1048576) (hl:p.Levels<=5):T_Z h p t some=some (V.bool (M_w h p t)):=by
  refine (K_i (b:=(h.Components.length:Int)) (L:=fun n i s=>D_x h.Components (h.Components.length:Int) p t n s i (fun z _=>some (V.bool (decide (z<=65536)))) some) (ok:=fun i=>(fun w=>(A_n 0 (p.Levels+1)).all (K_c p (A_p t w))) (h.Components.getD i.toNat [])) (g:=fun s i=>(fun s w=>(A_n 0 (p.Levels+1)).foldl (fun s res=>IntKind.wrap .i64 (s+g_o p (A_p t w) res)) s) s (h.Components.getD i.toNat [])) (e:=fun z=>some (V.bool (decide (z<=65536)))) (x:=some (V.bool false)) (fun i _=>0<=i) (fun n i s h0=>f_o h.Components p t s i _ _ some h0 hr hl) (fun i s h0 _=>by omega) _ 0 0 (Int.le_refl 0) (Nat.le_refl _)).trans ?_
  rw [B_I (fun w=>(A_n 0 (p.Levels+1)).all (K_c p (A_p t w))),B_P (fun s w=>(A_n 0 (p.Levels+1)).foldl (fun s res=>IntKind.wrap .i64 (s+g_o p (A_p t w) res)) s)]
  unfold M_w
  cases h.Components.all fun w=>(A_n 0 (p.Levels+1)).all (K_c p (A_p t w)) <;> rfl
theorem a_W (h1:f_Y) (h2:g_y) (h3:k_A) (h4:m_z) (h5:n_5) (h6:q_0):n_7 :=
  w_n (h_I0:=h1) (h_A8:=h2) (h_C8:=h3) (h_C1:=h4) (h_G9:=h5) (h_F9:=h6) fun h p t hp _=>by
    unfold O_N at hp
    simp only [Bool.and_eq_true,decide_eq_true_eq] at hp
    exact l_0 h p t (Nat.le_of_ble_eq_true hp.1) hp.2
theorem N_J {r:F'} {a b:Int} (ha:0<=a) (hb:0<=b):M_8 r a b=true:=by
  unfold M_8
  cases O_b r with
  | true=>rfl
  | false=>simp only [decide_eq_true ha,decide_eq_true hb,cond_true,cond_false]
def a_X (p:C') (r:F') (res:Int):Int:=f_N (F_h r p.Levels res) (A_X p res).X (A_X p res).Y
theorem f_p (j:Int) (h:D') (p:C') (t r:F') (s res:Int) (again kn:Int->Int->Option R) (h0:0<=res) (hl:p.Levels<=5) (hp:∀ res,0<=res->res<=p.Levels->0<=(A_X p res).X/\0<=(A_X p res).Y) :
    H_R j h p t r s res again kn=bif decide (res<p.Levels+1) then again (IntKind.wrap .i64 (s+a_X p r res)) (res+1) else kn s res:=by
  unfold H_R
  rw [B_E]
  by_cases hi:res<=p.Levels
  · have hi':res<p.Levels+1:=by omega
    obtain ⟨hx,hy⟩:=hp res h0 hi
    simp only [decide_eq_true hi,decide_eq_true hi',cond_true,N_J hx hy]
    rw [w64 (n:=res+1) (by omega) (by omega)]
    rfl
  · have hi':¬ res<p.Levels+1:=by omega
    simp only [decide_eq_false hi,decide_eq_false hi',cond_false]
theorem f_q (j:Int) (h:D') (p:C') (t r:F') (s:Int) (e:Int->Option R) (hl:p.Levels<=5) (hp:∀ res,0<=res->res<=p.Levels->0<=(A_X p res).X/\0<=(A_X p res).Y) :
    C_u j h p t r (N_l s j 0 h p t r) s 0 (fun s _=>e s)=e ((A_n 0 (p.Levels+1)).foldl (fun s res=>IntKind.wrap .i64 (s+a_X p r res)) s):=by
  refine A_o (b:=p.Levels+1) (L:=fun n res s=>C_u j h p t r n s res (fun s _=>e s)) (g:=fun s res=>IntKind.wrap .i64 (s+a_X p r res)) (e:=e) (fun i _=>0<=i) (fun n i s h0=>f_p j h p t r s i _ _ h0 hl hp) (fun i s h0 _=>by omega) _ 0 s (Int.le_refl 0) ?_
  show _<=Int.toNat (p.Levels-0)+2
  omega
theorem f_r (h:D') (p:C') (t:F') (s i:Int) (again kn:Int->Int->Option R) (h0:0<=i) (hr:h.Components.length<=1048576) (hl:p.Levels<=5) (hp:∀ res,0<=res->res<=p.Levels->0<=(A_X p res).X/\0<=(A_X p res).Y) :
    H_T h p t s i again kn=bif decide (i<(h.Components.length:Int)) then again ((fun s w=>(A_n 0 (p.Levels+1)).foldl (fun s res=>IntKind.wrap .i64 (s+a_X p (A_p t w) res)) s) s (h.Components.getD i.toNat [])) (i+1) else kn s i:=by
  unfold H_T
  rw [A_5]
  by_cases hi:i<(h.Components.length:Int)
  · simp only [decide_eq_true hi,cond_true,A_c h0 hi]
    refine (f_q _ h p t _ s (fun z=>again z (IntKind.wrap .i64 (i+1))) hl hp).trans ?_
    rw [w64 (n:=i+1) (by omega) (by omega)]
    rfl
  · simp only [decide_eq_false hi,cond_false]
theorem l_1 (h:D') (p:C') (t:F') (hr:h.Components.length<=1048576) (hl:p.Levels<=5) (hp:∀ res,0<=res->res<=p.Levels->0<=(A_X p res).X/\0<=(A_X p res).Y):T_V h p t some=some (V.int .i64 (T_N h p t)):=by
  refine (A_o (b:=(h.Components.length:Int)) (L:=fun n i s=>D_q h p t n s i (fun z _=>some (V.int .i64 (IntKind.wrap .i64 (z*p.Layers))))) (g:=fun s i=>(fun s w=>(A_n 0 (p.Levels+1)).foldl (fun s res=>IntKind.wrap .i64 (s+a_X p (A_p t w) res)) s) s (h.Components.getD i.toNat [])) (e:=fun z=>some (V.int .i64 (IntKind.wrap .i64 (z*p.Layers)))) (fun i _=>0<=i) (fun n i s h0=>f_r h p t s i _ _ h0 hr hl hp) (fun i s h0 _=>by omega) _ 0 0 (Int.le_refl 0) (Nat.le_refl _)).trans ?_
  rw [B_P (fun s w=>(A_n 0 (p.Levels+1)).foldl (fun s res=>IntKind.wrap .i64 (s+a_X p (A_p t w) res)) s)]
  rfl
theorem a_Y (h1:V_8) (h2:f_X) (h3:f_W) (h4:m_u):m_w :=
  v_s (h_I9:=h1) (h_D2:=h2) (h_F8:=h3) (h_M0:=h4) fun h p t hp _=>by
    unfold F_v at hp
    simp only [Bool.and_eq_true,decide_eq_true_eq] at hp
    refine l_1 h p t (Nat.le_of_ble_eq_true hp.1.1) hp.1.2 fun res h0 h1=>?_
    have:=List.all_eq_true.1 hp.2 res (A_C.2 ⟨h0,by omega⟩)
    simpa using this
def blI (p:C') (r:F') (i:Int):Int:=f_N (c_t r p.Levels i) (blX p i) (blY p i)
theorem f_s (j:Int) (h:D') (p:C') (t r:F') (s i:Int) (again kn:Int->Int->Option R) (h0:0<=i) (hl0:0<=p.Levels) (hl:p.Levels<=5) (hp:∀ i,0<=i->i<=3*p.Levels->0<=blX p i/\0<=blY p i) :
    H_W j h p t r s i again kn=bif decide (i<3*p.Levels+1) then again ((fun s i=>(fun c=>bif decide (c > s) then c else s) (blI p r i)) s i) (i+1) else kn s i:=by
  unfold H_W
  rw [B_E,w64 (n:=3*p.Levels) (by omega) (by omega)]
  by_cases hi:i<=3*p.Levels
  · have hi':i<3*p.Levels+1:=by omega
    obtain ⟨hx,hy⟩:=hp i h0 hi
    simp only [decide_eq_true hi,decide_eq_true hi',cond_true]
    rw [w64 (n:=i+2) (by omega) (by omega),m_2 (by omega),w64 (n:=(i+2) / 3) (by omega) (by omega),w64 (n:=i+1) (by omega) (by omega)]
    show (bif M_8 (c_t r p.Levels i) (blX p i) (blY p i) then _ else none)=_
    rw [N_J hx hy]
    rfl
  · have hi':¬ i<3*p.Levels+1:=by omega
    simp only [decide_eq_false hi,decide_eq_false hi',cond_false]
theorem f_t (j:Int) (h:D') (p:C') (t r:F') (s:Int) (e:Int->Option R) (hl0:0<=p.Levels) (hl:p.Levels<=5) (hp:∀ i,0<=i->i<=3*p.Levels->0<=blX p i/\0<=blY p i) :
    C_v j h p t r (N_m s j 0 h p t r) s 0 (fun s _=>e s)=e ((A_n 0 (3*p.Levels+1)).foldl (fun s i=>(fun c=>bif decide (c > s) then c else s) (blI p r i)) s):=by
  refine A_o (b:=3*p.Levels+1) (L:=fun n i s=>C_v j h p t r n s i (fun s _=>e s)) (g:=fun s i=>(fun c=>bif decide (c > s) then c else s) (blI p r i)) (e:=e) (fun i _=>0<=i) (fun n i s h0=>f_s j h p t r s i _ _ h0 hl0 hl hp) (fun i s h0 _=>by omega) _ 0 s (Int.le_refl 0) ?_
  show _<=Int.toNat (IntKind.wrap .i64 (3*p.Levels)-0)+2
  rw [w64 (n:=3*p.Levels) (by omega) (by omega)]
  omega
theorem f_u (h:D') (p:C') (t:F') (s i:Int) (again kn:Int->Int->Option R) (h0:0<=i) (hr:h.Components.length<=1048576) (hl0:0<=p.Levels) (hl:p.Levels<=5) (hp:∀ i,0<=i->i<=3*p.Levels->0<=blX p i/\0<=blY p i) :
    H_Y h p t s i again kn=bif decide (i<(h.Components.length:Int)) then again ((fun s w=>(A_n 0 (3*p.Levels+1)).foldl (fun s i=>(fun c=>bif decide (c > s) then c else s) (blI p (A_p t w) i)) s) s (h.Components.getD i.toNat [])) (i+1) else kn s i:=by
  unfold H_Y
  rw [A_5]
  by_cases hi:i<(h.Components.length:Int)
  · simp only [decide_eq_true hi,cond_true,A_c h0 hi]
    refine (f_t _ h p t _ s (fun z=>again z (IntKind.wrap .i64 (i+1))) hl0 hl hp).trans ?_
    rw [w64 (n:=i+1) (by omega) (by omega)]
    rfl
  · simp only [decide_eq_false hi,cond_false]
theorem l_2 (h:D') (p:C') (t:F') (hr:h.Components.length<=1048576) (hl0:0<=p.Levels) (hl:p.Levels<=5) (hp:∀ i,0<=i->i<=3*p.Levels->0<=blX p i/\0<=blY p i):T_W h p t some=some (V.int .i64 (h_s h p t)):=by
  refine (A_o (b:=(h.Components.length:Int)) (L:=fun n i s=>D_s h p t n s i (fun z _=>some (V.int .i64 z))) (g:=fun s i=>(fun s w=>(A_n 0 (3*p.Levels+1)).foldl (fun s i=>(fun c=>bif decide (c > s) then c else s) (blI p (A_p t w) i)) s) s (h.Components.getD i.toNat [])) (e:=fun z=>some (V.int .i64 z)) (fun i _=>0<=i) (fun n i s h0=>f_u h p t s i _ _ h0 hr hl0 hl hp) (fun i s h0 _=>by omega) _ 0 0 (Int.le_refl 0) (Nat.le_refl _)).trans ?_
  rw [B_P (fun s w=>(A_n 0 (3*p.Levels+1)).foldl (fun s i=>(fun c=>bif decide (c > s) then c else s) (blI p (A_p t w) i)) s)]
  rfl
theorem a_Z (h1:V_8) (h3:f_W) (h4:m_u) (h2:n_u):n_w :=
  v_B (h_I9:=h1) (h_F8:=h3) (h_M0:=h4) (h_M2:=h2) fun h p t hp _=>by
    unfold O_O at hp
    simp only [Bool.and_eq_true,decide_eq_true_eq] at hp
    refine l_2 h p t (Nat.le_of_ble_eq_true hp.1.1.1) hp.1.1.2 hp.1.2 fun i h0 h1=>?_
    have:=List.all_eq_true.1 hp.2 i (A_C.2 ⟨h0,by omega⟩)
    simpa using this
theorem l_3 {h:D'} (hz:F_t h=0):M_6 h=true/\h.Components.all (C_o h.Area)=true/\¬ O_J h > 1024/\h.Components.all (A_T h.Area)=true:=by
  unfold F_t at hz
  cases ha:M_6 h with
  | false=>rw [ha] at hz;cases hz
  | true =>
    cases hb:h.Components.all (C_o h.Area) with
    | false=>rw [ha,hb] at hz;cases hz
    | true =>
      by_cases hc:O_J h > 1024
      · rw [ha,hb,decide_eq_true hc] at hz;cases hz
      · cases hd:h.Components.all (A_T h.Area) with
        | false=>rw [ha,hb,decide_eq_false hc,hd] at hz;cases hz
        | true=>exact ⟨rfl,rfl,hc,rfl⟩
theorem a_0 {h:D'} (ha:M_6 h=true):A_3 h.Area=true/\C_R h.Area=false/\(1<=h.TileW/\h.TileW<=4096)/\(1<=h.TileH/\h.TileH<=4096)/\1<=h.Components.length/\h.Components.length<=4:=by
  unfold M_6 at ha
  simp only [Bool.and_eq_true,Bool.not_eq_true'] at ha
  obtain ⟨⟨⟨⟨h1,h2⟩,h3⟩,h4⟩,h5⟩:=ha
  have h5':=B_k.1 h5
  exact ⟨h1,h2,B_k.1 h3,B_k.1 h4,by omega,by omega⟩
theorem K_o {h:D'} (hz:F_t h=0):1<=h.Components.length/\h.Components.length<=4:=(a_0 (l_3 hz).1).2.2.2.2
theorem S_1 (l:List F') (f:F'->Bool):(l.map F'.row).all (fun w=>f (F'.of w))=l.all f:=by
  rw [List.all_map]
  rfl
theorem S_2 {h:D'} {p:C'} (hn:b_H h p=true):N_5 p=true:=by
  unfold b_H at hn
  rw [Bool.and_eq_true] at hn
  exact hn.1
theorem q_g {h:D'} {p:C'} {t:F'} (hl:h.Components.length<=4) (hp:p.Levels<=5):O_N h p t=true:=by
  unfold O_N
  rw [decide_eq_true hp,Bool.and_true]
  exact Nat.ble_eq_true_of_le (by omega)
theorem l_4 (rows:Rows) (h:D') (p:C') (i:Int) (again kn:Int->Option R) (kr:V->Option R) (h0:0<=i) (hr:rows.length<=1099511627776) (hl:h.Components.length<=4) (hp:p.Levels<=5) :
    I_p rows (rows.length:Int) h p i again kn kr=bif decide (i<(rows.length:Int)) then (bif (fun w=>M_w h p (F'.of w)) (rows.getD i.toNat []) then again (i+1) else kr (V.int .i64 5)) else kn i:=by
  unfold I_p
  by_cases hi:i<(rows.length:Int)
  · simp only [decide_eq_true hi,cond_true,A_c h0 hi,q_g hl hp]
    rw [w64 (n:=i+1) (by omega) (by omega)]
    cases M_w h p (F'.of (rows.getD i.toNat [])) <;> rfl
  · simp only [decide_eq_false hi,cond_false]
theorem l_5 (rows:Rows) (h:D') (p:C') (e:Option R) (kr:V->Option R) (hr:rows.length<=1099511627776) (hl:h.Components.length<=4) (hp:p.Levels<=5) :
    C_A rows (rows.length:Int) h p (N_r rows (rows.length:Int) 0 h p) 0 (fun _=>e) kr=bif rows.all (fun w=>M_w h p (F'.of w)) then e else kr (V.int .i64 5):=by
  refine (A_A (a:=0) (b:=(rows.length:Int)) (L:=fun n i=>C_A rows (rows.length:Int) h p n i (fun _=>e) kr) (ok:=fun i=>(fun w=>M_w h p (F'.of w)) (rows.getD i.toNat [])) (e:=e) (x:=kr (V.int .i64 5)) (fun n i h0=>l_4 rows h p i _ _ kr h0 hr hl hp) _ (Nat.le_refl _)).trans ?_
  rw [B_I (fun w=>M_w h p (F'.of w))]
theorem P_8 (r:F') (w h:Int):(F_g r w h).length<=16777216:=by
  unfold F_g
  cases hc:M_7 r w h with
  | false=>simp
  | true =>
    unfold M_7 at hc
    simp only [Bool.and_eq_true,Bool.not_eq_true',decide_eq_false_iff_not] at hc
    obtain ⟨⟨⟨⟨h1,h2⟩,h3⟩,h4⟩,h5⟩:=hc
    obtain ⟨b1,b2,b3,b4⟩:=H_c h1 h3 h4
    simp only [cond_true]
    rw [List.length_flatMap]
    have:((A_n (D_k r.Y0 h) (B_F r.Y1 h)).map fun j=>((A_n (D_k r.X0 w) (B_F r.X1 w)).map fun i=>D_l r w h j i).length)=(A_n (D_k r.Y0 h) (B_F r.Y1 h)).map fun _=>(B_F r.X1 w-D_k r.X0 w).toNat:=by
      apply List.map_congr_left
      intro j _
      rw [List.length_map,A_q]
    rw [this,List.map_const',List.sum_replicate_nat,A_q]
    exact N_I (by omega) (by omega)
theorem F_G (r:F') (w h:Int):(T_M r w h).length<=16777216:=by
  unfold T_M
  rw [List.length_map]
  exact P_8 r w h
theorem a_1 (h:D') (p:C'):P_Y h p some=some (V.int .i64 (G_Y h p)):=by
  unfold P_Y G_Y P_O
  simp only [K_f,G_P,F_D,Bool.not_not,cond_true]
  by_cases hz:F_t h=0
  · have e:(F_t h != 0)=false:=by rw [hz];rfl
    rw [e]
    simp only [cond_false]
    cases inB 1 3 p.Kernel with
    | false=>rfl
    | true =>
      cases inB 0 2 p.Color with
      | false=>rfl
      | true =>
        cases inB 1 5 p.Order with
        | false=>rfl
        | true =>
          cases hn:b_H h p with
          | false=>rfl
          | true =>
            have hL:=(A_D (S_2 hn)).1
            simp only [cond_true,cond_false,Bool.not_true,Bool.true_and]
            rw [l_5 _ h p _ some (by have:=F_G h.Area h.TileW h.TileH;omega) (K_o hz).2 hL.2]
            unfold T_M
            rw [S_1]
            cases (F_g h.Area h.TileW h.TileH).all fun t=>M_w h p t <;> rfl
  · have e:(F_t h != 0)=true:=bne_iff_ne.2 hz
    rw [e]
    rfl
theorem a_2 (h1:k_s) (h2:m_x) (h3:g_w) (h4:n_P) (h5:n_7):m_A:=by
  refine w_o ?_ ?_ ?_ ?_ ?_ (fun h p _=>a_1 h p) <;> assumption
theorem O_7 {r:F'} {a b:Int} (ha:0<=a/\a<=12) (hb:0<=b/\b<=12):f_N r a b=V_d r a b:=by
  unfold f_N V_d
  rw [B_4,D_e,B_D]
  cases C_R r with
  | true=>rfl
  | false =>
    simp only [decide_eq_true ha.1,decide_eq_true hb.1,wrapu_nonneg,decide_true,cond_true,cond_false]
    rw [F_b ha.1 ha.2,F_b hb.1 hb.2,V_m ha.1 ha.2,V_m hb.1 hb.2]
theorem N_K {α β γ:Type} {P:α->β->Prop} {f:α->γ->α} {g:β->γ->β}:∀ (l:List γ) (a:α) (b:β),(∀ s t x,x ∈ l->P s t->P (f s x) (g t x))->P a b->P (l.foldl f a) (l.foldl g b)
  | [],_,_,_,h=>h
  | x::l,a,b,hs,h=>N_K l _ _ (fun s t y hy hp=>hs s t y (List.mem_cons_of_mem _ hy) hp) (hs a b x (List.mem_cons_self ..) h)
theorem g_A (s c k:Int):IntKind.wrap .i64 (IntKind.wrap .i64 (s*k)+IntKind.wrap .i64 (c*k))=IntKind.wrap .i64 (IntKind.wrap .i64 (s+c)*k):=by
  rw [D_6,H_x,Int.add_comm,D_6,Int.add_mul,Int.add_comm]
theorem a_3 {h:D'} {p:C'} {t:F'} (hn:N_5 p=true) :
    h.Components.foldl (fun s w=>(A_n 0 (p.Levels+1)).foldl (fun s res=>IntKind.wrap .i64 (s+g_o p (A_p t w) res)) s) 0=T_N h p t:=by
  unfold T_N
  refine N_K (P:=fun a b=>a=IntKind.wrap .i64 (b*p.Layers)) h.Components 0 0 (fun s u w _ hP=>?_) (by rw [Int.zero_mul];rfl)
  refine N_K (P:=fun a b=>a=IntKind.wrap .i64 (b*p.Layers)) _ s u (fun s u res hres hP=>?_) hP
  obtain ⟨h0,h1⟩:=A_C.1 hres
  have hb:=B_l hn h0 (by omega:res<=p.Levels)
  rw [hP]
  unfold g_o
  rw [O_7 (by omega) (by omega),g_A]
theorem V_q {γ:Type} (B:Int) (f:γ->Int):∀ (l:List γ) (s:Int),l.foldl (fun s i=>(fun c=>bif decide (c > s) then c else s) (f i)) s<=B ↔ s<=B/\∀ i ∈ l,f i<=B
  | [],s=>by simp
  | x::l,s=>by
    rw [List.foldl_cons,V_q B f l]
    simp only [List.forall_mem_cons]
    by_cases hc:f x > s
    · simp only [decide_eq_true hc,cond_true]
      constructor
      · rintro ⟨h1,h2⟩;exact ⟨by omega,h1,h2⟩
      · rintro ⟨h1,h2,h3⟩;exact ⟨h2,h3⟩
    · simp only [decide_eq_false hc,cond_false]
      constructor
      · rintro ⟨h1,h2⟩;exact ⟨h1,by omega,h2⟩
      · rintro ⟨h1,h2,h3⟩;exact ⟨h1,h3⟩
theorem S_3 {γ δ:Type} (B:Int) (m:List δ) (f:γ->δ->Int):∀ (l:List γ) (s:Int),l.foldl (fun s w=>m.foldl (fun s i=>(fun c=>bif decide (c > s) then c else s) (f w i)) s) s<=B ↔ s<=B/\∀ w ∈ l,∀ i ∈ m,f w i<=B
  | [],s=>by simp
  | x::l,s=>by
    rw [List.foldl_cons,S_3 B m f l,V_q B (f x) m]
    simp only [List.forall_mem_cons]
    constructor
    · rintro ⟨⟨h1,h2⟩,h3⟩;exact ⟨h1,h2,h3⟩
    · rintro ⟨h1,h2,h3⟩;exact ⟨⟨h1,h2⟩,h3⟩
theorem O_8 {l res:Int} (hl:0<=l/\l<=5) (h0:0<=res) (h1:res<=l):O_M l res=if res=0 then [[V.int .i64 0]] else [[V.int .i64 (3*res-2)],[V.int .i64 (3*res-1)],[V.int .i64 (3*res)]]:=by
  unfold O_M
  have hv:=A_B.2 hl
  have d1:¬ res<0:=by omega
  have d2:¬ res > l:=by omega
  simp only [hv,decide_eq_false d1,decide_eq_false d2,Bool.not_true,cond_false]
  by_cases hz:res=0
  · subst hz;rfl
  · rw [if_neg hz,beq_eq_false_iff_ne.2 hz,w64 (n:=3*res) (by omega) (by omega),w64 (n:=3*res-2) (by omega) (by omega),w64 (n:=3*res-1) (by omega) (by omega)]
    rfl
theorem P_9 {x c:Int}:(bif decide (c<x) then c else x)=min c x:=by
  by_cases h:c<x
  · simp only [decide_eq_true h,cond_true];omega
  · simp only [decide_eq_false h,cond_false];omega
theorem f_v {res:Int} (h0:0<=res):(bif decide (1<res) then (1:Int) else res)=min res 1:=by
  by_cases h:1<res
  · simp only [decide_eq_true h,cond_true];omega
  · simp only [decide_eq_false h,cond_false];omega
theorem j_f {p:C'} (hn:N_5 p=true) {i res:Int} (hi:(i+2) / 3=res) (h0:0<=res) (h1:res<=p.Levels):blX p i=min ((A_X p res).X-min res 1) p.BlockX/\blY p i=min ((A_X p res).Y-min res 1) p.BlockY:=by
  have hb:=B_l hn h0 h1
  unfold blX blY
  rw [hi,f_v h0,w64 (by omega) (by omega),w64 (by omega) (by omega)]
  exact ⟨P_9,P_9⟩
theorem S_4 {p:C'} (hn:N_5 p=true) {r:F'} {res:Int} (h0:0<=res) (h1:res<=p.Levels):K_c p r res=true ↔ ∀ i,0<=i->i<=3*p.Levels->(i+2) / 3=res->blI p r i<=65536:=by
  have hb:=B_l hn h0 h1
  obtain ⟨hL,hX,hY,_,_⟩:=A_D hn
  have key:∀ i,0<=i->i<=3*p.Levels->(i+2) / 3=res->(blI p r i=V_d (Q_r r p.Levels i)
      (bif decide ((bif decide (res > 0) then IntKind.wrap .i64 ((A_X p res).X-1) else (A_X p res).X)<p.BlockX) then (bif decide (res > 0) then IntKind.wrap .i64 ((A_X p res).X-1) else (A_X p res).X) else p.BlockX)
      (bif decide ((bif decide (res > 0) then IntKind.wrap .i64 ((A_X p res).Y-1) else (A_X p res).Y)<p.BlockY) then (bif decide (res > 0) then IntKind.wrap .i64 ((A_X p res).Y-1) else (A_X p res).Y) else p.BlockY)):=by
    intro i hi0 hi1 hi
    obtain ⟨e1,e2⟩:=j_f hn hi h0 h1
    unfold blI
    rw [F_c,e1,e2,O_7 (by omega) (by omega),P_9,P_9]
    by_cases hr:res > 0
    · simp only [decide_eq_true hr,cond_true]
      rw [w64 (n:=(A_X p res).X-1) (by omega) (by omega),w64 (n:=(A_X p res).Y-1) (by omega) (by omega),show min res 1=1 by omega]
    · simp only [decide_eq_false hr,cond_false]
      rw [show min res 1=0 by omega,Int.sub_zero,Int.sub_zero]
  unfold K_c
  rw [O_8 hL h0 h1]
  by_cases hz:res=0
  · subst hz
    rw [if_pos rfl]
    simp only [List.all_cons,List.all_nil,Bool.and_true,Bool.not_eq_true',decide_eq_false_iff_not]
    constructor
    · intro h i hi0 hi1 hi
      have:i=0:=by omega
      subst this
      rw [key 0 (by omega) (by omega) (by omega)]
      exact Int.not_lt.1 h
    · intro h
      have:=h 0 (by omega) (by omega) (by omega)
      rw [key 0 (by omega) (by omega) (by omega)] at this
      exact Int.not_lt.2 this
  · rw [if_neg hz]
    simp only [List.all_cons,List.all_nil,Bool.and_true,Bool.and_eq_true,Bool.not_eq_true',decide_eq_false_iff_not]
    constructor
    · rintro ⟨ha,hb',hc⟩ i hi0 hi1 hi
      have:i=3*res-2 \/ i=3*res-1 \/ i=3*res:=by omega
      rw [key i hi0 hi1 hi]
      rcases this with rfl | rfl | rfl
      · exact Int.not_lt.1 ha
      · exact Int.not_lt.1 hb'
      · exact Int.not_lt.1 hc
    · intro h
      refine ⟨?_,?_,?_⟩
      · have:=h (3*res-2) (by omega) (by omega) (by omega)
        rw [key _ (by omega) (by omega) (by omega)] at this
        exact Int.not_lt.2 this
      · have:=h (3*res-1) (by omega) (by omega) (by omega)
        rw [key _ (by omega) (by omega) (by omega)] at this
        exact Int.not_lt.2 this
      · have:=h (3*res) (by omega) (by omega) (by omega)
        rw [key _ (by omega) (by omega) (by omega)] at this
        exact Int.not_lt.2 this
theorem S_5 {h:D'} {p:C'} (hn:N_5 p=true) (t:F'):M_w h p t=(!decide (T_N h p t > 65536)&&!decide (h_s h p t > 65536)):=by
  have hL:=(A_D hn).1
  unfold M_w
  rw [a_3 hn]
  have e1:(h.Components.all fun w=>(A_n 0 (p.Levels+1)).all fun res=>K_c p (A_p t w) res)=!decide (h_s h p t > 65536):=by
    rw [Bool.eq_iff_iff]
    simp only [List.all_eq_true,Bool.not_eq_true',decide_eq_false_iff_not]
    have hm:=S_3 65536 (A_n 0 (3*p.Levels+1)) (fun w i=>blI p (A_p t w) i) h.Components 0
    have em:h_s h p t=h.Components.foldl (fun s w=>(A_n 0 (3*p.Levels+1)).foldl (fun s i=>(fun c=>bif decide (c > s) then c else s) (blI p (A_p t w) i)) s) 0:=rfl
    rw [em]
    constructor
    · intro ha
      refine Int.not_lt.2 (hm.2 ⟨by omega,fun w hw i hi=>?_⟩)
      obtain ⟨hi0,hi1⟩:=A_C.1 hi
      exact (S_4 hn (by omega) (by omega)).1 (ha w hw ((i+2) / 3) (A_C.2 ⟨by omega,by omega⟩)) i hi0 (by omega) rfl
    · intro ha w hw res hres
      obtain ⟨h0,h1⟩:=A_C.1 hres
      refine (S_4 hn h0 (by omega)).2 fun i hi0 hi1 hi=>?_
      exact (hm.1 (Int.not_lt.1 ha)).2 w hw i (A_C.2 ⟨hi0,by omega⟩)
  have e2:decide (T_N h p t<=65536)=!decide (T_N h p t > 65536):=by
    by_cases hc:T_N h p t<=65536
    · have:¬ T_N h p t > 65536:=by omega
      simp [hc,this]
    · have:T_N h p t > 65536:=by omega
      simp [hc,this]
  rw [e1,e2,Bool.and_comm]
theorem g_B (p:C'):m_T p=P_O p:=by
  have e:∀ (a b:Bool),(bif a then b else false)=(a&&b):=by intro a b;cases a <;> rfl
  unfold m_T P_O
  rw [Bool.eq_iff_iff]
  simp only [e,Bool.and_eq_true,decide_eq_true_eq,B_k]
  omega
theorem q_h {h:D'} {p:C'} {t:F'} (hl:h.Components.length<=4) (hn:N_5 p=true):F_v h p t=true:=by
  have hL:=(A_D hn).1
  unfold F_v
  rw [decide_eq_true hL.2,Nat.ble_eq_true_of_le (show h.Components.length<=1048576 by omega)]
  simp only [Bool.true_and,List.all_eq_true,Bool.and_eq_true,decide_eq_true_eq]
  intro res hres
  obtain ⟨h0,h1⟩:=A_C.1 hres
  have:=B_l hn h0 (by omega:res<=p.Levels)
  omega
theorem q_i {h:D'} {p:C'} {t:F'} (hl:h.Components.length<=4) (hn:N_5 p=true):O_O h p t=true:=by
  obtain ⟨hL,hX,hY,_,_⟩:=A_D hn
  unfold O_O
  rw [decide_eq_true hL.2,decide_eq_true hL.1,Nat.ble_eq_true_of_le (show h.Components.length<=1048576 by omega)]
  simp only [Bool.true_and,List.all_eq_true,Bool.and_eq_true,decide_eq_true_eq]
  intro i hi
  obtain ⟨h0,h1⟩:=A_C.1 hi
  have hb:=B_l hn (show 0<=(i+2) / 3 by omega) (by omega)
  obtain ⟨e1,e2⟩:=j_f hn (i:=i) rfl (by omega) (by omega)
  rw [e1,e2]
  omega
theorem U_r (rows:Rows) (h:D') (p:C') (i:Int) (again kn:Int->Option R) (kr:V->Option R) (h0:0<=i) (hr:rows.length<=1099511627776) (hl:h.Components.length<=4) (hn:N_5 p=true) :
    H_1 rows h p i again kn kr=bif decide (i<(rows.length:Int)) then (bif (fun w=>M_w h p (F'.of w)) (rows.getD i.toNat []) then again (i+1) else kr (V.int .i64 5)) else kn i:=by
  unfold H_1
  by_cases hi:i<(rows.length:Int)
  · simp only [decide_eq_true hi,cond_true,A_c h0 hi,q_h hl hn,q_i hl hn,Bool.true_or]
    rw [w64 (n:=i+1) (by omega) (by omega),S_5 hn]
    cases decide (T_N h p (F'.of (rows.getD i.toNat [])) > 65536) <;> cases decide (h_s h p (F'.of (rows.getD i.toNat [])) > 65536) <;> rfl
  · simp only [decide_eq_false hi,cond_false]
theorem U_s (rows:Rows) (h:D') (p:C') (e:Option R) (kr:V->Option R) (hr:rows.length<=1099511627776) (hl:h.Components.length<=4) (hn:N_5 p=true) :
    B_Q rows h p (H_0 rows 0 h p) 0 (fun _=>e) kr=bif rows.all (fun w=>M_w h p (F'.of w)) then e else kr (V.int .i64 5):=by
  refine (A_A (a:=0) (b:=(rows.length:Int)) (L:=fun n i=>B_Q rows h p n i (fun _=>e) kr) (ok:=fun i=>(fun w=>M_w h p (F'.of w)) (rows.getD i.toNat [])) (e:=e) (x:=kr (V.int .i64 5)) (fun n i h0=>U_r rows h p i _ _ kr h0 hr hl hn) _ (Nat.le_refl _)).trans ?_
  rw [B_I (fun w=>M_w h p (F'.of w))]
theorem O_j (h:D') (p:C'):P_U h p some=some (V.int .i64 (G_Y h p)):=by
  unfold P_U G_Y
  rw [g_B]
  show (bif F_t h != 0 then _ else _)=_
  by_cases hz:F_t h=0
  · have e:(F_t h != 0)=false:=by rw [hz];rfl
    rw [e]
    simp only [cond_false]
    cases P_O p with
    | false=>rfl
    | true =>
      show (bif !true then _ else (bif !(N_5 p) then _ else _))=_
      unfold b_H
      cases hn:N_5 p with
      | false=>rfl
      | true =>
        have hl:=K_o hz
        have hcl:(T_M h.Area h.TileW h.TileH).length<=1099511627776:=by have:=F_G h.Area h.TileW h.TileH;omega
        have key:=U_s (R:=V) (T_M h.Area h.TileW h.TileH) h p (some (V.int .i64 0)) some hcl hl.2 hn
        have kc:(T_M h.Area h.TileW h.TileH).all (fun w=>M_w h p (F'.of w))=(F_g h.Area h.TileW h.TileH).all (fun t=>M_w h p t):=by
          unfold T_M
          rw [S_1]
        rw [kc] at key
        unfold h_k O_L V_c
        simp only [Bool.not_true,cond_false,Bool.true_and]
        by_cases hc:p.Color=0
        · have c1:(p.Color != 0)=false:=by rw [hc];rfl
          have c2:(p.Color==0)=true:=by rw [hc];rfl
          rw [c1,c2]
          simp only [cond_false,Bool.true_or,Bool.not_true]
          refine key.trans ?_
          cases (F_g h.Area h.TileW h.TileH).all fun t=>M_w h p t <;> rfl
        · have c1:(p.Color != 0)=true:=bne_iff_ne.2 hc
          have c2:(p.Color==0)=false:=beq_eq_false_iff_ne.2 hc
          rw [c1,c2]
          simp only [cond_true,Bool.false_or]
          by_cases h3:(h.Components.length:Int)<3
          · have h3':¬ (h.Components.length:Int) >= 3:=by omega
            rw [decide_eq_true h3,decide_eq_false h3']
            have e1:∀ x:Bool,(x||!(true==false))=true:=by intro x;cases x <;> rfl
            simp only [e1,cond_true,Bool.false_and,Bool.not_false]
          · have h3':(h.Components.length:Int) >= 3:=by omega
            have i0:inR 0 h.Components.length=true:=A_c (by omega) (by omega)
            have i1:inR 1 h.Components.length=true:=A_c (by omega) (by omega)
            have i2:inR 2 h.Components.length=true:=A_c (by omega) (by omega)
            rw [decide_eq_false h3,decide_eq_true h3']
            simp only [i0,i1,i2,Bool.true_or,cond_true,cond_false,Bool.true_and]
            rw [key]
            generalize (((H'.of (h.Components.getD 0 [])).Depth==(H'.of (h.Components.getD 1 [])).Depth)&&(((H'.of (h.Components.getD 0 [])).Signed==(H'.of (h.Components.getD 1 [])).Signed)&&(((H'.of (h.Components.getD 0 [])).DX==(H'.of (h.Components.getD 1 [])).DX)&&(((H'.of (h.Components.getD 0 [])).DY==(H'.of (h.Components.getD 1 [])).DY)&&true))))=x
            generalize (((H'.of (h.Components.getD 0 [])).Depth==(H'.of (h.Components.getD 2 [])).Depth)&&(((H'.of (h.Components.getD 0 [])).Signed==(H'.of (h.Components.getD 2 [])).Signed)&&(((H'.of (h.Components.getD 0 [])).DX==(H'.of (h.Components.getD 2 [])).DX)&&(((H'.of (h.Components.getD 0 [])).DY==(H'.of (h.Components.getD 2 [])).DY)&&true))))=y
            generalize ((F_g h.Area h.TileW h.TileH).all fun t=>M_w h p t)=z
            cases x <;> cases y <;> cases z <;> rfl
  · have e:(F_t h != 0)=true:=bne_iff_ne.2 hz
    rw [e]
    rfl
theorem a_4 (h1:g_u) (h2:m_s) (h3:q_Q) (h4:n_i) (h5:m_w) (h6:n_w):h_O:=by
  refine v_C ?_ ?_ ?_ ?_ ?_ ?_ (fun h p _=>O_j h p) <;> assumption
def f_w (a:F') (bx bY col row r c:Int):F':=C_S a (R_c (IntKind.wrap .i64 (col+c)) (IntKind.wrap .i64 (row+r)) bx bY)
theorem g_C (bx bY q1 q2 col row r q3 q4 cols:Int) (a:F') (e:Rows->Option R) (hc:cols<=4096) (n:Nat) (s:Rows) (hs:s.length<=1099511000000) (hn:(cols-0).toNat+1<=n) :
    C_E bx bY q1 q2 col row r q3 q4 cols a n 0 s (fun _ z=>e z)=e (s++(A_n 0 cols).map fun c=>F'.row (f_w a bx bY col row r c)):=by
  refine (A_o (b:=cols) (L:=fun n i s=>C_E bx bY q1 q2 col row r q3 q4 cols a n i s (fun _ z=>e z)) (g:=fun s c=>s++[F'.row (f_w a bx bY col row r c)]) (e:=e) (fun i t=>0<=i/\t.length<=s.length+i.toNat) ?_ ?_ n 0 s ⟨Int.le_refl 0,by omega⟩ hn).trans ?_
  · intro n i t ⟨h0,hl⟩
    show I_L bx bY q1 q2 col row r q3 q4 cols a i t _ _=_
    unfold I_L
    by_cases hi:i<cols
    · have hroom:roomOK (t.length+1) 32=true:=A_w (by omega)
      simp only [decide_eq_true hi,cond_true,hroom]
      rw [w64 (n:=i+1) (by omega) (by omega)]
      rfl
    · simp only [decide_eq_false hi,cond_false]
  · intro i t ⟨h0,hl⟩ hi
    refine ⟨by omega,?_⟩
    rw [List.length_append]
    show t.length+1<=_
    omega
  · rw [A_4]
theorem g_D (bx bY cols rows col row:Int) (a:F') (e:Rows->Option R) (hc0:0<=cols) (hc:cols<=4096) (hr:rows<=4096) (n:Nat) (hn:(rows-0).toNat+1<=n) :
    B_Y bx bY cols rows col row rows a n 0 [] (fun _ z=>e z)=e ((A_n 0 rows).flatMap fun r=>(A_n 0 cols).map fun c=>F'.row (f_w a bx bY col row r c)):=by
  refine (A_o (b:=rows) (L:=fun n i s=>B_Y bx bY cols rows col row rows a n i s (fun _ z=>e z)) (g:=fun s r=>s++(A_n 0 cols).map fun c=>F'.row (f_w a bx bY col row r c)) (e:=e) (fun i t=>0<=i/\(i<=4096->t.length<=i.toNat*4096)) ?_ ?_ n 0 [] ⟨Int.le_refl 0,by simp⟩ hn).trans ?_
  · intro n i t ⟨h0,hl⟩
    show I_N bx bY cols rows col row rows a i t _ _=_
    unfold I_N
    by_cases hi:i<rows
    · simp only [decide_eq_true hi,cond_true]
      have:=hl (by omega)
      refine (g_C bx bY cols rows col row i rows i cols a (fun z=>B_Y bx bY cols rows col row rows a n (IntKind.wrap .i64 (i+1)) z (fun _ z=>e z)) hc _ t (by omega) (Nat.le_refl _)).trans ?_
      rw [w64 (n:=i+1) (by omega) (by omega)]
    · simp only [decide_eq_false hi,cond_false]
  · intro i t ⟨h0,hl⟩ hi
    refine ⟨by omega,fun h=>?_⟩
    have:=hl (by omega)
    rw [List.length_append,List.length_map,A_q]
    have:(i+1).toNat=i.toNat+1:=by omega
    rw [this,Nat.add_mul,Nat.one_mul]
    omega
  · rw [C_n,List.nil_append]
theorem a_5 (h1:W_a) (h2:m_C) (h3:m_D):r_m:=by
  refine x_l ?_ ?_ ?_ (fun a bx bY _=>?_) <;> try assumption
  have bd:=K_j a bx bY 6 (by omega)
  unfold T_7 O_f
  exact g_D bx bY (A_J a bx bY 6).2.2.1 (A_J a bx bY 6).2.2.2 (A_J a bx bY 6).1 (A_J a bx bY 6).2.1 a (fun z=>some (V.tup [V.int .i64 (A_J a bx bY 6).2.2.1,V.int .i64 (A_J a bx bY 6).2.2.2,V.data F'.sh z])) bd.2.2.1.1 bd.2.2.1.2 bd.2.2.2.1.2 _ (Nat.le_refl _)
theorem g_E {r:F'} {a b:Int} (ha:0<=a/\a<=6) (hb:0<=b/\b<=6):A_J r a b 12=A_J r a b 6:=by
  rw [F_F r a b 12 (by omega),F_F r a b 6 (by omega)]
  by_cases h:(A_3 r=true/\C_R r=false)/\((0<=a/\a<=6)/\0<=b/\b<=6)/\A_s r.X0 r.X1 a*A_s r.Y0 r.Y1 b<=65536
  · rw [if_pos h,if_pos ⟨h.1,⟨⟨by omega,by omega⟩,by omega,by omega⟩,h.2.2⟩]
  · rw [if_neg h,if_neg fun h'=>h ⟨h'.1,⟨ha,hb⟩,h'.2.2⟩]
theorem g_F {r:F'} {a b i:Int} (h0:0<=i) (h1:i<(A_J r a b 12).2.2.1*(A_J r a b 12).2.2.2) :
    K_K r a b i=(IntKind.wrap .i64 ((A_J r a b 12).1+i % (A_J r a b 12).2.2.1),IntKind.wrap .i64 ((A_J r a b 12).2.1+i / (A_J r a b 12).2.2.1),true):=by
  have bd:=K_j r a b 12 (by omega)
  have hc:(A_J r a b 12).2.2.1 ≠ 0:=by
    intro hz
    rw [hz] at h1
    omega
  have hq0:0<=i / (A_J r a b 12).2.2.1:=Int.ediv_nonneg h0 (by omega)
  have hq1:i / (A_J r a b 12).2.2.1<=i:=Int.ediv_le_self _ h0
  unfold K_K
  have d1:¬ i<0:=by omega
  simp only [decide_eq_false d1,cond_false]
  rw [w64 (n:=(A_J r a b 12).2.2.1*(A_J r a b 12).2.2.2) (by omega) (by omega)]
  have d2:¬ i >= (A_J r a b 12).2.2.1*(A_J r a b 12).2.2.2:=by omega
  simp only [decide_eq_false d2,cond_false,show ((A_J r a b 12).2.2.1 != 0)=true from bne_iff_ne.2 hc,cond_true]
  rw [Int.tmod_eq_emod_of_nonneg h0,Int.tdiv_eq_ediv_of_nonneg h0,w64 (n:=i / _) (by omega) (by omega)]
theorem N_L (bx bY cols rows:Int) (a:F') (e:Rows->Option R) (hc0:0<=cols*rows) (hc:cols*rows<=65536) (n:Nat) (hn:(cols*rows-0).toNat+1<=n) :
    C_J bx bY cols rows a n 0 [] (fun _ z=>e z)=e ((A_n 0 (cols*rows)).map fun i=>F'.row (V_5 a bx bY i).1):=by
  refine (A_o (b:=cols*rows) (L:=fun n i s=>C_J bx bY cols rows a n i s (fun _ z=>e z)) (g:=fun s i=>s++[F'.row (V_5 a bx bY i).1]) (e:=e) (fun i t=>0<=i/\t.length<=i.toNat) ?_ ?_ n 0 [] ⟨Int.le_refl 0,by simp⟩ hn).trans ?_
  · intro n i t ⟨h0,hl⟩
    show J_l bx bY cols rows a i t _ _=_
    unfold J_l
    rw [w64 (n:=cols*rows) (by omega) (by omega)]
    by_cases hi:i<cols*rows
    · have hroom:roomOK (t.length+1) 32=true:=A_w (by omega)
      simp only [decide_eq_true hi,cond_true,hroom]
      rw [w64 (n:=i+1) (by omega) (by omega)]
    · simp only [decide_eq_false hi,cond_false]
  · intro i t ⟨h0,hl⟩ hi
    refine ⟨by omega,?_⟩
    rw [List.length_append]
    show t.length+1<=_
    omega
  · rw [A_4,List.nil_append]
theorem N_M (a:F') (bx bY:Int):P_Z a bx bY some=some (V.tup [V.int .i64 (O_f a bx bY).1,V.int .i64 (O_f a bx bY).2.1,V.data F'.sh (O_f a bx bY).2.2]):=by
  unfold P_Z
  by_cases hab:(0<=bx/\bx<=6)/\0<=bY/\bY<=6
  · have d1:¬ bx<0:=by omega
    have d2:¬ bx > 6:=by omega
    have d3:¬ bY<0:=by omega
    have d4:¬ bY > 6:=by omega
    simp only [decide_eq_false d1,decide_eq_false d2,decide_eq_false d3,decide_eq_false d4,cond_false]
    rw [C_c]
    have bd:=K_j a bx bY 12 (by omega)
    have hm0:0<=(A_J a bx bY 12).2.2.1*(A_J a bx bY 12).2.2.2:=Int.mul_nonneg bd.2.2.1.1 bd.2.2.2.1.1
    refine (N_L bx bY (A_J a bx bY 12).2.2.1 (A_J a bx bY 12).2.2.2 a (fun z=>some (V.tup [V.int .i64 (A_J a bx bY 12).2.2.1,V.int .i64 (A_J a bx bY 12).2.2.2,V.data F'.sh z])) hm0 bd.2.2.2.2 _ (by
      show _<=Int.toNat (IntKind.wrap .i64 ((A_J a bx bY 12).2.2.1*(A_J a bx bY 12).2.2.2)-0)+1
      rw [w64 (n:=(A_J a bx bY 12).2.2.1*(A_J a bx bY 12).2.2.2) (by omega) (by omega)]
      exact Nat.le_refl _)).trans ?_
    unfold O_f
    rw [<- g_E hab.1 hab.2]
    have hr:(((A_J a bx bY 12).2.2.2.toNat:Nat):Int)=(A_J a bx bY 12).2.2.2:=by omega
    have hp:=V_p (fun c r=>F'.row (f_w a bx bY (A_J a bx bY 12).1 (A_J a bx bY 12).2.1 r c)) bd.2.2.1.1 (A_J a bx bY 12).2.2.2.toNat
    rw [hr] at hp
    refine congrArg (fun z=>some (V.tup [V.int .i64 (A_J a bx bY 12).2.2.1,V.int .i64 (A_J a bx bY 12).2.2.2,V.data F'.sh z])) (Eq.trans ?_ hp)
    apply List.map_congr_left
    intro i hi
    obtain ⟨h0,h1⟩:=A_C.1 hi
    rw [N_H,g_F h0 h1]
    rfl
  · have hz:A_J a bx bY 6=(0,0,0,0):=by rw [F_F a bx bY 6 (by omega),if_neg fun h=>hab h.2.1]
    unfold O_f
    rw [hz]
    by_cases d1:bx<0
    · simp only [decide_eq_true d1,cond_true];rfl
    by_cases d2:bx > 6
    · simp only [decide_eq_false d1,decide_eq_true d2,cond_true,cond_false];rfl
    by_cases d3:bY<0
    · simp only [decide_eq_false d1,decide_eq_false d2,decide_eq_true d3,cond_true,cond_false];rfl
    have d4:bY > 6:=by omega
    simp only [decide_eq_false d1,decide_eq_false d2,decide_eq_false d3,decide_eq_true d4,cond_true,cond_false];rfl
theorem a_6 (h1:m_F) (h2:m_G):r_B:=by
  refine x_5 ?_ ?_ (fun a bx bY _=>N_M a bx bY) <;> assumption
theorem Q_a {l:Rows} {i:Int} (h0:0<=i) (h1:i<(l.length:Int)):l.drop i.toNat=l.getD i.toNat []::l.drop (i+1).toNat:=by
  have hi:i.toNat<l.length:=by omega
  rw [List.drop_eq_getElem_cons hi,show (i+1).toNat=i.toNat+1 by omega]
  congr 1
  simp [List.getD_eq_getElem?_getD,hi]
theorem f_x (l:Rows) (hl:l.length<=1099511627776) (ht:(V_3 l).length<=1099511627776):T_8 l some=some (V.data N'.sh (V_3 l)):=by
  refine (A_o (b:=(l.length:Int)) (L:=fun n i s=>D_C l (l.length:Int) n i s (fun _ z=>some (V.data N'.sh z))) (g:=fun s i=>(fun s w=>s++V.toRows (List.getD w 0 V.undef)) s (l.getD i.toNat [])) (e:=fun z=>some (V.data N'.sh z)) (fun i t=>0<=i/\t.length+(V_3 (l.drop i.toNat)).length<=1099511627776) ?_ ?_ _ 0 [] ⟨Int.le_refl 0,by simpa using ht⟩ (Nat.le_refl _)).trans ?_
  · intro n i t ⟨h0,hb⟩
    show I_R l (l.length:Int) i t _ _=_
    unfold I_R
    by_cases hi:i<(l.length:Int)
    · rw [Q_a h0 hi] at hb
      unfold V_3 at hb
      rw [List.flatMap_cons,List.length_append] at hb
      have hroom:roomOK (t.length+(V.toRows (List.getD (l.getD i.toNat []) 0 V.undef)).length) 72=true:=A_w (by omega)
      simp only [decide_eq_true hi,cond_true,A_c h0 hi,hroom]
      rw [w64 (n:=i+1) (by omega) (by omega)]
    · simp only [decide_eq_false hi,cond_false]
  · intro i t ⟨h0,hb⟩ hi
    rw [Q_a h0 hi] at hb
    unfold V_3 at hb ⊢
    rw [List.flatMap_cons,List.length_append] at hb
    refine ⟨by omega,?_⟩
    show (t++V.toRows (List.getD (l.getD i.toNat []) 0 V.undef)).length+_<=_
    rw [List.length_append]
    omega
  · rw [B_P (fun s w=>s++V.toRows (List.getD w 0 V.undef)),C_n,List.nil_append]
    rfl
theorem a_7:o_P:=x_p fun l hp _=>by
  unfold N_e at hp
  rw [Bool.and_eq_true] at hp
  exact f_x l (Nat.le_of_ble_eq_true hp.1) (Nat.le_of_ble_eq_true hp.2)
theorem U_t (h:D') {p:C'} (tile comp k:Int) (hn:N_5 p=true) {res band:Int} (h0:0<=res) (h1:res<=p.Levels) (hb0:0<=band) (hb1:band<=3*p.Levels) (hb:(band+2) / 3=res) :
    (h_A h p tile comp band k).blocks=(c_B (H_z h tile comp) p res band k).2.2:=by
  obtain ⟨hL,_,_,_,_⟩:=A_D hn
  have hc:band<V_e p.Levels:=by rw [A_G,if_pos hL];omega
  have hpx:=B_l hn h0 h1
  unfold h_A c_B
  rw [F_z,B_E]
  show _=(bif !(h_G (P_N (H_z h tile comp) p.Levels res) (c_t (H_z h tile comp) p.Levels band) (O_c band p.Levels).2.1 (A_X p res).X (A_X p res).Y k).2 then ((0:Int),(0:Int),([]:Rows)) else _).2.2
  rw [F_d,F_c]
  by_cases hz:band=0
  · have hr:res=0:=by omega
    subst hz;subst hr
    have hpl:O_c 0 p.Levels=(p.Levels,0,true):=by rw [C_a,if_pos ⟨by omega,hc⟩,if_pos rfl]
    rw [hpl]
    have e1:IntKind.wrap .i64 ((A_X p 0).X-0)=(A_X p 0).X:=by rw [Int.sub_zero];exact w64 (by omega) (by omega)
    have e2:IntKind.wrap .i64 ((A_X p 0).Y-0)=(A_X p 0).Y:=by rw [Int.sub_zero];exact w64 (by omega) (by omega)
    simp only [Bool.not_true,cond_false,F_d,F_c,show decide ((0:Int) > 0)=false from rfl,show decide ((1:Int)<0)=false from rfl,e1,e2]
    unfold P_N f_U
    cases (b_J (F_h (H_z h tile comp) p.Levels 0) (Q_r (H_z h tile comp) p.Levels 0) 0 (A_X p 0).X (A_X p 0).Y k).2 <;> rfl
  · have hr:0<res:=by omega
    have hpl:O_c band p.Levels=(p.Levels-res+1,band-3*res+3,true):=by rw [C_a,if_pos ⟨hb0,hc⟩,if_neg hz,hb]
    rw [hpl]
    have e0:IntKind.wrap .i64 (IntKind.wrap .i64 (p.Levels-(p.Levels-res+1))+1)=res:=by rw [w64 (n:=p.Levels-(p.Levels-res+1)) (by omega) (by omega),w64 (by omega) (by omega)];omega
    have e1:(bif decide (1<res) then (1:Int) else res)=1:=by rw [f_v (by omega)];omega
    have d1:band > 0:=by omega
    simp only [Bool.not_true,cond_false,cond_true,F_d,F_c,e0,e1,decide_eq_true d1,decide_eq_true (show res > 0 from hr)]
    unfold P_N f_U
    cases (b_J (F_h (H_z h tile comp) p.Levels res) (Q_r (H_z h tile comp) p.Levels band) (band-3*res+3) (A_X p res).X (A_X p res).Y k).2 <;> rfl
theorem J_K (a:F') (x y:Int):(O_f a x y).2.2.length<=65536:=by
  have bd:=K_j a x y 6 (by omega)
  unfold O_f
  simp only [List.length_flatMap,List.length_map,A_q,List.map_const',List.sum_replicate_nat]
  have e:((A_J a x y 6).2.2.2-0).toNat*((A_J a x y 6).2.2.1-0).toNat=((A_J a x y 6).2.2.1*(A_J a x y 6).2.2.2).toNat:=by
    rw [Int.sub_zero,Int.sub_zero,Nat.mul_comm,Int.toNat_mul bd.2.2.1.1 bd.2.2.2.1.1]
  rw [e]
  omega
theorem N_N (h:D') (p:C') (tile comp band k:Int):(h_A h p tile comp band k).blocks.length<=65536:=by
  have hc:∀ (b:Bool) (x y:A_a),x.blocks.length<=65536->y.blocks.length<=65536->(bif b then x else y).blocks.length<=65536:=by
    intro b x y hx hy
    cases b
    · exact hy
    · exact hx
  have hz:(A_a.mk 0 0 []).blocks.length<=65536:=Nat.zero_le _
  unfold h_A
  repeat' (first | exact hz | exact J_K _ _ _ | refine hc _ _ _ ?_ ?_)
theorem N_O (band:Int) (id:G') (l:Rows) (hl:l.length<=65536) (e:Rows->Option R) :
    C_F band id l (l.length:Int) (N_u band id l (l.length:Int) 0 []) 0 [] (fun _ z=>e z)=e (H_A id.Comp id.Res band id.Precinct l):=by
  refine (A_o (b:=(l.length:Int)) (L:=fun n i s=>C_F band id l (l.length:Int) n i s (fun _ z=>e z)) (g:=fun s i=>s++[N'.row ⟨id.Comp,id.Res,band,id.Precinct,i,F'.of (l.getD i.toNat [])⟩]) (e:=e) (fun i t=>0<=i/\t.length<=i.toNat) ?_ ?_ _ 0 [] ⟨Int.le_refl 0,by simp⟩ (Nat.le_refl _)).trans ?_
  · intro n i t ⟨h0,hb⟩
    show I_P band id l (l.length:Int) i t _ _=_
    unfold I_P
    by_cases hi:i<(l.length:Int)
    · have hroom:roomOK (t.length+1) 72=true:=A_w (by omega)
      simp only [decide_eq_true hi,cond_true,A_c h0 hi,hroom]
      rw [w64 (n:=i+1) (by omega) (by omega)]
      rfl
    · simp only [decide_eq_false hi,cond_false]
  · intro i t ⟨h0,hb⟩ hi
    refine ⟨by omega,?_⟩
    rw [List.length_append]
    show t.length+1<=_
    omega
  · rw [A_4,List.nil_append]
    rfl
theorem a_8 (h1:r_n):o_N:=x_o (h_H3:=h1) fun band h p tile id _ =>
  N_O band id _ (N_N h p tile id.Comp band id.Precinct) (fun z=>some (V.data N'.sh z))
theorem J_L (c r b p:Int) (l:Rows):(H_A c r b p l).length=l.length:=by
  unfold H_A
  rw [List.length_map,A_q]
  omega
theorem Q_b (l:Rows) (h:D') (p:C') (tile:Int) (id:G') (hl:l.length<=65536) (e:Rows->Option R) :
    C_G l (l.length:Int) h p tile id (N_v l (l.length:Int) 0 h p tile id []) 0 [] (fun _ z=>e z)=e (l.map fun w=>[V.data N'.sh (T_P (V.toInt (List.getD w 0 V.undef)) h p tile id)]):=by
  refine (A_o (b:=(l.length:Int)) (L:=fun n i s=>C_G l (l.length:Int) h p tile id n i s (fun _ z=>e z)) (g:=fun s i=>s++[(fun w=>[V.data N'.sh (T_P (V.toInt (List.getD w 0 V.undef)) h p tile id)]) (l.getD i.toNat [])]) (e:=e) (fun i t=>0<=i/\t.length<=i.toNat) ?_ ?_ _ 0 [] ⟨Int.le_refl 0,by simp⟩ (Nat.le_refl _)).trans ?_
  · intro n i t ⟨h0,hb⟩
    show I_T l (l.length:Int) h p tile id i t _ _=_
    unfold I_T
    by_cases hi:i<(l.length:Int)
    · have hroom:roomOK (t.length+1) 24=true:=A_w (by omega)
      simp only [decide_eq_true hi,cond_true,A_c h0 hi,hroom]
      rw [w64 (n:=i+1) (by omega) (by omega)]
    · simp only [decide_eq_false hi,cond_false]
  · intro i t ⟨h0,hb⟩ hi
    refine ⟨by omega,?_⟩
    rw [List.length_append]
    show t.length+1<=_
    omega
  · rw [A_4,List.nil_append,D_5 (fun w=>[V.data N'.sh (T_P (V.toInt (List.getD w 0 V.undef)) h p tile id)])]
theorem a_9 (l:Rows) (f:List V->Rows):V_3 (l.map fun w=>[V.data N'.sh (f w)])=l.flatMap f:=by
  unfold V_3
  rw [List.flatMap_map]
  rfl
theorem K_p (band:Int) (h:D') (p:C') (tile:Int) (id:G'):(T_P band h p tile id).length<=65536:=by
  unfold T_P
  rw [J_L]
  exact N_N h p tile id.Comp band id.Precinct
theorem K_q {α β:Type} (f:α->List β) (n:Nat):∀ (l:List α),(∀ x ∈ l,(f x).length<=n)->(l.flatMap f).length<=l.length*n
  | [],_=>by simp
  | x::l,h=>by
    rw [List.flatMap_cons,List.length_append,List.length_cons,Nat.add_mul,Nat.one_mul]
    have:=K_q f n l fun y hy=>h y (List.mem_cons_of_mem _ hy)
    have:=h x (List.mem_cons_self ..)
    omega
theorem C_N (h:D') (p:C') (tile:Int) (id:G'):(M_y h p tile id).length<=196608:=by
  unfold M_y
  have:=K_q (fun w=>T_P (V.toInt (List.getD w 0 V.undef)) h p tile id) 65536 (O_M p.Levels id.Res) fun w _=>K_p _ h p tile id
  have h3:=B_L p.Levels id.Res
  have:=Nat.mul_le_mul_right 65536 h3
  omega
theorem Q_c (h:D') (p:C') (tile:Int) (id:G'):T_9 h p tile id some=some (V.data N'.sh (M_y h p tile id)):=by
  have h3:=B_L p.Levels id.Res
  refine (Q_b (O_M p.Levels id.Res) h p tile id (by omega) (fun z=>bif N_e z then some (V.data N'.sh (V_3 z)) else none)).trans ?_
  have hj:V_3 ((O_M p.Levels id.Res).map fun w=>[V.data N'.sh (T_P (V.toInt (List.getD w 0 V.undef)) h p tile id)])=M_y h p tile id:=a_9 _ _
  have hp:N_e ((O_M p.Levels id.Res).map fun w=>[V.data N'.sh (T_P (V.toInt (List.getD w 0 V.undef)) h p tile id)])=true:=by
    unfold N_e
    rw [hj,List.length_map]
    have:=C_N h p tile id
    rw [Nat.ble_eq_true_of_le (by omega),Nat.ble_eq_true_of_le (by omega)]
    rfl
  simp only [hp,cond_true]
  rw [hj]
theorem b_a (h1:o_P) (h2:o_N) (h3:m_z):r_o:=by
  refine x_q ?_ ?_ ?_ (fun h p tile id _=>Q_c h p tile id) <;> assumption
theorem D_V (r:F') (p:C') (res band k:Int):(c_B r p res band k).2.2.length<=65536:=by
  have hc:∀ (b:Bool) (x y:Int × Int × Rows),x.2.2.length<=65536->y.2.2.length<=65536->(bif b then x else y).2.2.length<=65536:=by
    intro b x y hx hy
    cases b
    · exact hy
    · exact hx
  have hz:((0,0,[]):Int × Int × Rows).2.2.length<=65536:=Nat.zero_le _
  unfold c_B
  repeat' (first | exact hz | exact J_K _ _ _ | refine hc _ _ _ ?_ ?_)
theorem S_6 (comp res k:Int) (bands:Rows) (j:Int) (l:Rows) (r:F') (p:C') (hj:0<=j/\j<(bands.length:Int)) (hl:l.length<=65536) (s:Rows) (hs:s.length<=1099510000000) (e:Rows->Option R) :
    C_K comp res k bands j l r p (N_B comp res k bands j l 0 r p s) 0 s (fun _ z=>e z)=e (s++H_A comp res (V.toInt (List.getD (bands.getD j.toNat []) 0 V.undef)) k l):=by
  refine (A_o (b:=(l.length:Int)) (L:=fun n i s=>C_K comp res k bands j l r p n i s (fun _ z=>e z)) (g:=fun s i=>s++[N'.row ⟨comp,res,V.toInt (List.getD (bands.getD j.toNat []) 0 V.undef),k,i,F'.of (l.getD i.toNat [])⟩]) (e:=e) (fun i t=>0<=i/\t.length<=s.length+i.toNat) ?_ ?_ _ 0 s ⟨Int.le_refl 0,by omega⟩ (Nat.le_refl _)).trans ?_
  · intro n i t ⟨h0,hb⟩
    show J_n comp res k bands j l r p i t _ _=_
    unfold J_n
    by_cases hi:i<(l.length:Int)
    · have hroom:roomOK (t.length+1) 72=true:=A_w (by omega)
      simp only [decide_eq_true hi,cond_true,A_c h0 hi,A_c hj.1 hj.2,hroom]
      rw [w64 (n:=i+1) (by omega) (by omega)]
      rfl
    · simp only [decide_eq_false hi,cond_false]
  · intro i t ⟨h0,hb⟩ hi
    refine ⟨by omega,?_⟩
    rw [List.length_append]
    show t.length+1<=_
    omega
  · rw [A_4]
    rfl
def K_r (r:F') (p:C') (comp res k:Int) (w:List V):Rows:=H_A comp res (V.toInt (List.getD w 0 V.undef)) k (c_B r p res (V.toInt (List.getD w 0 V.undef)) k).2.2
theorem O_k (r:F') (p:C') (comp res k:Int) (w:List V):(K_r r p comp res k w).length<=65536:=by
  unfold K_r
  rw [J_L]
  exact D_V _ _ _ _ _
theorem S_7 (comp res k:Int) (bands:Rows) (r:F') (p:C') (hl:bands.length<=4096) (e:Rows->Option R) :
    B_2 comp res k bands r p (N_C comp res k bands 0 r p []) 0 [] (fun _ z=>e z)=e (bands.flatMap (K_r r p comp res k)):=by
  refine (A_o (b:=(bands.length:Int)) (L:=fun n i s=>B_2 comp res k bands r p n i s (fun _ z=>e z)) (g:=fun s i=>(fun s w=>s++K_r r p comp res k w) s (bands.getD i.toNat [])) (e:=e) (fun i t=>0<=i/\(i<=4096->t.length<=i.toNat*65536)) ?_ ?_ _ 0 [] ⟨Int.le_refl 0,by simp⟩ (Nat.le_refl _)).trans ?_
  · intro n i t ⟨h0,hb⟩
    show J_p comp res k bands r p i t _ _=_
    unfold J_p
    by_cases hi:i<(bands.length:Int)
    · simp only [decide_eq_true hi,cond_true,A_c h0 hi]
      have:=hb (by omega)
      refine (S_6 comp res k bands i _ r p ⟨h0,hi⟩ (D_V _ _ _ _ _) t (by omega) (fun z=>B_2 comp res k bands r p n (IntKind.wrap .i64 (i+1)) z (fun _ z=>e z))).trans ?_
      rw [w64 (n:=i+1) (by omega) (by omega)]
      rfl
    · simp only [decide_eq_false hi,cond_false]
  · intro i t ⟨h0,hb⟩ hi
    refine ⟨by omega,fun h=>?_⟩
    have h1:=hb (by omega)
    show (t++K_r r p comp res k (bands.getD i.toNat [])).length<=_
    rw [List.length_append,show (i+1).toNat=i.toNat+1 by omega,Nat.add_mul,Nat.one_mul]
    have:=O_k r p comp res k (bands.getD i.toNat [])
    omega
  · rw [B_P (fun s w=>s++K_r r p comp res k w),C_n,List.nil_append]
theorem b_b (h1:r_C) (h2:r_A):r_D:=by
  refine x_8 ?_ ?_ (fun r p comp res k _=>?_) <;> try assumption
  unfold U_i j_J
  rw [O_h]
  have h3:=B_L p.Levels res
  exact S_7 comp res k (O_M p.Levels res) r p (by omega) (fun z=>some (V.data N'.sh z))
theorem S_8 (r:F') (a b:Int):m_i r a b=((A_J r a b 12).2.2.1,(A_J r a b 12).2.2.2):=rfl
def C_g (h:D') (p:C') (tile comp res:Int):Int:=(M_9 h p tile comp res).2.1*(M_9 h p tile comp res).2.2
theorem J_M (h:D') (p:C') (tile comp res:Int):0<=C_g h p tile comp res/\C_g h p tile comp res<=65536:=by
  have hc:∀ (b:Bool) (x y:F' × Int × Int),(0<=x.2.1*x.2.2/\x.2.1*x.2.2<=65536)->(0<=y.2.1*y.2.2/\y.2.1*y.2.2<=65536)->(0<=(bif b then x else y).2.1*(bif b then x else y).2.2/\(bif b then x else y).2.1*(bif b then x else y).2.2<=65536):=by
    intro b x y hx hy
    cases b
    · exact hy
    · exact hx
  unfold C_g M_9
  refine hc _ _ _ ?_ ?_
  · exact ⟨by decide,by decide⟩
  · have bd:=K_j (F_h (H_z h tile comp) p.Levels res) (A_X p res).X (A_X p res).Y 12 (by omega)
    exact ⟨Int.mul_nonneg bd.2.2.1.1 bd.2.2.2.1.1,bd.2.2.2.2⟩
theorem B_e (f:Int->Rows) (n:Nat) (a b:Int) (h:∀ i,(f i).length<=n):((A_n a b).flatMap f).length<=(b-a).toNat*n:=by
  have:=K_q f n (A_n a b) fun x _=>h x
  rwa [A_q] at this
theorem O_9 {h:D'} {p:C'} {t c:Int}:c_v h p t c=true ↔ G_Y h p=0/\(0<=t/\t<((B_f h).length:Int))/\0<=c/\c<(h.Components.length:Int):=by
  have e:∀ (a b:Bool),(bif a then b else false)=(a&&b):=by intro a b;cases a <;> rfl
  unfold c_v
  simp only [e,V_l,Bool.and_eq_true,decide_eq_true_eq,beq_iff_eq]
  constructor
  · rintro ⟨⟨h1,h2⟩,⟨h3,h4⟩,h5⟩;exact ⟨h1,⟨h2,h3⟩,h4,h5⟩
  · rintro ⟨h1,⟨h2,h3⟩,h4,h5⟩;exact ⟨⟨h1,h2⟩,⟨h3,h4⟩,h5⟩
theorem B_g {h:D'} {p:C'} (hz:G_Y h p=0):F_t h=0/\P_O p=true/\N_5 p=true/\O_L h p=true/\(F_g h.Area h.TileW h.TileH).all (fun t=>M_w h p t)=true:=by
  unfold G_Y at hz
  by_cases h0:F_t h=0
  · rw [show (F_t h != 0)=false by rw [h0];rfl] at hz
    cases hk:P_O p with
    | false=>rw [hk] at hz;cases hz
    | true =>
      cases hn:b_H h p with
      | false=>rw [hk,hn] at hz;cases hz
      | true =>
        cases hc:(F_g h.Area h.TileW h.TileH).all (fun t=>M_w h p t) with
        | false=>rw [hk,hn,hc] at hz;cases hz
        | true =>
          unfold b_H at hn
          rw [Bool.and_eq_true] at hn
          exact ⟨h0,rfl,hn.1,hn.2,rfl⟩
  · rw [show (F_t h != 0)=true from bne_iff_ne.2 h0] at hz
    exact absurd hz h0
end Go.Vm
