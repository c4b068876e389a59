import Derived.Test.YtnfkgnigkdkniaaGreatVmAny5
set_option linter.unusedSimpArgs false
set_option linter.unusedVariables false
namespace Go.Vm
section
variable {P:Program} {L:Nat->Prop}
def b_G (e:Eff):Prop:=e=.none \/ ∃ b,e=.new b
theorem U_2 {e:Eff} (he:b_G e) {id k:Nat} (hk:k ≠ id) (h:Heap):(e.run id h).get k=h.get k:=by
  rcases he with rfl | ⟨b,rfl⟩
  · rfl
  · rw [Eff.run,Heap.get_ins,if_neg hk]
theorem V_R {e:Eff} (he:b_G e) {id:Nat} (hid:¬ L id) (h:Heap) (fz:List Nat):C_V L h (e.run id (h.freeze fz)):=by
  intro k hk
  rw [U_2 he (fun e:k=id=>hid (e ▸ hk)),Heap.get_freeze]
  cases h.get k with
  | none=>exact .inl ⟨rfl,rfl⟩
  | some b =>
    refine .inr ⟨b,_,rfl,rfl,?_,?_,?_⟩ <;> split <;> rfl
theorem g_c {e:Eff} (he:b_G e) {id:Nat} (hid:¬ L id) (h:Heap):g_V L h (e.run id (h.freeze [])):=by
  intro k hk
  rw [U_2 he (fun e:k=id=>hid (e ▸ hk)),A_i]
theorem j_u {k:Nat} {b b':Blk} {h:Heap} {fz:List Nat} (hb:h.get k=some b) (hs:b'.vec=b.vec/\b'.sh=b.sh/\b'.rows.length=b.rows.length) (id:Nat):J_7 L h ((Eff.put k b').run id (h.freeze fz)):=by
  intro q hq
  rw [Eff.run,Heap.get_ins]
  by_cases e:q=k
  · subst e
    rw [if_pos rfl]
    exact .inr ⟨b,b',hb,rfl,hs.1,hs.2.1,hs.2.2⟩
  · rw [if_neg e,Heap.get_freeze]
    cases h.get q with
    | none=>exact .inl ⟨rfl,rfl⟩
    | some c =>
      refine .inr ⟨c,_,rfl,rfl,?_,?_,?_⟩ <;> split <;> rfl
theorem G_9 {e:Eff} (he:b_G e) {id:Nat} {fz:List Nat} (hid:id ∉ fz) (h:Heap):(e.run id h).freeze fz=e.run id (h.freeze fz):=by
  rcases he with rfl | ⟨b,rfl⟩
  · rfl
  · exact O_x hid b h
theorem c_h {e1 e2:Eff} (h1:b_G e1) (h2:b_G e2) {i j:Nat} (hij:i ≠ j) (h:Heap):e2.run j (e1.run i h)=e1.run i (e2.run j h):=by
  rcases h1 with rfl | ⟨b1,rfl⟩
  · rfl
  · rcases h2 with rfl | ⟨b2,rfl⟩
    · rfl
    · exact P_F hij b1 b2 h
theorem g_d {e1:Eff} (h1:b_G e1) {i j k:Nat} {b:Blk} (hk:i ≠ k) (h:Heap):(Eff.put k b).run j (e1.run i h)=e1.run i ((Eff.put k b).run j h):=by
  rcases h1 with rfl | ⟨b1,rfl⟩
  · rfl
  · exact P_F hk b1 b h
theorem g_e {e1:Eff} (h1:b_G e1) {i j k:Nat} {b:Blk} (hk:i ≠ k) (hij:i ≠ j) {h:Heap} (hs:sortedB h=true):(Eff.app k b).run j (e1.run i h)=e1.run i ((Eff.app k b).run j h):=by
  rcases h1 with rfl | ⟨b1,rfl⟩
  · rfl
  · show (Heap.del (h.ins i b1) k).ins j b=((h.del k).ins j b).ins i b1
    rw [b_3 hk.symm b1 h hs,P_F hij]
def H_t (i j:Nat) (h:Heap) (e1:Eff) (fz1:List Nat) (e2:Eff) (fz2:List Nat):Prop :=
  e2.run j ((e1.run i (h.freeze fz1)).freeze fz2)=e1.run i ((e2.run j (h.freeze fz2)).freeze fz1)
theorem H_t.symm {i j h e1 fz1 e2 fz2} (c:H_t i j h e1 fz1 e2 fz2):H_t j i h e2 fz2 e1 fz1:=Eq.symm c
theorem O_C {i j h e2 fz2}:H_t i j h .none [] e2 fz2:=by
  unfold H_t
  rw [A_i,A_i];rfl
theorem J_9 {i j h e1 fz1 e2 fz2} (hij:i ≠ j) (h1:b_G e1) (h2:b_G e2) (f1:∀ k ∈ fz1,k ≠ j) (f2:∀ k ∈ fz2,k ≠ i):H_t i j h e1 fz1 e2 fz2:=by
  unfold H_t
  rw [G_9 h1 (fun m=>f2 i m rfl),G_9 h2 (fun m=>f1 j m rfl),H_q,c_h h1 h2 hij]
theorem Q_R {i j h e1 k b fz2} (hk:i ≠ k) (h1:b_G e1) (f2:∀ k ∈ fz2,k ≠ i):H_t i j h e1 [] (.put k b) fz2:=by
  unfold H_t
  rw [G_9 h1 (fun m=>f2 i m rfl),A_i,A_i,g_d h1 hk]
theorem Q_S {i j h e1 k b} (hk:i ≠ k) (hij:i ≠ j) (h1:b_G e1) (hs:sortedB h=true):H_t i j h e1 [] (.app k b) []:=by
  unfold H_t
  rw [A_i,A_i,A_i,g_e h1 hk hij hs]
theorem r_U {o:Oper} (h:ldOp o=true):∃ ty d,o.op=.load ty (.tmp d):=by
  unfold ldOp at h
  split at h
  · rename_i ty d e;exact ⟨ty,d,e⟩
  · cases h
theorem Q_T {t:List V} {g:List (Nat × Bool)} {d k i j:Nat} (h:evT t g (.tmp d)=.ptr k i j):(match t.getD d .undef with
    | .ptr k _ _=>some k
    | .gd _ _ (.ptr k _ _)=>some k
    | _=>none)=some k:=by
  simp only [evT] at h
  split at h
  · rename_i q w v hv
    rw [hv]
    cases hg:g.any (fun p=>Nat.beq q p.1&&(w==p.2)) with
    | false=>rw [hg] at h;cases h
    | true=>rw [hg] at h;simp only [cond_true] at h;subst h;rfl
  · rw [h]
theorem j_v {o:Oper} {ty:TypeId} {d:Nat} (ho:o.op=.load ty (.tmp d)) {t:List V} {g} {k i j:Nat} (h:evT t g (.tmp d)=.ptr k i j):rwOf o t=some k:=by
  unfold rwOf;rw [ho];exact Q_T h
theorem h_b {k k':Nat} (h:neN (some k) (some k')=true):k ≠ k':=by
  intro e;subst e;simp [neN] at h
theorem r_V {o:Oper} (hst:stOp o=true) {t:List V} {g:List (Nat × Bool)} {h:Heap} {id:Nat} {v k b fz} (hr:opV P o t g h id=⟨true,v,.put k b,fz⟩):rwOf o t=some k:=by
  obtain ⟨dst,op,type,pos,after,guard⟩:=o
  cases op <;> first | (simp [stOp] at hst;done) | skip
  rename_i ty x y
  dsimp only [opV,opD] at hr
  unfold opStore at hr
  split at hr
  · rename_i k0 i j hx
    have hk:k0=k:=by
      split at hr
      · simp only at hr
        revert hr
        cases okT P ty&&_&&_&&_&&_&&_ with
        | false=>intro hr;simp [OR.fail] at hr
        | true =>
          intro hr
          simp only [cond_true] at hr
          revert hr
          cases Blk.vec _ with
          | true=>intro hr;simp only [cond_true,OR.mk.injEq,Eff.put.injEq] at hr;exact hr.2.2.1.1
          | false=>intro hr;simp only [cond_false,OR.mk.injEq,Eff.put.injEq] at hr;exact hr.2.2.1.1
      · simp [OR.fail] at hr
    subst hk
    cases x with
    | tmp d=>exact Q_T hx
    | const c =>
      have hr2:=F_p c
      simp only [evT] at hx
      rw [hx] at hr2
      simp [V.refs] at hr2
    | global g=>simp [evT] at hx
    | func f=>simp [evT] at hx
  · simp [OR.fail] at hr
theorem g_f {ops:List Oper} {base i:Nat} {o:Oper} (hst:stOp o=true) {t h v k b fz} (ho:T_D P ops base i o t h v (.put k b) fz):rwOf o t=some k:=by
  have hc:isCall o=none:=Q_Q (.inr (.inr (.inl hst)))
  have h1:∀ g id,G_V P id o g t h v (.put k b) fz->rwOf o t=some k:=by
    intro g id ho
    unfold G_V at ho
    rw [hc] at ho
    exact r_V hst ho.1
  unfold T_D at ho
  split at ho
  · exact h1 _ _ ho
  · obtain ⟨d,_,⟨_,_,he,_⟩ | ⟨b',_,ho⟩⟩:=ho
    · cases he
    split at ho
    · rcases ho with ⟨_,ho⟩ | ⟨_,_,he,_⟩
      · exact h1 _ _ ho
      · cases he
    · obtain ⟨c,u,_,_,_,_,he,_⟩:=ho
      cases he
theorem c_i {base i:Nat} {t h} (A:AI L base t h) {ops:List Oper} {a b:Oper} {v1 e1 fz1} (hia:¬ L (base+i)) (ho:T_D P ops base i a t h v1 e1 fz1) (EA:N_9 L a h e1 fz1) (hp:pairOK a b=true \/ pairRW a b (rwOf a t) (rwOf b t)=true):f_L P b t h (e1.run (base+i) (h.freeze fz1)):=by
  have same:e1=.none/\fz1=[]->f_L P b t h (e1.run (base+i) (h.freeze fz1)):=by
    rintro ⟨rfl,rfl⟩
    rw [A_i];exact .same
  rcases hp with hp | hp
  · unfold pairOK at hp
    simp only [Bool.or_eq_true,Bool.and_eq_true] at hp
    rcases hp with (((⟨ha,hb⟩ | ⟨ha,hb⟩) | ⟨ha,hb⟩) | ⟨ha,hb⟩) | ⟨ha,hb⟩
    · exact .quiet A hb (V_R (EA.quiet ha) hia h fz1)
    · obtain ⟨rfl,hm⟩:=EA.pt ha
      exact .of (Q_Q (by rcases hb with (hb | hb) | hb <;> simp [hb])) fun g id=>m_M (by simpa using hb) (g_c hm hia h) A.hh (A.ev g)
    · exact .of (Q_Q (.inl hb)) fun g id=>g_W hb
    · exact same (EA.sr (by simp [ha]))
    · rcases EA.st (by simpa using ha) with hs | ⟨k,c,c',hk,rfl,h1,h2,h3,_⟩
      · exact same hs
      · exact .of (Q_Q (.inr (.inl hb))) fun g id=>g_X hb (j_u (L:=L) hk ⟨h1,h2,h3⟩ _) (A.ev g)
  · unfold pairRW at hp
    simp only [Bool.and_eq_true,Bool.or_eq_true] at hp
    obtain ⟨⟨ha,hb⟩ | ⟨ha,hb⟩,hn⟩:=hp
    · exact same (EA.sr (by simp [ha]))
    · rcases EA.st (by simp [ha]) with hs | ⟨k,c,c',hk,rfl,h1,h2,h3,_⟩
      · exact same hs
      · obtain ⟨ty,d,hop⟩:=r_U hb
        refine .of (Q_Q (.inr (.inr (.inr (.inr (.inl hb)))))) fun g id=>?_
        obtain ⟨dst,op,type,pos,after,guard⟩:=b
        simp only at hop
        subst hop
        dsimp only [opV,opD]
        refine U_V fun k' i' j' hev=>?_
        have hr:=j_v (o:=⟨dst,.load ty (.tmp d),type,pos,after,guard⟩) rfl hev
        rw [g_f ha ho,hr] at hn
        have hne:=h_b hn
        rw [Eff.run,Heap.get_ins,if_neg (fun e=>hne e.symm),Heap.get_freeze]
        cases h.get k' with
        | none=>exact .inl ⟨rfl,rfl⟩
        | some c =>
          refine .inr ⟨c,_,rfl,rfl,?_,?_,?_⟩ <;> split <;> rfl
theorem g_g {base i j:Nat} {t h} (A:AI L base t h) {a b:Oper} {e1 fz1 e2 fz2} (hia:¬ L i) (hib:¬ L j) (hij:i ≠ j) (EA:N_9 L a h e1 fz1) (EB:N_9 L b h e2 fz2) {ra rb} (hp:pairOK a b=true \/ pairRW a b ra rb=true):H_t i j h e1 fz1 e2 fz2:=by
  have none1:e1=.none/\fz1=[]->H_t i j h e1 fz1 e2 fz2:=by rintro ⟨rfl,rfl⟩;exact O_C
  have none2:e2=.none/\fz2=[]->H_t i j h e1 fz1 e2 fz2:=by rintro ⟨rfl,rfl⟩;exact O_C.symm
  have f1:∀ k ∈ fz1,k ≠ j:=fun k hk e=>hib (e ▸ EA.fzL k hk)
  have f2:∀ k ∈ fz2,k ≠ i:=fun k hk e=>hia (e ▸ EB.fzL k hk)
  rcases hp with hp | hp
  · unfold pairOK at hp
    simp only [Bool.or_eq_true,Bool.and_eq_true] at hp
    rcases hp with (((⟨ha,hb⟩ | ⟨ha,hb⟩) | ⟨ha,hb⟩) | ⟨ha,hb⟩) | ⟨ha,hb⟩
    · exact J_9 hij (EA.quiet ha) (EB.quiet hb) f1 f2
    · obtain ⟨rfl,hm⟩:=EA.pt ha
      rcases hb with hb | hb
      · rcases EB.st (by simpa using hb) with hs | ⟨k,c,c',hk,rfl,_,_,_,hL⟩
        · exact none2 hs
        · exact Q_R (fun e=>hia (e ▸ hL)) hm f2
      · obtain ⟨rfl,he | he | ⟨k,c,rfl,hL⟩⟩:=EB.ap hb
        · exact none2 ⟨he,rfl⟩
        · exact J_9 hij hm (.inr he) f1 f2
        · exact Q_S (fun e=>hia (e ▸ hL)) hij hm A.srt
    · obtain ⟨rfl,hm⟩:=EB.pt hb
      rcases ha with ha | ha
      · rcases EA.st (by simpa using ha) with hs | ⟨k,c,c',hk,rfl,_,_,_,hL⟩
        · exact none1 hs
        · exact (Q_R (fun e:j=k=>hib (e ▸ hL)) hm f1).symm
      · obtain ⟨rfl,he | he | ⟨k,c,rfl,hL⟩⟩:=EA.ap ha
        · exact none1 ⟨he,rfl⟩
        · exact J_9 hij (.inr he) hm f1 f2
        · exact (Q_S (fun e:j=k=>hib (e ▸ hL)) hij.symm hm A.srt).symm
    · exact none1 (EA.sr (by simp [ha]))
    · exact none2 (EB.sr (by simp [hb]))
  · unfold pairRW at hp
    simp only [Bool.and_eq_true,Bool.or_eq_true] at hp
    obtain ⟨⟨ha,hb⟩ | ⟨ha,hb⟩,hn⟩:=hp
    · exact none1 (EA.sr (by simp [ha]))
    · exact none2 (EB.sr (by simp [hb]))
theorem T_I {a b:Oper} (h:pairOK a b=true):pairOK b a=true:=by
  unfold pairOK at h ⊢
  simp only [Bool.or_eq_true,Bool.and_eq_true] at h ⊢
  rcases h with (((⟨ha,hb⟩ | ⟨ha,hb⟩) | ⟨ha,hb⟩) | ⟨ha,hb⟩) | ⟨ha,hb⟩
  · exact .inl (.inl (.inl (.inl ⟨hb,ha⟩)))
  · exact .inl (.inl (.inr ⟨hb,ha⟩))
  · exact .inl (.inl (.inl (.inr ⟨hb,ha⟩)))
  · exact .inr ⟨hb,ha⟩
  · exact .inl (.inr ⟨hb,ha⟩)
theorem U_3 (ra rb:Option Nat) (h:neN ra rb=true):neN rb ra=true:=by
  cases ra <;> cases rb <;> try rfl
  rename_i a b
  have:=h_b h
  show (!(Nat.beq b a))=true
  rw [Bool.not_eq_true',Bool.eq_false_iff]
  exact fun e=>this (Nat.eq_of_beq_eq_true e).symm
theorem T_J {a b:Oper} {ra rb} (h:pairRW a b ra rb=true):pairRW b a rb ra=true:=by
  unfold pairRW at h ⊢
  simp only [Bool.and_eq_true,Bool.or_eq_true] at h ⊢
  obtain ⟨⟨ha,hb⟩ | ⟨ha,hb⟩,hn⟩:=h
  · exact ⟨.inr ⟨hb,ha⟩,U_3 _ _ hn⟩
  · exact ⟨.inl ⟨hb,ha⟩,U_3 _ _ hn⟩
theorem j_w {ops:List Oper} {base i:Nat} {o:Oper} {t h v e fz} (ho:T_D P ops base i o t h v e fz) {j w u} (hv:v=.gd j w u):j ∈ tmpsOf ops o:=by
  have h1:∀ g id,G_V P id o g t h v e fz->j ∈ tmpsOf ops o:=by
    intro g id ho
    unfold G_V at ho
    split at ho
    · obtain ⟨_,_,_,hf,_⟩:=ho
      have:=hf.2.2
      rw [hv] at this;simp [V.noGd] at this
    · have:=ho.2
      rw [hv] at this;simp [V.noGd] at this
  unfold T_D at ho
  split at ho
  · exact h1 _ _ ho
  · rename_i j0 w0 hg
    obtain ⟨d,hd,⟨_,he,_,_⟩ | ⟨b',_,ho⟩⟩:=ho
    · rw [hv] at he;cases he
    split at ho
    · rcases ho with ⟨_,ho⟩ | ⟨_,he,_,_⟩
      · exact h1 _ _ ho
      · rw [hv] at he;cases he
    · obtain ⟨c,u,_,_,_,he,_⟩:=ho
      rw [hv] at he;cases he
      exact O_B hg hd
theorem c_j {t:List V} {d1 d2:Option Tmp} {v1 v2:V} (h:∀ d,d1=some d->d2 ≠ some d):putT (putT t d1 v1) d2 v2=putT (putT t d2 v2) d1 v1:=by
  cases d1 with
  | none=>cases d2 <;> rfl
  | some a =>
    cases d2 with
    | none=>rfl
    | some b=>exact List.set_comm _ _ (fun e=>h a rfl (by rw [e]))
theorem j_x {t:List V} {d:Nat} {v:V} {p:V->Bool} (h:(t.set d v).any p=false) (hd:p (t.getD d .undef)=false):t.any p=false:=by
  rw [List.any_eq_false] at h ⊢
  intro x hx
  obtain ⟨i,hi⟩:=List.mem_iff_getElem?.1 hx
  by_cases e:d=i
  · subst e
    have:t.getD d .undef=x:=by simp [List.getD_eq_getElem?_getD,hi]
    rw [<- this,hd];simp
  · refine h x (List.mem_of_getElem? (i:=i) ?_)
    rw [List.getElem?_set_ne e];exact hi
theorem j_y {t:List V} {d:Nat} {v:V} {p:V->Bool} (h:t.any p=false) (hv:p v=false):(t.set d v).any p=false:=by
  rw [List.any_eq_false] at h ⊢
  intro x hx
  rcases List.mem_or_eq_of_mem_set hx with hx | rfl
  · exact h x hx
  · rw [hv];simp
theorem U_4 {v:V} (h:V.noGd v=true) (d:Nat):hasTag d v=false:=by cases v <;> first | rfl | simp [V.noGd] at h
theorem swap {base i j:Nat} {t h t1 h1 t2 h2} (A:AI L base t h) {ops:List Oper} {G:List Nat} {a b:Oper} (hi:¬ L (base+i)) (hj:¬ L (base+j)) (hij:i ≠ j) (hap:apartB ops a b=true)
    (hp:pairOK a b=true \/ pairRW a b (rwOf a t) (rwOf b t1)=true) (s1:V_K P ops G base i a t h t1 h1) (s2:V_K P ops G base j b t1 h1 t2 h2) :
    ∃ t1' h1',V_K P ops G base j b t h t1' h1'/\V_K P ops G base i a t1' h1' t2 h2/\rwOf b t=rwOf b t1/\rwOf a t1'=rwOf a t:=by
  obtain ⟨ap1,ap2⟩:=c_e hap
  obtain ⟨g1,v1,e1,fz1,o1,rfl,rfl⟩:=C_W.1 s1
  obtain ⟨g2,v2,e2,fz2,o2,rfl,rfl⟩:=C_W.1 s2
  have fb:M_X ops b a.dst:=fun d hd=>(ap1 d hd).1
  have fa:M_X ops a b.dst:=fun d hd=>ap2 d hd
  have hrb:rwOf b (putT t a.dst v1)=rwOf b t:=U_1 fb
  rw [hrb] at hp
  have EA:=(T_G A o1).e
  have o2:=(h_a (c_i A hi o1 EA hp)).1 ((g_9 fb).1 o2)
  have EB:=(T_G A o2).e
  have hp':pairOK b a=true \/ pairRW b a (rwOf b t) (rwOf a t)=true:=hp.imp T_I T_J
  have o1':=(g_9 fa (u:=v2)).2 ((h_a (c_i A hj o2 EB hp')).2 o1)
  have hc:=g_g A hi hj (by omega) EA EB hp
  have hdne:∀ d,a.dst=some d->b.dst ≠ some d:=fun d hd=>(ap1 d hd).2
  have t1:tagFree G t b.dst=true:=by
    unfold tagFree at g2 ⊢
    cases hbd:b.dst with
    | none=>rfl
    | some d =>
      rw [hbd] at g2
      simp only [Bool.and_eq_true] at g2 ⊢
      rw [H_s (fun e=>hdne d e hbd)] at g2
      refine ⟨g2.1,?_⟩
      cases hG:G.any (Nat.beq d) with
      | false=>rfl
      | true =>
        have g3:=g2.2
        rw [hG] at g3
        simp only [cond_true,Bool.not_eq_true'] at g3 ⊢
        cases had:a.dst with
        | none=>rw [had] at g3;exact g3
        | some d' =>
          rw [had] at g3 g1
          unfold tagFree at g1
          simp only [Bool.and_eq_true] at g1
          exact j_x g3 (U_4 g1.1 d)
  have t2:tagFree G (putT t b.dst v2) a.dst=true:=by
    unfold tagFree at g1 ⊢
    cases had:a.dst with
    | none=>rfl
    | some d =>
      rw [had] at g1
      simp only [Bool.and_eq_true] at g1 ⊢
      rw [H_s (hdne d had)]
      refine ⟨g1.1,?_⟩
      cases hG:G.any (Nat.beq d) with
      | false=>rfl
      | true =>
        have g3:=g1.2
        rw [hG] at g3
        simp only [cond_true,Bool.not_eq_true'] at g3 ⊢
        cases hbd:b.dst with
        | none=>exact g3
        | some d' =>
          refine j_y g3 ?_
          by_cases hg:∃ q w u,v2=.gd q w u
          · obtain ⟨q,w,u,hv⟩:=hg
            have hm:=j_w o2 hv
            rw [hv]
            simp only [hasTag]
            refine Bool.eq_false_iff.2 fun e=>?_
            have:=Nat.eq_of_beq_eq_true e
            subst this
            exact (ap1 q had).1 hm
          · exact U_4 (by cases v2 <;> first | rfl | (exact absurd ⟨_,_,_,rfl⟩ hg)) d
  refine ⟨_,_,C_W.2 ⟨t1,v2,e2,fz2,o2,rfl,rfl⟩,C_W.2 ⟨t2,v1,e1,fz1,o1',c_j hdne,hc⟩,hrb.symm,U_1 fa⟩
end
end Go.Vm
