import Derived.Test.YtnfkgnigkdkniaaGreatVmAny3
set_option linter.unusedSimpArgs false
set_option linter.unusedVariables false
namespace Go.Vm
section
variable {P:Program} {L:Nat->Prop}
theorem A_e {v:V} (h:V.refs v=[]):InL L v:=by intro k hk;rw [h] at hk;cases hk
theorem B_O:InL L .undef:=A_e rfl
theorem H_r {l:List V} (h:∀ v ∈ l,InL L v):∀ k ∈ V.refsL l,L k:=by
  intro k hk
  obtain ⟨v,hv,hk⟩:=B_a hk
  exact h v hv k hk
theorem C_f {l:List V} (h:∀ k ∈ V.refsL l,L k):∀ v ∈ l,InL L v:=fun v hv k hk=>h k (A_z hv hk)
def VI (L:Nat->Prop) (r:OR):Prop:=InL L r.v
theorem g_3 {v:V} (h:InL L v):VI L (.val v):=h
theorem O_a {c:Bool} {v:V} (h:InL L v):VI L (.if c v):=h
theorem P':VI L .fail:=B_O
theorem B_j (c:Bool) {x y:OR} (hx:VI L x) (hy:VI L y):VI L (bif c then x else y):=by cases c <;> assumption
theorem g_4 (q:Bool) (x y:V):VI L (V.sel q x y):=by
  unfold V.sel;split <;> first | exact A_e rfl
theorem m_O (op:BinOp) (t:TypeId) (x y:V):VI L (opBin P op t x y):=by
  unfold opBin
  split
  · split
    · exact A_e rfl
    · exact A_e rfl
    · refine B_j _ ?_ P'
      split <;> exact A_e rfl
  · split <;> first | exact B_j _ (A_e rfl) P' | exact P'
  · split <;> exact A_e rfl
  · split
    · refine O_a ?_;split <;> exact A_e rfl
    · refine O_a ?_;split <;> exact A_e rfl
    · exact P'
  · split <;> first | (refine B_j _ P' ?_;split <;> exact A_e rfl) | exact P'
  · exact P'
theorem r_S (op:UnOp) (x:V):VI L (opUn op x):=by
  unfold opUn;split <;> exact A_e rfl
theorem b_8 (t:TypeId) (cs:List V) (h:∀ k ∈ V.refsL cs,L k):VI L (outV P t cs):=by
  unfold outV
  refine B_j _ ?_ ?_
  · intro k hk;rw [show (OR.val (V.agg cs)).v=.agg cs from rfl,V.refs] at hk;exact h k hk
  · split
    · rename_i c;exact C_f h c (by simp)
    · exact P'
theorem V_O (c:CK) (v:V):V.refs (c.typed v)=[]:=by cases c <;> rfl
theorem G_7:∀ (sh:List CK) (j:Nat) (row:List V),V.refsL (typedL j sh row)=[]
  | [],_,_=>rfl
  | c::l,j,r=>by rw [typedL,V.refsL,V_O,G_7 l];rfl
theorem Q_L {l l':List V} (hs:∀ v ∈ l',v ∈ l) (h:∀ k ∈ V.refsL l,L k):∀ k ∈ V.refsL l',L k :=
  H_r fun v hv=>C_f h v (hs v hv)
theorem b_9 {l:List V} {a b:Nat}:∀ v ∈ (l.drop a).take b,v ∈ l:=fun v hv=>List.mem_of_mem_drop (List.mem_of_mem_take hv)
theorem j_r (t:TypeId) {h:Heap} (hh:HL L h) (a:V):VI L (opLoad P t h a):=by
  unfold opLoad
  split
  · split
    · rename_i b hb
      refine B_j _ (b_8 _ _ ?_) P'
      cases hv:b.vec with
      | true=>simp only [cond_true];rw [G_7];intro k hk;cases hk
      | false=>simp only [cond_false];exact Q_L b_9 (hh.row hb hv)
    · exact P'
  · refine B_j _ (b_8 _ _ ?_) P'
    rw [G_7];intro k hk;cases hk
  · exact P'
theorem Q_M (s:TypeId) (h:Heap) {a:V} (f:Nat) (ha:InL L a):VI L (opFieldAddr P s h a f):=by
  unfold opFieldAddr
  split
  · refine B_j _ P' ?_
    split
    · exact O_a fun k hk=>ha k (by simpa [V.refs] using hk)
    · exact A_e rfl
    · exact P'
  · exact P'
theorem Q_N (t:TypeId) (h:Heap) {a:V} (i:V) (ha:InL L a):VI L (opIndexAddr P t h a i):=by
  unfold opIndexAddr
  split
  · split
    · exact B_j _ (A_e rfl) P'
    · split
      · exact B_j _ (O_a fun k hk=>ha k (by simpa [V.refs] using hk)) P'
      · exact P'
    · split
      · exact B_j _ (O_a fun k hk=>ha k (by simpa [V.refs] using hk)) P'
      · exact P'
    · split
      · exact O_a fun k hk=>ha k (by simpa [V.refs] using hk)
      · exact P'
    · split <;> exact A_e rfl
    · exact P'
  · exact P'
theorem m_P (t:TypeId) (h:Heap) (a:V):VI L (opLen P t h a):=by
  unfold opLen
  split
  · split
    · exact A_e rfl
    · exact A_e rfl
    · split
      · exact B_j _ (A_e rfl) P'
      · exact P'
    · split
      · exact B_j _ (A_e rfl) P'
      · exact P'
    · exact P'
  · split <;> exact A_e rfl
  · exact A_e rfl
  · split <;> exact A_e rfl
  · exact P'
theorem j_s {t:TypeId} {cs:List V} {off:Nat} {v:V} (h:∀ k ∈ V.refsL cs,L k) (hp:partV P t cs off=some v):InL L v:=by
  unfold partV at hp
  revert hp
  cases okT P t&&Nat.ble (off+szOf P t) cs.length with
  | false=>intro hp;cases hp
  | true =>
    simp only [cond_true]
    cases aggT P t with
    | true =>
      simp only [cond_true,Option.some.injEq]
      rintro rfl
      intro k hk;rw [V.refs] at hk
      exact Q_L b_9 h k hk
    | false =>
      simp only [cond_false]
      intro hp
      split at hp
      · rename_i c hc
        cases hp
        have:v ∈ (cs.drop off).take (szOf P t):=by rw [hc];simp
        exact C_f h v (b_9 v this)
      · cases hp
theorem g_5 {cs:List V} (h:InL L (.agg cs)):∀ k ∈ V.refsL cs,L k:=fun k hk=>h k (by rw [V.refs];exact hk)
theorem f_8 (s:TypeId) {a:V} (f:Nat) (ha:InL L a):VI L (opField P s a f):=by
  unfold opField
  split
  · unfold Vm.part
    split
    · rename_i hp;exact j_s (g_5 ha) hp
    · exact P'
  · exact P'
theorem M_W:∀ (q:Bool) (a b s:List V),selCells q a b=some s->∀ v ∈ s,InL L v
  | q,[],[],s,h,v,hv=>by simp [selCells] at h;subst h;cases hv
  | q,a::l,b::r,s,h,v,hv=>by
    unfold selCells at h
    split at h
    · rename_i w _ _ s' hw hs
      cases h
      rcases List.mem_cons.1 hv with rfl | hv
      · have:=g_4 (L:=L) q a b;rw [hw] at this;exact this
      · exact M_W q l r s' hs v hv
    · cases h
  | q,[],_::_,s,h,v,hv=>by simp [selCells] at h
  | q,_::_,[],s,h,v,hv=>by simp [selCells] at h
theorem V_P (i:Int):∀ (j:Nat) (rs:List (List V)) (s:List V),selRows i j rs=some s->(∀ r ∈ rs,∀ v ∈ r,InL L v)->∀ v ∈ s,InL L v
  | j,[],s,h,hr,v,hv=>by simp [selRows] at h
  | j,[r],s,h,hr,v,hv=>by simp [selRows] at h;subst h;exact hr _ (by simp) v hv
  | j,r::r2::l,s,h,hr,v,hv=>by
    unfold selRows at h
    split at h
    · exact M_W _ _ _ _ h v hv
    · cases h
theorem Q_O (z:Nat):∀ (n:Nat) (cs:List V),(∀ v ∈ cs,InL L v)->∀ r ∈ chunks z n cs,∀ v ∈ r,InL L v
  | 0,cs,h,r,hr,v,hv=>by simp [chunks] at hr
  | n+1,cs,h,r,hr,v,hv=>by
    simp only [chunks,List.mem_cons] at hr
    rcases hr with rfl | hr
    · exact h v (List.mem_of_mem_take hv)
    · exact Q_O z n _ (fun v hv=>h v (List.mem_of_mem_drop hv)) r hr v hv
theorem f_9 (t:TypeId) {a:V} (i:V) (ha:InL L a):VI L (opIndex P t a i):=by
  unfold opIndex
  split
  · split
    · refine B_j _ ?_ P'
      split
      · rename_i r hr
        exact O_a (b_8 (P:=P) (L:=L) _ r (H_r (V_P _ _ _ _ hr (Q_O _ _ _ (C_f (g_5 ha))))))
      · exact P'
    · exact P'
  · exact A_e rfl
  · exact P'
theorem G_8:∀ (l:List V) (j:Nat) (r:List V),(∀ v ∈ l,InL L v)->(∀ v ∈ r,InL L v)->∀ v ∈ setCells l j r,InL L v
  | l,j,[],h1,h2=>h1
  | l,j,u::r,h1,h2=>by
    rw [setCells]
    refine G_8 _ _ r (fun v hv=>?_) fun v hv=>h2 v (List.mem_cons_of_mem _ hv)
    rcases List.mem_or_eq_of_mem_set hv with hv | rfl
    · exact h1 v hv
    · exact h2 _ (by simp)
theorem P_H (t:TypeId):∀ v ∈ zeroV P t,InL L v:=by
  have:∀ (a:List CK) (b:List Value),∀ v ∈ zipZero a b,InL L v:=by
    intro a
    induction a with
    | nil=>intro b v hv;cases b <;> simp [zipZero] at hv
    | cons c l ih =>
      intro b v hv
      cases b with
      | nil=>simp [zipZero] at hv
      | cons x r =>
        simp only [zipZero,List.mem_cons] at hv
        rcases hv with rfl | hv
        · apply A_e
          unfold zeroCell
          split <;> first | rfl | (cases CK.beq _ _ <;> rfl)
        · exact ih r v hv
  unfold zeroV
  exact this _ _
theorem F_q (z:Nat):∀ (ps:List (Nat × Nat × V)) (cs s:List V),fillParts z cs ps=some s->(∀ v ∈ cs,InL L v)->(∀ p ∈ ps,InL L p.2.2)->∀ v ∈ s,InL L v
  | [],cs,s,h,h1,h2=>by simp [fillParts] at h;subst h;exact h1
  | (off,w,u)::r,cs,s,h,h1,h2=>by
    unfold fillParts at h
    revert h
    cases V.whole u&&Nat.beq (V.cells u).length w&&Nat.ble (off+w) z with
    | false=>intro h;cases h
    | true =>
      simp only [cond_true]
      intro h
      refine F_q z r _ s h (G_8 _ _ _ h1 ?_) fun p hp=>h2 p (List.mem_cons_of_mem _ hp)
      exact C_f (cells_inL (h2 (off,w,u) (by simp)))
theorem g_a (t:TypeId) (ps:List (Nat × V)) (hp:∀ p ∈ ps,InL L p.2):VI L (opBuild P t ps):=by
  unfold opBuild
  split
  · simp only
    split
    · rename_i cs hc
      refine B_j _ (g_3 ?_) P'
      have:=F_q (L:=L) _ _ _ _ hc (P_H t) (fun p hpm=>?_)
      · intro k hk;rw [V.refs] at hk;exact H_r this k hk
      · obtain ⟨q,hq,rfl⟩:=List.mem_map.1 hpm
        obtain ⟨i,v⟩:=q
        simp only
        split
        · exact hp (i,v) hq
        · exact B_O
    · exact P'
  · split
    · rename_i cs hc
      refine B_j _ (g_3 ?_) P'
      have:=F_q (L:=L) _ _ _ _ hc (P_H t) (fun p hpm=>?_)
      · intro k hk;rw [V.refs] at hk;exact H_r this k hk
      · obtain ⟨q,hq,rfl⟩:=List.mem_map.1 hpm
        exact hp q hq
    · exact P'
  · exact P'
theorem V_Q (s d:TypeId) (h:Heap) (a:V):VI L (opConvert P s d h a):=by
  unfold opConvert
  split
  · split <;> exact A_e rfl
  · split
    · split <;> exact A_e rfl
    · exact P'
  · exact P'
theorem g_6:∀ (k:IntKind) (x:Int) (l:List V),VI L (minL k x l)
  | _,_,[]=>A_e rfl
  | k,x,.int _ y::r=>g_6 k _ r
  | _,_,.undef::_=>P'
  | _,_,.bool _::_=>P'
  | _,_,.str _::_=>P'
  | _,_,.agg _::_=>P'
  | _,_,.tup _::_=>P'
  | _,_,.nils _::_=>P'
  | _,_,.nilp::_=>P'
  | _,_,.data _ _::_=>P'
  | _,_,.pdat _ _ _::_=>P'
  | _,_,.vs _::_=>P'
  | _,_,.sub _ _ _::_=>P'
  | _,_,.ptr _ _ _::_=>P'
  | _,_,.fn _ _::_=>P'
  | _,_,.mp _::_=>P'
  | _,_,.mdat _::_=>P'
  | _,_,.unk::_=>P'
  | _,_,.it _ _ _::_=>P'
  | _,_,.gd _ _ _::_=>P'
theorem g_7:∀ (k:IntKind) (x:Int) (l:List V),VI L (maxL k x l)
  | _,_,[]=>A_e rfl
  | k,x,.int _ y::r=>g_7 k _ r
  | _,_,.undef::_=>P'
  | _,_,.bool _::_=>P'
  | _,_,.str _::_=>P'
  | _,_,.agg _::_=>P'
  | _,_,.tup _::_=>P'
  | _,_,.nils _::_=>P'
  | _,_,.nilp::_=>P'
  | _,_,.data _ _::_=>P'
  | _,_,.pdat _ _ _::_=>P'
  | _,_,.vs _::_=>P'
  | _,_,.sub _ _ _::_=>P'
  | _,_,.ptr _ _ _::_=>P'
  | _,_,.fn _ _::_=>P'
  | _,_,.mp _::_=>P'
  | _,_,.mdat _::_=>P'
  | _,_,.unk::_=>P'
  | _,_,.it _ _ _::_=>P'
  | _,_,.gd _ _ _::_=>P'
def Eff.blk:Eff->Option Blk
  | .none=>Option.none
  | .new b | .put _ b | .app _ b=>some b
structure Q_P (L:Nat->Prop) (id:Nat) (v:V) (e:Eff):Prop where
  v:InL (fun k=>L k \/ k=id) v
  b:∀ b,e.blk=some b->b.vec=false->∀ row ∈ b.rows,∀ v ∈ row,InL L v
  p:∀ k b,e=.put k b->L k
theorem Q_P.of {id:Nat} {r:OR} (hq:Q0 r) (hv:VI L r) {v e fz} (hr:r=⟨true,v,e,fz⟩):Q_P L id v e:=by
  subst hr
  obtain ⟨h1,h2⟩:=hq
  simp only at h1
  subst h1
  exact ⟨fun k hk=>.inl (hv k hk),(fun b hb=>by cases hb),fun k b hb=>by cases hb⟩
theorem Q_P.vec {id:Nat} {e:Eff} {b:Blk} (h:e.blk=some b) (hv:b.vec=true) (hp:∀ k b,e ≠ .put k b):Q_P L id (.vs id) e :=
  ⟨fun k hk=>.inr (by simpa [V.refs] using hk),fun b' hb=>by rw [h] at hb;cases hb;intro h2;(rw [hv] at h2;cases h2),fun k b e=>absurd e (hp k b)⟩
theorem g_8 {k:Nat} {b:Blk} {rows:List (List V)}:∀ b',(Eff.put k { b with rows:=[[.mdat rows]] }).blk=some b'->b'.vec=false->∀ row ∈ b'.rows,∀ v ∈ row,InL L v:=by
  intro b' hb' _ row hrow u hu
  simp only [Eff.blk,Option.some.injEq] at hb'
  subst hb'
  simp only [List.mem_singleton] at hrow
  subst hrow
  simp only [List.mem_singleton] at hu
  subst hu
  exact A_e rfl
theorem O_A:∀ (j:Nat) (l:List CK) (r:List V),∀ v ∈ typedL j l r,V.refs v=[]
  | _,[],_,v,h=>by simp [typedL] at h
  | j,c::l,r,v,h=>by
    simp only [typedL,List.mem_cons] at h
    rcases h with rfl | h
    · cases c <;> rfl
    · exact O_A _ l r v h
theorem T_E (et:TypeId) (v:V):InL L (elemV P et v).v:=by
  unfold elemV outV
  have hn:=O_A 0 (ck P et) (V.cells v)
  generalize typedL 0 (ck P et) (V.cells v)=l at hn
  cases aggT P et with
  | true =>
    refine A_e ?_
    show V.refs (.agg l)=[]
    rw [V.refs]
    apply List.eq_nil_iff_forall_not_mem.2
    intro k hk
    obtain ⟨u,hu,hk⟩:=B_a hk
    rw [hn u hu] at hk;cases hk
  | false =>
    simp only [cond_false]
    match l with
    | []=>exact A_e rfl
    | [c]=>exact A_e (hn c (by simp))
    | _::_::_=>exact A_e rfl
theorem c_a (t:TypeId) (h:Heap) (a b:V) (ok:Bool):VI L (opLookup P t h a b ok):=by
  have he:=T_E (P:=P) (L:=L)
  unfold opLookup
  split
  · simp only
    split
    · refine O_a ?_
      cases ok with
      | true =>
        simp only [cond_true]
        intro k hk
        simp only [V.refs,V.refsL,List.append_nil] at hk
        exact he _ _ k hk
      | false=>exact he _ _
    · exact P'
  · exact P'
theorem g_b (h:Heap) (a:V):VI L (opEntry P h a):=by
  unfold opEntry
  split
  · split
    · split
      · split
        · refine O_a ?_
          intro k hk
          simp only [V.refs,V.refsL,List.append_nil,List.mem_append] at hk
          rcases hk with hk | hk
          · exact T_E _ _ k hk
          · exact T_E _ _ k hk
        · exact P'
      · exact P'
    · exact P'
  · exact P'
theorem r_T {o:Oper} {t:List V} {g:List (Nat × Bool)} {h:Heap} {id:Nat} (hh:HL L h) (hev:∀ x,InL L (evT t g x)) {v e fz} (hr:opV P o t g h id=⟨true,v,e,fz⟩):Q_P L id v e:=by
  obtain ⟨dst,op,type,pos,after,guard⟩:=o
  cases op <;> first | (dsimp only [opV,opD] at hr;simp [OR.fail] at hr;done) | dsimp only [opV,opD] at hr
  case move x=>split at hr <;> first | exact .of (A_y _) (A_e rfl) hr | exact .of (A_y _) (hev x) hr
  case assign x=>split at hr <;> first | exact .of (A_y _) (A_e rfl) hr | exact .of (A_y _) (hev x) hr
  case pick c a b =>
    split at hr
    · exact .of (g_Y _ _ _) (g_4 _ _ _) hr
    · exact .of J' P' hr
  case alloc t0 =>
    simp only [OR.mk.injEq] at hr
    obtain ⟨_,rfl,rfl,rfl⟩:=hr
    refine ⟨fun k hk=>.inr (by simpa [V.refs] using hk),fun b hb _ row hrow u hu=>?_,fun k b e=>by cases e⟩
    simp only [Eff.blk,Option.some.injEq] at hb
    subst hb
    simp only [List.mem_singleton] at hrow
    subst hrow
    exact P_H _ u hu
  case box t0 x =>
    simp only [OR.mk.injEq] at hr
    obtain ⟨_,rfl,rfl,rfl⟩:=hr
    refine ⟨fun k hk=>.inr (by simpa [V.refs] using hk),fun b hb _ row hrow u hu=>?_,fun k b e=>by cases e⟩
    simp only [Eff.blk,Option.some.injEq] at hb
    subst hb
    simp only [List.mem_singleton] at hrow
    subst hrow
    exact C_f (cells_inL (hev x)) u hu
  case build t0 ps =>
    refine .of (U_Z _ _) (g_a _ _ fun p hp=>?_) hr
    obtain ⟨q,_,rfl⟩:=List.mem_map.1 hp
    exact hev _
  case buildSlice t0 len ps =>
    simp only [opBuildSlice,OR.mk.injEq] at hr
    obtain ⟨_,rfl,rfl,rfl⟩:=hr
    exact .vec rfl rfl (fun k b e=>by cases e)
  case load t0 x=>exact .of (b_5 _ _ _) (j_r _ hh _) hr
  case store t0 x y =>
    unfold opStore at hr
    split at hr
    · rename_i k i j hxv
      split at hr
      · rename_i b hb
        simp only at hr
        cases hc:okT P t0&&Nat.ble (j+szOf P t0) b.sh.length&&Nat.beq (V.cells (evT t g y)).length (szOf P t0)&&!b.fr&&(V.cells (evT t g y)).all V.one&&!b.isMap with
        | false=>rw [hc] at hr;exact .of J' P' hr
        | true =>
          rw [hc] at hr
          simp only [cond_true] at hr
          have hLk:L k:=by have:=hev x;rw [hxv] at this;exact this k (by simp [V.refs])
          cases hv:b.vec with
          | true =>
            simp only [hv,cond_true,OR.mk.injEq] at hr
            obtain ⟨_,rfl,rfl,rfl⟩:=hr
            refine ⟨B_O,fun b' hb' hv'=>?_,fun k' b' e=>by cases e;exact hLk⟩
            simp only [Eff.blk,Option.some.injEq] at hb'
            subst hb'
            simp only [reduceCtorEq] at hv'
          | false =>
            simp only [hv,cond_false,OR.mk.injEq] at hr
            obtain ⟨_,rfl,rfl,rfl⟩:=hr
            refine ⟨B_O,fun b' hb' _ row hrow u hu=>?_,fun k' b' e=>by cases e;exact hLk⟩
            simp only [Eff.blk,Option.some.injEq] at hb'
            subst hb'
            simp only at hrow
            rcases List.mem_or_eq_of_mem_set hrow with hrow | rfl
            · exact hh k b hb hv row hrow u hu
            · exact G_8 _ _ _ (C_f (hh.row hb hv)) (C_f (cells_inL (hev y))) u hu
      · exact .of J' P' hr
    · exact .of J' P' hr
  case nilCheck x =>
    have hx:=hev x
    split at hr
    · rename_i hxv;rw [hxv] at hx;exact .of (B_H _ _) hx hr
    · exact .of (A_y _) (A_e rfl) hr
    · exact .of J' P' hr
  case binOp op t0 x y t1=>exact .of (g_Z _ _ _ _) (m_O _ _ _ _) hr
  case unOp op t0 x=>exact .of (m_N _ _) (r_S _ _) hr
  case convert s d x=>exact .of (O_z _ _ _ _) (V_Q _ _ _ _) hr
  case makeFunc fn first caps =>
    cases fn with
    | func f =>
      refine .of (B_H _ _) (O_a (c:=Nat.beq first.size 0) ?_) hr
      intro k hk
      rw [V.refs] at hk
      obtain ⟨u,hu,hk⟩:=B_a hk
      obtain ⟨x,_,rfl⟩:=List.mem_map.1 hu
      exact hev x k hk
    | _=>exact .of J' P' hr
  case makeSlice t0 l c =>
    unfold opMakeSlice at hr
    split at hr
    · simp only [OR.mk.injEq] at hr
      obtain ⟨_,rfl,rfl,rfl⟩:=hr
      exact .vec rfl rfl (fun k b e=>by cases e)
    · exact .of J' P' hr
  case slice t0 x lo hi mx =>
    unfold opSlice at hr
    split at hr
    · exact .of J' P' hr
    · split at hr
      · revert hr
        cases !(Nat.beq _ _&&okT P _) with
        | true=>intro hr;exact .of J' P' hr
        | false =>
          intro hr
          simp only [cond_false] at hr
          split at hr
          · exact .of (B_H _ _) (A_e rfl) hr
          · exact .of J' P' hr
      · rename_i el k hu hxv
        split at hr
        · revert hr
          cases !(Nat.beq _ _&&okT P _) with
          | true=>intro hr;exact .of J' P' hr
          | false =>
            intro hr
            simp only [cond_false] at hr
            split at hr
            · have hx:=hev x
              rw [hxv] at hx
              refine .of (B_H _ _) ?_ hr
              exact fun k' hk'=>hx k' (by simpa [V.refs,OR.if] using hk')
            · exact .of J' P' hr
        · exact .of J' P' hr
      · rename_i el k sl su hu hxv
        split at hr
        · revert hr
          cases !(Nat.beq _ _&&okT P _) with
          | true=>intro hr;exact .of J' P' hr
          | false =>
            intro hr
            simp only [cond_false] at hr
            split at hr
            · have hx:=hev x
              rw [hxv] at hx
              refine .of (B_H _ _) ?_ hr
              exact fun k' hk'=>hx k' (by simpa [V.refs,OR.if] using hk')
            · exact .of J' P' hr
        · exact .of J' P' hr
      · split at hr
        · exact .of (B_H _ _) (A_e rfl) hr
        · exact .of J' P' hr
      · exact .of J' P' hr
  case fieldAddr s x f=>exact .of (K_A _ _ _ _) (Q_M _ _ _ (hev x)) hr
  case field s x f=>exact .of (U_X _ _ _) (f_8 _ _ (hev x)) hr
  case indexAddr t0 x ix=>exact .of (K_B _ _ _ _) (Q_N _ _ _ (hev x)) hr
  case index t0 x ix=>exact .of (U_Y _ _ _) (f_9 _ _ (hev x)) hr
  case extract x ix =>
    have hx:=hev x
    split at hr
    · rename_i vs hvs
      rw [hvs] at hx
      split at hr
      · rename_i u hu
        exact .of (A_y _) (fun k hk=>hx k (by rw [V.refs];exact A_z (List.mem_of_getElem? hu) hk)) hr
      · exact .of J' P' hr
    · exact .of J' P' hr
  case call c =>
    obtain ⟨callee,args,ats⟩:=c
    cases callee with
    | builtin b =>
      cases b <;> first | exact .of J' P' hr | skip
      · simp only at hr
        split at hr
        · split at hr
          · rename_i x y hx _ t0 t1 hty
            unfold opAppend at hr
            simp only at hr
            split at hr
            · revert hr
              cases CK.beqL _ _&&_&&_&&_&&_&&_&&_ with
              | false=>intro hr;exact .of J' P' hr
              | true =>
                intro hr
                simp only [cond_true] at hr
                split at hr
                · rename_i k hxv
                  split at hr
                  · revert hr
                    cases CK.beqL _ _&&_&&_ with
                    | false=>intro hr;exact .of J' P' hr
                    | true =>
                      intro hr
                      simp only [cond_true,OR.mk.injEq] at hr
                      obtain ⟨_,rfl,rfl,rfl⟩:=hr
                      exact .vec rfl rfl (fun k b e=>by cases e)
                  · exact .of J' P' hr
                · simp only [OR.mk.injEq] at hr
                  obtain ⟨_,rfl,rfl,rfl⟩:=hr
                  exact .vec rfl rfl (fun k b e=>by cases e)
                · exact .of J' P' hr
            · exact .of J' P' hr
          · exact .of J' P' hr
        · exact .of J' P' hr
      · simp only at hr
        split at hr
        · split at hr
          · unfold opCopy at hr
            simp only at hr
            split at hr
            · rename_i x y _ _ _ _ _ _ sh' new k lo n b hpure hown
              simp only [OR.mk.injEq,Bool.and_eq_true,Bool.not_eq_true'] at hr
              obtain ⟨⟨⟨⟨⟨⟨⟨⟨⟨_,_⟩,_⟩,_⟩,_⟩,_⟩,_⟩,_⟩,hvec⟩,rfl,rfl,rfl⟩:=hr
              obtain ⟨hb,hLk⟩:=g_2 (L:=L) (hev _) hown
              exact ⟨A_e rfl,(fun b' hb' hv'=>by
                simp only [Eff.blk,Option.some.injEq] at hb'
                subst hb'
                simp only [hvec] at hv'
                cases hv'),fun k' b' e=>by cases e;exact hLk⟩
            · exact .of J' P' hr
          · exact .of J' P' hr
        · exact .of J' P' hr
      · simp only at hr
        split at hr
        · rename_i x y hx
          split at hr
          · unfold opDelete at hr
            split at hr
            · rename_i kt et k hmt hmv
              split at hr
              · simp only [OR.mk.injEq] at hr
                obtain ⟨_,rfl,rfl,rfl⟩:=hr
                have hLk:L k:=by have:=hev x;rw [hmv] at this;exact this k (by simp [V.refs])
                exact ⟨A_e rfl,g_8,fun k' b' e=>by cases e;exact hLk⟩
              · exact .of J' P' hr
            · exact .of J' P' hr
          · exact .of J' P' hr
        · exact .of J' P' hr
      · simp only at hr
        split at hr
        · split at hr
          · exact .of (g_1 _ _ _) (m_P _ _ _) hr
          · exact .of J' P' hr
        · exact .of J' P' hr
      · simp only at hr
        split at hr
        · exact .of (b_7 _ _ _) (g_7 _ _ _) hr
        · exact .of J' P' hr
      · simp only at hr
        split at hr
        · exact .of (b_6 _ _ _) (g_6 _ _ _) hr
        · exact .of J' P' hr
    | _=>exact .of J' P' hr
  case lookup t0 m x ok=>exact .of (Q_K _ _ _ _ _) (c_a _ _ _ _ _) hr
  case entry x=>exact .of (U_W _ _) (g_b _ _) hr
  case range t0 x =>
    unfold opRange at hr
    split at hr
    · simp only [OR.mk.injEq] at hr
      obtain ⟨_,rfl,rfl,rfl⟩:=hr
      refine ⟨fun k hk=>.inr (by simpa [V.refs] using hk),fun b hb _ row hrow u hu=>?_,fun k b e=>by cases e⟩
      simp only [Eff.blk,Option.some.injEq] at hb
      subst hb
      simp only [List.mem_singleton] at hrow
      subst hrow
      simp only [List.mem_cons,List.not_mem_nil,or_false] at hu
      rcases hu with rfl | rfl <;> exact A_e rfl
    · exact .of J' P' hr
  case makeMap t0 r =>
    cases r with
    | some x=>exact .of J' P' hr
    | none =>
      simp only [opMakeMap,OR.mk.injEq] at hr
      obtain ⟨_,rfl,rfl,rfl⟩:=hr
      refine ⟨fun k hk=>.inr (by simpa [V.refs] using hk),fun b hb _ row hrow u hu=>?_,fun k b e=>by cases e⟩
      simp only [Eff.blk,Option.some.injEq] at hb
      subst hb
      simp only [List.mem_singleton] at hrow
      subst hrow
      simp only [List.mem_singleton] at hu
      subst hu
      exact A_e rfl
  case mapUpdate t0 m x y =>
    unfold opMapUpdate at hr
    split at hr
    · rename_i kt et k hmt hmv
      split at hr
      · simp only [OR.mk.injEq] at hr
        obtain ⟨_,rfl,rfl,rfl⟩:=hr
        have hLk:L k:=by have:=hev m;rw [hmv] at this;exact this k (by simp [V.refs])
        exact ⟨B_O,g_8,fun k' b' e=>by cases e;exact hLk⟩
      · exact .of J' P' hr
    · exact .of J' P' hr
end
end Go.Vm
