import Derived.Test.YtnfkgnigkdkniaaGreatVmSrt
import Derived.Shelf.SlSortCmp.NoneTotal
set_option linter.unusedVariables false
set_option linter.unusedSimpArgs false
namespace Go.Vm
def h_e (k:Nat) (x:List Int):List Value:=(List.range k).map fun i=>.int .i64 (x.getD i 0)
theorem g_l (k:Nat) (x:List Int):(h_e k x).length=k:=by unfold h_e;simp
theorem g_m (k:Nat) (x:List Int):∀ v ∈ h_e k x,v.oneCell'=true:=by
  intro v hv
  unfold h_e at hv
  obtain ⟨i,_,rfl⟩:=List.mem_map.1 hv
  rfl
theorem g_n {k:Nat} {x:List Int} {i:Nat} {v:V} (h:(M_1 k x)[i]?=some v):i<k/\v=.int .i64 (x.getD i 0):=by
  unfold M_1 at h
  rw [List.getElem?_map] at h
  obtain ⟨j,hj,rfl⟩:=Option.map_eq_some_iff.1 h
  have hl:=(List.getElem?_eq_some_iff.1 hj).1
  rw [List.length_range] at hl
  rw [List.getElem?_range hl] at hj
  cases hj
  exact ⟨hl,rfl⟩
theorem U_9 {k:Nat} {x:List Int} {i:Nat} (h:i<k):(h_e k x)[i]?=some (.int .i64 (x.getD i 0)):=by
  unfold h_e
  rw [List.getElem?_map,List.getElem?_range h]
  rfl
theorem V_Z {W w':World} (h:Below W.heap.size W w'):∃ q os',w'=Go.Sort.grow (W.drewN q) os':=by
  refine ⟨w'.drawn-W.drawn,w'.heap.extract W.heap.size w'.heap.size,?_⟩
  obtain ⟨h1,h2,h3,h4,h5,h6⟩:=h
  obtain ⟨heap,tape,drawn,os,output⟩:=W
  obtain ⟨heap',tape',drawn',os',output'⟩:=w'
  simp only at h1 h2 h3 h4 h5 h6
  subst h1;subst h2;subst h3
  have e1:drawn'=drawn+(drawn'-drawn):=by omega
  have e2:heap'=heap++heap'.extract heap.size heap'.size:=by
    apply Array.ext_getElem?
    intro i
    by_cases hi:i<heap.size
    · rw [Array.getElem?_append_left hi,h6 i hi]
    · rw [Array.getElem?_append_right (by omega),Array.getElem?_extract]
      by_cases h2:i<heap'.size
      · rw [if_pos (by omega),show heap.size+(i-heap.size)=i by omega]
      · rw [if_neg (by omega)]
        exact Array.getElem?_eq_none (by omega)
  simp only [Go.Sort.grow,World.drewN,World.mk.injEq,and_true,true_and]
  exact ⟨e2,e1⟩
section
variable {D:List Int->Bool}
abbrev Dm (D:List Int->Bool):Type:={x:List Int // D x=true}
def Q_p (k:Nat) (x:Dm D):List Value:=h_e k x.1
theorem M_n [Inhabited (Dm D)] {w:World} {blk off m k:Nat} {d:Array (Dm D)} {os:Array Obj} {b:Nat} (hb:b<w.heap.size) (hne:b ≠ blk) :
    (Go.Proofs.sortWorldK (Q_p k) k w blk off m d os).heap[b]?=w.heap[b]?:=by
  unfold Go.Proofs.sortWorldK Go.Sort.grow Go.Sort.putRowK Go.Sort.putRow Go.Sort.mapBlock
  simp only
  rw [Array.getElem?_append_left (by simp [Go.Sort.ahead];exact hb),Array.getElem?_modify,if_neg (fun h=>hne h.symm)]
  rfl
theorem V_a [Inhabited (Dm D)] {k:Nat} {d:Array (Dm D)} {i j:Nat} {x:Dm D} {n:Int} (hx:d.toList[i]?=some x) (hn:x.1[j]?=some n) (hj:j<k):i*k+j<(Go.Sort.flatK (Q_p k) k d).size/\(Go.Sort.flatK (Q_p k) k d)[i*k+j]! = .int .i64 n:=by
  have hi:i<d.size:=by have:=(List.getElem?_eq_some_iff.1 hx).1;simpa using this
  have hlt:i*k+j<d.size*k:=by
    have:(i+1)*k<=d.size*k:=Nat.mul_le_mul_right k hi
    rw [Nat.add_mul,Nat.one_mul] at this
    omega
  refine ⟨by rw [Go.Sort.size_flatK];exact hlt,?_⟩
  rw [Go.Sort.get_flatK _ _ _ _ hlt]
  have e1:(i*k+j) / k=i:=by rw [Nat.mul_comm,Nat.mul_add_div (by omega),Nat.div_eq_of_lt hj,Nat.add_zero]
  have e2:(i*k+j) % k=j:=by rw [Nat.mul_comm,Nat.mul_add_mod,Nat.mod_eq_of_lt hj]
  rw [e1,e2]
  have hdx:d[i]! = x:=by
    rw [getElem!_pos d i hi]
    have:=hx
    rw [Array.getElem?_toList,Array.getElem?_eq_getElem hi] at this
    exact Option.some.inj this
  rw [hdx]
  have:=U_9 (k:=k) (x:=x.1) hj
  unfold Q_p
  rw [List.getElem!_eq_getElem?_getD,this]
  show Value.int .i64 (x.1.getD j 0)=_
  rw [List.getD_eq_getElem?_getD,hn]
  rfl
theorem Q_5 {P:Program} {ρ:Go.Shelf.Ren} (L:Go.Proofs.SlLaysF0.n6 P ρ) (k:Nat) (hk:0<k) (aE:∀ w,(isAgg (ρ.t 24)).run P w=.ok true w) (zE:∀ w,(Go.sizeOf (ρ.t 24)).run P w=.ok k w) (x0:List Int) (hx0:D x0=true)
    (cf:List Int->List Int->Int) (hO:Go.Sort.SWO (Go.Proofs.ltOf fun x y:Dm D=>cf x.1 y.1)) (g:Nat) (caps:List V) (hsf:T_A P (ρ.f 6))
    (hf:∀ x y:List Int,D x=true->D y=true->M_P P g ([.agg (M_1 k x),.agg (M_1 k y)]++caps) (.int .i64 (cf x y))):b_X P (ρ.f 6) g caps k D cf:=by
  haveI:Inhabited (Dm D):=⟨⟨x0,hx0⟩⟩
  refine ⟨hsf,fun w A cb _ _ _=>?_,fun w A cb blk cap cs T d0 hA hlen hcaps hcs hdl hdom hcell hsz=>?_⟩
  · refine (Go.Proofs.AnyF.slices_SortFunc_none L none 0 (.func (.func g) #[] cb) w).mono ?_
    rintro e w' ⟨rfl,rfl⟩
    exact ⟨rfl,Below.refl _ _⟩
  obtain ⟨d,rfl⟩:∃ d:List (Dm D),d0=d.map (fun x=>x.1):=⟨d0.pmap (fun x h=>⟨x,h⟩) hdom,by
    rw [List.map_pmap]
    simp⟩
  have hdl':∀ x ∈ d,x.1.length=k:=fun x hx=>hdl x.1 (List.mem_map.2 ⟨x,hx,rfl⟩)
  rw [List.length_map] at hsz ⊢
  have hblk:blk<w.heap.size:=(Array.getElem?_eq_some_iff.1 hcs).1
  have hat:∀ t,t<d.length*k->∃ (x:Dm D) (n:Int),d[t / k]?=some x/\x.1[t % k]?=some n/\cs[t]?=some (.int .i64 n):=by
    intro t ht
    have h1:t / k<d.length:=by
      rw [Nat.div_lt_iff_lt_mul hk];exact ht
    have hx:=List.getElem?_eq_getElem h1
    have hl:=hdl' _ (List.getElem_mem h1)
    have h2:t % k<d[t / k].1.length:=by rw [hl];exact Nat.mod_lt _ hk
    have hn:=List.getElem?_eq_getElem h2
    refine ⟨_,_,hx,hn,?_⟩
    have:=hcell (t / k) (t % k) d[t / k].1 _ (by rw [List.getElem?_map,hx];rfl) hn
    rwa [Nat.mul_comm,Nat.div_add_mod] at this
  have hH:Go.Sort.HoldsK (Q_p k) k w blk 0 d.toArray:=by
    intro t ht
    rw [Go.Sort.size_flatK] at ht
    have ht':t<d.length*k:=by simpa using ht
    obtain ⟨x,n,hx,hn,hc⟩:=hat t ht'
    have hfl:=V_a (k:=k) (d:=d.toArray) (i:=t / k) (j:=t % k) (x:=x) (n:=n) (by simpa using hx) hn (Nat.mod_lt _ hk)
    rw [Nat.mul_comm,Nat.div_add_mod] at hfl
    rw [hfl.2]
    refine ⟨?_,?_⟩
    · simp [World.cell?,hcs,hc]
    · simp [World.frozen?,hcs]
  have hcall:=Go.Proofs.AnyQ.slices_SortFunc L k aE zE (Q_p k) (fun x=>g_l k x.1) (fun x=>g_m k x.1) (fun x y=>cf x.1 y.1) hO g cb blk 0 cap d.toArray w ?_ ?_ hH hblk (by simpa using hsz)
  · rw [List.size_toArray] at hcall
    refine hcall.mono ?_
    rintro e w' ⟨rfl,d',n,os,hperm,hsort,rfl⟩
    obtain ⟨hsz',_,hp⟩:=hperm
    have hsz2:d'.size=d.length:=by simpa using hsz'
    have hp':d'.toList.Perm d:=by
      have e1:(d'.extract 0 d.length).toList=d'.toList:=by rw [<- hsz2];simp
      have e2:(d.toArray.extract 0 d.length).toList=d:=by simp
      rw [e1,e2] at hp
      exact hp
    refine ⟨rfl,d'.toList.map (fun x=>x.1),Go.Sort.putCells id 0 (Go.Sort.flatK (Q_p k) k d') cs,hp'.map _,?_,⟨Go.Sort.putRowK (Q_p k) k (Go.Sort.ahead w n) blk 0 d',rfl,rfl,rfl,?_,?_,?_,?_,?_⟩,?_,?_⟩
    · rw [List.pairwise_map,List.pairwise_iff_getElem]
      intro i j hi hj hij
      have hjs:j<d'.size:=by simpa using hj
      have his:i<d'.size:=by simpa using hi
      have:=hsort i j (Nat.zero_le _) hij (by omega)
      rw [getElem!_pos d' j hjs,getElem!_pos d' i his] at this
      unfold Go.Proofs.ltOf at this
      simpa using this
    · show w.drawn<=w.drawn+n
      omega
    · simp [Go.Sort.putRowK,Go.Sort.putRow,Go.Sort.mapBlock,Go.Sort.ahead]
    · intro q hq
      show (Go.Sort.mapBlock (Go.Sort.ahead w n) blk _).heap[q]?=_
      unfold Go.Sort.mapBlock
      simp only
      rw [Array.getElem?_modify,if_neg (fun h=>hq h.symm)]
      rfl
    · show (Go.Sort.mapBlock (Go.Sort.ahead w n) blk _).heap[blk]?=_
      unfold Go.Sort.mapBlock
      simp only
      rw [Array.getElem?_modify,if_pos rfl]
      show Option.map _ w.heap[blk]?=_
      rw [hcs]
      rfl
    · exact ⟨rfl,rfl,rfl,Nat.le_refl _,by simp [Go.Proofs.sortWorldK,Go.Sort.grow],fun q hq=>by
        unfold Go.Proofs.sortWorldK Go.Sort.grow
        simp only
        rw [Array.getElem?_append_left hq]⟩
    · simp [Go.Sort.putCells]
    · intro i j x m hx hm
      rw [List.getElem?_map] at hx
      obtain ⟨y,hy,rfl⟩:=Option.map_eq_some_iff.1 hx
      have hxl:y.1.length=k:=hdl' y (hp'.mem_iff.1 (List.mem_of_getElem? hy))
      have hj:j<k:=by have:=(List.getElem?_eq_some_iff.1 hm).1;omega
      obtain ⟨f1,f2⟩:=V_a hy hm hj
      have hlt:i*k+j<d.length*k:=by rw [Go.Sort.size_flatK,hsz2] at f1;exact f1
      obtain ⟨_,_,_,_,hc⟩:=hat _ hlt
      unfold Go.Sort.putCells
      rw [Array.getElem?_mapIdx,hc]
      simp only [Option.map_some]
      rw [if_pos ⟨Nat.zero_le _,by rw [Nat.zero_add];exact f1⟩,Nat.sub_zero,f2]
      rfl
  · obtain ⟨⟨fn,c,h1,h2,h3⟩,_⟩:=hf x0 x0 hx0 hx0
    intro args w
    have h3':¬ fn.name= "runtime.NumGoroutine" := by simpa using h3
    simp [callFunc,h1,h2,h3']
  · intro m os dk hs x y
    obtain ⟨_,hcall⟩:=hf x.1 y.1 x.2 y.2
    have hsize:w.heap.size<=(Go.Proofs.sortWorldK (Q_p k) k w blk 0 m dk os).heap.size:=by
      unfold Go.Proofs.sortWorldK Go.Sort.grow Go.Sort.putRowK Go.Sort.putRow Go.Sort.mapBlock
      simp [Go.Sort.ahead]
    have hoth:∀ b,b<w.heap.size->b ≠ blk->(Go.Proofs.sortWorldK (Q_p k) k w blk 0 m dk os).heap[b]?=w.heap[b]?:=fun b h1 h2=>M_n h1 h2
    generalize Go.Proofs.sortWorldK (Q_p k) k w blk 0 m dk os=W at hsize hoth ⊢
    have hvl:([V.agg (M_1 k x.1),V.agg (M_1 k y.1)]++caps).length=(#[Value.agg (Q_p k x).toArray,Value.agg (Q_p k y).toArray]++cb).size:=by
      rw [List.length_append,Array.size_append,hlen];rfl
    have hvals:∀ (i:Nat) (v:V) (xx:Value),([V.agg (M_1 k x.1),V.agg (M_1 k y.1)]++caps)[i]?=some v->(#[Value.agg (Q_p k x).toArray,Value.agg (Q_p k y).toArray]++cb)[i]?=some xx->A_r W A v xx:=by
      intro i v xx h1 h2
      have hrow:∀ z:Dm D,A_r W A (.agg (M_1 k z.1)) (.agg (Q_p k z).toArray):=by
        intro z
        refine .agg _ _ (by simp [M_1,Q_p,h_e]) fun i v xx h1 h2=>?_
        obtain ⟨hi,rfl⟩:=g_n h1
        unfold Q_p at h2
        rw [List.getElem?_toArray,U_9 hi] at h2
        cases h2
        exact .int _ _
      match i with
      | 0 =>
        rw [Array.getElem?_append_left (by simp)] at h2
        cases h1;cases h2;exact hrow x
      | 1 =>
        rw [Array.getElem?_append_left (by simp)] at h2
        cases h1;cases h2;exact hrow y
      | i+2 =>
        have e1:caps[i]?=some v:=by simpa using h1
        have e2:cb[i]?=some xx:=by
          rw [Array.getElem?_append_right (by simp)] at h2
          simpa using h2
        exact (hcaps i v xx e1 e2).mono fun b hb=>⟨hb,hoth b (hA b hb).1 (hA b hb).2⟩
    have hc:=hcall W A _ (fun b hb=>Nat.lt_of_lt_of_le (hA b hb).1 hsize) hvl hvals
    refine hc.mono ?_
    rintro e w' ⟨z,rfl,hB,hd⟩
    cases hd
    obtain ⟨q,os',hw⟩:=V_Z hB
    exact ⟨rfl,q,os',hw⟩
end
end Go.Vm
