import Derived.Test.YtnfkgnigkdkniaaGreatVmLoop
set_option linter.unusedSimpArgs false
set_option linter.unusedVariables false
namespace Go.Vm
def A_n (a b:Int):List Int:=(List.range (b-a).toNat).map fun (k:Nat)=>a+(k:Int)
theorem F_M {a b:Int} (h:b<=a):A_n a b=[]:=by
  have:(b-a).toNat=0:=by omega
  unfold A_n;rw [this];rfl
theorem F_s {a b:Int} (h:a<b):A_n a b=a::A_n (a+1) b:=by
  have e:(b-a).toNat=(b-(a+1)).toNat+1:=by omega
  unfold A_n
  rw [e,List.range_succ_eq_map]
  simp only [List.map_cons,List.map_map,Int.natCast_zero,Int.add_zero]
  congr 1
  apply List.map_congr_left
  intro k _
  simp only [Function.comp]
  omega
theorem A_C {a b i:Int}:i ∈ A_n a b ↔ a<=i/\i<b:=by
  unfold A_n
  simp only [List.mem_map,List.mem_range]
  constructor
  · rintro ⟨k,hk,rfl⟩;omega
  · rintro ⟨h1,h2⟩;exact ⟨(i-a).toNat,by omega,by omega⟩
theorem A_q (a b:Int):(A_n a b).length=(b-a).toNat:=by simp [A_n]
theorem Q_4 {a b:Int} (h:a<=b):A_n a (b+1)=A_n a b++[b]:=by
  have e:(b+1-a).toNat=(b-a).toNat+1:=by omega
  unfold A_n
  rw [e,List.range_succ,List.map_append]
  simp only [List.map_cons,List.map_nil]
  congr 2
  omega
section
variable {S R:Type}
theorem D_h {b:Int} {L:Nat->Int->S->Option R} {g:S->Int->S} {e:S->Option R} (I:Int->S->Prop)
    (hs:∀ n i s,I i s->i<b->L (n+1) i s=L n (i+1) (g s i))
    (hI:∀ i s,I i s->i<b->I (i+1) (g s i))
    (he:∀ n i s,I i s->¬ i<b->L (n+1) i s=e s) :
    ∀ (n:Nat) (i:Int) (s:S),I i s->(b-i).toNat+1<=n->L n i s=e ((A_n i b).foldl g s)
  | 0,i,s,h,hn=>by omega
  | n+1,i,s,h,hn=>by
    by_cases hi:i<b
    · rw [hs n i s h hi,F_s hi,List.foldl_cons]
      exact D_h I hs hI he n (i+1) (g s i) (hI i s h hi) (by omega)
    · rw [he n i s h hi,F_M (by omega)];rfl
theorem U_8 {a b:Int} {L:Nat->Int->Option R} {ok:Int->Bool} {e x:Option R}
    (hs:∀ n i,a<=i->i<b->ok i=true->L (n+1) i=L n (i+1))
    (hx:∀ n i,a<=i->i<b->ok i=false->L (n+1) i=x)
    (he:∀ n i,a<=i->¬ i<b->L (n+1) i=e) :
    ∀ (n:Nat),(b-a).toNat+1<=n->L n a=bif (A_n a b).all ok then e else x:=by
  have key:∀ (n:Nat) (i:Int),a<=i->(b-i).toNat+1<=n->L n i=bif (A_n i b).all ok then e else x:=by
    intro n
    induction n with
    | zero=>intro i _ h;omega
    | succ n ih =>
      intro i ha hn
      by_cases hi:i<b
      · rw [F_s hi,List.all_cons]
        cases hg:ok i with
        | true=>rw [hs n i ha hi hg,Bool.true_and];exact ih (i+1) (by omega) (by omega)
        | false=>rw [hx n i ha hi hg];rfl
      · rw [he n i ha hi,F_M (by omega)];rfl
  intro n hn
  exact key n a (Int.le_refl a) hn
end
theorem D_5 {α β:Type} (f:List α->β):∀ (l:List (List α)),(A_n 0 (l.length:Int)).map (fun i=>f (l.getD i.toNat []))=l.map f:=by
  intro l
  apply List.ext_getElem
  · simp [A_q]
  · intro i h1 h2
    simp only [List.length_map] at h2
    simp only [List.getElem_map,A_n,List.getElem_range]
    congr 1
    simp [List.getD_eq_getElem?_getD,h2]
theorem B_I {α:Type} (f:List α->Bool) (l:List (List α)):(A_n 0 (l.length:Int)).all (fun i=>f (l.getD i.toNat []))=l.all f:=by
  have:=D_5 f l
  have e:∀ (m:List Int) (p:Int->Bool),m.all p=(m.map p).all id:=by intro m p;simp
  rw [e,this];simp
theorem V_X {α β γ:Type} (f:α->β) (g:γ->β->γ) (l:List α) (s:γ):l.foldl (fun s x=>g s (f x)) s=(l.map f).foldl g s:=by
  rw [List.foldl_map]
theorem B_P {α γ:Type} (g:γ->List α->γ) (l:List (List α)) (s:γ):(A_n 0 (l.length:Int)).foldl (fun s i=>g s (l.getD i.toNat [])) s=l.foldl g s:=by
  rw [V_X (fun (i:Int)=>l.getD i.toNat []) g]
  have:=D_5 (fun x=>x) l
  rw [this,List.map_id']
theorem C_n {α β:Type} (f:α->List β):∀ (l:List α) (s:List β),l.foldl (fun s x=>s++f x) s=s++l.flatMap f
  | [],s=>by simp
  | x::l,s=>by rw [List.foldl_cons,C_n f l,List.flatMap_cons,List.append_assoc]
theorem A_4 {α β:Type} (f:α->β) (l:List α) (s:List β):l.foldl (fun s x=>s++[f x]) s=s++l.map f:=by
  rw [C_n (fun x=>[f x])]
  congr 1
  induction l with
  | nil=>rfl
  | cons x l ih=>rw [List.flatMap_cons,ih];rfl
theorem w64 {n:Int} (h1:-9223372036854775808<=n) (h2:n<9223372036854775808):IntKind.wrap .i64 n=n:=by
  rw [IntKind.wrap_i64];omega
@[simp] theorem wrapu_nonneg (x:Int):(0<=IntKind.wrap .u64 x)=True:=by
  rw [IntKind.wrap_u64]
  exact eq_true (by omega)
theorem m_h {n:Int} (h1:0<=n) (h2:n<18446744073709551616):IntKind.wrap .u64 n=n:=by
  rw [IntKind.wrap_u64];omega
theorem D_6 (x y:Int):IntKind.wrap .i64 (IntKind.wrap .i64 x+y)=IntKind.wrap .i64 (x+y):=by
  rw [IntKind.wrap_i64,IntKind.wrap_i64,IntKind.wrap_i64];omega
theorem V_Y {x y k:Int} (h:x=y+k*18446744073709551616):IntKind.wrap .i64 x=IntKind.wrap .i64 y:=by
  subst h
  rw [IntKind.wrap_i64,IntKind.wrap_i64];omega
theorem j_A (x:Int):∃ k:Int,IntKind.wrap .i64 x=x+k*18446744073709551616:=by
  refine ⟨-((x+9223372036854775808) / 18446744073709551616),?_⟩
  rw [IntKind.wrap_i64];omega
theorem H_x (x y:Int):IntKind.wrap .i64 (IntKind.wrap .i64 x*y)=IntKind.wrap .i64 (x*y):=by
  obtain ⟨k,hk⟩:=j_A x
  exact V_Y (k:=k*y) (by rw [hk,Int.add_mul,Int.mul_assoc,Int.mul_assoc,Int.mul_comm 18446744073709551616 y])
theorem A_V {c p1 p2:Bool} (h1:c=true->p1=true) (h2:c=false->p2=true):cond c p1 p2=true:=by
  cases c
  · exact h2 rfl
  · exact h1 rfl
theorem A_t {T:Type} {R:Type} {v:T->R} {c:Bool} {s1 s2:Option R} {m1 m2:T} (h1:s1=some (v m1)) (h2:s2=some (v m2)):cond c s1 s2=some (v (cond c m1 m2)):=by
  cases c
  · exact h2
  · exact h1
theorem B_b {T:Type} {R:Type} {v:T->R} {c:Bool} {p1 p2:Bool} {s1 s2:Option R} {m1 m2:T} (h1:p1=true->s1=some (v m1)) (h2:p2=true->s2=some (v m2)):cond c p1 p2=true->cond c s1 s2=some (v (cond c m1 m2)):=by
  cases c
  · exact h2
  · exact h1
end Go.Vm
