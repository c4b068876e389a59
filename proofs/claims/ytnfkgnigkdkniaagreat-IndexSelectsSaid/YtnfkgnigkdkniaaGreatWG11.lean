import Derived.Test.YtnfkgnigkdkniaaGreatWM
set_option linter.unusedVariables false
set_option linter.unusedSimpArgs false
set_option maxRecDepth 100000
noncomputable section
namespace Go.Vm
open Go.Proofs
variable {R:Type}
noncomputable def S_F (e f a b c:Int) (g:F') (i:Rows):Nat:=let d:=IntKind.wrap .i64 (a*b);Int.toNat (d-c)+1
noncomputable def J_l (c d e f:Int) (g:F') (a:Int) (b:Rows) (again:Int->Rows->Option R) (kn:Int->Rows->Option R):Option R:=let i:=IntKind.wrap .i64 (e*f);bif (decide (a<i)) then let j:=V_5 g c d a;bif (roomOK ((List.length b)+(1:Nat)) 32) then let m:=b++[(F'.row j.1)];let o:=IntKind.wrap .i64 (a+1);again o m else none else kn a b
noncomputable def C_J (a b c d:Int) (e:F'):Nat->Int->Rows->(Int->Rows->Option R)->Option R
  | 0,_,_,_=>none
  | n+1,f,g,kn=>J_l a b c d e f g (fun i j=>C_J a b c d e n i j kn) kn
noncomputable def G_D:ST:=⟨.undef::.int .i64::.int .i64::.ptr 0 0 0::.undef::.undef::.int .i64::.int .i64::.vs 31::.int .i64::A_j 45 [],[(0,.var F'.sh false F'.ts),(31,.vec F'.sh false)],32⟩
noncomputable def E_0 (b c d e:Int) (a:F') (f:Int) (g:Rows):St:=G_D.put [.i b,.i c,.i d,.i e,.i f,.i a.X0,.i a.Y0,.i a.X1,.i a.Y1,.r g]
noncomputable def J_m:LoopG R:=fun l kn _ _=>match l with
  | .i a::.i b::.i c::.i d::.i j::.i e::.i f::.i g::.i i::.r m::[]=>C_J a b c d (F'.mk e f g i) (S_F a b c d j (F'.mk e f g i) m) j m (fun o p=>kn (E_0 a b c d (F'.mk e f g i) o p))
  | _=>none
noncomputable def L_W:Env R:=⟨Tryz.prog,callCons 139 r_v (callCons 156 u_w callNil),fun id=>bif Nat.beq id 0 then loopAlt G_D J_m loopNil else (fun _ _ _ _ _=>none) id,Tryz.f141.results.toList,maskTab 55 [(0,0x199810e),(1,0x200010e),(2,0x1c0),(3,0x1ce),(4,0x3ce),(5,0x20000003ce),(6,0x3ce),(7,0x7ce),(8,0x3ce),(9,0x1c0)],maskAt [(1,31),(2,4),(4,18),(6,21),(8,30),(10,35),(12,56),(14,40),(16,51),(18,59)],noSort⟩
theorem S_G (a b c d:Int) (e:F') (i:Int) (j:Rows) (kn:St->Option R) (kx:Nat->St->Option R) (kr:V->Option R) (n:Nat) (m:Int) (o:Rows) :
    loopN L_W 0 (loopAt Tryz.f141 0) (E_0 a b c d e i j) kn kx kr (n+1) (E_0 a b c d e m o) =
    J_l a b c d e m o (fun f g=>loopN L_W 0 (loopAt Tryz.f141 0) (E_0 a b c d e i j) kn kx kr n (E_0 a b c d e f g)) (fun f g=>kn (E_0 a b c d e f g)):=by kernel_rfl
theorem L_X (a b c d:Int) (e:F') (m:Int) (o:Rows) (kn:St->Option R) (kx:Nat->St->Option R) (kr:V->Option R):∀ (n:Nat) (f:Int) (g:Rows),
    C_J a b c d e n f g (fun i j=>kn (E_0 a b c d e i j))=loopN L_W 0 (loopAt Tryz.f141 0) (E_0 a b c d e m o) kn kx kr n (E_0 a b c d e f g)
  | 0,_,_=>rfl
  | n+1,f,g=>by
    rw [S_G,C_J]
    congr 1
    funext i j
    exact L_X a b c d e m o kn kx kr n i j
theorem a_i {rest} (h:GoodL (R:=R) L_W 0 (loopAt Tryz.f141 0) rest):GoodL (R:=R) L_W 0 (loopAt Tryz.f141 0) (loopAlt G_D J_m rest):=by
  refine goodL_alt (fun l kn kx kr r h=>?_) h
  unfold J_m at h
  split at h
  · rename_i c d e f a g i j m b
    exact ⟨_,(L_X c d e f (F'.mk g i j m) a b kn kx kr _ a b).symm.trans h⟩
  · cases h
theorem e_Z:GoodLoop (R:=R) L_W 0 (loopAt Tryz.f141 0):=goodL_loop (g:=loopAlt G_D J_m loopNil) (fun _ _ _ _=>rfl) (a_i goodL_nil)
noncomputable def P_Z (d:F') (b c:Int) (k:V->Option R):Option R:=let e:=decide (b<0);let f:=decide (b > 6);let g:Bool:=(bif e then true else f);let i:=decide (c<0);let j:Bool:=(bif g then true else i);let m:=decide (c > 6);let o:Bool:=(bif j then true else m);bif o then k (V.tup [(V.int .i64 0),(V.int .i64 0),(V.data F'.sh [])]) else let a:=V_4 d b c;C_J b c a.1 a.2 d (S_F b c a.1 a.2 0 d []) 0 [] (fun q p=>k (V.tup [V.int .i64 a.1,V.int .i64 a.2,V.data F'.sh p]))
abbrev q_a (a:F') (b c:Int):List V:=[(F'.v a),V.int .i64 b,V.int .i64 c]
theorem a_j (a:F') (b c:Int) (k:V->Option R):fnK L_W Tryz.f141 (q_a a b c) k=P_Z a b c k:=by kernel_rfl
theorem x_5 (h_E9:m_F) (h_G2:m_G) (h:∀ (a:F') (b d:Int),Real (q_a a b d)->P_Z a b d some=some (V.tup [(V.int .i64 (f_U a b d).1),(V.int .i64 (f_U a b d).2.1),(V.data F'.sh (f_U a b d).2.2)])):r_B:=goodHook1 fun l hp=>by
  unfold p_n at hp
  split at hp
  · rename_i f g i j m o
    exact fn_ok (fn:=Tryz.f141) (c:=bodyOf Tryz.f141) (E:=L_W) ⟨by kernel_rfl,(goodCons h_E9 (goodCons h_G2 goodNil)),rfl,M'⟩ rfl (by kernel_rfl) (by kernel_rfl) (by kernel_rfl) (loopsOK_of _ (by have e:loopsOf (bodyOf Tryz.f141)=[(0,loopAt Tryz.f141 0)]:=(by kernel_rfl);rw [e];simp only [List.forall_mem_cons,List.not_mem_nil,false_implies,implies_true,and_true];exact e_Z)) (fun hr=>(a_j (F'.mk f g i j) m o some).trans (h (F'.mk f g i j) m o hr))
  · cases hp
noncomputable def i_8:Env R:=⟨Tryz.prog,callCons 60 m_t (callCons 62 m_v (callCons 63 s_L (callCons 100 s_F (callCons 140 z_J (callCons 141 z_K callNil))))),fun _ _ _ _ _=>none,Tryz.f125.results.toList,maskTab 73 [(0,0x7c),(1,0x407c),(2,0x1407c),(3,0x70044),(4,0x8000000030044),(5,0x1c00),(6,0x1c00)],maskAt [(2,5),(4,16),(6,21),(8,44),(10,46),(12,49)],noSort⟩
noncomputable def e_0 (e:F') (a:C') (b f m:Int) (k:V->Option R):Option R:=let o:=c_s f a.Levels;let c:=Q_q a b;let p:=P_N e a.Levels b;let q:=c_t e a.Levels f;let g:=h_G p q o.2.1 c.X c.Y m;bif (!g.2) then k (V.tup [(V.int .i64 0),(V.int .i64 0),(V.data F'.sh [])]) else let r:Int:=(bif (decide (1<b)) then 1 else b);let i:=IntKind.wrap .i64 (c.X-r);let s:Int:=(bif (decide (i<a.BlockX)) then i else a.BlockX);let t:Int:=(bif (decide (1<b)) then 1 else b);let j:=IntKind.wrap .i64 (c.Y-t);let u:Int:=(bif (decide (j<a.BlockY)) then j else a.BlockY);let d:=f_U g.1 s u;k (V.tup [V.int .i64 d.1,V.int .i64 d.2.1,V.data F'.sh d.2.2])
abbrev x_6 (a:F') (b:C') (c d e:Int):List V:=[(F'.v a),(C'.v b),V.int .i64 c,V.int .i64 d,V.int .i64 e]
theorem a_k (a:F') (b:C') (c d e:Int) (k:V->Option R):fnK i_8 Tryz.f125 (x_6 a b c d e) k=e_0 a b c d e k:=by kernel_rfl
theorem x_7 (a:F') (b:C') (c d e:Int):e_0 a b c d e some=some ((fun (m:Int × Int × Rows)=>(V.tup [V.int .i64 m.1,V.int .i64 m.2.1,V.data F'.sh m.2.2])) (c_B a b c d e)):=by
  repeat' (first | rfl | refine A_t (v:=(fun (m:Int × Int × Rows)=>(V.tup [V.int .i64 m.1,V.int .i64 m.2.1,V.data F'.sh m.2.2]))) ?_ ?_)
theorem a_l (h_F8:f_W) (h_D2:f_X) (h_M2:n_u) (h_L7:q_R) (h_J7:u_H) (h_J3:r_B):r_C:=goodHook1 fun l hp=>by
  unfold p_o at hp
  split at hp
  · rename_i a b d f g i j m o q r s t u v w y z A B D F H I J K
    exact fn_ok (fn:=Tryz.f125) (c:=bodyOf Tryz.f125) (E:=i_8) ⟨by kernel_rfl,(goodCons h_F8 (goodCons h_D2 (goodCons h_M2 (goodCons h_L7 (goodCons h_J7 (goodCons h_J3 goodNil)))))),rfl,M'⟩ rfl (by kernel_rfl) (by kernel_rfl) (by kernel_rfl) (loopsOK_of _ (by have e:loopsOf (bodyOf Tryz.f125)=[]:=(by kernel_rfl);rw [e];intro p hp;cases hp)) (fun hr=>(a_k (F'.mk a b d f) (C'.mk g i j m o q r s (K'.mk t u v w y) z A B D F H) I J K some).trans (x_7 (F'.mk a b d f) (C'.mk g i j m o q r s (K'.mk t u v w y) z A B D F H) I J K))
  · cases hp
noncomputable def N_B (d e f:Int) (g:Rows) (i:Int) (a:Rows) (b:Int) (j:F') (m:C') (o:Rows):Nat:=let c:=(((List.length a):Nat):Int);Int.toNat (c-b)+1
noncomputable def J_n (g i j:Int) (e:Rows) (f:Int) (c:Rows) (t:F') (u:C') (a:Int) (d:Rows) (again:Int->Rows->Option R) (kn:Int->Rows->Option R):Option R:=let m:=(((List.length c):Nat):Int);bif (decide (a<m)) then bif (inR f (List.length e)) then let o:=List.getD e (Int.toNat f) [];let p:=V.toInt (List.getD o 0 V.undef);bif (inR a (List.length c)) then let q:=List.getD c (Int.toNat a) [];let b:=F'.of q;bif (roomOK ((List.length d)+(1:Nat)) 72) then let r:=d++[[V.int .i64 g,V.int .i64 i,V.int .i64 p,V.int .i64 j,V.int .i64 a,V.int .i64 b.X0,V.int .i64 b.Y0,V.int .i64 b.X1,V.int .i64 b.Y1]];let s:=IntKind.wrap .i64 (a+1);again s r else none else none else none else kn a d
noncomputable def C_K (a b c:Int) (d:Rows) (e:Int) (f:Rows) (g:F') (i:C'):Nat->Int->Rows->(Int->Rows->Option R)->Option R
  | 0,_,_,_=>none
  | n+1,j,m,kn=>J_n a b c d e f g i j m (fun o p=>C_K a b c d e f g i n o p kn) kn
noncomputable def G_E:ST:=⟨.undef::.undef::.int .i64::.int .i64::.int .i64::.ptr 0 0 0::.ptr 1 0 0::A_j 4 (.vs 3::.data [.int .i64]::.int .i64::.undef::.undef::.data F'.sh::.int .i64::A_j 47 []),[(0,.var F'.sh false F'.ts),(1,.var C'.sh false C'.ts),(3,.vec N'.sh false)],36⟩
noncomputable def E_1 (c d e:Int) (f:Rows) (g:Int) (i:Rows) (b:F') (a:C') (j:Int) (m:Rows):St:=G_E.put [.i c,.i d,.i e,.r f,.i g,.r i,.i j,.i b.X0,.i b.Y0,.i b.X1,.i b.Y1,.i a.Kernel,.i a.Levels,.i a.Color,.i a.BlockX,.i a.BlockY,.r a.Precincts,.i a.Order,.i a.Layers,.b a.Mode.Bypass,.b a.Mode.Restart,.b a.Mode.Reset,.b a.Mode.Causal,.b a.Mode.Symbols,.b a.Divide,.b a.Sync,.b a.Fence,.r a.Steps,.i a.Dead,.i a.Shift,.r m]
noncomputable def J_o:LoopG R:=fun l kn _ _=>match l with
  | .i a::.i b::.i c::.r d::.i e::.r f::.i K::.i g::.i i::.i j::.i m::.i o::.i p::.i q::.i r::.i s::.r t::.i u::.i v::.b w::.b y::.b z::.b A::.b B::.b D::.b E::.b F::.r H::.i I::.i J::.r L::[]=>C_K a b c d e f (F'.mk g i j m) (C'.mk o p q r s t u v (K'.mk w y z A B) D E F H I J) (N_B a b c d e f K (F'.mk g i j m) (C'.mk o p q r s t u v (K'.mk w y z A B) D E F H I J) L) K L (fun M N=>kn (E_1 a b c d e f (F'.mk g i j m) (C'.mk o p q r s t u v (K'.mk w y z A B) D E F H I J) M N))
  | _=>none
noncomputable def N_C (d e f:Int) (a:Rows) (b:Int) (g:F') (i:C') (j:Rows):Nat:=let c:=(((List.length a):Nat):Int);Int.toNat (c-b)+1
noncomputable def J_p (i c d:Int) (b:Rows) (e:F') (f:C') (a:Int) (g:Rows) (again:Int->Rows->Option R) (kn:Int->Rows->Option R):Option R:=let m:=(((List.length b):Nat):Int);bif (decide (a<m)) then bif (inR a (List.length b)) then let o:=List.getD b (Int.toNat a) [];let p:=V.toInt (List.getD o 0 V.undef);let j:=c_B e f c p d;C_K i c d b a j.2.2 e f (N_B i c d b a j.2.2 0 e f g) 0 g (fun s q=>let r:=IntKind.wrap .i64 (a+1);again r q) else none else kn a g
noncomputable def B_2 (a b c:Int) (d:Rows) (e:F') (f:C'):Nat->Int->Rows->(Int->Rows->Option R)->Option R
  | 0,_,_,_=>none
  | n+1,g,i,kn=>J_p a b c d e f g i (fun j m=>B_2 a b c d e f n j m kn) kn
noncomputable def G_F:ST:=⟨.undef::.undef::.int .i64::.int .i64::.int .i64::.ptr 0 0 0::.ptr 1 0 0::A_j 4 (.vs 3::.data [.int .i64]::.int .i64::A_j 51 []),[(0,.var F'.sh false F'.ts),(1,.var C'.sh false C'.ts),(3,.vec N'.sh false)],11⟩
noncomputable def E_2 (c d e:Int) (f:Rows) (b:F') (a:C') (g:Int) (i:Rows):St:=G_F.put [.i c,.i d,.i e,.r f,.i g,.i b.X0,.i b.Y0,.i b.X1,.i b.Y1,.i a.Kernel,.i a.Levels,.i a.Color,.i a.BlockX,.i a.BlockY,.r a.Precincts,.i a.Order,.i a.Layers,.b a.Mode.Bypass,.b a.Mode.Restart,.b a.Mode.Reset,.b a.Mode.Causal,.b a.Mode.Symbols,.b a.Divide,.b a.Sync,.b a.Fence,.r a.Steps,.i a.Dead,.i a.Shift,.r i]
noncomputable def J_q:LoopG R:=fun l kn _ _=>match l with
  | .i a::.i b::.i c::.r d::.i I::.i e::.i f::.i g::.i i::.i j::.i m::.i o::.i p::.i q::.r r::.i s::.i t::.b u::.b v::.b w::.b y::.b z::.b A::.b B::.b D::.r E::.i F::.i H::.r J::[]=>B_2 a b c d (F'.mk e f g i) (C'.mk j m o p q r s t (K'.mk u v w y z) A B D E F H) (N_C a b c d I (F'.mk e f g i) (C'.mk j m o p q r s t (K'.mk u v w y z) A B D E F H) J) I J (fun K L=>kn (E_2 a b c d (F'.mk e f g i) (C'.mk j m o p q r s t (K'.mk u v w y z) A B D E F H) K L))
  | _=>none
noncomputable def C_8:Env R:=⟨Tryz.prog,callCons 124 z_I (callCons 125 z_L callNil),fun id=>bif Nat.beq id 2 then loopAlt G_E J_o loopNil else (fun id=>bif Nat.beq id 0 then loopAlt G_F J_q loopNil else (fun _ _ _ _ _=>none) id) id,Tryz.f96.results.toList,maskTab 65 [(0,0x7c),(1,0x87c),(2,0x187c),(3,0x387c),(4,0x400387c),(5,0x387c),(6,0x1387c),(7,0x3387c),(8,0x20000003387c),(9,0x3387c),(10,0x3387c),(11,0x400)],maskAt [(1,11),(2,3),(4,5),(5,36),(6,10),(8,15),(10,64),(12,19),(14,35),(16,40),(18,61),(20,44),(22,67)],noSort⟩
theorem S_H (a b c:Int) (d:Rows) (e:Int) (f:Rows) (g:F') (i:C') (o:Int) (p:Rows) (kn:St->Option R) (kx:Nat->St->Option R) (kr:V->Option R) (n:Nat) (q:Int) (r:Rows) :
    loopN C_8 2 (loopAt Tryz.f96 1) (E_1 a b c d e f g i o p) kn kx kr (n+1) (E_1 a b c d e f g i q r) =
    J_n a b c d e f g i q r (fun j m=>loopN C_8 2 (loopAt Tryz.f96 1) (E_1 a b c d e f g i o p) kn kx kr n (E_1 a b c d e f g i j m)) (fun j m=>kn (E_1 a b c d e f g i j m)):=by kernel_rfl
theorem L_Y (a b c:Int) (d:Rows) (e:Int) (f:Rows) (g:F') (i:C') (q:Int) (r:Rows) (kn:St->Option R) (kx:Nat->St->Option R) (kr:V->Option R):∀ (n:Nat) (j:Int) (m:Rows),
    C_K a b c d e f g i n j m (fun o p=>kn (E_1 a b c d e f g i o p))=loopN C_8 2 (loopAt Tryz.f96 1) (E_1 a b c d e f g i q r) kn kx kr n (E_1 a b c d e f g i j m)
  | 0,_,_=>rfl
  | n+1,j,m=>by
    rw [S_H,C_K]
    congr 1
    funext o p
    exact L_Y a b c d e f g i q r kn kx kr n o p
theorem a_m {rest} (h:GoodL (R:=R) C_8 2 (loopAt Tryz.f96 1) rest):GoodL (R:=R) C_8 2 (loopAt Tryz.f96 1) (loopAlt G_E J_o rest):=by
  refine goodL_alt (fun l kn kx kr r h=>?_) h
  unfold J_o at h
  split at h
  · rename_i c d e f g i a j m o p q s t u v w y z A B D E F H I J K L M b
    exact ⟨_,(L_Y c d e f g i (F'.mk j m o p) (C'.mk q s t u v w y z (K'.mk A B D E F) H I J K L M) a b kn kx kr _ a b).symm.trans h⟩
  · cases h
theorem S_I (a b c:Int) (d:Rows) (e:F') (f:C') (j:Int) (m:Rows) (kn:St->Option R) (kx:Nat->St->Option R) (kr:V->Option R) (n:Nat) (o:Int) (p:Rows) :
    loopN C_8 0 (loopAt Tryz.f96 0) (E_2 a b c d e f j m) kn kx kr (n+1) (E_2 a b c d e f o p) =
    J_p a b c d e f o p (fun g i=>loopN C_8 0 (loopAt Tryz.f96 0) (E_2 a b c d e f j m) kn kx kr n (E_2 a b c d e f g i)) (fun g i=>kn (E_2 a b c d e f g i)):=by kernel_rfl
theorem L_Z (a b c:Int) (d:Rows) (e:F') (f:C') (o:Int) (p:Rows) (kn:St->Option R) (kx:Nat->St->Option R) (kr:V->Option R):∀ (n:Nat) (g:Int) (i:Rows),
    B_2 a b c d e f n g i (fun j m=>kn (E_2 a b c d e f j m))=loopN C_8 0 (loopAt Tryz.f96 0) (E_2 a b c d e f o p) kn kx kr n (E_2 a b c d e f g i)
  | 0,_,_=>rfl
  | n+1,g,i=>by
    rw [S_I,B_2]
    congr 1
    funext j m
    exact L_Z a b c d e f o p kn kx kr n j m
theorem a_n {rest} (h:GoodL (R:=R) C_8 0 (loopAt Tryz.f96 0) rest):GoodL (R:=R) C_8 0 (loopAt Tryz.f96 0) (loopAlt G_F J_q rest):=by
  refine goodL_alt (fun l kn kx kr r h=>?_) h
  unfold J_q at h
  split at h
  · rename_i c d e f a g i j m o p q s t u v w y z A B D E F H I J K b
    exact ⟨_,(L_Z c d e f (F'.mk g i j m) (C'.mk o p q s t u v w (K'.mk y z A B D) E F H I J K) a b kn kx kr _ a b).symm.trans h⟩
  · cases h
theorem e_1:GoodLoop (R:=R) C_8 0 (loopAt Tryz.f96 0):=goodL_loop (g:=loopAlt G_F J_q loopNil) (fun _ _ _ _=>rfl) (a_n goodL_nil)
theorem e_2:GoodLoop (R:=R) C_8 2 (loopAt Tryz.f96 1):=goodL_loop (g:=loopAlt G_E J_o loopNil) (fun _ _ _ _=>rfl) (a_m goodL_nil)
noncomputable def U_i (c:F') (a:C') (d b e:Int) (k:V->Option R):Option R:=let f:=m_Z a.Levels b;B_2 d b e f c a (N_C d b e f 0 c a []) 0 [] (fun i g=>k (V.data N'.sh g))
abbrev q_b (a:F') (b:C') (c d e:Int):List V:=[(F'.v a),(C'.v b),V.int .i64 c,V.int .i64 d,V.int .i64 e]
theorem a_o (a:F') (b:C') (c d e:Int) (k:V->Option R):fnK C_8 Tryz.f96 (q_b a b c d e) k=U_i a b c d e k:=by kernel_rfl
theorem x_8 (h_H6:r_A) (h_J9:r_C) (h:∀ (a:F') (b:C') (d f g:Int),Real (q_b a b d f g)->U_i a b d f g some=some (V.data N'.sh (j_J a b d f g))):r_D:=goodHook1 fun l hp=>by
  unfold p_p at hp
  split at hp
  · rename_i i j m o p q r s t u v w y z A B D F H I J K L M N O
    exact fn_ok (fn:=Tryz.f96) (c:=bodyOf Tryz.f96) (E:=C_8) ⟨by kernel_rfl,(goodCons h_H6 (goodCons h_J9 goodNil)),rfl,M'⟩ rfl (by kernel_rfl) (by kernel_rfl) (by kernel_rfl) (loopsOK_of _ (by have e:loopsOf (bodyOf Tryz.f96)=[(0,loopAt Tryz.f96 0),(2,loopAt Tryz.f96 1)]:=(by kernel_rfl);rw [e];simp only [List.forall_mem_cons,List.not_mem_nil,false_implies,implies_true,and_true];exact ⟨e_1,e_2⟩)) (fun hr=>(a_o (F'.mk i j m o) (C'.mk p q r s t u v w (K'.mk y z A B D) F H I J K L) M N O some).trans (h (F'.mk i j m o) (C'.mk p q r s t u v w (K'.mk y z A B D) F H I J K L) M N O hr))
  · cases hp
noncomputable def i_9:Env R:=⟨Tryz.prog,callCons 95 u_q (callCons 96 z_M (callCons 97 r_u callNil)),fun _ _ _ _ _=>none,Tryz.f56.results.toList,maskTab 48 [(0,0x3f00000b4),(1,0x3f0000cb4),(2,0x4000000b4),(3,0x100),(4,0x100)],maskAt [(2,4),(4,20),(6,31),(8,32)],noSort⟩
noncomputable def e_3 (b:D') (c:C') (d:Int) (a:G') (k:V->Option R):Option R:=let e:=H_e b c d a.Comp a.Res;let f:=decide (a.Precinct<0);let g:=IntKind.wrap .i64 (e.2.1*e.2.2);let i:=decide (a.Precinct >= g);let j:Bool:=(bif f then true else i);bif j then k (V.data N'.sh []) else let m:=f_Q b d a.Comp;let o:=j_J m c a.Comp a.Res a.Precinct;k (V.data N'.sh o)
abbrev x_9 (a:D') (b:C') (c:Int) (d:G'):List V:=[(D'.v a),(C'.v b),V.int .i64 c,(G'.v d)]
theorem a_p (a:D') (b:C') (c:Int) (d:G') (k:V->Option R):fnK i_9 Tryz.f56 (x_9 a b c d) k=e_3 a b c d k:=by kernel_rfl
theorem y_a (a:D') (b:C') (c:Int) (d:G'):e_3 a b c d some=some ((fun (m:Rows)=>(V.data N'.sh m)) (f_V a b c d)):=by
  repeat' (first | rfl | refine A_t (v:=(fun (m:Rows)=>(V.data N'.sh m))) ?_ ?_)
theorem a_q (h_D3:o_3) (h_C9:r_D) (h_F4:o_Z):r_E:=goodHook1 fun l hp=>by
  unfold p_q at hp
  split at hp
  · rename_i a b d f g i j m o q r s t u v w y z A B D F H I J K L M N O Q
    exact fn_ok (fn:=Tryz.f56) (c:=bodyOf Tryz.f56) (E:=i_9) ⟨by kernel_rfl,(goodCons h_D3 (goodCons h_C9 (goodCons h_F4 goodNil))),rfl,M'⟩ rfl (by kernel_rfl) (by kernel_rfl) (by kernel_rfl) (loopsOK_of _ (by have e:loopsOf (bodyOf Tryz.f56)=[]:=(by kernel_rfl);rw [e];intro p hp;cases hp)) (fun hr=>(a_p (D'.mk (F'.mk a b d f) g i j) (C'.mk m o q r s t u v (K'.mk w y z A B) D F H I J K) L (G'.mk M N O Q) some).trans (y_a (D'.mk (F'.mk a b d f) g i j) (C'.mk m o q r s t u v (K'.mk w y z A B) D F H I J K) L (G'.mk M N O Q)))
  · cases hp
noncomputable def j_a:Env R:=⟨Tryz.prog,callNil,fun _ _ _ _ _=>none,Tryz.f142.results.toList,maskTab 13 [(0,0xcc1),(1,0x4)],maskAt [(2,1)],noSort⟩
noncomputable def e_4 (a:Int) (k:V->Option R):Option R:=let b:Bool:=(bif (a==1) then true else (a==2));let c:Bool:=(bif b then true else (a==3));k (V.bool c)
abbrev y_b (a:Int):List V:=[V.int .i64 a]
theorem a_r (a:Int) (k:V->Option R):fnK j_a Tryz.f142 (y_b a) k=e_4 a k:=by kernel_rfl
theorem y_c (a:Int):e_4 a some=some ((fun (m:Bool)=>(V.bool m)) (m_0 a)):=by
  repeat' (first | rfl | refine A_t (v:=(fun (m:Bool)=>(V.bool m))) ?_ ?_)
theorem a_s:r_F:=goodHook1 fun l hp=>by
  unfold p_r at hp
  split at hp
  · rename_i a
    exact fn_ok (fn:=Tryz.f142) (c:=bodyOf Tryz.f142) (E:=j_a) ⟨by kernel_rfl,goodNil,rfl,M'⟩ rfl (by kernel_rfl) (by kernel_rfl) (by kernel_rfl) (loopsOK_of _ (by have e:loopsOf (bodyOf Tryz.f142)=[]:=(by kernel_rfl);rw [e];intro p hp;cases hp)) (fun hr=>(a_r a some).trans (y_c a))
  · cases hp
noncomputable def j_b:Env R:=⟨Tryz.prog,callNil,fun _ _ _ _ _=>none,Tryz.f143.results.toList,maskTab 9 [(0,0x1),(1,0x8),(2,0x18),(3,0x18),(4,0x4),(5,0x80),(6,0x4),(7,0x4)],maskAt [(2,1),(4,2),(6,4),(8,6),(10,7),(12,9),(14,10)],noSort⟩
noncomputable def e_5 (a:Int) (k:V->Option R):Option R:=bif (a==1) then bif (a==1) then k (V.int .i64 2) else bif (a==3) then k (V.int .i64 4) else k (V.int .i64 0) else bif (a==2) then k (V.int .i64 2) else bif (a==3) then k (V.int .i64 4) else k (V.int .i64 0)
abbrev y_d (a:Int):List V:=[V.int .i64 a]
theorem a_t (a:Int) (k:V->Option R):fnK j_b Tryz.f143 (y_d a) k=e_5 a k:=by kernel_rfl
theorem y_e (a:Int):e_5 a some=some ((fun (m:Int)=>(V.int .i64 m)) (r_Y a)):=by
  repeat' (first | rfl | refine A_t (v:=(fun (m:Int)=>(V.int .i64 m))) ?_ ?_)
theorem a_u:r_G:=goodHook1 fun l hp=>by
  unfold p_s at hp
  split at hp
  · rename_i a
    exact fn_ok (fn:=Tryz.f143) (c:=bodyOf Tryz.f143) (E:=j_b) ⟨by kernel_rfl,goodNil,rfl,M'⟩ rfl (by kernel_rfl) (by kernel_rfl) (by kernel_rfl) (loopsOK_of _ (by have e:loopsOf (bodyOf Tryz.f143)=[]:=(by kernel_rfl);rw [e];intro p hp;cases hp)) (fun hr=>(a_t a some).trans (y_e a))
  · cases hp
noncomputable def S_J (b c a:Int) (d:F') (e:Rows) (f:F'):Nat:=let g:=decide (a > 0);Int.toNat (a-0)+1
noncomputable def J_r (o c:Int) (p:F') (a:Int) (d:Rows) (b:F') (again:Int->Rows->F'->Option R) (kn:Int->Rows->F'->Option R):Option R:=let q:=decide (a > 0);bif q then let r:=IntKind.wrap .i64 (b.X0-c);let s:=IntKind.wrap .i64 (b.Y0-c);let t:=IntKind.wrap .i64 (b.X1+c);let u:=IntKind.wrap .i64 (b.Y1+c);let v:=P_N p o a;let w:=O_K (F'.mk r s t u) v;let e:=h_q w;let y:=IntKind.wrap .i64 (3*a);let f:=IntKind.wrap .i64 (y-2);let z:=IntKind.wrap .i64 (3*a);let g:=IntKind.wrap .i64 (z-1);let i:=IntKind.wrap .i64 (3*a);bif (inR f (List.length d)) then let j:=List.set d (Int.toNat f) (setCells (List.getD d (Int.toNat f) []) 0 (F'.row e.e1));bif (inR g (List.length j)) then let m:=List.set j (Int.toNat g) (setCells (List.getD j (Int.toNat g) []) 0 (F'.row e.e2));bif (inR i (List.length m)) then let A:=List.set m (Int.toNat i) (setCells (List.getD m (Int.toNat i) []) 0 (F'.row e.e3));let B:=IntKind.wrap .i64 (a-1);again B A e.e0 else none else none else none else kn a d b
noncomputable def B_3 (a b:Int) (c:F'):Nat->Int->Rows->F'->(Int->Rows->F'->Option R)->Option R
  | 0,_,_,_,_=>none
  | n+1,d,e,f,kn=>J_r a b c d e f (fun g i j=>B_3 a b c n g i j kn) kn
noncomputable def G_G:ST:=⟨.undef::.int .i64::A_j 3 (.ptr 0 0 0::A_j 5 (.vs 28::.ptr 36 0 0::.int .i64::.int .i64::A_j 93 [])),[(0,.var F'.sh false F'.ts),(28,.vec F'.sh false),(36,.var F'.sh false F'.ts)],47⟩
noncomputable def E_3 (c d:Int) (a:F') (e:Int) (f:Rows) (b:F'):St:=G_G.put [.i c,.i d,.i e,.i a.X0,.i a.Y0,.i a.X1,.i a.Y1,.r f,.i b.X0,.i b.Y0,.i b.X1,.i b.Y1]
noncomputable def J_s:LoopG R:=fun l kn _ _=>match l with
  | .i a::.i b::.i g::.i c::.i d::.i e::.i f::.r i::.i j::.i m::.i o::.i p::[]=>B_3 a b (F'.mk c d e f) (S_J a b g (F'.mk c d e f) i (F'.mk j m o p)) g i (F'.mk j m o p) (fun q r s=>kn (E_3 a b (F'.mk c d e f) q r s))
  | _=>none
noncomputable def L_0:Env R:=⟨Tryz.prog,callCons 23 c_D (callCons 24 g_t (callCons 52 h_L (callCons 62 m_v (callCons 99 n_m (callCons 101 s_J (callCons 142 z_O (callCons 143 z_P callNil))))))),fun id=>bif Nat.beq id 0 then loopAlt G_G J_s loopNil else (fun _ _ _ _ _=>none) id,Tryz.f126.results.toList,maskTab 108 [(0,0x39cce00136),(1,0x4000000136),(2,0x400),(3,0x936),(4,0x1836),(5,0x2000000001836),(6,0x400),(7,0x3826),(8,0x7822),(9,0x80000000007822),(10,0x7822),(11,0xf822),(12,0x17822),(13,0x17822),(14,0x7822),(15,0x800),(16,0x400)],maskAt [(1,47),(2,3),(4,25),(6,26),(8,30),(10,38),(12,40),(14,42),(16,45),(18,51),(20,107),(22,53),(24,77),(26,81),(28,104),(30,110),(32,114)],noSort⟩
theorem S_K (a b:Int) (c:F') (g:Int) (i:Rows) (j:F') (kn:St->Option R) (kx:Nat->St->Option R) (kr:V->Option R) (n:Nat) (m:Int) (o:Rows) (p:F') :
    loopN L_0 0 (loopAt Tryz.f126 0) (E_3 a b c g i j) kn kx kr (n+1) (E_3 a b c m o p) =
    J_r a b c m o p (fun d e f=>loopN L_0 0 (loopAt Tryz.f126 0) (E_3 a b c g i j) kn kx kr n (E_3 a b c d e f)) (fun d e f=>kn (E_3 a b c d e f)):=by kernel_rfl
theorem L_1 (a b:Int) (c:F') (m:Int) (o:Rows) (p:F') (kn:St->Option R) (kx:Nat->St->Option R) (kr:V->Option R):∀ (n:Nat) (d:Int) (e:Rows) (f:F'),
    B_3 a b c n d e f (fun g i j=>kn (E_3 a b c g i j))=loopN L_0 0 (loopAt Tryz.f126 0) (E_3 a b c m o p) kn kx kr n (E_3 a b c d e f)
  | 0,_,_,_=>rfl
  | n+1,d,e,f=>by
    rw [S_K,B_3]
    congr 1
    funext g i j
    exact L_1 a b c m o p kn kx kr n g i j
theorem a_v {rest} (h:GoodL (R:=R) L_0 0 (loopAt Tryz.f126 0) rest):GoodL (R:=R) L_0 0 (loopAt Tryz.f126 0) (loopAlt G_G J_s rest):=by
  refine goodL_alt (fun l kn kx kr r h=>?_) h
  unfold J_s at h
  split at h
  · rename_i g i a j m o p b c d e f
    exact ⟨_,(L_1 g i (F'.mk j m o p) a b (F'.mk c d e f) kn kx kr _ a b (F'.mk c d e f)).symm.trans h⟩
  · cases h
theorem e_6:GoodLoop (R:=R) L_0 0 (loopAt Tryz.f126 0):=goodL_loop (g:=loopAlt G_G J_s loopNil) (fun _ _ _ _=>rfl) (a_v goodL_nil)
noncomputable def P_0 (d:F') (a c:Int) (m:F') (i:Int) (k:V->Option R):Option R:=let o:=M_4 d;bif ((!o)==false) then let p:=b_I a;let q:=decide (c<0);let r:Bool:=(bif (p==0) then true else q);let s:Bool:=(bif r then true else (decide (c > a)));bif (s==false) then let t:=m_0 i;bif (!t) then k (V.data F'.sh []) else let b:=b_I a;bif (((((decide (0<=b))&&(decide (b<=b)))&&(decide ((b*32)<=140737488355328)))&&(decide (b<=140737488355328)))&&true) then let e:=List.replicate (Int.toNat b) [(V.int .i64 0),(V.int .i64 0),(V.int .i64 0),(V.int .i64 0)];let u:=P_N d a c;let f:=O_K m u;let v:=O_b f;bif v then k (V.data F'.sh e) else let j:=r_Y i;B_3 a j d (S_J a j c d e f) c e f (fun z g w=>bif (inR 0 (List.length g)) then let y:=List.set g (0:Nat) (setCells (List.getD g (0:Nat) []) 0 (F'.row w));k (V.data F'.sh y) else none) else none else k (V.data F'.sh []) else k (V.data F'.sh [])
abbrev q_c (a:F') (b c:Int) (d:F') (e:Int):List V:=[(F'.v a),V.int .i64 b,V.int .i64 c,(F'.v d),V.int .i64 e]
theorem a_w (a:F') (b c:Int) (d:F') (e:Int) (k:V->Option R):fnK L_0 Tryz.f126 (q_c a b c d e) k=P_0 a b c d e k:=by kernel_rfl
theorem y_f (h_K8:T_R) (h_L1:V_7) (h_F5:c_E) (h_D2:f_X) (h_L0:h_N) (h_K5:n_s) (h_K9:r_F) (h_J6:r_G) (h:∀ (a:F') (b d:Int) (f:F') (g:Int),Real (q_c a b d f g)->P_0 a b d f g some=some (V.data F'.sh (j_K a b d f g))):r_H:=goodHook1 fun l hp=>by
  unfold p_t at hp
  split at hp
  · rename_i i j m o p q r s t u v
    exact fn_ok (fn:=Tryz.f126) (c:=bodyOf Tryz.f126) (E:=L_0) ⟨by kernel_rfl,(goodCons h_K8 (goodCons h_L1 (goodCons h_F5 (goodCons h_D2 (goodCons h_L0 (goodCons h_K5 (goodCons h_K9 (goodCons h_J6 goodNil)))))))),rfl,M'⟩ rfl (by kernel_rfl) (by kernel_rfl) (by kernel_rfl) (loopsOK_of _ (by have e:loopsOf (bodyOf Tryz.f126)=[(0,loopAt Tryz.f126 0)]:=(by kernel_rfl);rw [e];simp only [List.forall_mem_cons,List.not_mem_nil,false_implies,implies_true,and_true];exact e_6)) (fun hr=>(a_w (F'.mk i j m o) p q (F'.mk r s t u) v some).trans (h (F'.mk i j m o) p q (F'.mk r s t u) v hr))
  · cases hp
noncomputable def j_c:Env R:=⟨Tryz.prog,callCons 10 h_M (callCons 26 h_J (callCons 52 h_L (callCons 97 r_u (callCons 126 z_Q callNil)))),fun _ _ _ _ _=>none,Tryz.f98.results.toList,maskTab 61 [(0,0x26c),(1,0xa6c),(2,0x1a6c),(3,0x3a64),(4,0x7a40),(5,0x1000007a40),(6,0x7a40),(7,0x400)],maskAt [(2,4),(4,10),(6,15),(8,22),(10,29),(12,33),(14,38)],noSort⟩
noncomputable def e_7 (c:D') (b:C') (f g:Int) (a:O') (k:V->Option R):Option R:=let i:=f_Q c f g;let j:=IntKind.wrap .u64 a.Drop;bif (decide (0<=j)) then let d:=IntKind.wrap .i64 (1*2 ^ (min (Int.toNat j) 64));bif (inR g (List.length c.Components)) then let p:=List.getD c.Components (Int.toNat g) [];let e:=H'.of p;let m:=P_M c;bif (inR f (List.length m)) then let q:=List.getD m (Int.toNat f) [];let o:=F'.of q;let r:=!((a.Window.X0==0)&&((a.Window.Y0==0)&&((a.Window.X1==0)&&((a.Window.Y1==0)&&true))));bif r then let s:=O_K o a.Window;let t:=IntKind.wrap .i64 (b.Levels-a.Drop);let u:=M_u s e.DX e.DY;let v:=M_u u d d;let w:=j_K i b.Levels t v b.Kernel;k (V.data F'.sh w) else let y:=IntKind.wrap .i64 (b.Levels-a.Drop);let z:=M_u o e.DX e.DY;let A:=M_u z d d;let B:=j_K i b.Levels y A b.Kernel;k (V.data F'.sh B) else none else none else none
abbrev y_g (a:D') (b:C') (c d:Int) (e:O'):List V:=[(D'.v a),(C'.v b),V.int .i64 c,V.int .i64 d,(O'.v e)]
theorem a_x (a:D') (b:C') (c d:Int) (e:O') (k:V->Option R):fnK j_c Tryz.f98 (y_g a b c d e) k=e_7 a b c d e k:=by kernel_rfl
theorem y_h (a:D') (b:C') (c d:Int) (e:O'):N_f a b c d e=true->e_7 a b c d e some=some ((fun (m:Rows)=>(V.data F'.sh m)) (j_L a b c d e)):=by
  repeat' (first | exact fun _=>rfl | exact fun h=>absurd h (by decide) | refine B_b (v:=(fun (m:Rows)=>(V.data F'.sh m))) ?_ ?_)
theorem a_y (h_K6:c_F) (h_I9:V_8) (h_F5:c_E) (h_F4:o_Z) (h_M5:r_H):u_Q:=goodHook1 fun l hp=>by
  unfold p_u at hp
  split at hp
  · rename_i a b d f g i j m o q r s t u v w y z A B D F H I J K L M N O Q S U W
    exact fn_ok (fn:=Tryz.f98) (c:=bodyOf Tryz.f98) (E:=j_c) ⟨by kernel_rfl,(goodCons h_K6 (goodCons h_I9 (goodCons h_F5 (goodCons h_F4 (goodCons h_M5 goodNil))))),rfl,M'⟩ rfl (by kernel_rfl) (by kernel_rfl) (by kernel_rfl) (loopsOK_of _ (by have e:loopsOf (bodyOf Tryz.f98)=[]:=(by kernel_rfl);rw [e];intro p hp;cases hp)) (fun hr=>(a_x (D'.mk (F'.mk a b d f) g i j) (C'.mk m o q r s t u v (K'.mk w y z A B) D F H I J K) L M (O'.mk N O (F'.mk Q S U W)) some).trans (y_h (D'.mk (F'.mk a b d f) g i j) (C'.mk m o q r s t u v (K'.mk w y z A B) D F H I J K) L M (O'.mk N O (F'.mk Q S U W)) hp))
  · cases hp
noncomputable def j_d:Env R:=⟨Tryz.prog,callCons 24 g_t (callCons 52 h_L (callCons 98 z_R callNil)),fun _ _ _ _ _=>none,Tryz.f57.results.toList,maskTab 39 [(0,0x364),(1,0x40364),(2,0x400),(3,0x400364),(4,0x400),(5,0x400)],maskAt [(2,5),(4,13),(6,14),(8,18),(10,19)],noSort⟩
noncomputable def e_8 (d:D') (c:C') (e:Int) (b:N') (a:O') (k:V->Option R):Option R:=let g:=IntKind.wrap .i64 (c.Levels-a.Drop);bif (decide (b.Res > g)) then k (V.bool false) else let i:=(a.Window.X0==0)&&((a.Window.Y0==0)&&((a.Window.X1==0)&&((a.Window.Y1==0)&&true)));bif i then k (V.bool true) else bif (N_f d c e b.Comp a) then let f:=j_L d c e b.Comp a;bif (inR b.Band (List.length f)) then let j:=List.getD f (Int.toNat b.Band) [];let m:=F'.of j;let o:=O_K b.Rect m;let p:=O_b o;k (V.bool (!p)) else none else none
abbrev y_i (a:D') (b:C') (c:Int) (d:N') (e:O'):List V:=[(D'.v a),(C'.v b),V.int .i64 c,(N'.v d),(O'.v e)]
theorem a_z (a:D') (b:C') (c:Int) (d:N') (e:O') (k:V->Option R):fnK j_d Tryz.f57 (y_i a b c d e) k=e_8 a b c d e k:=by kernel_rfl
theorem y_j (a:D') (b:C') (c:Int) (d:N') (e:O'):O_V a b c d e=true->e_8 a b c d e some=some ((fun (m:Bool)=>(V.bool m)) (b_K a b c d e)):=by
  repeat' (first | exact fun _=>rfl | exact fun h=>absurd h (by decide) | refine B_b (v:=(fun (m:Bool)=>(V.bool m))) ?_ ?_)
theorem a_A (h_L1:V_7) (h_F5:c_E) (h_I7:u_Q):r_I:=goodHook1 fun l hp=>by
  unfold p_v at hp
  split at hp
  · rename_i a b d f g i j m o q r s t u v w y z A B D F H I J K L M N O Q S U W X Y Z a0 a1 a2 a3 a4
    exact fn_ok (fn:=Tryz.f57) (c:=bodyOf Tryz.f57) (E:=j_d) ⟨by kernel_rfl,(goodCons h_L1 (goodCons h_F5 (goodCons h_I7 goodNil))),rfl,M'⟩ rfl (by kernel_rfl) (by kernel_rfl) (by kernel_rfl) (loopsOK_of _ (by have e:loopsOf (bodyOf Tryz.f57)=[]:=(by kernel_rfl);rw [e];intro p hp;cases hp)) (fun hr=>(a_z (D'.mk (F'.mk a b d f) g i j) (C'.mk m o q r s t u v (K'.mk w y z A B) D F H I J K) L (N'.mk M N O Q S (F'.mk U W X Y)) (O'.mk Z a0 (F'.mk a1 a2 a3 a4)) some).trans (y_j (D'.mk (F'.mk a b d f) g i j) (C'.mk m o q r s t u v (K'.mk w y z A B) D F H I J K) L (N'.mk M N O Q S (F'.mk U W X Y)) (O'.mk Z a0 (F'.mk a1 a2 a3 a4)) hp))
  · cases hp
noncomputable def S_L (c:Int) (d:Rows) (a b:Int) (e:D') (f:C') (g:O'):Nat:=Int.toNat (a-b)+1
noncomputable def J_t (b:Int) (c:Rows) (i:Int) (d:D') (e:C') (f:O') (a:Int) (again:Int->Option R) (kn:Int->Option R) (kr:V->Option R):Option R:=bif (decide (a<i)) then bif (inR a (List.length c)) then let j:=List.getD c (Int.toNat a) [];let g:=N'.of j;bif (O_V d e b g f) then let m:=b_K d e b g f;bif m then kr (V.bool true) else let o:=IntKind.wrap .i64 (a+1);again o else none else none else kn a
noncomputable def D_P (a:Int) (b:Rows) (c:Int) (d:D') (e:C') (f:O'):Nat->Int->(Int->Option R)->(V->Option R)->Option R
  | 0,_,_,_=>none
  | n+1,g,kn,kr=>J_t a b c d e f g (fun i=>D_P a b c d e f n i kn kr) kn kr
noncomputable def G_H:ST:=⟨.undef::.undef::.int .i64::.undef::.undef::.ptr 0 0 0::.ptr 1 0 0::.undef::.undef::.ptr 3 0 0::A_j 13 (.data N'.sh::.int .i64::.int .i64::A_j 10 []),[(0,.var D'.sh false D'.ts),(1,.var C'.sh false C'.ts),(3,.var O'.sh false O'.ts)],19⟩
noncomputable def E_4 (d:Int) (e:Rows) (f:Int) (b:D') (a:C') (c:O') (g:Int):St:=G_H.put [.i d,.r e,.i f,.i g,.i b.Area.X0,.i b.Area.Y0,.i b.Area.X1,.i b.Area.Y1,.i b.TileW,.i b.TileH,.r b.Components,.i a.Kernel,.i a.Levels,.i a.Color,.i a.BlockX,.i a.BlockY,.r a.Precincts,.i a.Order,.i a.Layers,.b a.Mode.Bypass,.b a.Mode.Restart,.b a.Mode.Reset,.b a.Mode.Causal,.b a.Mode.Symbols,.b a.Divide,.b a.Sync,.b a.Fence,.r a.Steps,.i a.Dead,.i a.Shift,.i c.Layers,.i c.Drop,.i c.Window.X0,.i c.Window.Y0,.i c.Window.X1,.i c.Window.Y1]
noncomputable def J_u:LoopG R:=fun l kn _ kr=>match l with
  | .i a::.r b::.i c::.i S::.i d::.i e::.i f::.i g::.i i::.i j::.r m::.i o::.i p::.i q::.i r::.i s::.r t::.i u::.i v::.b w::.b y::.b z::.b A::.b B::.b D::.b E::.b F::.r H::.i I::.i J::.i K::.i L::.i M::.i N::.i O::.i Q::[]=>D_P a b c (D'.mk (F'.mk d e f g) i j m) (C'.mk o p q r s t u v (K'.mk w y z A B) D E F H I J) (O'.mk K L (F'.mk M N O Q)) (S_L a b c S (D'.mk (F'.mk d e f g) i j m) (C'.mk o p q r s t u v (K'.mk w y z A B) D E F H I J) (O'.mk K L (F'.mk M N O Q))) S (fun U=>kn (E_4 a b c (D'.mk (F'.mk d e f g) i j m) (C'.mk o p q r s t u v (K'.mk w y z A B) D E F H I J) (O'.mk K L (F'.mk M N O Q)) U)) kr
  | _=>none
noncomputable def L_2:Env R:=⟨Tryz.prog,callCons 55 z_H (callCons 56 z_N (callCons 57 z_S callNil)),fun id=>bif Nat.beq id 0 then loopAlt G_H J_u loopNil else (fun _ _ _ _ _=>none) id,Tryz.f22.results.toList,maskTab 36 [(0,0x364),(1,0x40364),(2,0x400),(3,0x3800264),(4,0x7800264),(5,0x3801264),(6,0x403800264),(7,0x400),(8,0x3800264),(9,0x400)],maskAt [(1,19),(2,5),(4,11),(6,12),(8,23),(10,24),(12,28),(14,34),(16,35),(18,37)],noSort⟩
theorem S_M (a:Int) (b:Rows) (c:Int) (d:D') (e:C') (f:O') (i:Int) (kn:St->Option R) (kx:Nat->St->Option R) (kr:V->Option R) (n:Nat) (j:Int) :
    loopN L_2 0 (loopAt Tryz.f22 0) (E_4 a b c d e f i) kn kx kr (n+1) (E_4 a b c d e f j) =
    J_t a b c d e f j (fun g=>loopN L_2 0 (loopAt Tryz.f22 0) (E_4 a b c d e f i) kn kx kr n (E_4 a b c d e f g)) (fun g=>kn (E_4 a b c d e f g)) kr:=by kernel_rfl
theorem L_3 (a:Int) (b:Rows) (c:Int) (d:D') (e:C') (f:O') (j:Int) (kn:St->Option R) (kx:Nat->St->Option R) (kr:V->Option R):∀ (n:Nat) (g:Int),
    D_P a b c d e f n g (fun i=>kn (E_4 a b c d e f i)) kr=loopN L_2 0 (loopAt Tryz.f22 0) (E_4 a b c d e f j) kn kx kr n (E_4 a b c d e f g)
  | 0,_=>rfl
  | n+1,g=>by
    rw [S_M,D_P]
    congr 1
    funext i
    exact L_3 a b c d e f j kn kx kr n i
theorem a_B {rest} (h:GoodL (R:=R) L_2 0 (loopAt Tryz.f22 0) rest):GoodL (R:=R) L_2 0 (loopAt Tryz.f22 0) (loopAlt G_H J_u rest):=by
  refine goodL_alt (fun l kn kx kr r h=>?_) h
  unfold J_u at h
  split at h
  · rename_i b c d a e f g i j m o p q s t u v w y z A B D E F H I J K L M N O Q S U
    exact ⟨_,(L_3 b c d (D'.mk (F'.mk e f g i) j m o) (C'.mk p q s t u v w y (K'.mk z A B D E) F H I J K L) (O'.mk M N (F'.mk O Q S U)) a kn kx kr _ a).symm.trans h⟩
  · cases h
theorem e_9:GoodLoop (R:=R) L_2 0 (loopAt Tryz.f22 0):=goodL_loop (g:=loopAlt G_H J_u loopNil) (fun _ _ _ _=>rfl) (a_B goodL_nil)
noncomputable def U_j (b:D') (a:C') (c:Int) (f:G') (d:O') (k:V->Option R):Option R:=let i:=j_I a d;bif (decide (f.Layer >= i)) then k (V.bool false) else let e:=f_V b a c f;let g:=(((List.length e):Nat):Int);D_P c e g b a d (S_L c e g 0 b a d) 0 (fun j=>k (V.bool false)) k
abbrev q_d (a:D') (b:C') (c:Int) (d:G') (e:O'):List V:=[(D'.v a),(C'.v b),V.int .i64 c,(G'.v d),(O'.v e)]
theorem a_C (a:D') (b:C') (c:Int) (d:G') (e:O') (k:V->Option R):fnK L_2 Tryz.f22 (q_d a b c d e) k=U_j a b c d e k:=by kernel_rfl
theorem y_k (h_J5:r_z) (h_K1:r_E) (h_C5:r_I) (h:∀ (a:D') (b:C') (d:Int) (f:G') (g:O'),O_W a b d f g=true->Real (q_d a b d f g)->U_j a b d f g some=some (V.bool (j_M a b d f g))):p_x:=goodHook1 fun l hp=>by
  unfold p_w at hp
  split at hp
  · rename_i i j m o p q r s t u v w y z A B D F H I J K L M N O Q S U W X Y Z a0 a1 a2 a3
    exact fn_ok (fn:=Tryz.f22) (c:=bodyOf Tryz.f22) (E:=L_2) ⟨by kernel_rfl,(goodCons h_J5 (goodCons h_K1 (goodCons h_C5 goodNil))),rfl,M'⟩ rfl (by kernel_rfl) (by kernel_rfl) (by kernel_rfl) (loopsOK_of _ (by have e:loopsOf (bodyOf Tryz.f22)=[(0,loopAt Tryz.f22 0)]:=(by kernel_rfl);rw [e];simp only [List.forall_mem_cons,List.not_mem_nil,false_implies,implies_true,and_true];exact e_9)) (fun hr=>(a_C (D'.mk (F'.mk i j m o) p q r) (C'.mk s t u v w y z A (K'.mk B D F H I) J K L M N O) Q (G'.mk S U W X) (O'.mk Y Z (F'.mk a0 a1 a2 a3)) some).trans (h (D'.mk (F'.mk i j m o) p q r) (C'.mk s t u v w y z A (K'.mk B D F H I) J K L M N O) Q (G'.mk S U W X) (O'.mk Y Z (F'.mk a0 a1 a2 a3)) hp hr))
  · cases hp
end Go.Vm
