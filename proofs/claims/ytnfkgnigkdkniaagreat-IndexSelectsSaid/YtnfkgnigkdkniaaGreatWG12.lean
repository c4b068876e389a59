import Derived.Test.YtnfkgnigkdkniaaGreatWM
set_option linter.unusedVariables false
set_option linter.unusedSimpArgs false
set_option maxRecDepth 100000
noncomputable section
namespace Go.Vm
open Go.Proofs
variable {R:Type}
noncomputable def S_N (c:Rows) (a b:Int) (d:D') (e:C') (f:O') (g:Rows):Nat:=Int.toNat (a-b)+1
noncomputable def J_v (d:Rows) (i:Int) (e:D') (f:C') (g:O') (a:Int) (c:Rows) (again:Int->Rows->Option R) (kn:Int->Rows->Option R):Option R:=bif (decide (a<i)) then bif (inR a (List.length d)) then let j:=List.getD d (Int.toNat a) [];let b:=V'.of j;let m:=decide (b.Span.From<b.Span.To);bif (m==true) then bif (O_W e f b.Tile b.ID g) then let o:=j_M e f b.Tile b.ID g;bif o then bif (roomOK ((List.length c)+(1:Nat)) 16) then let p:=c++[(U'.row b.Span)];let q:=IntKind.wrap .i64 (a+1);again q p else none else let r:=IntKind.wrap .i64 (a+1);again r c else none else let s:=IntKind.wrap .i64 (a+1);again s c else none else kn a c
noncomputable def D_Q (a:Rows) (b:Int) (c:D') (d:C') (e:O'):Nat->Int->Rows->(Int->Rows->Option R)->Option R
  | 0,_,_,_=>none
  | n+1,f,g,kn=>J_v a b c d e f g (fun i j=>D_Q a b c d e n i j kn) kn
noncomputable def G_I:ST:=⟨A_j 4 (.ptr 0 0 0::.ptr 1 0 0::.undef::.ptr 2 0 0::A_j 5 (.vs 30::A_j 27 (.data V'.sh::.int .i64::.int .i64::A_j 108 []))),[(0,.var D'.sh false D'.ts),(1,.var C'.sh false C'.ts),(2,.var O'.sh false O'.ts),(30,.vec U'.sh false)],35⟩
noncomputable def E_5 (d:Rows) (e:Int) (b:D') (a:C') (c:O') (f:Int) (g:Rows):St:=G_I.put [.r d,.i e,.i f,.i b.Area.X0,.i b.Area.Y0,.i b.Area.X1,.i b.Area.Y1,.i b.TileW,.i b.TileH,.r b.Components,.i a.Kernel,.i a.Levels,.i a.Color,.i a.BlockX,.i a.BlockY,.r a.Precincts,.i a.Order,.i a.Layers,.b a.Mode.Bypass,.b a.Mode.Restart,.b a.Mode.Reset,.b a.Mode.Causal,.b a.Mode.Symbols,.b a.Divide,.b a.Sync,.b a.Fence,.r a.Steps,.i a.Dead,.i a.Shift,.i c.Layers,.i c.Drop,.i c.Window.X0,.i c.Window.Y0,.i c.Window.X1,.i c.Window.Y1,.r g]
noncomputable def J_w:LoopG R:=fun l kn _ _=>match l with
  | .r a::.i b::.i Q::.i c::.i d::.i e::.i f::.i g::.i i::.r j::.i m::.i o::.i p::.i q::.i r::.r s::.i t::.i u::.b v::.b w::.b y::.b z::.b A::.b B::.b D::.b E::.r F::.i H::.i I::.i J::.i K::.i L::.i M::.i N::.i O::.r S::[]=>D_Q a b (D'.mk (F'.mk c d e f) g i j) (C'.mk m o p q r s t u (K'.mk v w y z A) B D E F H I) (O'.mk J K (F'.mk L M N O)) (S_N a b Q (D'.mk (F'.mk c d e f) g i j) (C'.mk m o p q r s t u (K'.mk v w y z A) B D E F H I) (O'.mk J K (F'.mk L M N O)) S) Q S (fun U W=>kn (E_5 a b (D'.mk (F'.mk c d e f) g i j) (C'.mk m o p q r s t u (K'.mk v w y z A) B D E F H I) (O'.mk J K (F'.mk L M N O)) U W))
  | _=>none
noncomputable def N_D (b a:Int) (c:Rows):Nat:=Int.toNat a+1
noncomputable def D_R (s:Int) (a:Int) (b:Rows) (again:Int->Rows->Option R) (kn:Int->Rows->Option R):Option R:=let c:=decide (a > 0);bif ((inR a (List.length b))||!(c==true)) then let i:=V.toInt (List.getD (List.getD b (Int.toNat a) []) 0 V.undef);let f:=IntKind.wrap .i64 (a-1);bif ((inR f (List.length b))||!(c==true)) then let j:=V.toInt (List.getD (List.getD b (Int.toNat f) []) 0 V.undef);let m:Bool:=(bif c then (decide (i<j)) else false);bif m then bif (inR a (List.length b)) then let o:=U'.of (List.getD b (Int.toNat a) []);let g:=IntKind.wrap .i64 (a-1);bif (inR g (List.length b)) then let p:=U'.of (List.getD b (Int.toNat g) []);bif (inR a (List.length b)) then let d:=List.set b (Int.toNat a) (setCells (List.getD b (Int.toNat a) []) 0 (U'.row p));let e:=IntKind.wrap .i64 (a-1);bif (inR e (List.length d)) then let q:=List.set d (Int.toNat e) (setCells (List.getD d (Int.toNat e) []) 0 (U'.row o));let r:=IntKind.wrap .i64 (a-1);again r q else none else none else none else none else kn a b else none else none
noncomputable def D_S (a:Int):Nat->Int->Rows->(Int->Rows->Option R)->Option R
  | 0,_,_,_=>none
  | n+1,b,c,kn=>D_R a b c (fun d e=>D_S a n d e kn) kn
noncomputable def G_J:ST:=⟨A_j 13 (.vs 30::.undef::.undef::.int .i64::.int .i64::A_j 134 []),[(30,.vec U'.sh false)],80⟩
noncomputable def E_6 (a:Int) (b:Int) (c:Rows):St:=G_J.put [.i a,.i b,.r c]
noncomputable def J_x:LoopG R:=fun l kn _ _=>match l with
  | .i a::.i b::.r c::[]=>D_S a (N_D a b c) b c (fun d e=>kn (E_6 a d e))
  | _=>none
noncomputable def F_B (a:Int) (b:Rows):Nat:=let c:=(((List.length b):Nat):Int);Int.toNat (c-a)+1
noncomputable def D_T (a:Int) (b:Rows) (again:Int->Rows->Option R) (kn:Int->Rows->Option R):Option R:=let c:=(((List.length b):Nat):Int);bif (decide (a<c)) then D_S a (N_D a a b) a b (fun f d=>let e:=IntKind.wrap .i64 (a+1);again e d) else kn a b
noncomputable def B_B:Nat->Int->Rows->(Int->Rows->Option R)->Option R
  | 0,_,_,_=>none
  | n+1,a,b,kn=>D_T a b (fun c d=>B_B n c d kn) kn
noncomputable def G_K:ST:=⟨A_j 13 (.vs 30::.undef::.undef::.int .i64::A_j 135 []),[(30,.vec U'.sh false)],70⟩
noncomputable def E_7 (a:Int) (b:Rows):St:=G_K.put [.i a,.r b]
noncomputable def J_y:LoopG R:=fun l kn _ _=>match l with
  | .i a::.r b::[]=>B_B (F_B a b) a b (fun c d=>kn (E_7 c d))
  | _=>none
noncomputable def J_z (a b:Int) (c d:Rows):Nat:=Int.toNat (a-b)+1
noncomputable def J_A (i:Int) (e:Rows) (c:Int) (a:Rows) (again:Int->Rows->Option R) (kn:Int->Rows->Option R):Option R:=bif (decide (c<i)) then bif (inR c (List.length e)) then let d:=U'.of (List.getD e (Int.toNat c) []);let j:=(((List.length a):Nat):Int);let b:=IntKind.wrap .i64 (j-1);let f:=decide (b >= 0);bif ((inR b (List.length a))||!(f==true)) then let m:=V.toInt (List.getD (List.getD a (Int.toNat b) []) 1 V.undef);let o:=decide (d.From<=m);let p:Bool:=(bif f then o else false);bif p then bif (inR b (List.length a)) then let g:=V.toInt (List.getD (List.getD a (Int.toNat b) []) 1 V.undef);let q:Int:=(bif (decide (d.To > g)) then d.To else g);bif (inR b (List.length a)) then let r:=List.set a (Int.toNat b) (setCells (List.getD a (Int.toNat b) []) 1 [V.int .i64 q]);let s:=IntKind.wrap .i64 (c+1);again s r else none else none else bif (roomOK ((List.length a)+(1:Nat)) 16) then let t:=a++[(U'.row d)];let u:=IntKind.wrap .i64 (c+1);again u t else none else none else none else kn c a
noncomputable def B_C (a:Int) (b:Rows):Nat->Int->Rows->(Int->Rows->Option R)->Option R
  | 0,_,_,_=>none
  | n+1,c,d,kn=>J_A a b c d (fun e f=>B_C a b n e f kn) kn
noncomputable def G_L:ST:=⟨A_j 19 (.vs 127::A_j 93 (.vs 30::.int .i64::.int .i64::A_j 36 [])),[(30,.vec U'.sh false),(127,.vec U'.sh false)],132⟩
noncomputable def E_8 (a:Int) (b:Rows) (c:Int) (d:Rows):St:=G_L.put [.i a,.i c,.r b,.r d]
noncomputable def J_B:LoopG R:=fun l kn _ _=>match l with
  | .i a::.i c::.r b::.r d::[]=>B_C a b (J_z a c b d) c d (fun e f=>kn (E_8 a b e f))
  | _=>none
noncomputable def A_R:Env R:=⟨Tryz.prog,callCons 20 z_v (callCons 21 z_G (callCons 22 z_T callNil)),fun id=>bif Nat.beq id 0 then loopAlt G_I J_w loopNil else (fun id=>bif Nat.beq id 4 then loopAlt G_J J_x loopNil else (fun id=>bif Nat.beq id 2 then loopAlt G_K J_y loopNil else (fun id=>bif Nat.beq id 6 then loopAlt G_L J_B loopNil else (fun _ _ _ _ _=>none) id) id) id) id,Tryz.f7.results.toList,maskTab 152 [(0,0x1fe00000000fff00007f800000000000b4),(1,0x1fe00000000fff00007f800000000008b4),(2,0x1fe00000000fff00007f800000800008b4),(3,0x300),(4,0x1fe00000000fff00007f800000000010b4),(5,0x1fe00000000fff00007f800040000010b4),(6,0x300),(7,0x1fe00000000fff00007f800000000020b4),(8,0x1fe00000000fff00007f800e00000020b0),(9,0x1fe00000000fff00007f801e00000020b0),(10,0x1fe00000000fff00007f800e000000a0b0),(11,0x1fe00000000fff0000ff800e000000a0b0),(12,0x1fe00000000fff00007f800e00000020b0),(13,0x1fe00000000fff00007f800e00000020b0),(14,0x1fe00000000fff00000000000000012000),(15,0x1fe00000000fff02000000000000012000),(16,0x1fe00000000fff00000000000000012000),(17,0x1fe00000000fff00000000000000032000),(18,0x1fe00000001fff00000000000000032000),(19,0x1fe00000000fff00000000000000032000),(20,0x1fe00000000fff00000000000000072000),(21,0x1fe00000000fff00000000000000072000),(22,0x1fe00000000fff00000000000000032000),(23,0x1fe0000000000000000000000000082000),(24,0x1fe00e0000000000000000000000080000),(25,0x1fe01e0000000000000000000000080000),(26,0x1fe00e0000000000000000000000280000),(27,0x1fe00e0000000000000000000000680000),(28,0x3fe00e0000000000000000000000680000),(29,0x1fe00e0000000000000000000000080000),(30,0x1fe00e0000000000000000000000080000),(31,0x1fe00e0000000000000000000000080000),(32,0x300)],maskAt [(1,35),(2,5),(4,15),(5,70),(6,17),(8,20),(9,80),(10,25),(12,27),(13,132),(14,30),(16,32),(18,39),(20,40),(22,44),(24,61),(26,67),(28,69),(30,74),(32,124),(34,78),(36,84),(38,121),(40,100),(42,106),(44,115),(46,127),(48,129),(50,136),(52,137),(54,141),(56,145),(58,157),(60,170),(62,175),(64,177)],noSort⟩
theorem S_O (a:Rows) (b:Int) (c:D') (d:C') (e:O') (i:Int) (j:Rows) (kn:St->Option R) (kx:Nat->St->Option R) (kr:V->Option R) (n:Nat) (m:Int) (o:Rows) :
    loopN A_R 0 (loopAt Tryz.f7 0) (E_5 a b c d e i j) kn kx kr (n+1) (E_5 a b c d e m o) =
    J_v a b c d e m o (fun f g=>loopN A_R 0 (loopAt Tryz.f7 0) (E_5 a b c d e i j) kn kx kr n (E_5 a b c d e f g)) (fun f g=>kn (E_5 a b c d e f g)):=by kernel_rfl
theorem L_4 (a:Rows) (b:Int) (c:D') (d:C') (e:O') (m:Int) (o:Rows) (kn:St->Option R) (kx:Nat->St->Option R) (kr:V->Option R):∀ (n:Nat) (f:Int) (g:Rows),
    D_Q a b c d e n f g (fun i j=>kn (E_5 a b c d e i j))=loopN A_R 0 (loopAt Tryz.f7 0) (E_5 a b c d e m o) kn kx kr n (E_5 a b c d e f g)
  | 0,_,_=>rfl
  | n+1,f,g=>by
    rw [S_O,D_Q]
    congr 1
    funext i j
    exact L_4 a b c d e m o kn kx kr n i j
theorem a_D {rest} (h:GoodL (R:=R) A_R 0 (loopAt Tryz.f7 0) rest):GoodL (R:=R) A_R 0 (loopAt Tryz.f7 0) (loopAlt G_I J_w rest):=by
  refine goodL_alt (fun l kn kx kr r h=>?_) h
  unfold J_w at h
  split at h
  · rename_i c d a e f g i j m o p q s t u v w y z A B D E F H I J K L M N O Q S U b
    exact ⟨_,(L_4 c d (D'.mk (F'.mk e f g i) j m o) (C'.mk p q s t u v w y (K'.mk z A B D E) F H I J K L) (O'.mk M N (F'.mk O Q S U)) a b kn kx kr _ a b).symm.trans h⟩
  · cases h
theorem S_P (a:Int) (d:Int) (e:Rows) (kn:St->Option R) (kx:Nat->St->Option R) (kr:V->Option R) (n:Nat) (f:Int) (g:Rows) :
    loopN A_R 4 (loopAt Tryz.f7 2) (E_6 a d e) kn kx kr (n+1) (E_6 a f g) =
    D_R a f g (fun b c=>loopN A_R 4 (loopAt Tryz.f7 2) (E_6 a d e) kn kx kr n (E_6 a b c)) (fun b c=>kn (E_6 a b c)):=by kernel_rfl
theorem L_5 (a:Int) (f:Int) (g:Rows) (kn:St->Option R) (kx:Nat->St->Option R) (kr:V->Option R):∀ (n:Nat) (b:Int) (c:Rows),
    D_S a n b c (fun d e=>kn (E_6 a d e))=loopN A_R 4 (loopAt Tryz.f7 2) (E_6 a f g) kn kx kr n (E_6 a b c)
  | 0,_,_=>rfl
  | n+1,b,c=>by
    rw [S_P,D_S]
    congr 1
    funext d e
    exact L_5 a f g kn kx kr n d e
theorem a_E {rest} (h:GoodL (R:=R) A_R 4 (loopAt Tryz.f7 2) rest):GoodL (R:=R) A_R 4 (loopAt Tryz.f7 2) (loopAlt G_J J_x rest):=by
  refine goodL_alt (fun l kn kx kr r h=>?_) h
  unfold J_x at h
  split at h
  · rename_i c a b
    exact ⟨_,(L_5 c a b kn kx kr _ a b).symm.trans h⟩
  · cases h
theorem S_Q (c:Int) (d:Rows) (kn:St->Option R) (kx:Nat->St->Option R) (kr:V->Option R) (n:Nat) (e:Int) (f:Rows) :
    loopN A_R 2 (loopAt Tryz.f7 1) (E_7 c d) kn kx kr (n+1) (E_7 e f) =
    D_T e f (fun a b=>loopN A_R 2 (loopAt Tryz.f7 1) (E_7 c d) kn kx kr n (E_7 a b)) (fun a b=>kn (E_7 a b)):=by kernel_rfl
theorem L_6 (e:Int) (f:Rows) (kn:St->Option R) (kx:Nat->St->Option R) (kr:V->Option R):∀ (n:Nat) (a:Int) (b:Rows),
    B_B n a b (fun c d=>kn (E_7 c d))=loopN A_R 2 (loopAt Tryz.f7 1) (E_7 e f) kn kx kr n (E_7 a b)
  | 0,_,_=>rfl
  | n+1,a,b=>by
    rw [S_Q,B_B]
    congr 1
    funext c d
    exact L_6 e f kn kx kr n c d
theorem a_F {rest} (h:GoodL (R:=R) A_R 2 (loopAt Tryz.f7 1) rest):GoodL (R:=R) A_R 2 (loopAt Tryz.f7 1) (loopAlt G_K J_y rest):=by
  refine goodL_alt (fun l kn kx kr r h=>?_) h
  unfold J_y at h
  split at h
  · rename_i a b
    exact ⟨_,(L_6 a b kn kx kr _ a b).symm.trans h⟩
  · cases h
theorem S_R (a:Int) (b:Rows) (e:Int) (f:Rows) (kn:St->Option R) (kx:Nat->St->Option R) (kr:V->Option R) (n:Nat) (g:Int) (i:Rows) :
    loopN A_R 6 (loopAt Tryz.f7 3) (E_8 a b e f) kn kx kr (n+1) (E_8 a b g i) =
    J_A a b g i (fun c d=>loopN A_R 6 (loopAt Tryz.f7 3) (E_8 a b e f) kn kx kr n (E_8 a b c d)) (fun c d=>kn (E_8 a b c d)):=by kernel_rfl
theorem L_7 (a:Int) (b:Rows) (g:Int) (i:Rows) (kn:St->Option R) (kx:Nat->St->Option R) (kr:V->Option R):∀ (n:Nat) (c:Int) (d:Rows),
    B_C a b n c d (fun e f=>kn (E_8 a b e f))=loopN A_R 6 (loopAt Tryz.f7 3) (E_8 a b g i) kn kx kr n (E_8 a b c d)
  | 0,_,_=>rfl
  | n+1,c,d=>by
    rw [S_R,B_C]
    congr 1
    funext e f
    exact L_7 a b g i kn kx kr n e f
theorem a_G {rest} (h:GoodL (R:=R) A_R 6 (loopAt Tryz.f7 3) rest):GoodL (R:=R) A_R 6 (loopAt Tryz.f7 3) (loopAlt G_L J_B rest):=by
  refine goodL_alt (fun l kn kx kr r h=>?_) h
  unfold J_B at h
  split at h
  · rename_i c a d b
    exact ⟨_,(L_7 c d a b kn kx kr _ a b).symm.trans h⟩
  · cases h
theorem f_a:GoodLoop (R:=R) A_R 0 (loopAt Tryz.f7 0):=goodL_loop (g:=loopAlt G_I J_w loopNil) (fun _ _ _ _=>rfl) (a_D goodL_nil)
theorem f_b:GoodLoop (R:=R) A_R 2 (loopAt Tryz.f7 1):=goodL_loop (g:=loopAlt G_K J_y loopNil) (fun _ _ _ _=>rfl) (a_F goodL_nil)
theorem f_c:GoodLoop (R:=R) A_R 4 (loopAt Tryz.f7 2):=goodL_loop (g:=loopAlt G_J J_x loopNil) (fun _ _ _ _=>rfl) (a_E goodL_nil)
theorem f_d:GoodLoop (R:=R) A_R 6 (loopAt Tryz.f7 3):=goodL_loop (g:=loopAlt G_L J_B loopNil) (fun _ _ _ _=>rfl) (a_G goodL_nil)
noncomputable def U_k (a:D') (b:C') (c:Rows) (d:O') (k:V->Option R):Option R:=bif (R_j a b d) then let f:=g_s a b d;bif (f.2 != 0) then k (V.tup [(V.data U'.sh []),V.int .i64 f.2]) else bif (V_j a b c) then let g:=V_6 a b c;bif (g != 0) then k (V.tup [(V.data U'.sh []),V.int .i64 g]) else let i:=(((List.length c):Nat):Int);D_Q c i a b d (S_N c i 0 a b d []) 0 [] (fun p j=>B_B (F_B 1 j) 1 j (fun q e=>let m:=(((List.length e):Nat):Int);B_C m e (J_z m 0 e []) 0 [] (fun r o=>k (V.tup [V.data U'.sh o,(V.int .i64 0)])))) else none else none
abbrev q_e (a:D') (b:C') (c:Rows) (d:O'):List V:=[(D'.v a),(C'.v b),V.data V'.sh c,(O'.v d)]
theorem a_H (a:D') (b:C') (c:Rows) (d:O') (k:V->Option R):fnK A_R Tryz.f7 (q_e a b c d) k=U_k a b c d k:=by kernel_rfl
theorem y_l (h_H5:r_r) (h_H9:p_j) (h_B6:p_x) (h:∀ (a:D') (b:C') (d:Rows) (f:O'),O_X a b d f=true->Real (q_e a b d f)->U_k a b d f some=some (V.tup [(V.data U'.sh (V_k a b d f).1),(V.int .i64 (V_k a b d f).2)])):r_J:=goodHook1 fun l hp=>by
  unfold p_y at hp
  split at hp
  · rename_i g i j m o p q r s t u v w y z A B D F H I J K L M N O Q S U W X Y
    exact fn_ok (fn:=Tryz.f7) (c:=bodyOf Tryz.f7) (E:=A_R) ⟨by kernel_rfl,(goodCons h_H5 (goodCons h_H9 (goodCons h_B6 goodNil))),rfl,M'⟩ rfl (by kernel_rfl) (by kernel_rfl) (by kernel_rfl) (loopsOK_of _ (by have e:loopsOf (bodyOf Tryz.f7)=[(0,loopAt Tryz.f7 0),(2,loopAt Tryz.f7 1),(4,loopAt Tryz.f7 2),(6,loopAt Tryz.f7 3)]:=(by kernel_rfl);rw [e];simp only [List.forall_mem_cons,List.not_mem_nil,false_implies,implies_true,and_true];exact ⟨f_a,f_b,f_c,f_d⟩)) (fun hr=>(a_H (D'.mk (F'.mk g i j m) o p q) (C'.mk r s t u v w y z (K'.mk A B D F H) I J K L M N) O (O'.mk Q S (F'.mk U W X Y)) some).trans (h (D'.mk (F'.mk g i j m) o p q) (C'.mk r s t u v w y z (K'.mk A B D F H) I J K L M N) O (O'.mk Q S (F'.mk U W X Y)) hp hr))
  · cases hp
noncomputable def S_S (c d:Rows) (a b:Int):Nat:=Int.toNat (a-b)+1
noncomputable def J_C (b c:Rows) (f:Int) (a:Int) (again:Int->Option R) (kn:Int->Option R) (kr:V->Option R):Option R:=bif (decide (a<f)) then bif (inR a (List.length b)) then let g:=List.getD b (Int.toNat a) [];let d:=U'.of g;bif (inR a (List.length c)) then let i:=List.getD c (Int.toNat a) [];let e:=U'.of i;let j:=!((d.From==e.From)&&((d.To==e.To)&&true));bif j then kr (V.bool false) else let m:=IntKind.wrap .i64 (a+1);again m else none else none else kn a
noncomputable def D_U (a b:Rows) (c:Int):Nat->Int->(Int->Option R)->(V->Option R)->Option R
  | 0,_,_,_=>none
  | n+1,d,kn,kr=>J_C a b c d (fun e=>D_U a b c n e kn kr) kn kr
noncomputable def G_M:ST:=⟨.data U'.sh::.data U'.sh::A_j 10 (.int .i64::.int .i64::A_j 12 []),[],10⟩
noncomputable def E_9 (a b:Rows) (c:Int) (d:Int):St:=G_M.put [.r a,.r b,.i c,.i d]
noncomputable def J_D:LoopG R:=fun l kn _ kr=>match l with
  | .r a::.r b::.i c::.i d::[]=>D_U a b c (S_S a b c d) d (fun e=>kn (E_9 a b c e)) kr
  | _=>none
noncomputable def L_8:Env R:=⟨Tryz.prog,callNil,fun id=>bif Nat.beq id 0 then loopAlt G_M J_D loopNil else (fun _ _ _ _ _=>none) id,Tryz.f8.results.toList,maskTab 26 [(0,0x3),(1,0x403),(2,0x10),(3,0x3003),(4,0x7003),(5,0x3023),(6,0x1003003),(7,0x10),(8,0x3003),(9,0x10)],maskAt [(1,10),(2,1),(4,6),(6,7),(8,14),(10,15),(12,17),(14,26),(16,27),(18,29)],noSort⟩
theorem S_T (a b:Rows) (c:Int) (e:Int) (kn:St->Option R) (kx:Nat->St->Option R) (kr:V->Option R) (n:Nat) (f:Int) :
    loopN L_8 0 (loopAt Tryz.f8 0) (E_9 a b c e) kn kx kr (n+1) (E_9 a b c f) =
    J_C a b c f (fun d=>loopN L_8 0 (loopAt Tryz.f8 0) (E_9 a b c e) kn kx kr n (E_9 a b c d)) (fun d=>kn (E_9 a b c d)) kr:=by kernel_rfl
theorem L_9 (a b:Rows) (c:Int) (f:Int) (kn:St->Option R) (kx:Nat->St->Option R) (kr:V->Option R):∀ (n:Nat) (d:Int),
    D_U a b c n d (fun e=>kn (E_9 a b c e)) kr=loopN L_8 0 (loopAt Tryz.f8 0) (E_9 a b c f) kn kx kr n (E_9 a b c d)
  | 0,_=>rfl
  | n+1,d=>by
    rw [S_T,D_U]
    congr 1
    funext e
    exact L_9 a b c f kn kx kr n e
theorem a_I {rest} (h:GoodL (R:=R) L_8 0 (loopAt Tryz.f8 0) rest):GoodL (R:=R) L_8 0 (loopAt Tryz.f8 0) (loopAlt G_M J_D rest):=by
  refine goodL_alt (fun l kn kx kr r h=>?_) h
  unfold J_D at h
  split at h
  · rename_i b c d a
    exact ⟨_,(L_9 b c d a kn kx kr _ a).symm.trans h⟩
  · cases h
theorem f_e:GoodLoop (R:=R) L_8 0 (loopAt Tryz.f8 0):=goodL_loop (g:=loopAlt G_M J_D loopNil) (fun _ _ _ _=>rfl) (a_I goodL_nil)
noncomputable def U_l (a b:Rows) (k:V->Option R):Option R:=let d:=(((List.length a):Nat):Int);let e:=(((List.length b):Nat):Int);bif (d != e) then k (V.bool false) else let c:=(((List.length a):Nat):Int);D_U a b c (S_S a b c 0) 0 (fun f=>k (V.bool true)) k
abbrev q_f (a b:Rows):List V:=[V.data U'.sh a,V.data U'.sh b]
theorem a_J (a b:Rows) (k:V->Option R):fnK L_8 Tryz.f8 (q_f a b) k=U_l a b k:=by kernel_rfl
theorem y_m (h:∀ (a b:Rows),O_Y a b=true->Real (q_f a b)->U_l a b some=some (V.bool (h_H a b))):r_K:=goodHook1 fun l hp=>by
  unfold p_z at hp
  split at hp
  · rename_i d f
    exact fn_ok (fn:=Tryz.f8) (c:=bodyOf Tryz.f8) (E:=L_8) ⟨by kernel_rfl,goodNil,rfl,M'⟩ rfl (by kernel_rfl) (by kernel_rfl) (by kernel_rfl) (loopsOK_of _ (by have e:loopsOf (bodyOf Tryz.f8)=[(0,loopAt Tryz.f8 0)]:=(by kernel_rfl);rw [e];simp only [List.forall_mem_cons,List.not_mem_nil,false_implies,implies_true,and_true];exact f_e)) (fun hr=>(a_J d f some).trans (h d f hp hr))
  · cases hp
noncomputable def j_e:Env R:=⟨Tryz.prog,callCons 4 y_O (callCons 5 y_R (callCons 6 z_u (callCons 7 z_U (callCons 8 z_V callNil)))),fun _ _ _ _ _=>none,Tryz.f3.results.toList,maskTab 53 [(0,0x9c000000f0038),(1,0x9c00000100038),(2,0x40),(3,0x9c000000001b8),(4,0x9c00000000780),(5,0x40)],maskAt [(2,4),(4,14),(6,16),(8,28),(10,40)],noSort⟩
noncomputable def f_f (b:D') (c:C') (a:A_d) (k:V->Option R):Option R:=let f:=h_u b c;bif ((!f)==false) then let g:=(((List.length a.Entries):Nat):Int);let i:=decide (g > 600);bif i then bif F_i then let j:=g_q;k (V.bool j) else none else bif (K_M b c a.Entries a.View) then let d:=f_P b c a.Entries a.View;bif (O_X b c a.Entries a.View) then let e:=V_k b c a.Entries a.View;bif ((d.2==e.2)==true) then bif (O_Y d.1 e.1) then let m:=h_H d.1 e.1;bif (m==true) then bif F_i then let o:=g_q;k (V.bool o) else none else k (V.bool false) else none else k (V.bool false) else none else none else bif F_i then let p:=g_q;k (V.bool p) else none
abbrev y_n (a:D') (b:C') (c:A_d):List V:=[(D'.v a),(C'.v b),(A_d.v c)]
theorem a_K (a:D') (b:C') (c:A_d) (k:V->Option R):fnK j_e Tryz.f3 (y_n a b c) k=f_f a b c k:=by kernel_rfl
theorem y_o (a:D') (b:C') (c:A_d):R_l a b c=true->f_f a b c some=some ((fun (m:Bool)=>(V.bool m)) (m_1 a b c)):=by
  repeat' (first | exact fun _=>rfl | exact fun h=>absurd h (by decide) | refine B_b (v:=(fun (m:Bool)=>(V.bool m))) ?_ ?_)
theorem a_L (h_M6:q_U) (h_L2:s_W) (h_G7:r_q) (h_I6:r_J) (h_F0:r_K):z_X:=goodHook1 fun l hp=>by
  unfold p_A at hp
  split at hp
  · rename_i a b d f g i j m o q r s t u v w y z A B D F H I J K L M N O Q S U
    exact fn_ok (fn:=Tryz.f3) (c:=bodyOf Tryz.f3) (E:=j_e) ⟨by kernel_rfl,(goodCons h_M6 (goodCons h_L2 (goodCons h_G7 (goodCons h_I6 (goodCons h_F0 goodNil))))),rfl,M'⟩ rfl (by kernel_rfl) (by kernel_rfl) (by kernel_rfl) (loopsOK_of _ (by have e:loopsOf (bodyOf Tryz.f3)=[]:=(by kernel_rfl);rw [e];intro p hp;cases hp)) (fun hr=>(a_K (D'.mk (F'.mk a b d f) g i j) (C'.mk m o q r s t u v (K'.mk w y z A B) D F H I J K) (A_d.mk L (O'.mk M N (F'.mk O Q S U))) some).trans (y_o (D'.mk (F'.mk a b d f) g i j) (C'.mk m o q r s t u v (K'.mk w y z A B) D F H I J K) (A_d.mk L (O'.mk M N (F'.mk O Q S U))) hp))
  · cases hp
end Go.Vm
