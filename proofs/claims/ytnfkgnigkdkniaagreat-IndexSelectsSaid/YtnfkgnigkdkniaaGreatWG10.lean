import Derived.Test.YtnfkgnigkdkniaaGreatWM
set_option linter.unusedVariables false
set_option linter.unusedSimpArgs false
set_option maxRecDepth 100000
noncomputable section
namespace Go.Vm
open Go.Proofs
variable {R:Type}
noncomputable def S_r (c d e f g i a:Int) (j:D') (b:C') (m:Rows) (o:F') (p:X'):Nat:=let q:=decide (a<b.Layers);Int.toNat (b.Layers-a)+1
noncomputable def I_5 (p d e q r f:Int) (s:D') (g:C') (t:F') (i:X') (b:Int) (c:Rows) (again:Int->Rows->Option R) (kn:Int->Rows->Option R):Option R:=let j:=decide (b<g.Layers);bif j then let a:=q_N g.Order (G'.mk d e f b) i;bif (roomOK ((List.length c)+(1:Nat)) 80) then let m:=c++[[V.int .i64 d,V.int .i64 e,V.int .i64 f,V.int .i64 b,V.int .i64 a.e0,V.int .i64 a.e1,V.int .i64 a.e2,V.int .i64 a.e3,V.int .i64 a.e4,V.int .i64 a.e5]];let o:=IntKind.wrap .i64 (b+1);again o m else none else kn b c
noncomputable def C_H (a b c d e f:Int) (g:D') (i:C') (j:F') (m:X'):Nat->Int->Rows->(Int->Rows->Option R)->Option R
  | 0,_,_,_=>none
  | n+1,o,p,kn=>I_5 a b c d e f g i j m o p (fun q r=>C_H a b c d e f g i j m n q r kn) kn
noncomputable def G_v:ST:=⟨.undef::.undef::.int .i64::.ptr 0 0 0::.ptr 1 0 0::.undef::.undef::.vs 5::.int .i64::.int .i64::.ptr 33 0 0::.int .i64::.int .i64::.int .i64::.ptr 54 0 0::.int .i64::A_j 60 [],[(0,.var D'.sh false D'.ts),(1,.var C'.sh false C'.ts),(5,.vec Z'.sh false),(33,.var F'.sh false F'.ts),(54,.var U'.sh false U'.ts)],57⟩
noncomputable def E_S (e f g i j m:Int) (b:D') (a:C') (c:F') (d:X') (o:Int) (p:Rows):St:=G_v.put [.i e,.i f,.i g,.i i,.i j,.i m,.i o,.i b.Area.X0,.i b.Area.Y0,.i b.Area.X1,.i b.Area.Y1,.i b.TileW,.i b.TileH,.r b.Components,.i a.Kernel,.i a.Levels,.i a.Color,.i a.BlockX,.i a.BlockY,.r a.Precincts,.i a.Order,.i a.Layers,.b a.Mode.Bypass,.b a.Mode.Restart,.b a.Mode.Reset,.b a.Mode.Causal,.b a.Mode.Symbols,.b a.Divide,.b a.Sync,.b a.Fence,.r a.Steps,.i a.Dead,.i a.Shift,.r p,.i c.X0,.i c.Y0,.i c.X1,.i c.Y1,.i d.X,.i d.Y]
noncomputable def I_6:LoopG R:=fun l kn _ _=>match l with
  | .i a::.i b::.i c::.i d::.i e::.i f::.i X::.i g::.i i::.i j::.i m::.i o::.i p::.r q::.i r::.i s::.i t::.i u::.i v::.r w::.i y::.i z::.b A::.b B::.b D::.b E::.b F::.b H::.b I::.b J::.r K::.i L::.i M::.r Y::.i N::.i O::.i Q::.i S::.i U::.i W::[]=>C_H a b c d e f (D'.mk (F'.mk g i j m) o p q) (C'.mk r s t u v w y z (K'.mk A B D E F) H I J K L M) (F'.mk N O Q S) (X'.mk U W) (S_r a b c d e f X (D'.mk (F'.mk g i j m) o p q) (C'.mk r s t u v w y z (K'.mk A B D E F) H I J K L M) Y (F'.mk N O Q S) (X'.mk U W)) X Y (fun Z a0=>kn (E_S a b c d e f (D'.mk (F'.mk g i j m) o p q) (C'.mk r s t u v w y z (K'.mk A B D E F) H I J K L M) (F'.mk N O Q S) (X'.mk U W) Z a0))
  | _=>none
noncomputable def N_z (e f g a b c:Int) (i:D') (j:C') (m:Rows) (o:F'):Nat:=let d:=IntKind.wrap .i64 (a*b);Int.toNat (d-c)+1
noncomputable def I_7 (m b c g i:Int) (d:D') (e:C') (f:F') (a:Int) (j:Rows) (again:Int->Rows->Option R) (kn:Int->Rows->Option R):Option R:=let p:=IntKind.wrap .i64 (g*i);bif (decide (a<p)) then bif (O_T d e f b c a) then let o:=m_o d e f b c a;C_H m b c g i a d e f o (S_r m b c g i a 0 d e j f o) 0 j (fun s q=>let r:=IntKind.wrap .i64 (a+1);again r q) else none else kn a j
noncomputable def B_0 (a b c d e:Int) (f:D') (g:C') (i:F'):Nat->Int->Rows->(Int->Rows->Option R)->Option R
  | 0,_,_,_=>none
  | n+1,j,m,kn=>I_7 a b c d e f g i j m (fun o p=>B_0 a b c d e f g i n o p kn) kn
noncomputable def G_w:ST:=⟨.undef::.undef::.int .i64::.ptr 0 0 0::.ptr 1 0 0::.undef::.undef::.vs 5::.int .i64::.int .i64::.ptr 33 0 0::.int .i64::.int .i64::.int .i64::A_j 62 [],[(0,.var D'.sh false D'.ts),(1,.var C'.sh false C'.ts),(5,.vec Z'.sh false),(33,.var F'.sh false F'.ts)],38⟩
noncomputable def E_T (d e f g i:Int) (b:D') (a:C') (c:F') (j:Int) (m:Rows):St:=G_w.put [.i d,.i e,.i f,.i g,.i i,.i j,.i b.Area.X0,.i b.Area.Y0,.i b.Area.X1,.i b.Area.Y1,.i b.TileW,.i b.TileH,.r b.Components,.i a.Kernel,.i a.Levels,.i a.Color,.i a.BlockX,.i a.BlockY,.r a.Precincts,.i a.Order,.i a.Layers,.b a.Mode.Bypass,.b a.Mode.Restart,.b a.Mode.Reset,.b a.Mode.Causal,.b a.Mode.Symbols,.b a.Divide,.b a.Sync,.b a.Fence,.r a.Steps,.i a.Dead,.i a.Shift,.r m,.i c.X0,.i c.Y0,.i c.X1,.i c.Y1]
noncomputable def I_8:LoopG R:=fun l kn _ _=>match l with
  | .i a::.i b::.i c::.i d::.i e::.i S::.i f::.i g::.i i::.i j::.i m::.i o::.r p::.i q::.i r::.i s::.i t::.i u::.r v::.i w::.i y::.b z::.b A::.b B::.b D::.b E::.b F::.b H::.b I::.r J::.i K::.i L::.r U::.i M::.i N::.i O::.i Q::[]=>B_0 a b c d e (D'.mk (F'.mk f g i j) m o p) (C'.mk q r s t u v w y (K'.mk z A B D E) F H I J K L) (F'.mk M N O Q) (N_z a b c d e S (D'.mk (F'.mk f g i j) m o p) (C'.mk q r s t u v w y (K'.mk z A B D E) F H I J K L) U (F'.mk M N O Q)) S U (fun W X=>kn (E_T a b c d e (D'.mk (F'.mk f g i j) m o p) (C'.mk q r s t u v w y (K'.mk z A B D E) F H I J K L) (F'.mk M N O Q) W X))
  | _=>none
noncomputable def N_A (c d a:Int) (e:D') (b:C') (f:Rows):Nat:=let g:=decide (a<=b.Levels);Int.toNat (b.Levels-a)+2
noncomputable def I_9 (d e:Int) (f:D') (c:C') (a:Int) (g:Rows) (again:Int->Rows->Option R) (kn:Int->Rows->Option R):Option R:=let i:=decide (a<=c.Levels);bif i then let b:=H_e f c d e a;B_0 d e a b.2.1 b.2.2 f c b.1 (N_z d e a b.2.1 b.2.2 0 f c g b.1) 0 g (fun o j=>let m:=IntKind.wrap .i64 (a+1);again m j) else kn a g
noncomputable def B_1 (a b:Int) (c:D') (d:C'):Nat->Int->Rows->(Int->Rows->Option R)->Option R
  | 0,_,_,_=>none
  | n+1,e,f,kn=>I_9 a b c d e f (fun g i=>B_1 a b c d n g i kn) kn
noncomputable def G_x:ST:=⟨.undef::.undef::.int .i64::.ptr 0 0 0::.ptr 1 0 0::.undef::.undef::.vs 5::.int .i64::.int .i64::A_j 66 [],[(0,.var D'.sh false D'.ts),(1,.var C'.sh false C'.ts),(5,.vec Z'.sh false)],15⟩
noncomputable def E_U (c d:Int) (b:D') (a:C') (e:Int) (f:Rows):St:=G_x.put [.i c,.i d,.i e,.i b.Area.X0,.i b.Area.Y0,.i b.Area.X1,.i b.Area.Y1,.i b.TileW,.i b.TileH,.r b.Components,.i a.Kernel,.i a.Levels,.i a.Color,.i a.BlockX,.i a.BlockY,.r a.Precincts,.i a.Order,.i a.Layers,.b a.Mode.Bypass,.b a.Mode.Restart,.b a.Mode.Reset,.b a.Mode.Causal,.b a.Mode.Symbols,.b a.Divide,.b a.Sync,.b a.Fence,.r a.Steps,.i a.Dead,.i a.Shift,.r f]
noncomputable def J_a:LoopG R:=fun l kn _ _=>match l with
  | .i a::.i b::.i J::.i c::.i d::.i e::.i f::.i g::.i i::.r j::.i m::.i o::.i p::.i q::.i r::.r s::.i t::.i u::.b v::.b w::.b y::.b z::.b A::.b B::.b D::.b E::.r F::.i H::.i I::.r K::[]=>B_1 a b (D'.mk (F'.mk c d e f) g i j) (C'.mk m o p q r s t u (K'.mk v w y z A) B D E F H I) (N_A a b J (D'.mk (F'.mk c d e f) g i j) (C'.mk m o p q r s t u (K'.mk v w y z A) B D E F H I) K) J K (fun L M=>kn (E_U a b (D'.mk (F'.mk c d e f) g i j) (C'.mk m o p q r s t u (K'.mk v w y z A) B D E F H I) L M))
  | _=>none
noncomputable def S_s (d a:Int) (b:D') (e:C') (f:Rows):Nat:=let c:=(((List.length b.Components):Nat):Int);Int.toNat (c-a)+1
noncomputable def J_b (d:Int) (b:D') (e:C') (a:Int) (c:Rows) (again:Int->Rows->Option R) (kn:Int->Rows->Option R):Option R:=let f:=(((List.length b.Components):Nat):Int);bif (decide (a<f)) then B_1 d a b e (N_A d a 0 b e c) 0 c (fun j g=>let i:=IntKind.wrap .i64 (a+1);again i g) else kn a c
noncomputable def C_I (a:Int) (b:D') (c:C'):Nat->Int->Rows->(Int->Rows->Option R)->Option R
  | 0,_,_,_=>none
  | n+1,d,e,kn=>J_b a b c d e (fun f g=>C_I a b c n f g kn) kn
noncomputable def G_y:ST:=⟨.undef::.undef::.int .i64::.ptr 0 0 0::.ptr 1 0 0::.undef::.undef::.vs 5::.int .i64::A_j 67 [],[(0,.var D'.sh false D'.ts),(1,.var C'.sh false C'.ts),(5,.vec Z'.sh false)],6⟩
noncomputable def E_V (c:Int) (b:D') (a:C') (d:Int) (e:Rows):St:=G_y.put [.i c,.i d,.i b.Area.X0,.i b.Area.Y0,.i b.Area.X1,.i b.Area.Y1,.i b.TileW,.i b.TileH,.r b.Components,.i a.Kernel,.i a.Levels,.i a.Color,.i a.BlockX,.i a.BlockY,.r a.Precincts,.i a.Order,.i a.Layers,.b a.Mode.Bypass,.b a.Mode.Restart,.b a.Mode.Reset,.b a.Mode.Causal,.b a.Mode.Symbols,.b a.Divide,.b a.Sync,.b a.Fence,.r a.Steps,.i a.Dead,.i a.Shift,.r e]
noncomputable def J_c:LoopG R:=fun l kn _ _=>match l with
  | .i a::.i I::.i b::.i c::.i d::.i e::.i f::.i g::.r i::.i j::.i m::.i o::.i p::.i q::.r r::.i s::.i t::.b u::.b v::.b w::.b y::.b z::.b A::.b B::.b D::.r E::.i F::.i H::.r J::[]=>C_I a (D'.mk (F'.mk b c d e) f g i) (C'.mk j m o p q r s t (K'.mk u v w y z) A B D E F H) (S_s a I (D'.mk (F'.mk b c d e) f g i) (C'.mk j m o p q r s t (K'.mk u v w y z) A B D E F H) J) I J (fun K L=>kn (E_V a (D'.mk (F'.mk b c d e) f g i) (C'.mk j m o p q r s t (K'.mk u v w y z) A B D E F H) K L))
  | _=>none
noncomputable def A_Q:Env R:=⟨Tryz.prog,callCons 95 u_q (callCons 137 z_A (callCons 138 z_B callNil)),fun id=>bif Nat.beq id 6 then loopAlt G_v I_6 loopNil else (fun id=>bif Nat.beq id 4 then loopAlt G_w I_8 loopNil else (fun id=>bif Nat.beq id 2 then loopAlt G_x J_a loopNil else (fun id=>bif Nat.beq id 0 then loopAlt G_y J_c loopNil else (fun _ _ _ _ _=>none) id) id) id) id,Tryz.f122.results.toList,maskTab 76 [(0,0x1c),(1,0x9c),(2,0x19c),(3,0x20019c),(4,0x19c),(5,0x39c),(6,0x800039c),(7,0x39c),(8,0x1f9c),(9,0x3f9c),(10,0x100000003f9c),(11,0x3f9c),(12,0x7f9c),(13,0xff9c),(14,0x20000000000ff9c),(15,0xff9c),(16,0x1ff9c),(17,0xff9c),(18,0x40)],maskAt [(1,5),(2,3),(4,4),(5,15),(6,9),(8,92),(9,38),(10,14),(12,19),(13,57),(14,89),(16,23),(18,37),(20,42),(22,86),(24,47),(26,56),(28,61),(30,83),(32,65),(34,72),(36,95)],noSort⟩
theorem S_t (a b c d e f:Int) (g:D') (i:C') (j:F') (m:X') (q:Int) (r:Rows) (kn:St->Option R) (kx:Nat->St->Option R) (kr:V->Option R) (n:Nat) (s:Int) (t:Rows) :
    loopN A_Q 6 (loopAt Tryz.f122 3) (E_S a b c d e f g i j m q r) kn kx kr (n+1) (E_S a b c d e f g i j m s t) =
    I_5 a b c d e f g i j m s t (fun o p=>loopN A_Q 6 (loopAt Tryz.f122 3) (E_S a b c d e f g i j m q r) kn kx kr n (E_S a b c d e f g i j m o p)) (fun o p=>kn (E_S a b c d e f g i j m o p)):=by kernel_rfl
theorem L_K (a b c d e f:Int) (g:D') (i:C') (j:F') (m:X') (s:Int) (t:Rows) (kn:St->Option R) (kx:Nat->St->Option R) (kr:V->Option R):∀ (n:Nat) (o:Int) (p:Rows),
    C_H a b c d e f g i j m n o p (fun q r=>kn (E_S a b c d e f g i j m q r))=loopN A_Q 6 (loopAt Tryz.f122 3) (E_S a b c d e f g i j m s t) kn kx kr n (E_S a b c d e f g i j m o p)
  | 0,_,_=>rfl
  | n+1,o,p=>by
    rw [S_t,C_H]
    congr 1
    funext q r
    exact L_K a b c d e f g i j m s t kn kx kr n q r
theorem Z_Z {rest} (h:GoodL (R:=R) A_Q 6 (loopAt Tryz.f122 3) rest):GoodL (R:=R) A_Q 6 (loopAt Tryz.f122 3) (loopAlt G_v I_6 rest):=by
  refine goodL_alt (fun l kn kx kr r h=>?_) h
  unfold I_6 at h
  split at h
  · rename_i c d e f g i a j m o p q s t u v w y z A B D E F H I J K L M N O Q b S U W X Y Z
    exact ⟨_,(L_K c d e f g i (D'.mk (F'.mk j m o p) q s t) (C'.mk u v w y z A B D (K'.mk E F H I J) K L M N O Q) (F'.mk S U W X) (X'.mk Y Z) a b kn kx kr _ a b).symm.trans h⟩
  · cases h
theorem S_u (a b c d e:Int) (f:D') (g:C') (i:F') (o:Int) (p:Rows) (kn:St->Option R) (kx:Nat->St->Option R) (kr:V->Option R) (n:Nat) (q:Int) (r:Rows) :
    loopN A_Q 4 (loopAt Tryz.f122 2) (E_T a b c d e f g i o p) kn kx kr (n+1) (E_T a b c d e f g i q r) =
    I_7 a b c d e f g i q r (fun j m=>loopN A_Q 4 (loopAt Tryz.f122 2) (E_T a b c d e f g i o p) kn kx kr n (E_T a b c d e f g i j m)) (fun j m=>kn (E_T a b c d e f g i j m)):=by kernel_rfl
theorem L_L (a b c d e:Int) (f:D') (g:C') (i:F') (q:Int) (r:Rows) (kn:St->Option R) (kx:Nat->St->Option R) (kr:V->Option R):∀ (n:Nat) (j:Int) (m:Rows),
    B_0 a b c d e f g i n j m (fun o p=>kn (E_T a b c d e f g i o p))=loopN A_Q 4 (loopAt Tryz.f122 2) (E_T a b c d e f g i q r) kn kx kr n (E_T a b c d e f g i j m)
  | 0,_,_=>rfl
  | n+1,j,m=>by
    rw [S_u,B_0]
    congr 1
    funext o p
    exact L_L a b c d e f g i q r kn kx kr n o p
theorem Z_0 {rest} (h:GoodL (R:=R) A_Q 4 (loopAt Tryz.f122 2) rest):GoodL (R:=R) A_Q 4 (loopAt Tryz.f122 2) (loopAlt G_w I_8 rest):=by
  refine goodL_alt (fun l kn kx kr r h=>?_) h
  unfold I_8 at h
  split at h
  · rename_i c d e f g a i j m o p q s t u v w y z A B D E F H I J K L M N O b Q S U W
    exact ⟨_,(L_L c d e f g (D'.mk (F'.mk i j m o) p q s) (C'.mk t u v w y z A B (K'.mk D E F H I) J K L M N O) (F'.mk Q S U W) a b kn kx kr _ a b).symm.trans h⟩
  · cases h
theorem S_v (a b:Int) (c:D') (d:C') (g:Int) (i:Rows) (kn:St->Option R) (kx:Nat->St->Option R) (kr:V->Option R) (n:Nat) (j:Int) (m:Rows) :
    loopN A_Q 2 (loopAt Tryz.f122 1) (E_U a b c d g i) kn kx kr (n+1) (E_U a b c d j m) =
    I_9 a b c d j m (fun e f=>loopN A_Q 2 (loopAt Tryz.f122 1) (E_U a b c d g i) kn kx kr n (E_U a b c d e f)) (fun e f=>kn (E_U a b c d e f)):=by kernel_rfl
theorem L_M (a b:Int) (c:D') (d:C') (j:Int) (m:Rows) (kn:St->Option R) (kx:Nat->St->Option R) (kr:V->Option R):∀ (n:Nat) (e:Int) (f:Rows),
    B_1 a b c d n e f (fun g i=>kn (E_U a b c d g i))=loopN A_Q 2 (loopAt Tryz.f122 1) (E_U a b c d j m) kn kx kr n (E_U a b c d e f)
  | 0,_,_=>rfl
  | n+1,e,f=>by
    rw [S_v,B_1]
    congr 1
    funext g i
    exact L_M a b c d j m kn kx kr n g i
theorem Z_1 {rest} (h:GoodL (R:=R) A_Q 2 (loopAt Tryz.f122 1) rest):GoodL (R:=R) A_Q 2 (loopAt Tryz.f122 1) (loopAlt G_x J_a rest):=by
  refine goodL_alt (fun l kn kx kr r h=>?_) h
  unfold J_a at h
  split at h
  · rename_i c d a e f g i j m o p q s t u v w y z A B D E F H I J K L b
    exact ⟨_,(L_M c d (D'.mk (F'.mk e f g i) j m o) (C'.mk p q s t u v w y (K'.mk z A B D E) F H I J K L) a b kn kx kr _ a b).symm.trans h⟩
  · cases h
theorem S_w (a:Int) (b:D') (c:C') (f:Int) (g:Rows) (kn:St->Option R) (kx:Nat->St->Option R) (kr:V->Option R) (n:Nat) (i:Int) (j:Rows) :
    loopN A_Q 0 (loopAt Tryz.f122 0) (E_V a b c f g) kn kx kr (n+1) (E_V a b c i j) =
    J_b a b c i j (fun d e=>loopN A_Q 0 (loopAt Tryz.f122 0) (E_V a b c f g) kn kx kr n (E_V a b c d e)) (fun d e=>kn (E_V a b c d e)):=by kernel_rfl
theorem L_N (a:Int) (b:D') (c:C') (i:Int) (j:Rows) (kn:St->Option R) (kx:Nat->St->Option R) (kr:V->Option R):∀ (n:Nat) (d:Int) (e:Rows),
    C_I a b c n d e (fun f g=>kn (E_V a b c f g))=loopN A_Q 0 (loopAt Tryz.f122 0) (E_V a b c i j) kn kx kr n (E_V a b c d e)
  | 0,_,_=>rfl
  | n+1,d,e=>by
    rw [S_w,C_I]
    congr 1
    funext f g
    exact L_N a b c i j kn kx kr n f g
theorem Z_2 {rest} (h:GoodL (R:=R) A_Q 0 (loopAt Tryz.f122 0) rest):GoodL (R:=R) A_Q 0 (loopAt Tryz.f122 0) (loopAlt G_y J_c rest):=by
  refine goodL_alt (fun l kn kx kr r h=>?_) h
  unfold J_c at h
  split at h
  · rename_i c a d e f g i j m o p q s t u v w y z A B D E F H I J K b
    exact ⟨_,(L_N c (D'.mk (F'.mk d e f g) i j m) (C'.mk o p q s t u v w (K'.mk y z A B D) E F H I J K) a b kn kx kr _ a b).symm.trans h⟩
  · cases h
theorem e_O:GoodLoop (R:=R) A_Q 0 (loopAt Tryz.f122 0):=goodL_loop (g:=loopAlt G_y J_c loopNil) (fun _ _ _ _=>rfl) (Z_2 goodL_nil)
theorem e_P:GoodLoop (R:=R) A_Q 2 (loopAt Tryz.f122 1):=goodL_loop (g:=loopAlt G_x J_a loopNil) (fun _ _ _ _=>rfl) (Z_1 goodL_nil)
theorem e_Q:GoodLoop (R:=R) A_Q 4 (loopAt Tryz.f122 2):=goodL_loop (g:=loopAlt G_w I_8 loopNil) (fun _ _ _ _=>rfl) (Z_0 goodL_nil)
theorem e_R:GoodLoop (R:=R) A_Q 6 (loopAt Tryz.f122 3):=goodL_loop (g:=loopAlt G_v I_6 loopNil) (fun _ _ _ _=>rfl) (Z_Z goodL_nil)
noncomputable def U_d (a:D') (b:C') (c:Int) (k:V->Option R):Option R:=C_I c a b (S_s c 0 a b []) 0 [] (fun e d=>k (V.data Z'.sh d))
abbrev p_5 (a:D') (b:C') (c:Int):List V:=[(D'.v a),(C'.v b),V.int .i64 c]
theorem Z_3 (a:D') (b:C') (c:Int) (k:V->Option R):fnK A_Q Tryz.f122 (p_5 a b c) k=U_d a b c k:=by kernel_rfl
theorem x_U (h_D3:o_3) (h_H1:o_8) (h_I5:r_y) (h:∀ (a:D') (b:C') (d:Int),O_U a b d=true->Real (p_5 a b d)->U_d a b d some=some (V.data Z'.sh (R_k a b d))):p_b:=goodHook1 fun l hp=>by
  unfold p_a at hp
  split at hp
  · rename_i f g i j m o p q r s t u v w y z A B D F H I J K L M N
    exact fn_ok (fn:=Tryz.f122) (c:=bodyOf Tryz.f122) (E:=A_Q) ⟨by kernel_rfl,(goodCons h_D3 (goodCons h_H1 (goodCons h_I5 goodNil))),rfl,M'⟩ rfl (by kernel_rfl) (by kernel_rfl) (by kernel_rfl) (loopsOK_of _ (by have e:loopsOf (bodyOf Tryz.f122)=[(0,loopAt Tryz.f122 0),(2,loopAt Tryz.f122 1),(4,loopAt Tryz.f122 2),(6,loopAt Tryz.f122 3)]:=(by kernel_rfl);rw [e];simp only [List.forall_mem_cons,List.not_mem_nil,false_implies,implies_true,and_true];exact ⟨e_O,e_P,e_Q,e_R⟩)) (fun hr=>(Z_3 (D'.mk (F'.mk f g i j) m o p) (C'.mk q r s t u v w y (K'.mk z A B D F) H I J K L M) N some).trans (h (D'.mk (F'.mk f g i j) m o p) (C'.mk q r s t u v w y (K'.mk z A B D F) H I J K L M) N hp hr))
  · cases hp
noncomputable def S_x (a:Rows) (b:Int) (d:Rows):Nat:=let c:=(((List.length a):Nat):Int);Int.toNat (c-b)+1
noncomputable def J_d (b:Rows) (a:Int) (c:Rows) (again:Int->Rows->Option R) (kn:Int->Rows->Option R):Option R:=let d:=(((List.length b):Nat):Int);bif (decide (a<d)) then bif (inR a (List.length b)) then let e:=List.getD b (Int.toNat a) [];let f:=G'.of e;bif (roomOK ((List.length c)+(1:Nat)) 32) then let g:=c++[(G'.row f)];let i:=IntKind.wrap .i64 (a+1);again i g else none else none else kn a c
noncomputable def D_L (a:Rows):Nat->Int->Rows->(Int->Rows->Option R)->Option R
  | 0,_,_,_=>none
  | n+1,b,c,kn=>J_d a b c (fun d e=>D_L a n d e kn) kn
noncomputable def G_z:ST:=⟨A_j 9 (.data Z'.sh::.vs 22::.int .i64::A_j 27 []),[(22,.vec F'.sh false)],23⟩
noncomputable def E_W (a:Rows) (b:Int) (c:Rows):St:=G_z.put [.r a,.i b,.r c]
noncomputable def J_e:LoopG R:=fun l kn _ _=>match l with
  | .r a::.i b::.r c::[]=>D_L a (S_x a b c) b c (fun d e=>kn (E_W a d e))
  | _=>none
noncomputable def L_O:Env R:=⟨Tryz.prog,callCons 120 z_w (callCons 121 K_N (callCons 122 z_C callNil)),fun id=>bif Nat.beq id 0 then loopAlt G_z J_e loopNil else (fun _ _ _ _ _=>none) id,Tryz.f94.results.toList,maskTab 39 [(0,0x1c),(1,0x11c),(2,0x2011c),(3,0xc0),(4,0x200),(5,0x600),(6,0xe00),(7,0x8000e00),(8,0xe00),(9,0xe00),(10,0xc0)],maskAt [(1,22),(2,4),(4,9),(6,11),(8,14),(10,20),(12,21),(14,26),(16,39),(18,30),(20,42)],noSort⟩
theorem S_y (a:Rows) (d:Int) (e:Rows) (kn:St->Option R) (kx:Nat->St->Option R) (kr:V->Option R) (n:Nat) (f:Int) (g:Rows) :
    loopN L_O 0 (loopAt Tryz.f94 0) (E_W a d e) kn kx kr (n+1) (E_W a f g) =
    J_d a f g (fun b c=>loopN L_O 0 (loopAt Tryz.f94 0) (E_W a d e) kn kx kr n (E_W a b c)) (fun b c=>kn (E_W a b c)):=by kernel_rfl
theorem L_P (a:Rows) (f:Int) (g:Rows) (kn:St->Option R) (kx:Nat->St->Option R) (kr:V->Option R):∀ (n:Nat) (b:Int) (c:Rows),
    D_L a n b c (fun d e=>kn (E_W a d e))=loopN L_O 0 (loopAt Tryz.f94 0) (E_W a f g) kn kx kr n (E_W a b c)
  | 0,_,_=>rfl
  | n+1,b,c=>by
    rw [S_y,D_L]
    congr 1
    funext d e
    exact L_P a f g kn kx kr n d e
theorem Z_4 {rest} (h:GoodL (R:=R) L_O 0 (loopAt Tryz.f94 0) rest):GoodL (R:=R) L_O 0 (loopAt Tryz.f94 0) (loopAlt G_z J_e rest):=by
  refine goodL_alt (fun l kn kx kr r h=>?_) h
  unfold J_e at h
  split at h
  · rename_i c a b
    exact ⟨_,(L_P c a b kn kx kr _ a b).symm.trans h⟩
  · cases h
theorem e_S:GoodLoop (R:=R) L_O 0 (loopAt Tryz.f94 0):=goodL_loop (g:=loopAlt G_z J_e loopNil) (fun _ _ _ _=>rfl) (Z_4 goodL_nil)
noncomputable def U_e (a:D') (b:C') (c:Int) (k:V->Option R):Option R:=let d:=j_G a b c;bif (d != 0) then k (V.tup [(V.data F'.sh []),V.int .i64 d]) else bif (O_U a b c) then let e:=R_k a b c;bif (B_K e) then let f:=A_h e;D_L f (S_x f 0 []) 0 [] (fun i g=>k (V.tup [V.data F'.sh g,(V.int .i64 0)])) else none else none
abbrev p_6 (a:D') (b:C') (c:Int):List V:=[(D'.v a),(C'.v b),V.int .i64 c]
theorem Z_5 (a:D') (b:C') (c:Int) (k:V->Option R):fnK L_O Tryz.f94 (p_6 a b c) k=U_e a b c k:=by kernel_rfl
theorem x_V (h_J2:r_s) (h_R25_sorted:C_X) (h_M4:p_b) (h:∀ (a:D') (b:C') (d:Int),Real (p_6 a b d)->U_e a b d some=some (V.tup [(V.data F'.sh (P_R a b d).1),(V.int .i64 (P_R a b d).2)])):p_d:=goodHook1 fun l hp=>by
  unfold p_c at hp
  split at hp
  · rename_i f g i j m o p q r s t u v w y z A B D F H I J K L M N
    exact fn_ok (fn:=Tryz.f94) (c:=bodyOf Tryz.f94) (E:=L_O) ⟨by kernel_rfl,(goodCons h_J2 (goodCons h_R25_sorted (goodCons h_M4 goodNil))),rfl,M'⟩ rfl (by kernel_rfl) (by kernel_rfl) (by kernel_rfl) (loopsOK_of _ (by have e:loopsOf (bodyOf Tryz.f94)=[(0,loopAt Tryz.f94 0)]:=(by kernel_rfl);rw [e];simp only [List.forall_mem_cons,List.not_mem_nil,false_implies,implies_true,and_true];exact e_S)) (fun hr=>(Z_5 (D'.mk (F'.mk f g i j) m o p) (C'.mk q r s t u v w y (K'.mk z A B D F) H I J K L M) N some).trans (h (D'.mk (F'.mk f g i j) m o p) (C'.mk q r s t u v w y (K'.mk z A B D F) H I J K L M) N hr))
  · cases hp
noncomputable def S_z (a b:Int) (c:D') (d:C') (e:Rows):Nat:=Int.toNat (a-b)+1
noncomputable def J_f (c:Int) (d:D') (e:C') (a:Int) (b:Rows) (again:Int->Rows->Option R) (kn:Int->Rows->Option R):Option R:=bif (decide (a<c)) then let f:=P_R d e a;bif (roomOK ((List.length b)+(1:Nat)) 24) then let g:=b++[[V.data F'.sh f.1]];let i:=IntKind.wrap .i64 (a+1);again i g else none else kn a b
noncomputable def D_M (a:Int) (b:D') (c:C'):Nat->Int->Rows->(Int->Rows->Option R)->Option R
  | 0,_,_,_=>none
  | n+1,d,e,kn=>J_f a b c d e (fun f g=>D_M a b c n f g kn) kn
noncomputable def G_A:ST:=⟨.undef::.undef::.ptr 0 0 0::.ptr 1 0 0::.undef::.vs 3::A_j 6 (.int .i64::.int .i64::A_j 15 []),[(0,.var D'.sh false D'.ts),(1,.var C'.sh false C'.ts),(3,.vec [.sl F'.sh] false)],9⟩
noncomputable def E_X (c:Int) (b:D') (a:C') (d:Int) (e:Rows):St:=G_A.put [.i c,.i d,.i b.Area.X0,.i b.Area.Y0,.i b.Area.X1,.i b.Area.Y1,.i b.TileW,.i b.TileH,.r b.Components,.i a.Kernel,.i a.Levels,.i a.Color,.i a.BlockX,.i a.BlockY,.r a.Precincts,.i a.Order,.i a.Layers,.b a.Mode.Bypass,.b a.Mode.Restart,.b a.Mode.Reset,.b a.Mode.Causal,.b a.Mode.Symbols,.b a.Divide,.b a.Sync,.b a.Fence,.r a.Steps,.i a.Dead,.i a.Shift,.r e]
noncomputable def J_g:LoopG R:=fun l kn _ _=>match l with
  | .i a::.i I::.i b::.i c::.i d::.i e::.i f::.i g::.r i::.i j::.i m::.i o::.i p::.i q::.r r::.i s::.i t::.b u::.b v::.b w::.b y::.b z::.b A::.b B::.b D::.r E::.i F::.i H::.r J::[]=>D_M a (D'.mk (F'.mk b c d e) f g i) (C'.mk j m o p q r s t (K'.mk u v w y z) A B D E F H) (S_z a I (D'.mk (F'.mk b c d e) f g i) (C'.mk j m o p q r s t (K'.mk u v w y z) A B D E F H) J) I J (fun K L=>kn (E_X a (D'.mk (F'.mk b c d e) f g i) (C'.mk j m o p q r s t (K'.mk u v w y z) A B D E F H) K L))
  | _=>none
noncomputable def L_Q:Env R:=⟨Tryz.prog,callCons 10 h_M (callCons 94 z_D callNil),fun id=>bif Nat.beq id 0 then loopAlt G_A J_g loopNil else (fun _ _ _ _ _=>none) id,Tryz.f53.results.toList,maskTab 29 [(0,0xc),(1,0x2c),(2,0x302c),(3,0x702c),(4,0x306c),(5,0x30ac),(6,0x302c),(7,0x302c),(8,0x10)],maskAt [(1,9),(2,3),(4,5),(6,13),(8,14),(10,16),(12,25),(14,30),(16,32)],noSort⟩
theorem S_A (a:Int) (b:D') (c:C') (f:Int) (g:Rows) (kn:St->Option R) (kx:Nat->St->Option R) (kr:V->Option R) (n:Nat) (i:Int) (j:Rows) :
    loopN L_Q 0 (loopAt Tryz.f53 0) (E_X a b c f g) kn kx kr (n+1) (E_X a b c i j) =
    J_f a b c i j (fun d e=>loopN L_Q 0 (loopAt Tryz.f53 0) (E_X a b c f g) kn kx kr n (E_X a b c d e)) (fun d e=>kn (E_X a b c d e)):=by kernel_rfl
theorem L_R (a:Int) (b:D') (c:C') (i:Int) (j:Rows) (kn:St->Option R) (kx:Nat->St->Option R) (kr:V->Option R):∀ (n:Nat) (d:Int) (e:Rows),
    D_M a b c n d e (fun f g=>kn (E_X a b c f g))=loopN L_Q 0 (loopAt Tryz.f53 0) (E_X a b c i j) kn kx kr n (E_X a b c d e)
  | 0,_,_=>rfl
  | n+1,d,e=>by
    rw [S_A,D_M]
    congr 1
    funext f g
    exact L_R a b c i j kn kx kr n f g
theorem Z_6 {rest} (h:GoodL (R:=R) L_Q 0 (loopAt Tryz.f53 0) rest):GoodL (R:=R) L_Q 0 (loopAt Tryz.f53 0) (loopAlt G_A J_g rest):=by
  refine goodL_alt (fun l kn kx kr r h=>?_) h
  unfold J_g at h
  split at h
  · rename_i c a d e f g i j m o p q s t u v w y z A B D E F H I J K b
    exact ⟨_,(L_R c (D'.mk (F'.mk d e f g) i j m) (C'.mk o p q s t u v w (K'.mk y z A B D) E F H I J K) a b kn kx kr _ a b).symm.trans h⟩
  · cases h
theorem e_T:GoodLoop (R:=R) L_Q 0 (loopAt Tryz.f53 0):=goodL_loop (g:=loopAlt G_A J_g loopNil) (fun _ _ _ _=>rfl) (Z_6 goodL_nil)
noncomputable def U_f (a:D') (b:C') (k:V->Option R):Option R:=let d:=P_M a;let c:=(((List.length d):Nat):Int);D_M c a b (S_z c 0 a b []) 0 [] (fun f e=>k (V.data [.sl F'.sh] e))
abbrev p_7 (a:D') (b:C'):List V:=[(D'.v a),(C'.v b)]
theorem Z_7 (a:D') (b:C') (k:V->Option R):fnK L_Q Tryz.f53 (p_7 a b) k=U_f a b k:=by kernel_rfl
theorem x_W (h_K6:c_F) (h_G6:p_d) (h:∀ (a:D') (b:C'),Real (p_7 a b)->U_f a b some=some (V.data [.sl F'.sh] (f_T a b))):p_f:=goodHook1 fun l hp=>by
  unfold p_e at hp
  split at hp
  · rename_i d f g i j m o p q r s t u v w y z A B D F H I J K L
    exact fn_ok (fn:=Tryz.f53) (c:=bodyOf Tryz.f53) (E:=L_Q) ⟨by kernel_rfl,(goodCons h_K6 (goodCons h_G6 goodNil)),rfl,M'⟩ rfl (by kernel_rfl) (by kernel_rfl) (by kernel_rfl) (loopsOK_of _ (by have e:loopsOf (bodyOf Tryz.f53)=[(0,loopAt Tryz.f53 0)]:=(by kernel_rfl);rw [e];simp only [List.forall_mem_cons,List.not_mem_nil,false_implies,implies_true,and_true];exact e_T)) (fun hr=>(Z_7 (D'.mk (F'.mk d f g i) j m o) (C'.mk p q r s t u v w (K'.mk y z A B D) F H I J K L) some).trans (h (D'.mk (F'.mk d f g i) j m o) (C'.mk p q r s t u v w (K'.mk y z A B D) F H I J K L) hr))
  · cases hp
noncomputable def S_B (c:Rows) (a b:Int) (d:G'):Nat:=Int.toNat (a-b)+1
noncomputable def J_h (d:Rows) (e:Int) (b:G') (a:Int) (again:Int->Option R) (kn:Int->Option R) (kr:V->Option R):Option R:=bif (decide (a<e)) then bif (inR a (List.length d)) then let f:=List.getD d (Int.toNat a) [];let c:=G'.of f;let g:=(c.Comp==b.Comp)&&((c.Res==b.Res)&&((c.Precinct==b.Precinct)&&((c.Layer==b.Layer)&&true)));bif g then kr (V.int .i64 a) else let i:=IntKind.wrap .i64 (a+1);again i else none else kn a
noncomputable def D_N (a:Rows) (b:Int) (c:G'):Nat->Int->(Int->Option R)->(V->Option R)->Option R
  | 0,_,_,_=>none
  | n+1,d,kn,kr=>J_h a b c d (fun e=>D_N a b c n e kn kr) kn kr
noncomputable def G_B:ST:=⟨A_j 3 (.ptr 0 0 0::A_j 3 (.data F'.sh::.int .i64::.int .i64::A_j 9 [])),[(0,.var F'.sh false F'.ts)],5⟩
noncomputable def E_Y (b:Rows) (c:Int) (a:G') (d:Int):St:=G_B.put [.r b,.i c,.i d,.i a.Comp,.i a.Res,.i a.Precinct,.i a.Layer]
noncomputable def J_i:LoopG R:=fun l kn _ kr=>match l with
  | .r a::.i b::.i g::.i c::.i d::.i e::.i f::[]=>D_N a b (G'.mk c d e f) (S_B a b g (G'.mk c d e f)) g (fun i=>kn (E_Y a b (G'.mk c d e f) i)) kr
  | _=>none
noncomputable def L_S:Env R:=⟨Tryz.prog,callNil,fun id=>bif Nat.beq id 0 then loopAlt G_B J_i loopNil else (fun _ _ _ _ _=>none) id,Tryz.f54.results.toList,maskTab 19 [(0,0x9),(1,0x388),(2,0x788),(3,0x3e8),(4,0x103a8),(5,0x10),(6,0x388),(7,0x10)],maskAt [(1,5),(2,2),(4,9),(6,10),(8,16),(10,19),(12,21),(14,23)],noSort⟩
theorem S_C (a:Rows) (b:Int) (c:G') (e:Int) (kn:St->Option R) (kx:Nat->St->Option R) (kr:V->Option R) (n:Nat) (f:Int) :
    loopN L_S 0 (loopAt Tryz.f54 0) (E_Y a b c e) kn kx kr (n+1) (E_Y a b c f) =
    J_h a b c f (fun d=>loopN L_S 0 (loopAt Tryz.f54 0) (E_Y a b c e) kn kx kr n (E_Y a b c d)) (fun d=>kn (E_Y a b c d)) kr:=by kernel_rfl
theorem L_T (a:Rows) (b:Int) (c:G') (f:Int) (kn:St->Option R) (kx:Nat->St->Option R) (kr:V->Option R):∀ (n:Nat) (d:Int),
    D_N a b c n d (fun e=>kn (E_Y a b c e)) kr=loopN L_S 0 (loopAt Tryz.f54 0) (E_Y a b c f) kn kx kr n (E_Y a b c d)
  | 0,_=>rfl
  | n+1,d=>by
    rw [S_C,D_N]
    congr 1
    funext e
    exact L_T a b c f kn kx kr n e
theorem Z_8 {rest} (h:GoodL (R:=R) L_S 0 (loopAt Tryz.f54 0) rest):GoodL (R:=R) L_S 0 (loopAt Tryz.f54 0) (loopAlt G_B J_i rest):=by
  refine goodL_alt (fun l kn kx kr r h=>?_) h
  unfold J_i at h
  split at h
  · rename_i b c a d e f g
    exact ⟨_,(L_T b c (G'.mk d e f g) a kn kx kr _ a).symm.trans h⟩
  · cases h
theorem e_U:GoodLoop (R:=R) L_S 0 (loopAt Tryz.f54 0):=goodL_loop (g:=loopAlt G_B J_i loopNil) (fun _ _ _ _=>rfl) (Z_8 goodL_nil)
noncomputable def U_g (a:Rows) (b:G') (k:V->Option R):Option R:=let c:=(((List.length a):Nat):Int);D_N a c b (S_B a c 0 b) 0 (fun d=>k (V.int .i64 (-1:Int))) k
abbrev p_8 (a:Rows) (b:G'):List V:=[V.data F'.sh a,(G'.v b)]
theorem Z_9 (a:Rows) (b:G') (k:V->Option R):fnK L_S Tryz.f54 (p_8 a b) k=U_g a b k:=by kernel_rfl
theorem x_X (h:∀ (a:Rows) (b:G'),V_i a b=true->Real (p_8 a b)->U_g a b some=some (V.int .i64 (h_F a b))):p_h:=goodHook1 fun l hp=>by
  unfold p_g at hp
  split at hp
  · rename_i d f g i j
    exact fn_ok (fn:=Tryz.f54) (c:=bodyOf Tryz.f54) (E:=L_S) ⟨by kernel_rfl,goodNil,rfl,M'⟩ rfl (by kernel_rfl) (by kernel_rfl) (by kernel_rfl) (loopsOK_of _ (by have e:loopsOf (bodyOf Tryz.f54)=[(0,loopAt Tryz.f54 0)]:=(by kernel_rfl);rw [e];simp only [List.forall_mem_cons,List.not_mem_nil,false_implies,implies_true,and_true];exact e_U)) (fun hr=>(Z_9 d (G'.mk f g i j) some).trans (h d (G'.mk f g i j) hp hr))
  · cases hp
noncomputable def S_D (c d:Rows) (a b:Int):Nat:=Int.toNat (a-b)+1
noncomputable def J_j (c d:Rows) (f:Int) (b:Int) (again:Int->Option R) (kn:Int->Option R) (kr:V->Option R):Option R:=bif (decide (b<f)) then bif (inR b (List.length d)) then let g:=List.getD d (Int.toNat b) [];let a:=V'.of g;let i:=decide (a.Tile<0);bif (i==false) then let j:=(((List.length c):Nat):Int);let m:=decide (a.Span.From<0);let o:Bool:=(bif (decide (a.Tile >= j)) then true else m);let p:=decide (a.Span.From > a.Span.To);let q:Bool:=(bif o then true else p);bif q then kr (V.int .i64 1) else bif (inR a.Tile (List.length c)) then let r:=List.getD c (Int.toNat a.Tile) [];let e:=V.toRows (List.getD r 0 V.undef);bif (V_i e a.ID) then let s:=h_F e a.ID;let t:=decide (s<0);bif t then kr (V.int .i64 1) else let u:=IntKind.wrap .i64 (b+1);again u else none else none else kr (V.int .i64 1) else none else kn b
noncomputable def D_O (a b:Rows) (c:Int):Nat->Int->(Int->Option R)->(V->Option R)->Option R
  | 0,_,_,_=>none
  | n+1,d,kn,kr=>J_j a b c d (fun e=>D_O a b c n e kn kr) kn kr
noncomputable def G_C:ST:=⟨A_j 7 (.data [.sl F'.sh]::A_j 5 (.data V'.sh::.int .i64::.int .i64::A_j 38 [])),[],10⟩
noncomputable def E_Z (a b:Rows) (c:Int) (d:Int):St:=G_C.put [.r a,.r b,.i c,.i d]
noncomputable def J_k:LoopG R:=fun l kn _ kr=>match l with
  | .r a::.r b::.i c::.i d::[]=>D_O a b c (S_D a b c d) d (fun e=>kn (E_Z a b c e)) kr
  | _=>none
noncomputable def L_U:Env R:=⟨Tryz.prog,callCons 53 z_E (callCons 54 z_F callNil),fun id=>bif Nat.beq id 0 then loopAlt G_C J_k loopNil else (fun _ _ _ _ _=>none) id,Tryz.f21.results.toList,maskTab 54 [(0,0x7f3cf80001c),(1,0x7f3cf800084),(2,0x7f3cf80e080),(3,0x7f3cf81e080),(4,0x7f3cf80e280),(5,0xff3cf80e280),(6,0x40),(7,0x1007f3cf80e080),(8,0x40),(9,0x7f3cf80e080),(10,0x40)],maskAt [(1,10),(2,3),(4,7),(6,14),(8,15),(10,19),(12,44),(14,45),(16,54),(18,55),(20,57)],noSort⟩
theorem S_E (a b:Rows) (c:Int) (e:Int) (kn:St->Option R) (kx:Nat->St->Option R) (kr:V->Option R) (n:Nat) (f:Int) :
    loopN L_U 0 (loopAt Tryz.f21 0) (E_Z a b c e) kn kx kr (n+1) (E_Z a b c f) =
    J_j a b c f (fun d=>loopN L_U 0 (loopAt Tryz.f21 0) (E_Z a b c e) kn kx kr n (E_Z a b c d)) (fun d=>kn (E_Z a b c d)) kr:=by kernel_rfl
theorem L_V (a b:Rows) (c:Int) (f:Int) (kn:St->Option R) (kx:Nat->St->Option R) (kr:V->Option R):∀ (n:Nat) (d:Int),
    D_O a b c n d (fun e=>kn (E_Z a b c e)) kr=loopN L_U 0 (loopAt Tryz.f21 0) (E_Z a b c f) kn kx kr n (E_Z a b c d)
  | 0,_=>rfl
  | n+1,d=>by
    rw [S_E,D_O]
    congr 1
    funext e
    exact L_V a b c f kn kx kr n e
theorem a_a {rest} (h:GoodL (R:=R) L_U 0 (loopAt Tryz.f21 0) rest):GoodL (R:=R) L_U 0 (loopAt Tryz.f21 0) (loopAlt G_C J_k rest):=by
  refine goodL_alt (fun l kn kx kr r h=>?_) h
  unfold J_k at h
  split at h
  · rename_i b c d a
    exact ⟨_,(L_V b c d a kn kx kr _ a).symm.trans h⟩
  · cases h
theorem e_V:GoodLoop (R:=R) L_U 0 (loopAt Tryz.f21 0):=goodL_loop (g:=loopAlt G_C J_k loopNil) (fun _ _ _ _=>rfl) (a_a goodL_nil)
noncomputable def U_h (d:D') (e:C') (a:Rows) (k:V->Option R):Option R:=let b:=f_T d e;let c:=(((List.length a):Nat):Int);D_O b a c (S_D b a c 0) 0 (fun f=>k (V.int .i64 0)) k
abbrev p_9 (a:D') (b:C') (c:Rows):List V:=[(D'.v a),(C'.v b),V.data V'.sh c]
theorem a_b (a:D') (b:C') (c:Rows) (k:V->Option R):fnK L_U Tryz.f21 (p_9 a b c) k=U_h a b c k:=by kernel_rfl
theorem x_Y (h_E8:p_f) (h_I3:p_h) (h:∀ (a:D') (b:C') (d:Rows),V_j a b d=true->Real (p_9 a b d)->U_h a b d some=some (V.int .i64 (V_6 a b d))):p_j:=goodHook1 fun l hp=>by
  unfold p_i at hp
  split at hp
  · rename_i f g i j m o p q r s t u v w y z A B D F H I J K L M N
    exact fn_ok (fn:=Tryz.f21) (c:=bodyOf Tryz.f21) (E:=L_U) ⟨by kernel_rfl,(goodCons h_E8 (goodCons h_I3 goodNil)),rfl,M'⟩ rfl (by kernel_rfl) (by kernel_rfl) (by kernel_rfl) (loopsOK_of _ (by have e:loopsOf (bodyOf Tryz.f21)=[(0,loopAt Tryz.f21 0)]:=(by kernel_rfl);rw [e];simp only [List.forall_mem_cons,List.not_mem_nil,false_implies,implies_true,and_true];exact e_V)) (fun hr=>(a_b (D'.mk (F'.mk f g i j) m o p) (C'.mk q r s t u v w y (K'.mk z A B D F) H I J K L M) N some).trans (h (D'.mk (F'.mk f g i j) m o p) (C'.mk q r s t u v w y (K'.mk z A B D F) H I J K L M) N hp hr))
  · cases hp
noncomputable def i_5:Env R:=⟨Tryz.prog,callNil,fun _ _ _ _ _=>none,Tryz.f55.results.toList,maskTab 19 [(0,0x3e0c),(1,0x400c),(2,0x10),(3,0x10)],maskAt [(2,3),(4,13),(6,16)],noSort⟩
noncomputable def e_W (b:C') (a:O') (k:V->Option R):Option R:=let c:=decide (a.Layers > b.Layers);let d:Bool:=(bif (a.Layers==0) then true else c);bif d then k (V.int .i64 b.Layers) else k (V.int .i64 a.Layers)
abbrev x_Z (a:C') (b:O'):List V:=[(C'.v a),(O'.v b)]
theorem a_c (a:C') (b:O') (k:V->Option R):fnK i_5 Tryz.f55 (x_Z a b) k=e_W a b k:=by kernel_rfl
theorem x_0 (a:C') (b:O'):e_W a b some=some ((fun (m:Int)=>(V.int .i64 m)) (j_I a b)):=by
  repeat' (first | rfl | refine A_t (v:=(fun (m:Int)=>(V.int .i64 m))) ?_ ?_)
theorem a_d:r_z:=goodHook1 fun l hp=>by
  unfold p_k at hp
  split at hp
  · rename_i a b d f g i j m o q r s t u v w y z A B D F H I J
    exact fn_ok (fn:=Tryz.f55) (c:=bodyOf Tryz.f55) (E:=i_5) ⟨by kernel_rfl,goodNil,rfl,M'⟩ rfl (by kernel_rfl) (by kernel_rfl) (by kernel_rfl) (loopsOK_of _ (by have e:loopsOf (bodyOf Tryz.f55)=[]:=(by kernel_rfl);rw [e];intro p hp;cases hp)) (fun hr=>(a_c (C'.mk a b d f g i j m (K'.mk o q r s t) u v w y z A) (O'.mk B D (F'.mk F H I J)) some).trans (x_0 (C'.mk a b d f g i j m (K'.mk o q r s t) u v w y z A) (O'.mk B D (F'.mk F H I J))))
  · cases hp
noncomputable def i_6:Env R:=⟨Tryz.prog,callCons 99 n_m callNil,fun _ _ _ _ _=>none,Tryz.f124.results.toList,maskTab 29 [(0,0xe603),(1,0x10002),(2,0x10),(3,0x40002),(4,0x10),(5,0x10)],maskAt [(2,1),(4,13),(6,14),(8,16),(10,18)],noSort⟩
noncomputable def e_X (b a:Int) (k:V->Option R):Option R:=let c:=b_I b;let d:=decide (a<0);let e:Bool:=(bif (c==0) then true else d);let f:Bool:=(bif e then true else (decide (a > b)));bif f then k (V.data [.int .i64] []) else bif (a==0) then k (V.data [.int .i64] [[(V.int .i64 0)]]) else let g:=IntKind.wrap .i64 (3*a);let i:=IntKind.wrap .i64 (g-2);let j:=IntKind.wrap .i64 (3*a);let m:=IntKind.wrap .i64 (j-1);let o:=IntKind.wrap .i64 (3*a);k (V.data [.int .i64] [[V.int .i64 i],[V.int .i64 m],[V.int .i64 o]])
abbrev x_1 (a b:Int):List V:=[V.int .i64 a,V.int .i64 b]
theorem a_e (a b:Int) (k:V->Option R):fnK i_6 Tryz.f124 (x_1 a b) k=e_X a b k:=by kernel_rfl
theorem x_2 (a b:Int):e_X a b some=some ((fun (m:Rows)=>(V.data [.int .i64] m)) (m_Z a b)):=by
  repeat' (first | rfl | refine A_t (v:=(fun (m:Rows)=>(V.data [.int .i64] m))) ?_ ?_)
theorem a_f (h_L0:h_N):r_A:=goodHook1 fun l hp=>by
  unfold p_l at hp
  split at hp
  · rename_i a b
    exact fn_ok (fn:=Tryz.f124) (c:=bodyOf Tryz.f124) (E:=i_6) ⟨by kernel_rfl,(goodCons h_L0 goodNil),rfl,M'⟩ rfl (by kernel_rfl) (by kernel_rfl) (by kernel_rfl) (loopsOK_of _ (by have e:loopsOf (bodyOf Tryz.f124)=[]:=(by kernel_rfl);rw [e];intro p hp;cases hp)) (fun hr=>(a_e a b some).trans (x_2 a b))
  · cases hp
noncomputable def i_7:Env R:=⟨Tryz.prog,callCons 23 c_D (callCons 52 h_L (callCons 157 u_s (callCons 158 u_u callNil))),fun _ _ _ _ _=>none,Tryz.f140.results.toList,maskTab 67 [(0,0xc000cce00010fc),(1,0xc000cce001d09c),(2,0xc001000000d09c),(3,0x3000),(4,0xc008000000d098),(5,0x3000),(6,0x10000000000d098),(7,0x3000),(8,0x3000)],maskAt [(2,4),(4,16),(6,31),(8,34),(10,36),(12,45),(14,51),(16,54)],noSort⟩
noncomputable def e_Y (f d:F') (e b c g:Int) (k:V->Option R):Option R:=let a:=f_R f b c g;bif ((!a.2.2)==false) then let i:=M_4 d;let j:=decide (e<0);let m:Bool:=(bif (!i) then true else j);let o:=decide (e > 3);let p:Bool:=(bif m then true else o);bif p then k (V.tup [(V.agg [(V.int .i64 0),(V.int .i64 0),(V.int .i64 0),(V.int .i64 0)]),V.bool false]) else bif (e==0) then let q:=f_S a.1 a.2.1 b c;let r:=O_K d q;k (V.tup [(F'.v r),V.bool true]) else let s:Bool:=(bif (b==0) then true else (c==0));bif s then k (V.tup [(V.agg [(V.int .i64 0),(V.int .i64 0),(V.int .i64 0),(V.int .i64 0)]),V.bool false]) else let t:=IntKind.wrap .i64 (b-1);let u:=IntKind.wrap .i64 (c-1);let v:=f_S a.1 a.2.1 t u;let w:=O_K d v;k (V.tup [(F'.v w),V.bool true]) else k (V.tup [(V.agg [(V.int .i64 0),(V.int .i64 0),(V.int .i64 0),(V.int .i64 0)]),V.bool false])
abbrev x_3 (a b:F') (c d e f:Int):List V:=[(F'.v a),(F'.v b),V.int .i64 c,V.int .i64 d,V.int .i64 e,V.int .i64 f]
theorem a_g (a b:F') (c d e f:Int) (k:V->Option R):fnK i_7 Tryz.f140 (x_3 a b c d e f) k=e_Y a b c d e f k:=by kernel_rfl
theorem x_4 (a b:F') (c d e f:Int):e_Y a b c d e f some=some ((fun (m:F' × Bool)=>(V.tup [(F'.v m.1),V.bool m.2])) (h_G a b c d e f)):=by
  repeat' (first | rfl | refine A_t (v:=(fun (m:F' × Bool)=>(V.tup [(F'.v m.1),V.bool m.2]))) ?_ ?_)
theorem a_h (h_K8:T_R) (h_F5:c_E) (h_L4:r_w) (h_M3:r_x):u_H:=goodHook1 fun l hp=>by
  unfold p_m at hp
  split at hp
  · rename_i a b d f g i j m o q r s
    exact fn_ok (fn:=Tryz.f140) (c:=bodyOf Tryz.f140) (E:=i_7) ⟨by kernel_rfl,(goodCons h_K8 (goodCons h_F5 (goodCons h_L4 (goodCons h_M3 goodNil)))),rfl,M'⟩ rfl (by kernel_rfl) (by kernel_rfl) (by kernel_rfl) (loopsOK_of _ (by have e:loopsOf (bodyOf Tryz.f140)=[]:=(by kernel_rfl);rw [e];intro p hp;cases hp)) (fun hr=>(a_g (F'.mk a b d f) (F'.mk g i j m) o q r s some).trans (x_4 (F'.mk a b d f) (F'.mk g i j m) o q r s))
  · cases hp
end Go.Vm
