import Derived.Test.YtnfkgnigkdkniaaGreatWM
set_option linter.unusedVariables false
set_option linter.unusedSimpArgs false
set_option maxRecDepth 100000
noncomputable section
namespace Go.Vm
open Go.Proofs
variable {R:Type}
noncomputable def R_U (c d e f g i j m o a b:Int) (p:D') (q:C') (r:Rows) (s:F') (t u v w:Int) (y:X'):Nat:=Int.toNat (a-b)+1
noncomputable def I_s (o p q r s t u v w d:Int) (y:D') (z:C') (A:F') (e f g:Int) (c:X') (a:Int) (b:Rows) (i:Int) (again:Int->Rows->Int->Option R) (kn:Int->Rows->Int->Option R):Option R:=bif (decide (a<d)) then bif (roomOK ((List.length b)+(1:Nat)) 48) then let j:=b++[[V.int .i64 e,V.int .i64 f,V.int .i64 g,V.int .i64 a,V.int .i64 c.X,V.int .i64 c.Y]];let m:=IntKind.wrap .i64 (a+1);again m j a else none else kn a b i
noncomputable def C_B (a b c d e f g i j m:Int) (o:D') (p:C') (q:F') (r s t:Int) (u:X'):Nat->Int->Rows->Int->(Int->Rows->Int->Option R)->Option R
  | 0,_,_,_,_=>none
  | n+1,v,w,y,kn=>I_s a b c d e f g i j m o p q r s t u v w y (fun z A B=>C_B a b c d e f g i j m o p q r s t u n z A B kn) kn
noncomputable def G_b:ST:=⟨.undef::.undef::.int .i64::.ptr 0 0 0::.ptr 1 0 0::.undef::.undef::.vs 8::.int .i64::.int .i64::.ptr 36 0 0::A_j 3 (.ptr 55 0 0::.ptr 65 0 0::A_j 4 (.int .i64::.int .i64::A_j 4 (.int .i64::.int .i64::A_j 14 (.int .i64::.int .i64::A_j 15 (.int .i64::.int .i64::A_j 18 []))))),[(0,.var D'.sh false D'.ts),(1,.var C'.sh false C'.ts),(8,.vec O'.sh false),(36,.var F'.sh false F'.ts),(55,.var F'.sh false F'.ts),(65,.var U'.sh false U'.ts)],71⟩
noncomputable def E_x (e f g i j m o p q r:Int) (b:D') (a:C') (c:F') (s t u:Int) (d:X') (v:Int) (w:Rows) (y:Int):St:=G_b.put [.i e,.i f,.i g,.i i,.i j,.i m,.i o,.i p,.i q,.i r,.i v,.i b.Area.X0,.i b.Area.Y0,.i b.Area.X1,.i b.Area.Y1,.i b.TileW,.i b.TileH,.r b.Components,.i a.Kernel,.i a.Levels,.i a.Color,.i a.BlockX,.i a.BlockY,.r a.Precincts,.i a.Order,.i a.Layers,.b a.Mode.Bypass,.b a.Mode.Restart,.b a.Mode.Reset,.b a.Mode.Causal,.b a.Mode.Symbols,.b a.Divide,.b a.Sync,.b a.Fence,.r a.Steps,.i a.Dead,.i a.Shift,.r w,.i c.X0,.i c.Y0,.i c.X1,.i c.Y1,.i s,.i t,.i u,.i y,.i d.X,.i d.Y]
noncomputable def I_t:LoopG R:=fun l kn _ _=>match l with
  | .i a::.i b::.i c::.i d::.i e::.i f::.i g::.i i::.i j::.i m::.i a4::.i o::.i p::.i q::.i r::.i s::.i t::.r u::.i v::.i w::.i y::.i z::.i A::.r B::.i D::.i E::.b F::.b H::.b I::.b J::.b K::.b L::.b M::.b N::.r O::.i Q::.i S::.r a5::.i U::.i W::.i X::.i Y::.i Z::.i a0::.i a1::.i a6::.i a2::.i a3::[]=>C_B a b c d e f g i j m (D'.mk (F'.mk o p q r) s t u) (C'.mk v w y z A B D E (K'.mk F H I J K) L M N O Q S) (F'.mk U W X Y) Z a0 a1 (X'.mk a2 a3) (R_U a b c d e f g i j m a4 (D'.mk (F'.mk o p q r) s t u) (C'.mk v w y z A B D E (K'.mk F H I J K) L M N O Q S) a5 (F'.mk U W X Y) Z a0 a1 a6 (X'.mk a2 a3)) a4 a5 a6 (fun a7 a8 a9=>kn (E_x a b c d e f g i j m (D'.mk (F'.mk o p q r) s t u) (C'.mk v w y z A B D E (K'.mk F H I J K) L M N O Q S) (F'.mk U W X Y) Z a0 a1 (X'.mk a2 a3) a7 a8 a9))
  | _=>none
noncomputable def R_V (c d e f g i j a b:Int) (m:D') (o:C') (p:Rows) (q:F'):Nat:=Int.toNat (a-b)+1
noncomputable def I_u (j b c m o p q g:Int) (e:D') (d:C') (f:F') (a:Int) (i:Rows) (again:Int->Rows->Option R) (kn:Int->Rows->Option R):Option R:=bif (decide (a<g)) then bif (R_d e d f (G'.mk b c a 0)) then let r:=m_j e d f (G'.mk b c a 0);C_B j b c m o p q g a d.Layers e d f b c a r.1 (R_U j b c m o p q g a d.Layers 0 e d i f b c a 0 r.1) 0 i 0 (fun u s v=>let t:=IntKind.wrap .i64 (a+1);again t s) else none else kn a i
noncomputable def B_U (a b c d e f g i:Int) (j:D') (m:C') (o:F'):Nat->Int->Rows->(Int->Rows->Option R)->Option R
  | 0,_,_,_=>none
  | n+1,p,q,kn=>I_u a b c d e f g i j m o p q (fun r s=>B_U a b c d e f g i j m o n r s kn) kn
noncomputable def G_c:ST:=⟨.undef::.undef::.int .i64::.ptr 0 0 0::.ptr 1 0 0::.undef::.undef::.vs 8::.int .i64::.int .i64::.ptr 36 0 0::A_j 9 (.int .i64::.int .i64::A_j 4 (.int .i64::.int .i64::A_j 14 (.int .i64::.int .i64::A_j 35 []))),[(0,.var D'.sh false D'.ts),(1,.var C'.sh false C'.ts),(8,.vec O'.sh false),(36,.var F'.sh false F'.ts)],44⟩
noncomputable def E_y (d e f g i j m o:Int) (b:D') (a:C') (c:F') (p:Int) (q:Rows):St:=G_c.put [.i d,.i e,.i f,.i g,.i i,.i j,.i m,.i o,.i p,.i b.Area.X0,.i b.Area.Y0,.i b.Area.X1,.i b.Area.Y1,.i b.TileW,.i b.TileH,.r b.Components,.i a.Kernel,.i a.Levels,.i a.Color,.i a.BlockX,.i a.BlockY,.r a.Precincts,.i a.Order,.i a.Layers,.b a.Mode.Bypass,.b a.Mode.Restart,.b a.Mode.Reset,.b a.Mode.Causal,.b a.Mode.Symbols,.b a.Divide,.b a.Sync,.b a.Fence,.r a.Steps,.i a.Dead,.i a.Shift,.r q,.i c.X0,.i c.Y0,.i c.X1,.i c.Y1]
noncomputable def I_v:LoopG R:=fun l kn _ _=>match l with
  | .i a::.i b::.i c::.i d::.i e::.i f::.i g::.i i::.i X::.i j::.i m::.i o::.i p::.i q::.i r::.r s::.i t::.i u::.i v::.i w::.i y::.r z::.i A::.i B::.b D::.b E::.b F::.b H::.b I::.b J::.b K::.b L::.r M::.i N::.i O::.r Y::.i Q::.i S::.i U::.i W::[]=>B_U a b c d e f g i (D'.mk (F'.mk j m o p) q r s) (C'.mk t u v w y z A B (K'.mk D E F H I) J K L M N O) (F'.mk Q S U W) (R_V a b c d e f g i X (D'.mk (F'.mk j m o p) q r s) (C'.mk t u v w y z A B (K'.mk D E F H I) J K L M N O) Y (F'.mk Q S U W)) X Y (fun Z a0=>kn (E_y a b c d e f g i (D'.mk (F'.mk j m o p) q r s) (C'.mk t u v w y z A B (K'.mk D E F H I) J K L M N O) (F'.mk Q S U W) Z a0))
  | _=>none
noncomputable def R_W (c d e f a b:Int) (g:D') (i:C') (j:Rows):Nat:=Int.toNat (a-b)+1
noncomputable def I_w (c d j m e:Int) (f:D') (g:C') (a:Int) (i:Rows) (again:Int->Rows->Option R) (kn:Int->Rows->Option R):Option R:=bif (decide (a<e)) then let b:=M_9 f g c d a;let o:=IntKind.wrap .i64 (b.2.1*b.2.2);B_U c d a j m e a o f g b.1 (R_V c d a j m e a o 0 f g i b.1) 0 i (fun r p=>let q:=IntKind.wrap .i64 (a+1);again q p) else kn a i
noncomputable def B_V (a b c d e:Int) (f:D') (g:C'):Nat->Int->Rows->(Int->Rows->Option R)->Option R
  | 0,_,_,_=>none
  | n+1,i,j,kn=>I_w a b c d e f g i j (fun m o=>B_V a b c d e f g n m o kn) kn
noncomputable def G_d:ST:=⟨.undef::.undef::.int .i64::.ptr 0 0 0::.ptr 1 0 0::.undef::.undef::.vs 8::.int .i64::A_j 11 (.int .i64::.int .i64::A_j 4 (.int .i64::.int .i64::A_j 51 [])),[(0,.var D'.sh false D'.ts),(1,.var C'.sh false C'.ts),(8,.vec O'.sh false)],19⟩
noncomputable def E_z (c d e f g:Int) (b:D') (a:C') (i:Int) (j:Rows):St:=G_d.put [.i c,.i d,.i e,.i f,.i g,.i i,.i b.Area.X0,.i b.Area.Y0,.i b.Area.X1,.i b.Area.Y1,.i b.TileW,.i b.TileH,.r b.Components,.i a.Kernel,.i a.Levels,.i a.Color,.i a.BlockX,.i a.BlockY,.r a.Precincts,.i a.Order,.i a.Layers,.b a.Mode.Bypass,.b a.Mode.Restart,.b a.Mode.Reset,.b a.Mode.Causal,.b a.Mode.Symbols,.b a.Divide,.b a.Sync,.b a.Fence,.r a.Steps,.i a.Dead,.i a.Shift,.r j]
noncomputable def I_x:LoopG R:=fun l kn _ _=>match l with
  | .i a::.i b::.i c::.i d::.i e::.i M::.i f::.i g::.i i::.i j::.i m::.i o::.r p::.i q::.i r::.i s::.i t::.i u::.r v::.i w::.i y::.b z::.b A::.b B::.b D::.b E::.b F::.b H::.b I::.r J::.i K::.i L::.r N::[]=>B_V a b c d e (D'.mk (F'.mk f g i j) m o p) (C'.mk q r s t u v w y (K'.mk z A B D E) F H I J K L) (R_W a b c d e M (D'.mk (F'.mk f g i j) m o p) (C'.mk q r s t u v w y (K'.mk z A B D E) F H I J K L) N) M N (fun O Q=>kn (E_z a b c d e (D'.mk (F'.mk f g i j) m o p) (C'.mk q r s t u v w y (K'.mk z A B D E) F H I J K L) O Q))
  | _=>none
noncomputable def R_X (c a b:Int) (d:D') (e:C') (f:Rows):Nat:=Int.toNat (a-b)+1
noncomputable def I_y (e b:Int) (f:D') (c:C') (a:Int) (d:Rows) (again:Int->Rows->Option R) (kn:Int->Rows->Option R):Option R:=bif (decide (a<b)) then let g:=IntKind.wrap .i64 (c.Levels+1);B_V e a b a g f c (R_W e a b a g 0 f c d) 0 d (fun m i=>let j:=IntKind.wrap .i64 (a+1);again j i) else kn a d
noncomputable def B_W (a b:Int) (c:D') (d:C'):Nat->Int->Rows->(Int->Rows->Option R)->Option R
  | 0,_,_,_=>none
  | n+1,e,f,kn=>I_y a b c d e f (fun g i=>B_W a b c d n g i kn) kn
noncomputable def G_e:ST:=⟨.undef::.undef::.int .i64::.ptr 0 0 0::.ptr 1 0 0::.undef::.undef::.vs 8::A_j 12 (.int .i64::.int .i64::A_j 57 []),[(0,.var D'.sh false D'.ts),(1,.var C'.sh false C'.ts),(8,.vec O'.sh false)],9⟩
noncomputable def E_A (c d:Int) (b:D') (a:C') (e:Int) (f:Rows):St:=G_e.put [.i c,.i d,.i e,.i b.Area.X0,.i b.Area.Y0,.i b.Area.X1,.i b.Area.Y1,.i b.TileW,.i b.TileH,.r b.Components,.i a.Kernel,.i a.Levels,.i a.Color,.i a.BlockX,.i a.BlockY,.r a.Precincts,.i a.Order,.i a.Layers,.b a.Mode.Bypass,.b a.Mode.Restart,.b a.Mode.Reset,.b a.Mode.Causal,.b a.Mode.Symbols,.b a.Divide,.b a.Sync,.b a.Fence,.r a.Steps,.i a.Dead,.i a.Shift,.r f]
noncomputable def I_z:LoopG R:=fun l kn _ _=>match l with
  | .i a::.i b::.i J::.i c::.i d::.i e::.i f::.i g::.i i::.r j::.i m::.i o::.i p::.i q::.i r::.r s::.i t::.i u::.b v::.b w::.b y::.b z::.b A::.b B::.b D::.b E::.r F::.i H::.i I::.r K::[]=>B_W a b (D'.mk (F'.mk c d e f) g i j) (C'.mk m o p q r s t u (K'.mk v w y z A) B D E F H I) (R_X a b J (D'.mk (F'.mk c d e f) g i j) (C'.mk m o p q r s t u (K'.mk v w y z A) B D E F H I) K) J K (fun L M=>kn (E_A a b (D'.mk (F'.mk c d e f) g i j) (C'.mk m o p q r s t u (K'.mk v w y z A) B D E F H I) L M))
  | _=>none
noncomputable def O_2:Sorts:=⟨fun f=>Nat.beq f 108,fun sf g caps=>bif Nat.beq sf 108&&Nat.beq g 109 then l_X caps else (none)⟩
noncomputable def A_P:Env R:=⟨Tryz.prog,callCons 106 y_5 (callCons 107 y_7 callNil),fun id=>bif Nat.beq id 6 then loopAlt G_b I_t loopNil else (fun id=>bif Nat.beq id 4 then loopAlt G_c I_v loopNil else (fun id=>bif Nat.beq id 2 then loopAlt G_d I_x loopNil else (fun id=>bif Nat.beq id 0 then loopAlt G_e I_z loopNil else (fun _ _ _ _ _=>none) id) id) id) id,Tryz.f75.results.toList,maskTab 79 [(0,0x1c),(1,0x9c),(2,0x30009c),(3,0x70009c),(4,0x30019c),(5,0xc30019c),(6,0x1c30019c),(7,0xc30039c),(8,0xc301f9c),(9,0xc000c30079c),(10,0x1c000c30079c),(11,0xc000c30279c),(12,0xc000c30479c),(13,0xc000c30c79c),(14,0x18000c000c30c79c),(15,0x38000c000c30c79c),(16,0x18000c000c32c79c),(17,0x18000c000c30c79c),(18,0x18000c000c30c79c),(19,0x18000c000c30c79c),(20,0xc000c30079c),(21,0xc30019c),(22,0x30009c),(23,0x80),(24,0x40)],maskAt [(1,8),(2,3),(4,4),(5,19),(6,12),(8,13),(9,44),(10,15),(12,23),(13,71),(14,24),(16,26),(18,40),(20,48),(22,49),(24,51),(26,57),(28,68),(30,75),(32,76),(34,78),(36,81),(38,88),(40,90),(42,92),(44,94),(46,96),(48,99)],O_2⟩
theorem R_Y (a b c d e f g i j m:Int) (o:D') (p:C') (q:F') (r s t:Int) (u:X') (z:Int) (A:Rows) (B:Int) (kn:St->Option R) (kx:Nat->St->Option R) (kr:V->Option R) (n:Nat) (D:Int) (E:Rows) (F:Int) :
    loopN A_P 6 (loopAt Tryz.f75 3) (E_x a b c d e f g i j m o p q r s t u z A B) kn kx kr (n+1) (E_x a b c d e f g i j m o p q r s t u D E F) =
    I_s a b c d e f g i j m o p q r s t u D E F (fun v w y=>loopN A_P 6 (loopAt Tryz.f75 3) (E_x a b c d e f g i j m o p q r s t u z A B) kn kx kr n (E_x a b c d e f g i j m o p q r s t u v w y)) (fun v w y=>kn (E_x a b c d e f g i j m o p q r s t u v w y)):=by kernel_rfl
theorem L_j (a b c d e f g i j m:Int) (o:D') (p:C') (q:F') (r s t:Int) (u:X') (D:Int) (E:Rows) (F:Int) (kn:St->Option R) (kx:Nat->St->Option R) (kr:V->Option R):∀ (n:Nat) (v:Int) (w:Rows) (y:Int),
    C_B a b c d e f g i j m o p q r s t u n v w y (fun z A B=>kn (E_x a b c d e f g i j m o p q r s t u z A B))=loopN A_P 6 (loopAt Tryz.f75 3) (E_x a b c d e f g i j m o p q r s t u D E F) kn kx kr n (E_x a b c d e f g i j m o p q r s t u v w y)
  | 0,_,_,_=>rfl
  | n+1,v,w,y=>by
    rw [R_Y,C_B]
    congr 1
    funext z A B
    exact L_j a b c d e f g i j m o p q r s t u D E F kn kx kr n z A B
theorem Y_N {rest} (h:GoodL (R:=R) A_P 6 (loopAt Tryz.f75 3) rest):GoodL (R:=R) A_P 6 (loopAt Tryz.f75 3) (loopAlt G_b I_t rest):=by
  refine goodL_alt (fun l kn kx kr r h=>?_) h
  unfold I_t at h
  split at h
  · rename_i d e f g i j m o p q a s t u v w y z A B D E F H I J K L M N O Q S U W X Y b Z a0 a1 a2 a3 a4 a5 c a6 a7
    exact ⟨_,(L_j d e f g i j m o p q (D'.mk (F'.mk s t u v) w y z) (C'.mk A B D E F H I J (K'.mk K L M N O) Q S U W X Y) (F'.mk Z a0 a1 a2) a3 a4 a5 (X'.mk a6 a7) a b c kn kx kr _ a b c).symm.trans h⟩
  · cases h
theorem R_Z (a b c d e f g i:Int) (j:D') (m:C') (o:F') (r:Int) (s:Rows) (kn:St->Option R) (kx:Nat->St->Option R) (kr:V->Option R) (n:Nat) (t:Int) (u:Rows) :
    loopN A_P 4 (loopAt Tryz.f75 2) (E_y a b c d e f g i j m o r s) kn kx kr (n+1) (E_y a b c d e f g i j m o t u) =
    I_u a b c d e f g i j m o t u (fun p q=>loopN A_P 4 (loopAt Tryz.f75 2) (E_y a b c d e f g i j m o r s) kn kx kr n (E_y a b c d e f g i j m o p q)) (fun p q=>kn (E_y a b c d e f g i j m o p q)):=by kernel_rfl
theorem L_k (a b c d e f g i:Int) (j:D') (m:C') (o:F') (t:Int) (u:Rows) (kn:St->Option R) (kx:Nat->St->Option R) (kr:V->Option R):∀ (n:Nat) (p:Int) (q:Rows),
    B_U a b c d e f g i j m o n p q (fun r s=>kn (E_y a b c d e f g i j m o r s))=loopN A_P 4 (loopAt Tryz.f75 2) (E_y a b c d e f g i j m o t u) kn kx kr n (E_y a b c d e f g i j m o p q)
  | 0,_,_=>rfl
  | n+1,p,q=>by
    rw [R_Z,B_U]
    congr 1
    funext r s
    exact L_k a b c d e f g i j m o t u kn kx kr n r s
theorem Y_O {rest} (h:GoodL (R:=R) A_P 4 (loopAt Tryz.f75 2) rest):GoodL (R:=R) A_P 4 (loopAt Tryz.f75 2) (loopAlt G_c I_v rest):=by
  refine goodL_alt (fun l kn kx kr r h=>?_) h
  unfold I_v at h
  split at h
  · rename_i c d e f g i j m a o p q s t u v w y z A B D E F H I J K L M N O Q S U b W X Y Z
    exact ⟨_,(L_k c d e f g i j m (D'.mk (F'.mk o p q s) t u v) (C'.mk w y z A B D E F (K'.mk H I J K L) M N O Q S U) (F'.mk W X Y Z) a b kn kx kr _ a b).symm.trans h⟩
  · cases h
theorem R_0 (a b c d e:Int) (f:D') (g:C') (m:Int) (o:Rows) (kn:St->Option R) (kx:Nat->St->Option R) (kr:V->Option R) (n:Nat) (p:Int) (q:Rows) :
    loopN A_P 2 (loopAt Tryz.f75 1) (E_z a b c d e f g m o) kn kx kr (n+1) (E_z a b c d e f g p q) =
    I_w a b c d e f g p q (fun i j=>loopN A_P 2 (loopAt Tryz.f75 1) (E_z a b c d e f g m o) kn kx kr n (E_z a b c d e f g i j)) (fun i j=>kn (E_z a b c d e f g i j)):=by kernel_rfl
theorem L_l (a b c d e:Int) (f:D') (g:C') (p:Int) (q:Rows) (kn:St->Option R) (kx:Nat->St->Option R) (kr:V->Option R):∀ (n:Nat) (i:Int) (j:Rows),
    B_V a b c d e f g n i j (fun m o=>kn (E_z a b c d e f g m o))=loopN A_P 2 (loopAt Tryz.f75 1) (E_z a b c d e f g p q) kn kx kr n (E_z a b c d e f g i j)
  | 0,_,_=>rfl
  | n+1,i,j=>by
    rw [R_0,B_V]
    congr 1
    funext m o
    exact L_l a b c d e f g p q kn kx kr n m o
theorem Y_P {rest} (h:GoodL (R:=R) A_P 2 (loopAt Tryz.f75 1) rest):GoodL (R:=R) A_P 2 (loopAt Tryz.f75 1) (loopAlt G_d I_x rest):=by
  refine goodL_alt (fun l kn kx kr r h=>?_) h
  unfold I_x at h
  split at h
  · rename_i c d e f g a i j m o p q s t u v w y z A B D E F H I J K L M N O b
    exact ⟨_,(L_l c d e f g (D'.mk (F'.mk i j m o) p q s) (C'.mk t u v w y z A B (K'.mk D E F H I) J K L M N O) a b kn kx kr _ a b).symm.trans h⟩
  · cases h
theorem R_1 (a b:Int) (c:D') (d:C') (g:Int) (i:Rows) (kn:St->Option R) (kx:Nat->St->Option R) (kr:V->Option R) (n:Nat) (j:Int) (m:Rows) :
    loopN A_P 0 (loopAt Tryz.f75 0) (E_A a b c d g i) kn kx kr (n+1) (E_A a b c d j m) =
    I_y a b c d j m (fun e f=>loopN A_P 0 (loopAt Tryz.f75 0) (E_A a b c d g i) kn kx kr n (E_A a b c d e f)) (fun e f=>kn (E_A a b c d e f)):=by kernel_rfl
theorem L_m (a b:Int) (c:D') (d:C') (j:Int) (m:Rows) (kn:St->Option R) (kx:Nat->St->Option R) (kr:V->Option R):∀ (n:Nat) (e:Int) (f:Rows),
    B_W a b c d n e f (fun g i=>kn (E_A a b c d g i))=loopN A_P 0 (loopAt Tryz.f75 0) (E_A a b c d j m) kn kx kr n (E_A a b c d e f)
  | 0,_,_=>rfl
  | n+1,e,f=>by
    rw [R_1,B_W]
    congr 1
    funext g i
    exact L_m a b c d j m kn kx kr n g i
theorem Y_Q {rest} (h:GoodL (R:=R) A_P 0 (loopAt Tryz.f75 0) rest):GoodL (R:=R) A_P 0 (loopAt Tryz.f75 0) (loopAlt G_e I_z rest):=by
  refine goodL_alt (fun l kn kx kr r h=>?_) h
  unfold I_z at h
  split at h
  · rename_i c d a e f g i j m o p q s t u v w y z A B D E F H I J K L b
    exact ⟨_,(L_m c d (D'.mk (F'.mk e f g i) j m o) (C'.mk p q s t u v w y (K'.mk z A B D E) F H I J K L) a b kn kx kr _ a b).symm.trans h⟩
  · cases h
theorem d_7:GoodLoop (R:=R) A_P 0 (loopAt Tryz.f75 0):=goodL_loop (g:=loopAlt G_e I_z loopNil) (fun _ _ _ _=>rfl) (Y_Q goodL_nil)
theorem d_8:GoodLoop (R:=R) A_P 2 (loopAt Tryz.f75 1):=goodL_loop (g:=loopAlt G_d I_x loopNil) (fun _ _ _ _=>rfl) (Y_P goodL_nil)
theorem d_9:GoodLoop (R:=R) A_P 4 (loopAt Tryz.f75 2):=goodL_loop (g:=loopAlt G_c I_v loopNil) (fun _ _ _ _=>rfl) (Y_O goodL_nil)
theorem e_a:GoodLoop (R:=R) A_P 6 (loopAt Tryz.f75 3):=goodL_loop (g:=loopAlt G_b I_t loopNil) (fun _ _ _ _=>rfl) (Y_N goodL_nil)
noncomputable def T_3 (a:D') (b:C') (d:Int) (k:V->Option R):Option R:=let e:=(((List.length a.Components):Nat):Int);B_W d e a b (R_X d e 0 a b []) 0 [] (fun g c=>bif (Nat.blt (List.length c) 4611686018427387904&&true&&(c.all fun r=>V_b (r.map V.toInt))) then anyS (fun z=>z.Perm c/\sortedBy (O_g b) z) fun f=>k (V.data O'.sh f) else none)
abbrev p_T (a:D') (b:C') (c:Int):List V:=[(D'.v a),(C'.v b),V.int .i64 c]
theorem Y_R (a:D') (b:C') (c:Int) (k:V->Option R):fnK A_P Tryz.f75 (p_T a b c) k=T_3 a b c k:=by kernel_rfl
theorem w_4 (h_B3:r_b) (h_B1:r_e) (h_srt:M_3 Tryz.prog O_2) (h:∀ (a:D') (b:C') (d:Int),R_g a b d=true->Real (p_T a b d)->T_3 a b d some=some (V.data O'.sh (Q_s a b d))):o_x:=goodHook1 fun l hp=>by
  unfold o_w at hp
  split at hp
  · rename_i f g i j m o p q r s t u v w y z A B D F H I J K L M N
    exact fn_ok (fn:=Tryz.f75) (c:=bodyOf Tryz.f75) (E:=A_P) ⟨by kernel_rfl,(goodCons h_B3 (goodCons h_B1 goodNil)),rfl,h_srt⟩ rfl (by kernel_rfl) (by kernel_rfl) (by kernel_rfl) (loopsOK_of _ (by have e:loopsOf (bodyOf Tryz.f75)=[(0,loopAt Tryz.f75 0),(2,loopAt Tryz.f75 1),(4,loopAt Tryz.f75 2),(6,loopAt Tryz.f75 3)]:=(by kernel_rfl);rw [e];simp only [List.forall_mem_cons,List.not_mem_nil,false_implies,implies_true,and_true];exact ⟨d_7,d_8,d_9,e_a⟩)) (fun hr=>(Y_R (D'.mk (F'.mk f g i j) m o p) (C'.mk q r s t u v w y (K'.mk z A B D F) H I J K L M) N some).trans (h (D'.mk (F'.mk f g i j) m o p) (C'.mk q r s t u v w y (K'.mk z A B D F) H I J K L M) N hp hr))
  · cases hp
noncomputable def R_2 (c:Rows) (a b:Int) (d:Rows):Nat:=Int.toNat (a-b)+1
noncomputable def I_A (c:Rows) (d:Int) (a:Int) (b:Rows) (again:Int->Rows->Option R) (kn:Int->Rows->Option R):Option R:=bif (decide (a<d)) then bif (inR a (List.length c)) then let e:=List.getD c (Int.toNat a) [];let f:=I'.of e;bif (roomOK ((List.length b)+(1:Nat)) 32) then let g:=b++[(G'.row f.id)];let i:=IntKind.wrap .i64 (a+1);again i g else none else none else kn a b
noncomputable def D_z (a:Rows) (b:Int):Nat->Int->Rows->(Int->Rows->Option R)->Option R
  | 0,_,_,_=>none
  | n+1,c,d,kn=>I_A a b c d (fun e f=>D_z a b n e f kn) kn
noncomputable def G_f:ST:=⟨A_j 9 (.vs 21::A_j 12 (.data O'.sh::.int .i64::.int .i64::A_j 10 [])),[(21,.vec F'.sh false)],22⟩
noncomputable def E_B (a:Rows) (b:Int) (c:Int) (d:Rows):St:=G_f.put [.r a,.i b,.i c,.r d]
noncomputable def I_B:LoopG R:=fun l kn _ _=>match l with
  | .r a::.i b::.i c::.r d::[]=>D_z a b (R_2 a b c d) c d (fun e f=>kn (E_B a b e f))
  | _=>none
noncomputable def L_n:Env R:=⟨Tryz.prog,callCons 74 y_1 (callCons 75 z_c callNil),fun id=>bif Nat.beq id 0 then loopAlt G_f I_B loopNil else (fun _ _ _ _ _=>none) id,Tryz.f43.results.toList,maskTab 35 [(0,0x1c),(1,0x11c),(2,0x2011c),(3,0xc0),(4,0x21c),(5,0x1c00200),(6,0x3c00200),(7,0x1c00a00),(8,0x1c00200),(9,0x1c00200),(10,0xc0)],maskAt [(1,21),(2,4),(4,9),(6,11),(8,14),(10,15),(12,25),(14,26),(16,30),(18,36),(20,38)],noSort⟩
theorem R_3 (a:Rows) (b:Int) (e:Int) (f:Rows) (kn:St->Option R) (kx:Nat->St->Option R) (kr:V->Option R) (n:Nat) (g:Int) (i:Rows) :
    loopN L_n 0 (loopAt Tryz.f43 0) (E_B a b e f) kn kx kr (n+1) (E_B a b g i) =
    I_A a b g i (fun c d=>loopN L_n 0 (loopAt Tryz.f43 0) (E_B a b e f) kn kx kr n (E_B a b c d)) (fun c d=>kn (E_B a b c d)):=by kernel_rfl
theorem L_o (a:Rows) (b:Int) (g:Int) (i:Rows) (kn:St->Option R) (kx:Nat->St->Option R) (kr:V->Option R):∀ (n:Nat) (c:Int) (d:Rows),
    D_z a b n c d (fun e f=>kn (E_B a b e f))=loopN L_n 0 (loopAt Tryz.f43 0) (E_B a b g i) kn kx kr n (E_B a b c d)
  | 0,_,_=>rfl
  | n+1,c,d=>by
    rw [R_3,D_z]
    congr 1
    funext e f
    exact L_o a b g i kn kx kr n e f
theorem Y_S {rest} (h:GoodL (R:=R) L_n 0 (loopAt Tryz.f43 0) rest):GoodL (R:=R) L_n 0 (loopAt Tryz.f43 0) (loopAlt G_f I_B rest):=by
  refine goodL_alt (fun l kn kx kr r h=>?_) h
  unfold I_B at h
  split at h
  · rename_i c d a b
    exact ⟨_,(L_o c d a b kn kx kr _ a b).symm.trans h⟩
  · cases h
theorem e_b:GoodLoop (R:=R) L_n 0 (loopAt Tryz.f43 0):=goodL_loop (g:=loopAlt G_f I_B loopNil) (fun _ _ _ _=>rfl) (Y_S goodL_nil)
noncomputable def T_4 (a:D') (b:C') (c:Int) (k:V->Option R):Option R:=let e:=T_r a b c;bif (e != 0) then k (V.tup [(V.data F'.sh []),V.int .i64 e]) else bif (R_g a b c) then let d:=Q_s a b c;let f:=(((List.length d):Nat):Int);D_z d f (R_2 d f 0 []) 0 [] (fun i g=>k (V.tup [V.data F'.sh g,(V.int .i64 0)])) else none
abbrev p_U (a:D') (b:C') (c:Int):List V:=[(D'.v a),(C'.v b),V.int .i64 c]
theorem Y_T (a:D') (b:C') (c:Int) (k:V->Option R):fnK L_n Tryz.f43 (p_U a b c) k=T_4 a b c k:=by kernel_rfl
theorem w_5 (h_D9:q_7) (h_G5:o_x) (h:∀ (a:D') (b:C') (d:Int),Real (p_U a b d)->T_4 a b d some=some (V.tup [(V.data F'.sh (M_x a b d).1),(V.int .i64 (M_x a b d).2)])):o_z:=goodHook1 fun l hp=>by
  unfold o_y at hp
  split at hp
  · rename_i f g i j m o p q r s t u v w y z A B D F H I J K L M N
    exact fn_ok (fn:=Tryz.f43) (c:=bodyOf Tryz.f43) (E:=L_n) ⟨by kernel_rfl,(goodCons h_D9 (goodCons h_G5 goodNil)),rfl,M'⟩ rfl (by kernel_rfl) (by kernel_rfl) (by kernel_rfl) (loopsOK_of _ (by have e:loopsOf (bodyOf Tryz.f43)=[(0,loopAt Tryz.f43 0)]:=(by kernel_rfl);rw [e];simp only [List.forall_mem_cons,List.not_mem_nil,false_implies,implies_true,and_true];exact e_b)) (fun hr=>(Y_T (D'.mk (F'.mk f g i j) m o p) (C'.mk q r s t u v w y (K'.mk z A B D F) H I J K L M) N some).trans (h (D'.mk (F'.mk f g i j) m o p) (C'.mk q r s t u v w y (K'.mk z A B D F) H I J K L M) N hr))
  · cases hp
noncomputable def R_4 (c:Rows) (d e:Int) (f:Rows) (a b:Int) (g:D') (i:C') (j m o:Rows):Nat:=Int.toNat (a-b)+1
noncomputable def I_C (j:Rows) (m o:Int) (c:Rows) (e:Int) (p:D') (q:C') (r s:Rows) (a:Int) (b:Rows) (again:Int->Rows->Option R) (kn:Int->Rows->Option R):Option R:=bif (decide (a<e)) then bif (inR a (List.length c)) then let f:=List.getD c (Int.toNat a) [];let d:=G'.of f;bif (((keyOK Tryz.prog A_0 (G'.v d) b&&true)&&true)&&true) then let g:=mapPut b (G'.v d) (V.int .i64 a);let i:=IntKind.wrap .i64 (a+1);again i g else none else none else kn a b
noncomputable def C_C (a:Rows) (b c:Int) (d:Rows) (e:Int) (f:D') (g:C') (i j:Rows):Nat->Int->Rows->(Int->Rows->Option R)->Option R
  | 0,_,_,_=>none
  | n+1,m,o,kn=>I_C a b c d e f g i j m o (fun p q=>C_C a b c d e f g i j n p q kn) kn
noncomputable def G_g:ST:=⟨.undef::.undef::.data V'.sh::.ptr 0 0 0::.ptr 1 0 0::A_j 3 (.vs 9::A_j 3 (.ptr 33 0 0::A_j 8 (.int .i64::.int .i64::A_j 15 (.data F'.sh::.int .i64::.int .i64::A_j 61 [])))),[(0,.var D'.sh false D'.ts),(1,.var C'.sh false C'.ts),(9,.vec A_b.sh false),(31,.var [.mark] false [.mdat]),(33,.var A_b.sh false [.data F'.sh,.mp 31])],38⟩
noncomputable def E_C (c:Rows) (d e:Int) (f:Rows) (g:Int) (b:D') (a:C') (i j:Rows) (m:Int) (o:Rows):St:=G_g.put [.r c,.i d,.i e,.r f,.i g,.i m,.i b.Area.X0,.i b.Area.Y0,.i b.Area.X1,.i b.Area.Y1,.i b.TileW,.i b.TileH,.r b.Components,.i a.Kernel,.i a.Levels,.i a.Color,.i a.BlockX,.i a.BlockY,.r a.Precincts,.i a.Order,.i a.Layers,.b a.Mode.Bypass,.b a.Mode.Restart,.b a.Mode.Reset,.b a.Mode.Causal,.b a.Mode.Symbols,.b a.Divide,.b a.Sync,.b a.Fence,.r a.Steps,.i a.Dead,.i a.Shift,.r i,.r o,.r j]
noncomputable def I_D:LoopG R:=fun l kn _ _=>match l with
  | .r a::.i b::.i c::.r d::.i e::.i O::.i f::.i g::.i i::.i j::.i m::.i o::.r p::.i q::.i r::.i s::.i t::.i u::.r v::.i w::.i y::.b z::.b A::.b B::.b D::.b E::.b F::.b H::.b I::.r J::.i K::.i L::.r M::.r Q::.r N::[]=>C_C a b c d e (D'.mk (F'.mk f g i j) m o p) (C'.mk q r s t u v w y (K'.mk z A B D E) F H I J K L) M N (R_4 a b c d e O (D'.mk (F'.mk f g i j) m o p) (C'.mk q r s t u v w y (K'.mk z A B D E) F H I J K L) M Q N) O Q (fun S U=>kn (E_C a b c d e (D'.mk (F'.mk f g i j) m o p) (C'.mk q r s t u v w y (K'.mk z A B D E) F H I J K L) M N S U))
  | _=>none
noncomputable def R_5 (c:Rows) (a b:Int) (d:D') (e:C') (f:Rows):Nat:=Int.toNat (a-b)+1
noncomputable def I_E (g:Rows) (d:Int) (e:D') (f:C') (b:Int) (c:Rows) (again:Int->Rows->Option R) (kn:Int->Rows->Option R) (kr:V->Option R):Option R:=bif (decide (b<d)) then let a:=M_x e f b;bif (a.2 != 0) then kr (V.tup [(V.data A_b.sh []),V.int .i64 a.2]) else let i:=(((List.length a.1):Nat):Int);C_C g d b a.1 i e f c a.1 (R_4 g d b a.1 i 0 e f c [] a.1) 0 [] (fun p j=>bif (roomOK ((List.length c)+(1:Nat)) 32) then let m:=c++[[V.data F'.sh a.1,(V.mdat j)]];let o:=IntKind.wrap .i64 (b+1);again o m else none) else kn b c
noncomputable def D_A (a:Rows) (b:Int) (c:D') (d:C'):Nat->Int->Rows->(Int->Rows->Option R)->(V->Option R)->Option R
  | 0,_,_,_,_=>none
  | n+1,e,f,kn,kr=>I_E a b c d e f (fun g i=>D_A a b c d n g i kn kr) kn kr
noncomputable def G_h:ST:=⟨.undef::.undef::.data V'.sh::.ptr 0 0 0::.ptr 1 0 0::A_j 3 (.vs 9::A_j 12 (.int .i64::.int .i64::A_j 79 [])),[(0,.var D'.sh false D'.ts),(1,.var C'.sh false C'.ts),(9,.vec A_b.sh false)],10⟩
noncomputable def E_D (c:Rows) (d:Int) (b:D') (a:C') (e:Int) (f:Rows):St:=G_h.put [.r c,.i d,.i e,.i b.Area.X0,.i b.Area.Y0,.i b.Area.X1,.i b.Area.Y1,.i b.TileW,.i b.TileH,.r b.Components,.i a.Kernel,.i a.Levels,.i a.Color,.i a.BlockX,.i a.BlockY,.r a.Precincts,.i a.Order,.i a.Layers,.b a.Mode.Bypass,.b a.Mode.Restart,.b a.Mode.Reset,.b a.Mode.Causal,.b a.Mode.Symbols,.b a.Divide,.b a.Sync,.b a.Fence,.r a.Steps,.i a.Dead,.i a.Shift,.r f]
noncomputable def I_F:LoopG R:=fun l kn _ kr=>match l with
  | .r a::.i b::.i J::.i c::.i d::.i e::.i f::.i g::.i i::.r j::.i m::.i o::.i p::.i q::.i r::.r s::.i t::.i u::.b v::.b w::.b y::.b z::.b A::.b B::.b D::.b E::.r F::.i H::.i I::.r K::[]=>D_A a b (D'.mk (F'.mk c d e f) g i j) (C'.mk m o p q r s t u (K'.mk v w y z A) B D E F H I) (R_5 a b J (D'.mk (F'.mk c d e f) g i j) (C'.mk m o p q r s t u (K'.mk v w y z A) B D E F H I) K) J K (fun L M=>kn (E_D a b (D'.mk (F'.mk c d e f) g i j) (C'.mk m o p q r s t u (K'.mk v w y z A) B D E F H I) L M)) kr
  | _=>none
noncomputable def N_s (c:Rows) (a b:Int) (d:Rows):Nat:=Int.toNat (a-b)+1
noncomputable def I_G (e:Rows) (f:Int) (c:Rows) (b:Int) (again:Int->Option R) (kn:Int->Option R) (kr:V->Option R):Option R:=bif (decide (b<f)) then bif (inR b (List.length e)) then let g:=List.getD e (Int.toNat b) [];let a:=V'.of g;let i:=decide (a.Tile<0);bif (i==false) then let j:=(((List.length c):Nat):Int);let m:=decide (a.Tile >= j);let o:=decide (a.Span.From<0);let p:Bool:=(bif m then true else o);let q:=decide (a.Span.To<a.Span.From);let r:Bool:=(bif p then true else q);bif r then kr (V.tup [(V.data A_b.sh []),(V.int .i64 1)]) else bif (inR a.Tile (List.length c)) then let d:=V.toMap (List.getD (List.getD c (Int.toNat a.Tile) []) 1 V.undef);bif ((((OR.c (elemV Tryz.prog h_f (mapGet d (G'.v a.ID) (V.int .i64 0)))&&keyOK Tryz.prog A_0 (G'.v a.ID) d)&&true)&&true)&&true) then let s:=mapHas d (G'.v a.ID);bif (!s) then kr (V.tup [(V.data A_b.sh []),(V.int .i64 1)]) else let t:=IntKind.wrap .i64 (b+1);again t else none else none else kr (V.tup [(V.data A_b.sh []),(V.int .i64 1)]) else none else kn b
noncomputable def C_D (a:Rows) (b:Int) (c:Rows):Nat->Int->(Int->Option R)->(V->Option R)->Option R
  | 0,_,_,_=>none
  | n+1,d,kn,kr=>I_G a b c d (fun e=>C_D a b c n e kn kr) kn kr
noncomputable def G_i:ST:=⟨A_j 8 (.vs 9::A_j 46 (.data V'.sh::.int .i64::.int .i64::A_j 44 [])),[(9,.vec A_b.sh false)],66⟩
noncomputable def E_E (a:Rows) (b:Int) (c:Rows) (d:Int):St:=G_i.put [.r a,.i b,.i d,.r c]
noncomputable def I_H:LoopG R:=fun l kn _ kr=>match l with
  | .r a::.i b::.i d::.r c::[]=>C_D a b c (N_s a b d c) d (fun e=>kn (E_E a b c e)) kr
  | _=>none
noncomputable def B_p:Env R:=⟨Tryz.prog,callCons 42 m_B (callCons 43 z_d callNil),fun id=>bif Nat.beq id 2 then loopAlt G_g I_D loopNil else (fun id=>bif Nat.beq id 0 then loopAlt G_h I_F loopNil else (fun id=>bif Nat.beq id 4 then loopAlt G_i I_H loopNil else (fun _ _ _ _ _=>none) id) id) id,Tryz.f16.results.toList,maskTab 102 [(0,0x1fcf3e000000000000001c),(1,0x1fcf3e000000000000011c),(2,0x1fcf3e000000000060011c),(3,0x1fcf3e0000000000e0011c),(4,0x1fcf3e000000000060031c),(5,0x1fcf3e0000000000600d1c),(6,0x1fcf3e0000000200600d1c),(7,0xc0),(8,0x1fcf3e000000000060151c),(9,0x1fcf3e000001c00060111c),(10,0x1fcf3e000003c00060111c),(11,0x1fcf3e000001c00060711c),(12,0x1fcf3e000001c00060111c),(13,0x1fcf3e000001c00060111c),(14,0x1fcf3e000000000060011c),(15,0x1fcf3e000000000060011c),(16,0x1fcf3e0380000000000100),(17,0x1fcf3e0780000000000100),(18,0x1fcf3e0380000000010100),(19,0x3fcf3e0380000000010100),(20,0xc0),(21,0x1fcf3e0380000000040100),(22,0x8001fcf3e0380000000000100),(23,0xc0),(24,0x1fcf3e0380000000000100),(25,0xc0)],maskAt [(1,9),(2,4),(4,5),(5,38),(6,13),(8,14),(9,66),(10,16),(12,25),(14,27),(16,30),(18,35),(20,42),(22,43),(24,49),(26,54),(28,56),(30,61),(32,63),(34,70),(36,71),(38,75),(40,100),(42,102),(44,116),(46,118),(48,120),(50,122)],noSort⟩
theorem R_6 (a:Rows) (b c:Int) (d:Rows) (e:Int) (f:D') (g:C') (i j:Rows) (p:Int) (q:Rows) (kn:St->Option R) (kx:Nat->St->Option R) (kr:V->Option R) (n:Nat) (r:Int) (s:Rows) :
    loopN B_p 2 (loopAt Tryz.f16 1) (E_C a b c d e f g i j p q) kn kx kr (n+1) (E_C a b c d e f g i j r s) =
    I_C a b c d e f g i j r s (fun m o=>loopN B_p 2 (loopAt Tryz.f16 1) (E_C a b c d e f g i j p q) kn kx kr n (E_C a b c d e f g i j m o)) (fun m o=>kn (E_C a b c d e f g i j m o)):=by kernel_rfl
theorem L_p (a:Rows) (b c:Int) (d:Rows) (e:Int) (f:D') (g:C') (i j:Rows) (r:Int) (s:Rows) (kn:St->Option R) (kx:Nat->St->Option R) (kr:V->Option R):∀ (n:Nat) (m:Int) (o:Rows),
    C_C a b c d e f g i j n m o (fun p q=>kn (E_C a b c d e f g i j p q))=loopN B_p 2 (loopAt Tryz.f16 1) (E_C a b c d e f g i j r s) kn kx kr n (E_C a b c d e f g i j m o)
  | 0,_,_=>rfl
  | n+1,m,o=>by
    rw [R_6,C_C]
    congr 1
    funext p q
    exact L_p a b c d e f g i j r s kn kx kr n p q
theorem Y_U {rest} (h:GoodL (R:=R) B_p 2 (loopAt Tryz.f16 1) rest):GoodL (R:=R) B_p 2 (loopAt Tryz.f16 1) (loopAlt G_g I_D rest):=by
  refine goodL_alt (fun l kn kx kr r h=>?_) h
  unfold I_D at h
  split at h
  · rename_i c d e f g a i j m o p q s t u v w y z A B D E F H I J K L M N O Q b S
    exact ⟨_,(L_p c d e f g (D'.mk (F'.mk i j m o) p q s) (C'.mk t u v w y z A B (K'.mk D E F H I) J K L M N O) Q S a b kn kx kr _ a b).symm.trans h⟩
  · cases h
theorem R_7 (a:Rows) (b:Int) (c:D') (d:C') (g:Int) (i:Rows) (kn:St->Option R) (kx:Nat->St->Option R) (kr:V->Option R) (n:Nat) (j:Int) (m:Rows) :
    loopN B_p 0 (loopAt Tryz.f16 0) (E_D a b c d g i) kn kx kr (n+1) (E_D a b c d j m) =
    I_E a b c d j m (fun e f=>loopN B_p 0 (loopAt Tryz.f16 0) (E_D a b c d g i) kn kx kr n (E_D a b c d e f)) (fun e f=>kn (E_D a b c d e f)) kr:=by kernel_rfl
theorem L_q (a:Rows) (b:Int) (c:D') (d:C') (j:Int) (m:Rows) (kn:St->Option R) (kx:Nat->St->Option R) (kr:V->Option R):∀ (n:Nat) (e:Int) (f:Rows),
    D_A a b c d n e f (fun g i=>kn (E_D a b c d g i)) kr=loopN B_p 0 (loopAt Tryz.f16 0) (E_D a b c d j m) kn kx kr n (E_D a b c d e f)
  | 0,_,_=>rfl
  | n+1,e,f=>by
    rw [R_7,D_A]
    congr 1
    funext g i
    exact L_q a b c d j m kn kx kr n g i
theorem Y_V {rest} (h:GoodL (R:=R) B_p 0 (loopAt Tryz.f16 0) rest):GoodL (R:=R) B_p 0 (loopAt Tryz.f16 0) (loopAlt G_h I_F rest):=by
  refine goodL_alt (fun l kn kx kr r h=>?_) h
  unfold I_F at h
  split at h
  · rename_i c d a e f g i j m o p q s t u v w y z A B D E F H I J K L b
    exact ⟨_,(L_q c d (D'.mk (F'.mk e f g i) j m o) (C'.mk p q s t u v w y (K'.mk z A B D E) F H I J K L) a b kn kx kr _ a b).symm.trans h⟩
  · cases h
theorem R_8 (a:Rows) (b:Int) (c:Rows) (e:Int) (kn:St->Option R) (kx:Nat->St->Option R) (kr:V->Option R) (n:Nat) (f:Int) :
    loopN B_p 4 (loopAt Tryz.f16 2) (E_E a b c e) kn kx kr (n+1) (E_E a b c f) =
    I_G a b c f (fun d=>loopN B_p 4 (loopAt Tryz.f16 2) (E_E a b c e) kn kx kr n (E_E a b c d)) (fun d=>kn (E_E a b c d)) kr:=by kernel_rfl
theorem L_r (a:Rows) (b:Int) (c:Rows) (f:Int) (kn:St->Option R) (kx:Nat->St->Option R) (kr:V->Option R):∀ (n:Nat) (d:Int),
    C_D a b c n d (fun e=>kn (E_E a b c e)) kr=loopN B_p 4 (loopAt Tryz.f16 2) (E_E a b c f) kn kx kr n (E_E a b c d)
  | 0,_=>rfl
  | n+1,d=>by
    rw [R_8,C_D]
    congr 1
    funext e
    exact L_r a b c f kn kx kr n e
theorem Y_W {rest} (h:GoodL (R:=R) B_p 4 (loopAt Tryz.f16 2) rest):GoodL (R:=R) B_p 4 (loopAt Tryz.f16 2) (loopAlt G_i I_H rest):=by
  refine goodL_alt (fun l kn kx kr r h=>?_) h
  unfold I_H at h
  split at h
  · rename_i b c a d
    exact ⟨_,(L_r b c d a kn kx kr _ a).symm.trans h⟩
  · cases h
theorem e_c:GoodLoop (R:=R) B_p 0 (loopAt Tryz.f16 0):=goodL_loop (g:=loopAlt G_h I_F loopNil) (fun _ _ _ _=>rfl) (Y_V goodL_nil)
theorem e_d:GoodLoop (R:=R) B_p 2 (loopAt Tryz.f16 1):=goodL_loop (g:=loopAlt G_g I_D loopNil) (fun _ _ _ _=>rfl) (Y_U goodL_nil)
theorem e_e:GoodLoop (R:=R) B_p 4 (loopAt Tryz.f16 2):=goodL_loop (g:=loopAlt G_i I_H loopNil) (fun _ _ _ _=>rfl) (Y_W goodL_nil)
noncomputable def T_5 (b:D') (d:C') (a:Rows) (k:V->Option R):Option R:=let g:=B_f b;let e:=(((List.length g):Nat):Int);D_A a e b d (R_5 a e 0 b d []) 0 [] (fun i c=>let f:=(((List.length a):Nat):Int);C_D a f c (N_s a f 0 c) 0 (fun j=>k (V.tup [V.data A_b.sh c,(V.int .i64 0)])) k) k
abbrev p_V (a:D') (b:C') (c:Rows):List V:=[(D'.v a),(C'.v b),V.data V'.sh c]
theorem Y_X (a:D') (b:C') (c:Rows) (k:V->Option R):fnK B_p Tryz.f16 (p_V a b c) k=T_5 a b c k:=by kernel_rfl
theorem w_6 (h_H0:h_Q) (h_B0:o_z) (h:∀ (a:D') (b:C') (d:Rows),O_R a b d=true->Real (p_V a b d)->T_5 a b d some=some (V.tup [(V.data A_b.sh (Q_t a b d).1),(V.int .i64 (Q_t a b d).2)])):o_B:=goodHook1 fun l hp=>by
  unfold o_A at hp
  split at hp
  · rename_i f g i j m o p q r s t u v w y z A B D F H I J K L M N
    exact fn_ok (fn:=Tryz.f16) (c:=bodyOf Tryz.f16) (E:=B_p) ⟨by kernel_rfl,(goodCons h_H0 (goodCons h_B0 goodNil)),rfl,M'⟩ rfl (by kernel_rfl) (by kernel_rfl) (by kernel_rfl) (loopsOK_of _ (by have e:loopsOf (bodyOf Tryz.f16)=[(0,loopAt Tryz.f16 0),(2,loopAt Tryz.f16 1),(4,loopAt Tryz.f16 2)]:=(by kernel_rfl);rw [e];simp only [List.forall_mem_cons,List.not_mem_nil,false_implies,implies_true,and_true];exact ⟨e_c,e_d,e_e⟩)) (fun hr=>(Y_X (D'.mk (F'.mk f g i j) m o p) (C'.mk q r s t u v w y (K'.mk z A B D F) H I J K L M) N some).trans (h (D'.mk (F'.mk f g i j) m o p) (C'.mk q r s t u v w y (K'.mk z A B D F) H I J K L M) N hp hr))
  · cases hp
end Go.Vm
