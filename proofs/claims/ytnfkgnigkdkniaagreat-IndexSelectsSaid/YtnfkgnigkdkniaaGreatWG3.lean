import Derived.Test.YtnfkgnigkdkniaaGreatWM
set_option linter.unusedVariables false
set_option linter.unusedSimpArgs false
set_option maxRecDepth 100000
noncomputable section
namespace Go.Vm
open Go.Proofs
variable {R:Type}
noncomputable def N_o (c:Rows) (a b:Int) (d:D'):Nat:=Int.toNat (a-b)+1
noncomputable def H_8 (c:Rows) (d:Int) (e:D') (b:Int) (again:Int->Option R) (kn:Int->Option R) (kr:V->Option R):Option R:=bif (decide (b<d)) then bif (inR b (List.length c)) then let f:=List.getD c (Int.toNat b) [];let a:=H'.of f;bif (A_O 1 16 [[V.int .i64 a.Depth]]) then let g:=K_F 1 16 [[V.int .i64 a.Depth]];bif ((!g)==false) then bif (A_O 1 4 [[V.int .i64 a.DX],[V.int .i64 a.DY]]) then let i:=K_F 1 4 [[V.int .i64 a.DX],[V.int .i64 a.DY]];bif ((!i)==false) then let j:=D_j e.Area a.DX a.DY;let m:=C_R j;bif m then kr (V.int .i64 12) else let o:=IntKind.wrap .i64 (b+1);again o else kr (V.int .i64 12) else none else kr (V.int .i64 12) else none else none else kn b
noncomputable def C_x (a:Rows) (b:Int) (c:D'):Nat->Int->(Int->Option R)->(V->Option R)->Option R
  | 0,_,_,_=>none
  | n+1,d,kn,kr=>H_8 a b c d (fun e=>C_x a b c n e kn kr) kn kr
noncomputable def F_2:ST:=⟨.undef::.ptr 0 0 0::A_j 34 (.data H'.sh::.int .i64::.int .i64::A_j 75 []),[(0,.var D'.sh false D'.ts)],33⟩
noncomputable def E_o (b:Rows) (c:Int) (a:D') (d:Int):St:=F_2.put [.r b,.i c,.i d,.i a.Area.X0,.i a.Area.Y0,.i a.Area.X1,.i a.Area.Y1,.i a.TileW,.i a.TileH,.r a.Components]
noncomputable def H_9:LoopG R:=fun l kn _ kr=>match l with
  | .r a::.i b::.i m::.i c::.i d::.i e::.i f::.i g::.i i::.r j::[]=>C_x a b (D'.mk (F'.mk c d e f) g i j) (N_o a b m (D'.mk (F'.mk c d e f) g i j)) m (fun o=>kn (E_o a b (D'.mk (F'.mk c d e f) g i j) o)) kr
  | _=>none
noncomputable def N_p (c:Rows) (a b:Int) (d:D'):Nat:=Int.toNat (a-b)+1
noncomputable def I_a (b:Rows) (d:Int) (e:D') (a:Int) (again:Int->Option R) (kn:Int->Option R) (kr:V->Option R):Option R:=bif (decide (a<d)) then bif (inR a (List.length b)) then let f:=List.getD b (Int.toNat a) [];let c:=H'.of f;let g:=D_j e.Area c.DX c.DY;let i:=j_C g;let j:=decide (i > 1048576);bif j then kr (V.int .i64 5) else let m:=IntKind.wrap .i64 (a+1);again m else none else kn a
noncomputable def C_y (a:Rows) (b:Int) (c:D'):Nat->Int->(Int->Option R)->(V->Option R)->Option R
  | 0,_,_,_=>none
  | n+1,d,kn,kr=>I_a a b c d (fun e=>C_y a b c n e kn kr) kn kr
noncomputable def F_3:ST:=⟨.undef::.ptr 0 0 0::A_j 96 (.data H'.sh::.int .i64::.int .i64::A_j 13 []),[(0,.var D'.sh false D'.ts)],106⟩
noncomputable def E_p (b:Rows) (c:Int) (a:D') (d:Int):St:=F_3.put [.r b,.i c,.i d,.i a.Area.X0,.i a.Area.Y0,.i a.Area.X1,.i a.Area.Y1,.i a.TileW,.i a.TileH,.r a.Components]
noncomputable def I_b:LoopG R:=fun l kn _ kr=>match l with
  | .r a::.i b::.i m::.i c::.i d::.i e::.i f::.i g::.i i::.r j::[]=>C_y a b (D'.mk (F'.mk c d e f) g i j) (N_p a b m (D'.mk (F'.mk c d e f) g i j)) m (fun o=>kn (E_p a b (D'.mk (F'.mk c d e f) g i j) o)) kr
  | _=>none
noncomputable def C_3:Env R:=⟨Tryz.prog,callCons 37 c_G (callCons 38 g_v (callCons 40 k_m (callCons 64 q_W (callCons 71 n_I (callCons 72 q_X (callCons 73 y_S callNil)))))),fun id=>bif Nat.beq id 0 then loopAlt F_2 H_9 loopNil else (fun id=>bif Nat.beq id 2 then loopAlt F_3 I_b loopNil else (fun _ _ _ _ _=>none) id) id,Tryz.f41.results.toList,maskTab 114 [(0,0x1fe7f0003f3f9c002),(1,0x1fe7f000400000002),(2,0x4),(3,0x1fe7f007000000002),(4,0x1fe7f00f000000002),(5,0x1fe7f007000000012),(6,0x3fe7f007000000002),(7,0x4),(8,0x1fe7f007000000002),(9,0x22),(10,0x62),(11,0x1000000000000000000000002),(12,0x4),(13,0x1c000000000000000000000002),(14,0x3c000000000000000000000002),(15,0x1c000000000000000000000102),(16,0x1001c000000000000000000000002),(17,0x4),(18,0x1c000000000000000000000002),(19,0x4)],maskAt [(1,33),(2,2),(4,28),(5,106),(6,29),(8,37),(10,38),(12,42),(14,66),(16,67),(18,69),(20,83),(22,97),(24,101),(26,102),(28,110),(30,111),(32,115),(34,124),(36,125),(38,127)],noSort⟩
theorem R_I (a:Rows) (b:Int) (c:D') (e:Int) (kn:St->Option R) (kx:Nat->St->Option R) (kr:V->Option R) (n:Nat) (f:Int) :
    loopN C_3 0 (loopAt Tryz.f41 0) (E_o a b c e) kn kx kr (n+1) (E_o a b c f) =
    H_8 a b c f (fun d=>loopN C_3 0 (loopAt Tryz.f41 0) (E_o a b c e) kn kx kr n (E_o a b c d)) (fun d=>kn (E_o a b c d)) kr:=by kernel_rfl
theorem K_8 (a:Rows) (b:Int) (c:D') (f:Int) (kn:St->Option R) (kx:Nat->St->Option R) (kr:V->Option R):∀ (n:Nat) (d:Int),
    C_x a b c n d (fun e=>kn (E_o a b c e)) kr=loopN C_3 0 (loopAt Tryz.f41 0) (E_o a b c f) kn kx kr n (E_o a b c d)
  | 0,_=>rfl
  | n+1,d=>by
    rw [R_I,C_x]
    congr 1
    funext e
    exact K_8 a b c f kn kx kr n e
theorem X_w {rest} (h:GoodL (R:=R) C_3 0 (loopAt Tryz.f41 0) rest):GoodL (R:=R) C_3 0 (loopAt Tryz.f41 0) (loopAlt F_2 H_9 rest):=by
  refine goodL_alt (fun l kn kx kr r h=>?_) h
  unfold H_9 at h
  split at h
  · rename_i b c a d e f g i j m
    exact ⟨_,(K_8 b c (D'.mk (F'.mk d e f g) i j m) a kn kx kr _ a).symm.trans h⟩
  · cases h
theorem R_J (a:Rows) (b:Int) (c:D') (e:Int) (kn:St->Option R) (kx:Nat->St->Option R) (kr:V->Option R) (n:Nat) (f:Int) :
    loopN C_3 2 (loopAt Tryz.f41 1) (E_p a b c e) kn kx kr (n+1) (E_p a b c f) =
    I_a a b c f (fun d=>loopN C_3 2 (loopAt Tryz.f41 1) (E_p a b c e) kn kx kr n (E_p a b c d)) (fun d=>kn (E_p a b c d)) kr:=by kernel_rfl
theorem K_9 (a:Rows) (b:Int) (c:D') (f:Int) (kn:St->Option R) (kx:Nat->St->Option R) (kr:V->Option R):∀ (n:Nat) (d:Int),
    C_y a b c n d (fun e=>kn (E_p a b c e)) kr=loopN C_3 2 (loopAt Tryz.f41 1) (E_p a b c f) kn kx kr n (E_p a b c d)
  | 0,_=>rfl
  | n+1,d=>by
    rw [R_J,C_y]
    congr 1
    funext e
    exact K_9 a b c f kn kx kr n e
theorem X_x {rest} (h:GoodL (R:=R) C_3 2 (loopAt Tryz.f41 1) rest):GoodL (R:=R) C_3 2 (loopAt Tryz.f41 1) (loopAlt F_3 I_b rest):=by
  refine goodL_alt (fun l kn kx kr r h=>?_) h
  unfold I_b at h
  split at h
  · rename_i b c a d e f g i j m
    exact ⟨_,(K_9 b c (D'.mk (F'.mk d e f g) i j m) a kn kx kr _ a).symm.trans h⟩
  · cases h
theorem d_r:GoodLoop (R:=R) C_3 0 (loopAt Tryz.f41 0):=goodL_loop (g:=loopAlt F_2 H_9 loopNil) (fun _ _ _ _=>rfl) (X_w goodL_nil)
theorem d_s:GoodLoop (R:=R) C_3 2 (loopAt Tryz.f41 1):=goodL_loop (g:=loopAlt F_3 I_b loopNil) (fun _ _ _ _=>rfl) (X_x goodL_nil)
noncomputable def P_W (a:D') (k:V->Option R):Option R:=let e:=A_3 a.Area;bif ((!e)==false) then let f:=C_R a.Area;bif (f==false) then bif (A_O 1 4096 [[V.int .i64 a.TileW],[V.int .i64 a.TileH]]) then let g:=K_F 1 4096 [[V.int .i64 a.TileW],[V.int .i64 a.TileH]];bif ((!g)==false) then let b:=(((List.length a.Components):Nat):Int);bif (A_O 1 4 [[V.int .i64 b]]) then let i:=K_F 1 4 [[V.int .i64 b]];bif (!i) then k (V.int .i64 12) else let c:=(((List.length a.Components):Nat):Int);C_x a.Components c a (N_o a.Components c 0 a) 0 (fun u=>let j:=B_F a.Area.X1 a.TileW;let m:=D_k a.Area.X0 a.TileW;let o:=IntKind.wrap .i64 (j-m);let p:=B_F a.Area.Y1 a.TileH;let q:=D_k a.Area.Y0 a.TileH;let r:=IntKind.wrap .i64 (p-q);let s:=IntKind.wrap .i64 (o*r);let t:=decide (s > 1024);bif t then k (V.int .i64 5) else let d:=(((List.length a.Components):Nat):Int);C_y a.Components d a (N_p a.Components d 0 a) 0 (fun v=>k (V.int .i64 0)) k) k else none else k (V.int .i64 12) else none else k (V.int .i64 12) else k (V.int .i64 12)
abbrev p_L (a:D'):List V:=[(D'.v a)]
theorem X_y (a:D') (k:V->Option R):fnK C_3 Tryz.f41 (p_L a) k=P_W a k:=by kernel_rfl
theorem v_0 (h_K0:T_S) (h_J1:V_9) (h_I0:f_Y) (h_E3:g_w) (h_G1:h_P) (h_E7:k_p) (h_L5:q_Y) (h:∀ (a:D'),Real (p_L a)->P_W a some=some (V.int .i64 (F_t a))):k_s:=goodHook1 fun l hp=>by
  unfold n_N at hp
  split at hp
  · rename_i b d f g i j m
    exact fn_ok (fn:=Tryz.f41) (c:=bodyOf Tryz.f41) (E:=C_3) ⟨by kernel_rfl,(goodCons h_K0 (goodCons h_J1 (goodCons h_I0 (goodCons h_E3 (goodCons h_G1 (goodCons h_E7 (goodCons h_L5 goodNil))))))),rfl,M'⟩ rfl (by kernel_rfl) (by kernel_rfl) (by kernel_rfl) (loopsOK_of _ (by have e:loopsOf (bodyOf Tryz.f41)=[(0,loopAt Tryz.f41 0),(2,loopAt Tryz.f41 1)]:=(by kernel_rfl);rw [e];simp only [List.forall_mem_cons,List.not_mem_nil,false_implies,implies_true,and_true];exact ⟨d_r,d_s⟩)) (fun hr=>(X_y (D'.mk (F'.mk b d f g) i j m) some).trans (h (D'.mk (F'.mk b d f g) i j m) hr))
  · cases hp
noncomputable def I_c (c:Rows) (a b:Int) (d:D') (e:C'):Nat:=Int.toNat (a-b)+1
noncomputable def I_d (c:Rows) (e:Int) (j:D') (m:C') (a:Int) (again:Int->Option R) (kn:Int->Option R) (kr:V->Option R):Option R:=bif (decide (a<e)) then bif (inR a (List.length c)) then let f:=List.getD c (Int.toNat a) [];let b:=X'.of f;let d:Int:=(bif (decide (1<a)) then 1 else a);bif (A_O d 12 [[V.int .i64 b.X],[V.int .i64 b.Y]]) then let g:=K_F d 12 [[V.int .i64 b.X],[V.int .i64 b.Y]];bif (!g) then kr (V.bool false) else let i:=IntKind.wrap .i64 (a+1);again i else none else none else kn a
noncomputable def B_S (a:Rows) (b:Int) (c:D') (d:C'):Nat->Int->(Int->Option R)->(V->Option R)->Option R
  | 0,_,_,_=>none
  | n+1,e,kn,kr=>I_d a b c d e (fun f=>B_S a b c d n f kn kr) kn kr
noncomputable def F_4:ST:=⟨.undef::.undef::.ptr 0 0 0::.ptr 1 0 0::A_j 32 (.data U'.sh::.int .i64::.int .i64::A_j 75 []),[(0,.var D'.sh false D'.ts),(1,.var C'.sh false C'.ts)],36⟩
noncomputable def E_q (c:Rows) (d:Int) (b:D') (a:C') (e:Int):St:=F_4.put [.r c,.i d,.i e,.i b.Area.X0,.i b.Area.Y0,.i b.Area.X1,.i b.Area.Y1,.i b.TileW,.i b.TileH,.r b.Components,.i a.Kernel,.i a.Levels,.i a.Color,.i a.BlockX,.i a.BlockY,.r a.Precincts,.i a.Order,.i a.Layers,.b a.Mode.Bypass,.b a.Mode.Restart,.b a.Mode.Reset,.b a.Mode.Causal,.b a.Mode.Symbols,.b a.Divide,.b a.Sync,.b a.Fence,.r a.Steps,.i a.Dead,.i a.Shift]
noncomputable def I_e:LoopG R:=fun l kn _ kr=>match l with
  | .r a::.i b::.i J::.i c::.i d::.i e::.i f::.i g::.i i::.r j::.i m::.i o::.i p::.i q::.i r::.r s::.i t::.i u::.b v::.b w::.b y::.b z::.b A::.b B::.b D::.b E::.r F::.i H::.i I::[]=>B_S a b (D'.mk (F'.mk c d e f) g i j) (C'.mk m o p q r s t u (K'.mk v w y z A) B D E F H I) (I_c a b J (D'.mk (F'.mk c d e f) g i j) (C'.mk m o p q r s t u (K'.mk v w y z A) B D E F H I)) J (fun K=>kn (E_q a b (D'.mk (F'.mk c d e f) g i j) (C'.mk m o p q r s t u (K'.mk v w y z A) B D E F H I) K)) kr
  | _=>none
noncomputable def L_a:Env R:=⟨Tryz.prog,callCons 64 q_W callNil,fun id=>bif Nat.beq id 0 then loopAlt F_4 I_e loopNil else (fun _ _ _ _ _=>none) id,Tryz.f65.results.toList,maskTab 114 [(0,0x1fffff01f01e7f8000003f81fc00c),(1,0x1fffff01f01e7f8000003f820000c),(2,0x10),(3,0x1fffff01f01e7f80000040000000c),(4,0x10),(5,0x1fffff01f01e7f80000700000000c),(6,0x1fffff01f01e7f80000f00000000c),(7,0x1fffff01f01e7f80000700000006c),(8,0x1fffff01f01e7f80800700000000c),(9,0x10),(10,0x1fffff01f01e7f80000700000000c),(11,0x1fffff01f0200000000000000000c),(12,0x10),(13,0x1fffff0200000000000000000000c),(14,0x10),(15,0x1fffff00000000000000000000088),(16,0x10)],maskAt [(1,36),(2,3),(4,17),(6,18),(8,31),(10,32),(12,40),(14,41),(16,47),(18,56),(20,57),(22,59),(24,80),(26,81),(28,93),(30,94),(32,97)],noSort⟩
theorem R_K (a:Rows) (b:Int) (c:D') (d:C') (f:Int) (kn:St->Option R) (kx:Nat->St->Option R) (kr:V->Option R) (n:Nat) (g:Int) :
    loopN L_a 0 (loopAt Tryz.f65 0) (E_q a b c d f) kn kx kr (n+1) (E_q a b c d g) =
    I_d a b c d g (fun e=>loopN L_a 0 (loopAt Tryz.f65 0) (E_q a b c d f) kn kx kr n (E_q a b c d e)) (fun e=>kn (E_q a b c d e)) kr:=by kernel_rfl
theorem L_b (a:Rows) (b:Int) (c:D') (d:C') (g:Int) (kn:St->Option R) (kx:Nat->St->Option R) (kr:V->Option R):∀ (n:Nat) (e:Int),
    B_S a b c d n e (fun f=>kn (E_q a b c d f)) kr=loopN L_a 0 (loopAt Tryz.f65 0) (E_q a b c d g) kn kx kr n (E_q a b c d e)
  | 0,_=>rfl
  | n+1,e=>by
    rw [R_K,B_S]
    congr 1
    funext f
    exact L_b a b c d g kn kx kr n f
theorem X_z {rest} (h:GoodL (R:=R) L_a 0 (loopAt Tryz.f65 0) rest):GoodL (R:=R) L_a 0 (loopAt Tryz.f65 0) (loopAlt F_4 I_e rest):=by
  refine goodL_alt (fun l kn kx kr r h=>?_) h
  unfold I_e at h
  split at h
  · rename_i b c a d e f g i j m o p q s t u v w y z A B D E F H I J K
    exact ⟨_,(L_b b c (D'.mk (F'.mk d e f g) i j m) (C'.mk o p q s t u v w (K'.mk y z A B D) E F H I J K) a kn kx kr _ a).symm.trans h⟩
  · cases h
theorem d_t:GoodLoop (R:=R) L_a 0 (loopAt Tryz.f65 0):=goodL_loop (g:=loopAlt F_4 I_e loopNil) (fun _ _ _ _=>rfl) (X_z goodL_nil)
noncomputable def P_X (b:D') (a:C') (k:V->Option R):Option R:=bif (A_O 0 5 [[V.int .i64 a.Levels]]) then let u:=K_F 0 5 [[V.int .i64 a.Levels]];bif ((!u)==false) then bif (A_O 2 6 [[V.int .i64 a.BlockX],[V.int .i64 a.BlockY]]) then let v:=K_F 2 6 [[V.int .i64 a.BlockX],[V.int .i64 a.BlockY]];bif (!v) then k (V.bool false) else let w:=(((List.length a.Precincts):Nat):Int);bif ((w != 0)==true) then let y:=(((List.length a.Precincts):Nat):Int);let z:=IntKind.wrap .i64 (a.Levels+1);bif (y != z) then k (V.bool false) else let s:=(((List.length a.Precincts):Nat):Int);B_S a.Precincts s b a (I_c a.Precincts s 0 b a) 0 (fun b0=>bif (A_O 1 16 [[V.int .i64 a.Layers]]) then let A:=K_F 1 16 [[V.int .i64 a.Layers]];bif ((!A)==false) then let B:=(((List.length a.Steps):Nat):Int);let D:=IntKind.wrap .i64 (3*a.Levels);let E:=IntKind.wrap .i64 (D+1);bif ((B != E)==false) then bif (A_O 1 65536 a.Steps) then let F:=K_F 1 65536 a.Steps;bif (!F) then k (V.bool false) else bif (A_O 8 32 [[V.int .i64 a.Dead]]) then let H:=K_F 8 32 [[V.int .i64 a.Dead]];bif ((!H)==false) then bif (A_O 0 30 [[V.int .i64 a.Shift]]) then let I:=K_F 0 30 [[V.int .i64 a.Shift]];bif (!I) then k (V.bool false) else bif ((a.Color==0)==false) then let J:=(((List.length b.Components):Nat):Int);let o:=decide (J >= 3);bif ((inR 0 (List.length b.Components))||!(o==true)) then let K:=List.getD b.Components (0:Nat) [];let c:=H'.of K;bif ((inR 1 (List.length b.Components))||!(o==true)) then let L:=List.getD b.Components (1:Nat) [];let d:=H'.of L;let M:=(c.Depth==d.Depth)&&((c.Signed==d.Signed)&&((c.DX==d.DX)&&((c.DY==d.DY)&&true)));let p:Bool:=(bif o then M else false);bif ((inR 0 (List.length b.Components))||!(p==true)) then let N:=List.getD b.Components (0:Nat) [];let e:=H'.of N;bif ((inR 2 (List.length b.Components))||!(p==true)) then let O:=List.getD b.Components (2:Nat) [];let f:=H'.of O;let Q:=(e.Depth==f.Depth)&&((e.Signed==f.Signed)&&((e.DX==f.DX)&&((e.DY==f.DY)&&true)));let S:Bool:=(bif p then Q else false);k (V.bool S) else none else none else none else none else k (V.bool true) else none else k (V.bool false) else none else none else k (V.bool false) else k (V.bool false) else none) k else let t:=(((List.length a.Precincts):Nat):Int);B_S a.Precincts t b a (I_c a.Precincts t 0 b a) 0 (fun b1=>bif (A_O 1 16 [[V.int .i64 a.Layers]]) then let U:=K_F 1 16 [[V.int .i64 a.Layers]];bif ((!U)==false) then let W:=(((List.length a.Steps):Nat):Int);let X:=IntKind.wrap .i64 (3*a.Levels);let Y:=IntKind.wrap .i64 (X+1);bif ((W != Y)==false) then bif (A_O 1 65536 a.Steps) then let Z:=K_F 1 65536 a.Steps;bif (!Z) then k (V.bool false) else bif (A_O 8 32 [[V.int .i64 a.Dead]]) then let a0:=K_F 8 32 [[V.int .i64 a.Dead]];bif ((!a0)==false) then bif (A_O 0 30 [[V.int .i64 a.Shift]]) then let a1:=K_F 0 30 [[V.int .i64 a.Shift]];bif (!a1) then k (V.bool false) else bif ((a.Color==0)==false) then let a2:=(((List.length b.Components):Nat):Int);let q:=decide (a2 >= 3);bif ((inR 0 (List.length b.Components))||!(q==true)) then let a3:=List.getD b.Components (0:Nat) [];let g:=H'.of a3;bif ((inR 1 (List.length b.Components))||!(q==true)) then let a4:=List.getD b.Components (1:Nat) [];let i:=H'.of a4;let a5:=(g.Depth==i.Depth)&&((g.Signed==i.Signed)&&((g.DX==i.DX)&&((g.DY==i.DY)&&true)));let r:Bool:=(bif q then a5 else false);bif ((inR 0 (List.length b.Components))||!(r==true)) then let a6:=List.getD b.Components (0:Nat) [];let j:=H'.of a6;bif ((inR 2 (List.length b.Components))||!(r==true)) then let a7:=List.getD b.Components (2:Nat) [];let m:=H'.of a7;let a8:=(j.Depth==m.Depth)&&((j.Signed==m.Signed)&&((j.DX==m.DX)&&((j.DY==m.DY)&&true)));let a9:Bool:=(bif r then a8 else false);k (V.bool a9) else none else none else none else none else k (V.bool true) else none else k (V.bool false) else none else none else k (V.bool false) else k (V.bool false) else none) k else none else k (V.bool false) else none
abbrev p_M (a:D') (b:C'):List V:=[(D'.v a),(C'.v b)]
theorem X_A (a:D') (b:C') (k:V->Option R):fnK L_a Tryz.f65 (p_M a b) k=P_X a b k:=by kernel_rfl
theorem v_1 (h_E3:g_w) (h:∀ (a:D') (b:C'),Real (p_M a b)->P_X a b some=some (V.bool (b_H a b))):n_P:=goodHook1 fun l hp=>by
  unfold n_O at hp
  split at hp
  · rename_i d f g i j m o p q r s t u v w y z A B D F H I J K L
    exact fn_ok (fn:=Tryz.f65) (c:=bodyOf Tryz.f65) (E:=L_a) ⟨by kernel_rfl,(goodCons h_E3 goodNil),rfl,M'⟩ rfl (by kernel_rfl) (by kernel_rfl) (by kernel_rfl) (loopsOK_of _ (by have e:loopsOf (bodyOf Tryz.f65)=[(0,loopAt Tryz.f65 0)]:=(by kernel_rfl);rw [e];simp only [List.forall_mem_cons,List.not_mem_nil,false_implies,implies_true,and_true];exact d_t)) (fun hr=>(X_A (D'.mk (F'.mk d f g i) j m o) (C'.mk p q r s t u v w (K'.mk y z A B D) F H I J K L) some).trans (h (D'.mk (F'.mk d f g i) j m o) (C'.mk p q r s t u v w (K'.mk y z A B D) F H I J K L) hr))
  · cases hp
noncomputable def i_i:Env R:=⟨Tryz.prog,callCons 38 g_v callNil,fun _ _ _ _ _=>none,Tryz.f36.results.toList,maskTab 31 [(0,0x1c),(1,0x30),(2,0x10000030),(3,0x10),(4,0x10)],maskAt [(2,3),(4,26),(6,28),(8,30)],noSort⟩
noncomputable def d_u (a b:F') (k:V->Option R):Option R:=let c:Int:=(bif (decide (b.X0 > a.X0)) then b.X0 else a.X0);let d:Int:=(bif (decide (b.Y0 > a.Y0)) then b.Y0 else a.Y0);let e:Int:=(bif (decide (b.X1<a.X1)) then b.X1 else a.X1);let f:Int:=(bif (decide (b.Y1<a.Y1)) then b.Y1 else a.Y1);let g:=C_R (F'.mk c d e f);bif g then k (V.agg [(V.int .i64 0),(V.int .i64 0),(V.int .i64 0),(V.int .i64 0)]) else k (V.agg [V.int .i64 c,V.int .i64 d,V.int .i64 e,V.int .i64 f])
abbrev v_2 (a b:F'):List V:=[(F'.v a),(F'.v b)]
theorem X_B (a b:F') (k:V->Option R):fnK i_i Tryz.f36 (v_2 a b) k=d_u a b k:=by kernel_rfl
theorem v_3 (a b:F'):d_u a b some=some ((fun (m:F')=>(F'.v m)) (C_S a b)):=by
  repeat' (first | rfl | refine A_t (v:=(fun (m:F')=>(F'.v m))) ?_ ?_)
theorem X_C (h_J1:V_9):W_a:=goodHook1 fun l hp=>by
  unfold n_Q at hp
  split at hp
  · rename_i a b d f g i j m
    exact fn_ok (fn:=Tryz.f36) (c:=bodyOf Tryz.f36) (E:=i_i) ⟨by kernel_rfl,(goodCons h_J1 goodNil),rfl,M'⟩ rfl (by kernel_rfl) (by kernel_rfl) (by kernel_rfl) (loopsOK_of _ (by have e:loopsOf (bodyOf Tryz.f36)=[]:=(by kernel_rfl);rw [e];intro p hp;cases hp)) (fun hr=>(X_B (F'.mk a b d f) (F'.mk g i j m) some).trans (v_3 (F'.mk a b d f) (F'.mk g i j m)))
  · cases hp
noncomputable def R_L (c d e a f g b:Int) (i:F') (j:Rows):Nat:=Int.toNat (a-b)+1
noncomputable def D_u (c d u f v e:Int) (g:F') (a:Int) (b:Rows) (again:Int->Rows->Option R) (kn:Int->Rows->Option R):Option R:=bif (decide (a<f)) then let i:=IntKind.wrap .i64 (a*c);let j:=IntKind.wrap .i64 (e*d);let m:=IntKind.wrap .i64 (a+1);let o:=IntKind.wrap .i64 (m*c);let p:=IntKind.wrap .i64 (e+1);let q:=IntKind.wrap .i64 (p*d);let r:=C_S g (F'.mk i j o q);bif (roomOK ((List.length b)+(1:Nat)) 32) then let s:=b++[(F'.row r)];let t:=IntKind.wrap .i64 (a+1);again t s else none else kn a b
noncomputable def B_y (a b c d e f:Int) (g:F'):Nat->Int->Rows->(Int->Rows->Option R)->Option R
  | 0,_,_,_=>none
  | n+1,i,j,kn=>D_u a b c d e f g i j (fun m o=>B_y a b c d e f g n m o kn) kn
noncomputable def F_5:ST:=⟨.undef::.int .i64::.int .i64::.ptr 0 0 0::A_j 3 (.int .i64::.int .i64::.undef::.int .i64::.vs 50::.int .i64::.int .i64::A_j 72 []),[(0,.var F'.sh false F'.ts),(50,.vec F'.sh false)],59⟩
noncomputable def E_r (b c d e f g:Int) (a:F') (i:Int) (j:Rows):St:=F_5.put [.i b,.i c,.i d,.i e,.i f,.i g,.i i,.i a.X0,.i a.Y0,.i a.X1,.i a.Y1,.r j]
noncomputable def I_f:LoopG R:=fun l kn _ _=>match l with
  | .i a::.i b::.i c::.i d::.i e::.i f::.i o::.i g::.i i::.i j::.i m::.r p::[]=>B_y a b c d e f (F'.mk g i j m) (R_L a b c d e f o (F'.mk g i j m) p) o p (fun q r=>kn (E_r a b c d e f (F'.mk g i j m) q r))
  | _=>none
noncomputable def R_M (c d e f a b:Int) (g:F') (i:Rows):Nat:=Int.toNat (a-b)+1
noncomputable def D_v (e f b g c:Int) (i:F') (a:Int) (d:Rows) (again:Int->Rows->Option R) (kn:Int->Rows->Option R):Option R:=bif (decide (a<c)) then B_y e f b g c a i (R_L e f b g c a b i d) b d (fun o j=>let m:=IntKind.wrap .i64 (a+1);again m j) else kn a d
noncomputable def B_d (a b c d e:Int) (f:F'):Nat->Int->Rows->(Int->Rows->Option R)->Option R
  | 0,_,_,_=>none
  | n+1,g,i,kn=>D_v a b c d e f g i (fun j m=>B_d a b c d e f n j m kn) kn
noncomputable def F_6:ST:=⟨.undef::.int .i64::.int .i64::.ptr 0 0 0::A_j 3 (.int .i64::.int .i64::.undef::.int .i64::.vs 50::.int .i64::A_j 73 []),[(0,.var F'.sh false F'.ts),(50,.vec F'.sh false)],51⟩
noncomputable def E_s (b c d e f:Int) (a:F') (g:Int) (i:Rows):St:=F_6.put [.i b,.i c,.i d,.i e,.i f,.i g,.i a.X0,.i a.Y0,.i a.X1,.i a.Y1,.r i]
noncomputable def I_g:LoopG R:=fun l kn _ _=>match l with
  | .i a::.i b::.i c::.i d::.i e::.i m::.i f::.i g::.i i::.i j::.r o::[]=>B_d a b c d e (F'.mk f g i j) (R_M a b c d e m (F'.mk f g i j) o) m o (fun p q=>kn (E_s a b c d e (F'.mk f g i j) p q))
  | _=>none
noncomputable def C_4:Env R:=⟨Tryz.prog,callCons 36 g_x (callCons 37 c_G (callCons 38 g_v (callCons 71 n_I (callCons 72 q_X callNil)))),fun id=>bif Nat.beq id 2 then loopAlt F_5 I_f loopNil else (fun id=>bif Nat.beq id 0 then loopAlt F_6 I_g loopNil else (fun _ _ _ _ _=>none) id) id,Tryz.f66.results.toList,maskTab 86 [(0,0xccc000e),(1,0x1000000e),(2,0x40),(3,0x18e),(4,0x78e),(5,0x1000000000078e),(6,0x40),(7,0xf8e),(8,0x1d8e),(9,0x100000000001d8e),(10,0x1d8e),(11,0x3d8e),(12,0x4000000000003d8e),(13,0x3d8e),(14,0x3d8e),(15,0x40)],maskAt [(1,50),(2,2),(4,17),(5,59),(6,18),(8,28),(10,38),(12,46),(14,47),(16,48),(18,54),(20,90),(22,57),(24,63),(26,87),(28,66),(30,93)],noSort⟩
theorem R_N (a b c d e f:Int) (g:F') (m:Int) (o:Rows) (kn:St->Option R) (kx:Nat->St->Option R) (kr:V->Option R) (n:Nat) (p:Int) (q:Rows) :
    loopN C_4 2 (loopAt Tryz.f66 1) (E_r a b c d e f g m o) kn kx kr (n+1) (E_r a b c d e f g p q) =
    D_u a b c d e f g p q (fun i j=>loopN C_4 2 (loopAt Tryz.f66 1) (E_r a b c d e f g m o) kn kx kr n (E_r a b c d e f g i j)) (fun i j=>kn (E_r a b c d e f g i j)):=by kernel_rfl
theorem L_c (a b c d e f:Int) (g:F') (p:Int) (q:Rows) (kn:St->Option R) (kx:Nat->St->Option R) (kr:V->Option R):∀ (n:Nat) (i:Int) (j:Rows),
    B_y a b c d e f g n i j (fun m o=>kn (E_r a b c d e f g m o))=loopN C_4 2 (loopAt Tryz.f66 1) (E_r a b c d e f g p q) kn kx kr n (E_r a b c d e f g i j)
  | 0,_,_=>rfl
  | n+1,i,j=>by
    rw [R_N,B_y]
    congr 1
    funext m o
    exact L_c a b c d e f g p q kn kx kr n m o
theorem X_D {rest} (h:GoodL (R:=R) C_4 2 (loopAt Tryz.f66 1) rest):GoodL (R:=R) C_4 2 (loopAt Tryz.f66 1) (loopAlt F_5 I_f rest):=by
  refine goodL_alt (fun l kn kx kr r h=>?_) h
  unfold I_f at h
  split at h
  · rename_i c d e f g i a j m o p b
    exact ⟨_,(L_c c d e f g i (F'.mk j m o p) a b kn kx kr _ a b).symm.trans h⟩
  · cases h
theorem R_O (a b c d e:Int) (f:F') (j:Int) (m:Rows) (kn:St->Option R) (kx:Nat->St->Option R) (kr:V->Option R) (n:Nat) (o:Int) (p:Rows) :
    loopN C_4 0 (loopAt Tryz.f66 0) (E_s a b c d e f j m) kn kx kr (n+1) (E_s a b c d e f o p) =
    D_v a b c d e f o p (fun g i=>loopN C_4 0 (loopAt Tryz.f66 0) (E_s a b c d e f j m) kn kx kr n (E_s a b c d e f g i)) (fun g i=>kn (E_s a b c d e f g i)):=by kernel_rfl
theorem L_d (a b c d e:Int) (f:F') (o:Int) (p:Rows) (kn:St->Option R) (kx:Nat->St->Option R) (kr:V->Option R):∀ (n:Nat) (g:Int) (i:Rows),
    B_d a b c d e f n g i (fun j m=>kn (E_s a b c d e f j m))=loopN C_4 0 (loopAt Tryz.f66 0) (E_s a b c d e f o p) kn kx kr n (E_s a b c d e f g i)
  | 0,_,_=>rfl
  | n+1,g,i=>by
    rw [R_O,B_d]
    congr 1
    funext j m
    exact L_d a b c d e f o p kn kx kr n j m
theorem X_E {rest} (h:GoodL (R:=R) C_4 0 (loopAt Tryz.f66 0) rest):GoodL (R:=R) C_4 0 (loopAt Tryz.f66 0) (loopAlt F_6 I_g rest):=by
  refine goodL_alt (fun l kn kx kr r h=>?_) h
  unfold I_g at h
  split at h
  · rename_i c d e f g a i j m o b
    exact ⟨_,(L_d c d e f g (F'.mk i j m o) a b kn kx kr _ a b).symm.trans h⟩
  · cases h
theorem d_v:GoodLoop (R:=R) C_4 0 (loopAt Tryz.f66 0):=goodL_loop (g:=loopAlt F_6 I_g loopNil) (fun _ _ _ _=>rfl) (X_E goodL_nil)
theorem d_w:GoodLoop (R:=R) C_4 2 (loopAt Tryz.f66 1):=goodL_loop (g:=loopAlt F_5 I_f loopNil) (fun _ _ _ _=>rfl) (X_D goodL_nil)
noncomputable def T_Y (a:F') (b c:Int) (k:V->Option R):Option R:=let i:=A_3 a;bif ((!i)==false) then let j:=C_R a;let m:=decide (b<1);let o:Bool:=(bif j then true else m);let p:=decide (c<1);let q:Bool:=(bif o then true else p);bif q then k (V.data F'.sh []) else let d:=D_k a.X0 b;let e:=B_F a.X1 b;let f:=D_k a.Y0 c;let g:=B_F a.Y1 c;let r:=IntKind.wrap .i64 (e-d);let s:=IntKind.wrap .i64 (g-f);let t:=IntKind.wrap .i64 (r*s);let u:=decide (t > 65536);bif u then k (V.data F'.sh []) else B_d b c d e g a (R_M b c d e g f a []) f [] (fun w v=>k (V.data F'.sh v)) else k (V.data F'.sh [])
abbrev p_N (a:F') (b c:Int):List V:=[(F'.v a),V.int .i64 b,V.int .i64 c]
theorem X_F (a:F') (b c:Int) (k:V->Option R):fnK C_4 Tryz.f66 (p_N a b c) k=T_Y a b c k:=by kernel_rfl
theorem v_4 (h_D1:W_a) (h_K0:T_S) (h_J1:V_9) (h_G1:h_P) (h_E7:k_p) (h:∀ (a:F') (b d:Int),Real (p_N a b d)->T_Y a b d some=some (V.data F'.sh (T_M a b d))):m_x:=goodHook1 fun l hp=>by
  unfold n_R at hp
  split at hp
  · rename_i f g i j m o
    exact fn_ok (fn:=Tryz.f66) (c:=bodyOf Tryz.f66) (E:=C_4) ⟨by kernel_rfl,(goodCons h_D1 (goodCons h_K0 (goodCons h_J1 (goodCons h_G1 (goodCons h_E7 goodNil))))),rfl,M'⟩ rfl (by kernel_rfl) (by kernel_rfl) (by kernel_rfl) (loopsOK_of _ (by have e:loopsOf (bodyOf Tryz.f66)=[(0,loopAt Tryz.f66 0),(2,loopAt Tryz.f66 1)]:=(by kernel_rfl);rw [e];simp only [List.forall_mem_cons,List.not_mem_nil,false_implies,implies_true,and_true];exact ⟨d_v,d_w⟩)) (fun hr=>(X_F (F'.mk f g i j) m o some).trans (h (F'.mk f g i j) m o hr))
  · cases hp
noncomputable def i_j:Env R:=⟨Tryz.prog,callNil,fun _ _ _ _ _=>none,Tryz.f77.results.toList,maskTab 9 [(0,0xc1),(1,0x4)],maskAt [(2,1)],noSort⟩
noncomputable def d_x (a:Int) (k:V->Option R):Option R:=let b:=decide (a >= 0);let c:=decide (a<=5);let d:Bool:=(bif b then c else false);k (V.bool d)
abbrev v_5 (a:Int):List V:=[V.int .i64 a]
theorem X_G (a:Int) (k:V->Option R):fnK i_j Tryz.f77 (v_5 a) k=d_x a k:=by kernel_rfl
theorem v_6 (a:Int):d_x a some=some ((fun (m:Bool)=>(V.bool m)) (M_v a)):=by
  repeat' (first | rfl | refine A_t (v:=(fun (m:Bool)=>(V.bool m))) ?_ ?_)
theorem X_H:k_x:=goodHook1 fun l hp=>by
  unfold n_S at hp
  split at hp
  · rename_i a
    exact fn_ok (fn:=Tryz.f77) (c:=bodyOf Tryz.f77) (E:=i_j) ⟨by kernel_rfl,goodNil,rfl,M'⟩ rfl (by kernel_rfl) (by kernel_rfl) (by kernel_rfl) (loopsOK_of _ (by have e:loopsOf (bodyOf Tryz.f77)=[]:=(by kernel_rfl);rw [e];intro p hp;cases hp)) (fun hr=>(X_G a some).trans (v_6 a))
  · cases hp
noncomputable def i_k:Env R:=⟨Tryz.prog,callCons 40 k_m (callCons 77 n_T callNil),fun _ _ _ _ _=>none,Tryz.f79.results.toList,maskTab 30 [(0,0x7304e),(1,0x8004e),(2,0x40),(3,0xc8),(4,0x40)],maskAt [(2,2),(4,14),(6,16),(8,22)],noSort⟩
noncomputable def d_y (e:F') (a b:Int) (k:V->Option R):Option R:=let f:=M_v a;let g:=decide (b<0);let i:Bool:=(bif (!f) then true else g);let j:Bool:=(bif i then true else (decide (b > a)));bif j then k (V.agg [(V.int .i64 0),(V.int .i64 0),(V.int .i64 0),(V.int .i64 0)]) else let c:=IntKind.wrap .i64 (a-b);bif (decide (0<=(IntKind.wrap .u64 c))) then let d:=IntKind.wrap .i64 (1*2 ^ (min (Int.toNat (IntKind.wrap .u64 c)) 64));let m:=D_j e d d;k (F'.v m) else none
abbrev v_7 (a:F') (b c:Int):List V:=[(F'.v a),V.int .i64 b,V.int .i64 c]
theorem X_I (a:F') (b c:Int) (k:V->Option R):fnK i_k Tryz.f79 (v_7 a b c) k=d_y a b c k:=by kernel_rfl
theorem v_8 (a:F') (b c:Int):h_m a b c=true->d_y a b c some=some ((fun (m:F')=>(F'.v m)) (F_h a b c)):=by
  repeat' (first | exact fun _=>rfl | exact fun h=>absurd h (by decide) | refine B_b (v:=(fun (m:F')=>(F'.v m))) ?_ ?_)
theorem X_J (h_I0:f_Y) (h_A5:k_x):g_y:=goodHook1 fun l hp=>by
  unfold n_U at hp
  split at hp
  · rename_i a b d f g i
    exact fn_ok (fn:=Tryz.f79) (c:=bodyOf Tryz.f79) (E:=i_k) ⟨by kernel_rfl,(goodCons h_I0 (goodCons h_A5 goodNil)),rfl,M'⟩ rfl (by kernel_rfl) (by kernel_rfl) (by kernel_rfl) (loopsOK_of _ (by have e:loopsOf (bodyOf Tryz.f79)=[]:=(by kernel_rfl);rw [e];intro p hp;cases hp)) (fun hr=>(X_I (F'.mk a b d f) g i some).trans (v_8 (F'.mk a b d f) g i (r_5 (F'.mk a b d f) g i)))
  · cases hp
noncomputable def i_l:Env R:=⟨Tryz.prog,callNil,fun _ _ _ _ _=>none,Tryz.f102.results.toList,maskTab 33 [(0,0x1e16),(1,0x36),(2,0x10),(3,0x8016),(4,0x10),(5,0x200016),(6,0x10),(7,0x10)],maskAt [(2,2),(4,11),(6,13),(8,18),(10,20),(12,26),(14,28)],noSort⟩
noncomputable def d_z (a:C') (b:Int) (k:V->Option R):Option R:=let c:=decide (b<0);let d:=decide (b > a.Levels);let e:Bool:=(bif c then true else d);bif e then k (V.agg [(V.int .i64 0),(V.int .i64 0)]) else let f:=(((List.length a.Precincts):Nat):Int);bif (f==0) then k (V.agg [(V.int .i64 12),(V.int .i64 12)]) else let g:=(((List.length a.Precincts):Nat):Int);bif (decide (b >= g)) then k (V.agg [(V.int .i64 0),(V.int .i64 0)]) else bif (inR b (List.length a.Precincts)) then let i:=List.getD a.Precincts (Int.toNat b) [];let j:=X'.of i;k (X'.v j) else none
abbrev v_9 (a:C') (b:Int):List V:=[(C'.v a),V.int .i64 b]
theorem X_K (a:C') (b:Int) (k:V->Option R):fnK i_l Tryz.f102 (v_9 a b) k=d_z a b k:=by kernel_rfl
theorem w_a (a:C') (b:Int):h_p a b=true->d_z a b some=some ((fun (m:X')=>(X'.v m)) (A_X a b)):=by
  repeat' (first | exact fun _=>rfl | exact fun h=>absurd h (by decide) | refine B_b (v:=(fun (m:X')=>(X'.v m))) ?_ ?_)
theorem X_L:k_A:=goodHook1 fun l hp=>by
  unfold n_V at hp
  split at hp
  · rename_i a b d f g i j m o q r s t u v w y z A B
    exact fn_ok (fn:=Tryz.f102) (c:=bodyOf Tryz.f102) (E:=i_l) ⟨by kernel_rfl,goodNil,rfl,M'⟩ rfl (by kernel_rfl) (by kernel_rfl) (by kernel_rfl) (loopsOK_of _ (by have e:loopsOf (bodyOf Tryz.f102)=[]:=(by kernel_rfl);rw [e];intro p hp;cases hp)) (fun hr=>(X_K (C'.mk a b d f g i j m (K'.mk o q r s t) u v w y z A) B some).trans (w_a (C'.mk a b d f g i j m (K'.mk o q r s t) u v w y z A) B (r_6 (C'.mk a b d f g i j m (K'.mk o q r s t) u v w y z A) B)))
  · cases hp
noncomputable def i_m:Env R:=⟨Tryz.prog,callCons 38 g_v (callCons 71 n_I (callCons 72 q_X callNil)),fun _ _ _ _ _=>none,Tryz.f103.results.toList,maskTab 36 [(0,0xe),(1,0x40e),(2,0x40),(3,0x188),(4,0x40)],maskAt [(2,2),(4,4),(6,5),(8,13)],noSort⟩
noncomputable def d_A (a:F') (b c:Int) (k:V->Option R):Option R:=let f:=C_R a;bif f then k (V.int .i64 0) else bif (decide (0<=(IntKind.wrap .u64 b))) then let d:=IntKind.wrap .i64 (1*2 ^ (min (Int.toNat (IntKind.wrap .u64 b)) 64));bif (decide (0<=(IntKind.wrap .u64 c))) then let e:=IntKind.wrap .i64 (1*2 ^ (min (Int.toNat (IntKind.wrap .u64 c)) 64));let g:=B_F a.X1 d;let i:=D_k a.X0 d;let j:=IntKind.wrap .i64 (g-i);let m:=B_F a.Y1 e;let o:=D_k a.Y0 e;let p:=IntKind.wrap .i64 (m-o);let q:=IntKind.wrap .i64 (j*p);k (V.int .i64 q) else none else none
abbrev w_b (a:F') (b c:Int):List V:=[(F'.v a),V.int .i64 b,V.int .i64 c]
theorem X_M (a:F') (b c:Int) (k:V->Option R):fnK i_m Tryz.f103 (w_b a b c) k=d_A a b c k:=by kernel_rfl
theorem w_c (a:F') (b c:Int):h_n a b c=true->d_A a b c some=some ((fun (m:Int)=>(V.int .i64 m)) (V_d a b c)):=by
  repeat' (first | exact fun _=>rfl | exact fun h=>absurd h (by decide) | refine B_b (v:=(fun (m:Int)=>(V.int .i64 m))) ?_ ?_)
theorem X_N (h_J1:V_9) (h_G1:h_P) (h_E7:k_p):q_0:=goodHook1 fun l hp=>by
  unfold n_X at hp
  split at hp
  · rename_i a b d f g i
    exact fn_ok (fn:=Tryz.f103) (c:=bodyOf Tryz.f103) (E:=i_m) ⟨by kernel_rfl,(goodCons h_J1 (goodCons h_G1 (goodCons h_E7 goodNil))),rfl,M'⟩ rfl (by kernel_rfl) (by kernel_rfl) (by kernel_rfl) (loopsOK_of _ (by have e:loopsOf (bodyOf Tryz.f103)=[]:=(by kernel_rfl);rw [e];intro p hp;cases hp)) (fun hr=>(X_M (F'.mk a b d f) g i some).trans (w_c (F'.mk a b d f) g i (r_7 (F'.mk a b d f) g i)))
  · cases hp
noncomputable def i_n:Env R:=⟨Tryz.prog,callCons 77 n_T callNil,fun _ _ _ _ _=>none,Tryz.f104.results.toList,maskTab 29 [(0,0xe603),(1,0x10002),(2,0x10),(3,0x40002),(4,0x10),(5,0x10)],maskAt [(2,1),(4,13),(6,14),(8,16),(10,18)],noSort⟩
noncomputable def d_B (b a:Int) (k:V->Option R):Option R:=let c:=M_v b;let d:=decide (a<0);let e:Bool:=(bif (!c) then true else d);let f:Bool:=(bif e then true else (decide (a > b)));bif f then k (V.data [.int .i64] []) else bif (a==0) then k (V.data [.int .i64] [[(V.int .i64 0)]]) else let g:=IntKind.wrap .i64 (3*a);let i:=IntKind.wrap .i64 (g-2);let j:=IntKind.wrap .i64 (3*a);let m:=IntKind.wrap .i64 (j-1);let o:=IntKind.wrap .i64 (3*a);k (V.data [.int .i64] [[V.int .i64 i],[V.int .i64 m],[V.int .i64 o]])
abbrev w_d (a b:Int):List V:=[V.int .i64 a,V.int .i64 b]
theorem X_O (a b:Int) (k:V->Option R):fnK i_n Tryz.f104 (w_d a b) k=d_B a b k:=by kernel_rfl
theorem w_e (a b:Int):d_B a b some=some ((fun (m:Rows)=>(V.data [.int .i64] m)) (O_M a b)):=by
  repeat' (first | rfl | refine A_t (v:=(fun (m:Rows)=>(V.data [.int .i64] m))) ?_ ?_)
theorem X_P (h_A5:k_x):m_z:=goodHook1 fun l hp=>by
  unfold n_Y at hp
  split at hp
  · rename_i a b
    exact fn_ok (fn:=Tryz.f104) (c:=bodyOf Tryz.f104) (E:=i_n) ⟨by kernel_rfl,(goodCons h_A5 goodNil),rfl,M'⟩ rfl (by kernel_rfl) (by kernel_rfl) (by kernel_rfl) (loopsOK_of _ (by have e:loopsOf (bodyOf Tryz.f104)=[]:=(by kernel_rfl);rw [e];intro p hp;cases hp)) (fun hr=>(X_O a b some).trans (w_e a b))
  · cases hp
end Go.Vm
