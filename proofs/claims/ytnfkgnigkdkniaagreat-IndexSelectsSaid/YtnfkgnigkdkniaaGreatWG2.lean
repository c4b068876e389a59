import Derived.Test.YtnfkgnigkdkniaaGreatWM
set_option linter.unusedVariables false
set_option linter.unusedSimpArgs false
set_option maxRecDepth 100000
noncomputable section
namespace Go.Vm
open Go.Proofs
variable {R:Type}
noncomputable def H_0 (a:Rows) (b:Int) (d:D') (e:C'):Nat:=let c:=(((List.length a):Nat):Int);Int.toNat (c-b)+1
noncomputable def H_1 (b:Rows) (c:D') (d:C') (a:Int) (again:Int->Option R) (kn:Int->Option R) (kr:V->Option R):Option R:=let i:=(((List.length b):Nat):Int);bif (decide (a<i)) then bif (inR a (List.length b)) then let j:=List.getD b (Int.toNat a) [];let e:=F'.of j;bif (F_v c d e) then let m:=T_N c d e;let f:=decide (m > 65536);bif ((inR a (List.length b))||!(f==false)) then let o:=List.getD b (Int.toNat a) [];let g:=F'.of o;bif (f==false) then bif (O_O c d g) then let p:=h_s c d g;let q:=decide (p > 65536);bif q then kr (V.int .i64 5) else let r:=IntKind.wrap .i64 (a+1);again r else none else kr (V.int .i64 5) else none else none else none else kn a
noncomputable def B_Q (a:Rows) (b:D') (c:C'):Nat->Int->(Int->Option R)->(V->Option R)->Option R
  | 0,_,_,_=>none
  | n+1,d,kn,kr=>H_1 a b c d (fun e=>B_Q a b c n e kn kr) kn kr
noncomputable def F_Y:ST:=⟨.undef::.undef::.ptr 0 0 0::.ptr 1 0 0::.undef::.undef::.data F'.sh::.int .i64::A_j 71 [],[(0,.var D'.sh false D'.ts),(1,.var C'.sh false C'.ts)],57⟩
noncomputable def E_k (c:Rows) (b:D') (a:C') (d:Int):St:=F_Y.put [.r c,.i d,.i b.Area.X0,.i b.Area.Y0,.i b.Area.X1,.i b.Area.Y1,.i b.TileW,.i b.TileH,.r b.Components,.i a.Kernel,.i a.Levels,.i a.Color,.i a.BlockX,.i a.BlockY,.r a.Precincts,.i a.Order,.i a.Layers,.b a.Mode.Bypass,.b a.Mode.Restart,.b a.Mode.Reset,.b a.Mode.Causal,.b a.Mode.Symbols,.b a.Divide,.b a.Sync,.b a.Fence,.r a.Steps,.i a.Dead,.i a.Shift]
noncomputable def H_2:LoopG R:=fun l kn _ kr=>match l with
  | .r a::.i I::.i b::.i c::.i d::.i e::.i f::.i g::.r i::.i j::.i m::.i o::.i p::.i q::.r r::.i s::.i t::.b u::.b v::.b w::.b y::.b z::.b A::.b B::.b D::.r E::.i F::.i H::[]=>B_Q a (D'.mk (F'.mk b c d e) f g i) (C'.mk j m o p q r s t (K'.mk u v w y z) A B D E F H) (H_0 a I (D'.mk (F'.mk b c d e) f g i) (C'.mk j m o p q r s t (K'.mk u v w y z) A B D E F H)) I (fun J=>kn (E_k a (D'.mk (F'.mk b c d e) f g i) (C'.mk j m o p q r s t (K'.mk u v w y z) A B D E F H) J)) kr
  | _=>none
noncomputable def K_0:Env R:=⟨Tryz.prog,callCons 9 n_c (callCons 29 s_t (callCons 30 y_J (callCons 31 y_K (callCons 32 s_D (callCons 33 y_M callNil))))),fun id=>bif Nat.beq id 0 then loopAlt F_Y H_2 loopNil else (fun _ _ _ _ _=>none) id,Tryz.f11.results.toList,maskTab 79 [(0,0x3fc000007fcff800000c),(1,0x3fc000007fcff800002c),(2,0x3fc000007fcff800082c),(3,0x10),(4,0x3fc000007fcff800800c),(5,0x10),(6,0x3fc000007fcff804000c),(7,0x10),(8,0x3fc000007fcff820000c),(9,0x3fc0000080000000000c),(10,0x10),(11,0x3fc0000000000000004c),(12,0x3fc000000000000000cc),(13,0x3fc004000000000000cc),(14,0x3fc000000000000000cc),(15,0x7fc000000000000000cc),(16,0x10),(17,0x10)],maskAt [(1,57),(2,3),(4,6),(6,8),(8,10),(10,13),(12,14),(14,17),(16,18),(18,21),(20,47),(22,48),(24,56),(26,61),(28,84),(30,65),(32,83),(34,87)],noSort⟩
theorem R_C (a:Rows) (b:D') (c:C') (e:Int) (kn:St->Option R) (kx:Nat->St->Option R) (kr:V->Option R) (n:Nat) (f:Int) :
    loopN K_0 0 (loopAt Tryz.f11 0) (E_k a b c e) kn kx kr (n+1) (E_k a b c f) =
    H_1 a b c f (fun d=>loopN K_0 0 (loopAt Tryz.f11 0) (E_k a b c e) kn kx kr n (E_k a b c d)) (fun d=>kn (E_k a b c d)) kr:=by kernel_rfl
theorem K_1 (a:Rows) (b:D') (c:C') (f:Int) (kn:St->Option R) (kx:Nat->St->Option R) (kr:V->Option R):∀ (n:Nat) (d:Int),
    B_Q a b c n d (fun e=>kn (E_k a b c e)) kr=loopN K_0 0 (loopAt Tryz.f11 0) (E_k a b c f) kn kx kr n (E_k a b c d)
  | 0,_=>rfl
  | n+1,d=>by
    rw [R_C,B_Q]
    congr 1
    funext e
    exact K_1 a b c f kn kx kr n e
theorem W_4 {rest} (h:GoodL (R:=R) K_0 0 (loopAt Tryz.f11 0) rest):GoodL (R:=R) K_0 0 (loopAt Tryz.f11 0) (loopAlt F_Y H_2 rest):=by
  refine goodL_alt (fun l kn kx kr r h=>?_) h
  unfold H_2 at h
  split at h
  · rename_i b a c d e f g i j m o p q s t u v w y z A B D E F H I J
    exact ⟨_,(K_1 b (D'.mk (F'.mk c d e f) g i j) (C'.mk m o p q s t u v (K'.mk w y z A B) D E F H I J) a kn kx kr _ a).symm.trans h⟩
  · cases h
theorem d_c:GoodLoop (R:=R) K_0 0 (loopAt Tryz.f11 0):=goodL_loop (g:=loopAlt F_Y H_2 loopNil) (fun _ _ _ _=>rfl) (W_4 goodL_nil)
noncomputable def P_U (a:D') (b:C') (k:V->Option R):Option R:=let j:=V_0 a;bif (j != 0) then k (V.int .i64 j) else let p:=m_T b;bif (!p) then k (V.int .i64 3) else let q:=r_X b;bif (!q) then k (V.int .i64 13) else bif (b.Color != 0) then let r:=(((List.length a.Components):Nat):Int);let g:=decide (r<3);bif ((inR 0 (List.length a.Components))||!(g==false)) then let s:=List.getD a.Components (0:Nat) [];let c:=H'.of s;bif ((inR 1 (List.length a.Components))||!(g==false)) then let t:=List.getD a.Components (1:Nat) [];let d:=H'.of t;let u:=!((c.Depth==d.Depth)&&((c.Signed==d.Signed)&&((c.DX==d.DX)&&((c.DY==d.DY)&&true))));let i:Bool:=(bif g then true else u);bif ((inR 0 (List.length a.Components))||!(i==false)) then let v:=List.getD a.Components (0:Nat) [];let e:=H'.of v;bif ((inR 2 (List.length a.Components))||!(i==false)) then let w:=List.getD a.Components (2:Nat) [];let f:=H'.of w;let y:=!((e.Depth==f.Depth)&&((e.Signed==f.Signed)&&((e.DX==f.DX)&&((e.DY==f.DY)&&true))));let z:Bool:=(bif i then true else y);bif z then k (V.int .i64 13) else let m:=h_k a.Area a.TileW a.TileH;B_Q m a b (H_0 m 0 a b) 0 (fun A=>k (V.int .i64 0)) k else none else none else none else none else let o:=h_k a.Area a.TileW a.TileH;B_Q o a b (H_0 o 0 a b) 0 (fun B=>k (V.int .i64 0)) k
abbrev p_H (a:D') (b:C'):List V:=[(D'.v a),(C'.v b)]
theorem W_5 (a:D') (b:C') (k:V->Option R):fnK K_0 Tryz.f11 (p_H a b) k=P_U a b k:=by kernel_rfl
theorem v_C (h_J8:g_u) (h_L3:m_s) (h_K7:q_Q) (h_I4:n_i) (h_H8:m_w) (h_J0:n_w) (h:∀ (a:D') (b:C'),Real (p_H a b)->P_U a b some=some (V.int .i64 (V_2 a b))):h_O:=goodHook1 fun l hp=>by
  unfold n_x at hp
  split at hp
  · rename_i d f g i j m o p q r s t u v w y z A B D F H I J K L
    exact fn_ok (fn:=Tryz.f11) (c:=bodyOf Tryz.f11) (E:=K_0) ⟨by kernel_rfl,(goodCons h_J8 (goodCons h_L3 (goodCons h_K7 (goodCons h_I4 (goodCons h_H8 (goodCons h_J0 goodNil)))))),rfl,M'⟩ rfl (by kernel_rfl) (by kernel_rfl) (by kernel_rfl) (loopsOK_of _ (by have e:loopsOf (bodyOf Tryz.f11)=[(0,loopAt Tryz.f11 0)]:=(by kernel_rfl);rw [e];simp only [List.forall_mem_cons,List.not_mem_nil,false_implies,implies_true,and_true];exact d_c)) (fun hr=>(W_5 (D'.mk (F'.mk d f g i) j m o) (C'.mk p q r s t u v w (K'.mk y z A B D) F H I J K L) some).trans (h (D'.mk (F'.mk d f g i) j m o) (C'.mk p q r s t u v w (K'.mk y z A B D) F H I J K L) hr))
  · cases hp
noncomputable def h_8:Env R:=⟨Tryz.prog,callCons 10 h_M (callCons 11 n_y callNil),fun _ _ _ _ _=>none,Tryz.f34.results.toList,maskTab 35 [(0,0x3e67cc03c),(1,0x100)],maskAt [(2,3)],noSort⟩
noncomputable def d_d (a:D') (d:C') (b c:Int) (k:V->Option R):Option R:=let e:=V_2 a d;let f:=decide (b >= 0);let g:Bool:=(bif (e==0) then f else false);bif (g==true) then let i:=P_M a;let j:=(((List.length i):Nat):Int);let m:=decide (c >= 0);let o:Bool:=(bif (decide (b<j)) then m else false);bif (o==true) then let p:=(((List.length a.Components):Nat):Int);k (V.bool (decide (c<p))) else k (V.bool false) else k (V.bool false)
abbrev v_D (a:D') (b:C') (c d:Int):List V:=[(D'.v a),(C'.v b),V.int .i64 c,V.int .i64 d]
theorem W_6 (a:D') (b:C') (c d:Int) (k:V->Option R):fnK h_8 Tryz.f34 (v_D a b c d) k=d_d a b c d k:=by kernel_rfl
theorem v_E (a:D') (b:C') (c d:Int):d_d a b c d some=some ((fun (m:Bool)=>(V.bool m)) (h_t a b c d)):=by
  repeat' (first | rfl | refine A_t (v:=(fun (m:Bool)=>(V.bool m))) ?_ ?_)
theorem W_7 (h_K6:c_F) (h_L6:h_O):q_S:=goodHook1 fun l hp=>by
  unfold n_z at hp
  split at hp
  · rename_i a b d f g i j m o q r s t u v w y z A B D F H I J K L M
    exact fn_ok (fn:=Tryz.f34) (c:=bodyOf Tryz.f34) (E:=h_8) ⟨by kernel_rfl,(goodCons h_K6 (goodCons h_L6 goodNil)),rfl,M'⟩ rfl (by kernel_rfl) (by kernel_rfl) (by kernel_rfl) (loopsOK_of _ (by have e:loopsOf (bodyOf Tryz.f34)=[]:=(by kernel_rfl);rw [e];intro p hp;cases hp)) (fun hr=>(W_6 (D'.mk (F'.mk a b d f) g i j) (C'.mk m o q r s t u v (K'.mk w y z A B) D F H I J K) L M some).trans (v_E (D'.mk (F'.mk a b d f) g i j) (C'.mk m o q r s t u v (K'.mk w y z A B) D F H I J K) L M))
  · cases hp
noncomputable def h_9:Env R:=⟨Tryz.prog,callCons 10 h_M (callCons 32 s_D (callCons 34 s_P callNil)),fun _ _ _ _ _=>none,Tryz.f12.results.toList,maskTab 20 [(0,0x1c),(1,0x81c),(2,0x40),(3,0x40)],maskAt [(2,3),(4,8),(6,9)],noSort⟩
noncomputable def d_e (a:D') (b:C') (c:Int) (k:V->Option R):Option R:=let f:=h_t a b c 0;bif (!f) then k (V.int .i64 0) else let d:=P_M a;bif (inR c (List.length d)) then let g:=List.getD d (Int.toNat c) [];let e:=F'.of g;bif (F_v a b e) then let i:=T_N a b e;k (V.int .i64 i) else none else none
abbrev v_F (a:D') (b:C') (c:Int):List V:=[(D'.v a),(C'.v b),V.int .i64 c]
theorem W_8 (a:D') (b:C') (c:Int) (k:V->Option R):fnK h_9 Tryz.f12 (v_F a b c) k=d_e a b c k:=by kernel_rfl
theorem v_G (a:D') (b:C') (c:Int):R_a a b c=true->d_e a b c some=some ((fun (m:Int)=>(V.int .i64 m)) (g_p a b c)):=by
  repeat' (first | exact fun _=>rfl | exact fun h=>absurd h (by decide) | refine B_b (v:=(fun (m:Int)=>(V.int .i64 m))) ?_ ?_)
theorem W_9 (h_K6:c_F) (h_H8:m_w) (h_F6:q_S):q_T:=goodHook1 fun l hp=>by
  unfold n_A at hp
  split at hp
  · rename_i a b d f g i j m o q r s t u v w y z A B D F H I J K L
    exact fn_ok (fn:=Tryz.f12) (c:=bodyOf Tryz.f12) (E:=h_9) ⟨by kernel_rfl,(goodCons h_K6 (goodCons h_H8 (goodCons h_F6 goodNil))),rfl,M'⟩ rfl (by kernel_rfl) (by kernel_rfl) (by kernel_rfl) (loopsOK_of _ (by have e:loopsOf (bodyOf Tryz.f12)=[]:=(by kernel_rfl);rw [e];intro p hp;cases hp)) (fun hr=>(W_8 (D'.mk (F'.mk a b d f) g i j) (C'.mk m o q r s t u v (K'.mk w y z A B) D F H I J K) L some).trans (v_G (D'.mk (F'.mk a b d f) g i j) (C'.mk m o q r s t u v (K'.mk w y z A B) D F H I J K) L hp))
  · cases hp
noncomputable def R_D (a b:Int) (c:D') (d:C'):Nat:=Int.toNat (a-b)+1
noncomputable def H_3 (d:Int) (b:D') (c:C') (a:Int) (again:Int->Option R) (kn:Int->Option R) (kr:V->Option R):Option R:=bif (decide (a<d)) then bif (R_a b c a) then let e:=g_p b c a;let f:=decide (e > 400);bif f then kr (V.bool false) else let g:=IntKind.wrap .i64 (a+1);again g else none else kn a
noncomputable def C_w (a:Int) (b:D') (c:C'):Nat->Int->(Int->Option R)->(V->Option R)->Option R
  | 0,_,_,_=>none
  | n+1,d,kn,kr=>H_3 a b c d (fun e=>C_w a b c n e kn kr) kn kr
noncomputable def F_Z:ST:=⟨.undef::.undef::.ptr 0 0 0::.ptr 1 0 0::A_j 51 (.int .i64::.int .i64::A_j 8 []),[(0,.var D'.sh false D'.ts),(1,.var C'.sh false C'.ts)],58⟩
noncomputable def E_l (c:Int) (b:D') (a:C') (d:Int):St:=F_Z.put [.i c,.i d,.i b.Area.X0,.i b.Area.Y0,.i b.Area.X1,.i b.Area.Y1,.i b.TileW,.i b.TileH,.r b.Components,.i a.Kernel,.i a.Levels,.i a.Color,.i a.BlockX,.i a.BlockY,.r a.Precincts,.i a.Order,.i a.Layers,.b a.Mode.Bypass,.b a.Mode.Restart,.b a.Mode.Reset,.b a.Mode.Causal,.b a.Mode.Symbols,.b a.Divide,.b a.Sync,.b a.Fence,.r a.Steps,.i a.Dead,.i a.Shift]
noncomputable def H_4:LoopG R:=fun l kn _ kr=>match l with
  | .i a::.i I::.i b::.i c::.i d::.i e::.i f::.i g::.r i::.i j::.i m::.i o::.i p::.i q::.r r::.i s::.i t::.b u::.b v::.b w::.b y::.b z::.b A::.b B::.b D::.r E::.i F::.i H::[]=>C_w a (D'.mk (F'.mk b c d e) f g i) (C'.mk j m o p q r s t (K'.mk u v w y z) A B D E F H) (R_D a I (D'.mk (F'.mk b c d e) f g i) (C'.mk j m o p q r s t (K'.mk u v w y z) A B D E F H)) I (fun J=>kn (E_l a (D'.mk (F'.mk b c d e) f g i) (C'.mk j m o p q r s t (K'.mk u v w y z) A B D E F H) J)) kr
  | _=>none
noncomputable def K_2:Env R:=⟨Tryz.prog,callCons 9 n_c (callCons 10 h_M (callCons 11 n_y (callCons 12 y_N callNil))),fun id=>bif Nat.beq id 0 then loopAlt F_Z H_4 loopNil else (fun _ _ _ _ _=>none) id,Tryz.f4.results.toList,maskTab 65 [(0,0xf3fc001e780c),(1,0xf3fc0020000c),(2,0x10),(3,0xf3fc0100000c),(4,0x10),(5,0x100000000000c),(6,0x10),(7,0x1000000000000c),(8,0x10),(9,0x18000000000000c),(10,0x38000000000000c),(11,0x18000000000002c),(12,0x818000000000000c),(13,0x10),(14,0x18000000000000c),(15,0x10)],maskAt [(1,58),(2,3),(4,19),(6,20),(8,23),(10,24),(12,48),(14,49),(16,53),(18,54),(20,62),(22,63),(24,65),(26,70),(28,71),(30,73)],noSort⟩
theorem R_E (a:Int) (b:D') (c:C') (e:Int) (kn:St->Option R) (kx:Nat->St->Option R) (kr:V->Option R) (n:Nat) (f:Int) :
    loopN K_2 0 (loopAt Tryz.f4 0) (E_l a b c e) kn kx kr (n+1) (E_l a b c f) =
    H_3 a b c f (fun d=>loopN K_2 0 (loopAt Tryz.f4 0) (E_l a b c e) kn kx kr n (E_l a b c d)) (fun d=>kn (E_l a b c d)) kr:=by kernel_rfl
theorem K_3 (a:Int) (b:D') (c:C') (f:Int) (kn:St->Option R) (kx:Nat->St->Option R) (kr:V->Option R):∀ (n:Nat) (d:Int),
    C_w a b c n d (fun e=>kn (E_l a b c e)) kr=loopN K_2 0 (loopAt Tryz.f4 0) (E_l a b c f) kn kx kr n (E_l a b c d)
  | 0,_=>rfl
  | n+1,d=>by
    rw [R_E,C_w]
    congr 1
    funext e
    exact K_3 a b c f kn kx kr n e
theorem X_a {rest} (h:GoodL (R:=R) K_2 0 (loopAt Tryz.f4 0) rest):GoodL (R:=R) K_2 0 (loopAt Tryz.f4 0) (loopAlt F_Z H_4 rest):=by
  refine goodL_alt (fun l kn kx kr r h=>?_) h
  unfold H_4 at h
  split at h
  · rename_i b a c d e f g i j m o p q s t u v w y z A B D E F H I J
    exact ⟨_,(K_3 b (D'.mk (F'.mk c d e f) g i j) (C'.mk m o p q s t u v (K'.mk w y z A B) D E F H I J) a kn kx kr _ a).symm.trans h⟩
  · cases h
theorem d_f:GoodLoop (R:=R) K_2 0 (loopAt Tryz.f4 0):=goodL_loop (g:=loopAlt F_Z H_4 loopNil) (fun _ _ _ _=>rfl) (X_a goodL_nil)
noncomputable def P_V (a:D') (b:C') (k:V->Option R):Option R:=let d:=(((List.length a.Components):Nat):Int);let e:=decide (d > 10);bif (e==false) then let f:=(((List.length b.Precincts):Nat):Int);let g:=decide (f > 10);bif (g==false) then let i:=(((List.length b.Steps):Nat):Int);let j:=decide (i > 40);bif j then k (V.bool false) else let m:=V_0 a;bif (m != 0) then k (V.bool true) else let o:=IntKind.wrap .i64 (a.Area.X1-a.Area.X0);let p:=decide (o > 40);let q:=IntKind.wrap .i64 (a.Area.Y1-a.Area.Y0);let r:=decide (q > 40);let s:Bool:=(bif p then true else r);bif (s==false) then let t:=P_M a;let u:=(((List.length t):Nat):Int);let v:=decide (u > 16);bif v then k (V.bool false) else let w:=V_2 a b;bif (w != 0) then k (V.bool true) else let y:=P_M a;let c:=(((List.length y):Nat):Int);C_w c a b (R_D c 0 a b) 0 (fun z=>k (V.bool true)) k else k (V.bool false) else k (V.bool false) else k (V.bool false)
abbrev p_I (a:D') (b:C'):List V:=[(D'.v a),(C'.v b)]
theorem X_b (a:D') (b:C') (k:V->Option R):fnK K_2 Tryz.f4 (p_I a b) k=P_V a b k:=by kernel_rfl
theorem v_H (h_J8:g_u) (h_K6:c_F) (h_L6:h_O) (h_H4:q_T) (h:∀ (a:D') (b:C'),Real (p_I a b)->P_V a b some=some (V.bool (h_u a b))):q_U:=goodHook1 fun l hp=>by
  unfold n_B at hp
  split at hp
  · rename_i d f g i j m o p q r s t u v w y z A B D F H I J K L
    exact fn_ok (fn:=Tryz.f4) (c:=bodyOf Tryz.f4) (E:=K_2) ⟨by kernel_rfl,(goodCons h_J8 (goodCons h_K6 (goodCons h_L6 (goodCons h_H4 goodNil)))),rfl,M'⟩ rfl (by kernel_rfl) (by kernel_rfl) (by kernel_rfl) (loopsOK_of _ (by have e:loopsOf (bodyOf Tryz.f4)=[(0,loopAt Tryz.f4 0)]:=(by kernel_rfl);rw [e];simp only [List.forall_mem_cons,List.not_mem_nil,false_implies,implies_true,and_true];exact d_f)) (fun hr=>(X_b (D'.mk (F'.mk d f g i) j m o) (C'.mk p q r s t u v w (K'.mk y z A B D) F H I J K L) some).trans (h (D'.mk (F'.mk d f g i) j m o) (C'.mk p q r s t u v w (K'.mk y z A B D) F H I J K L) hr))
  · cases hp
noncomputable def i_a:Env R:=⟨Tryz.prog,callNil,fun _ _ _ _ _=>none,Tryz.f13.results.toList,maskTab 10 [(0,0x3),(1,0x10)],maskAt [(2,1)],noSort⟩
noncomputable def d_g (a b:Rows) (k:V->Option R):Option R:=let c:=ByteArray.toList (bytesOfRows a)==ByteArray.toList (bytesOfRows b);k (V.bool c)
abbrev v_I (a b:Rows):List V:=[(V.data [.int .u8] a),(V.data [.int .u8] b)]
theorem X_c (a b:Rows) (k:V->Option R):fnK i_a Tryz.f13 (v_I a b) k=d_g a b k:=by kernel_rfl
theorem v_J (a b:Rows):d_g a b some=some ((fun (m:Bool)=>(V.bool m)) (q_L a b)):=by
  repeat' (first | rfl | refine A_t (v:=(fun (m:Bool)=>(V.bool m))) ?_ ?_)
theorem X_d:s_T:=goodHook1 fun l hp=>by
  unfold n_C at hp
  split at hp
  · rename_i a b
    exact fn_ok (fn:=Tryz.f13) (c:=bodyOf Tryz.f13) (E:=i_a) ⟨by kernel_rfl,goodNil,rfl,M'⟩ rfl (by kernel_rfl) (by kernel_rfl) (by kernel_rfl) (loopsOK_of _ (by have e:loopsOf (bodyOf Tryz.f13)=[]:=(by kernel_rfl);rw [e];intro p hp;cases hp)) (fun hr=>(X_c a b some).trans (v_J a b))
  · cases hp
noncomputable def R_F (c d:Rows) (a b:Int) (e:Rows):Nat:=Int.toNat (a-b)+1
noncomputable def H_5 (f g:Rows) (j:Int) (c:Int) (d:Rows) (again:Int->Rows->Option R) (kn:Int->Rows->Option R):Option R:=bif (decide (c<j)) then bif (inR c (List.length g)) then let m:=List.getD g (Int.toNat c) [];let e:=U'.of m;let a:Int:=(bif (decide (0 > e.From)) then 0 else e.From);let i:=(((List.length f):Nat):Int);let b:Int:=(bif (decide (i<e.To)) then i else e.To);bif (decide (a<b)) then bif ((((decide (0<=a))&&(decide (a<=b)))&&(decide (b<=(((List.length d):Nat):Int))))&&true) then bif (((decide (0<=a))&&(decide (a<=b)))&&(decide (b<=(((List.length f):Nat):Int)))) then let o:=List.drop (Int.toNat a) (List.take (Int.toNat b) f);let p:=putRows d (Int.toNat a) (List.take ((Int.toNat b)-(Int.toNat a)) o);let q:=IntKind.wrap .i64 (c+1);again q p else none else none else let r:=IntKind.wrap .i64 (c+1);again r d else none else kn c d
noncomputable def D_t (a b:Rows) (c:Int):Nat->Int->Rows->(Int->Rows->Option R)->Option R
  | 0,_,_,_=>none
  | n+1,d,e,kn=>H_5 a b c d e (fun f g=>D_t a b c n f g kn) kn
noncomputable def F_0:ST:=⟨.data [.int .u8]::A_j 4 (.vs 3::A_j 7 (.data U'.sh::.int .i64::.int .i64::A_j 25 [])),[(3,.vec [.int .u8] false)],8⟩
noncomputable def E_m (a b:Rows) (c:Int) (d:Int) (e:Rows):St:=F_0.put [.r a,.r b,.i c,.i d,.r e]
noncomputable def H_6:LoopG R:=fun l kn _ _=>match l with
  | .r a::.r b::.i c::.i d::.r e::[]=>D_t a b c (R_F a b c d e) d e (fun f g=>kn (E_m a b c f g))
  | _=>none
noncomputable def K_4:Env R:=⟨Tryz.prog,callNil,fun id=>bif Nat.beq id 0 then loopAlt F_0 H_6 loopNil else (fun _ _ _ _ _=>none) id,Tryz.f14.results.toList,maskTab 41 [(0,0x3),(1,0x23),(2,0xe021),(3,0x1e021),(4,0xe0a1),(5,0xe321),(6,0x2000e321),(7,0xe021),(8,0xe021),(9,0x10)],maskAt [(1,8),(2,1),(4,5),(6,12),(8,13),(10,17),(12,27),(14,30),(16,39),(18,41)],noSort⟩
theorem R_G (a b:Rows) (c:Int) (f:Int) (g:Rows) (kn:St->Option R) (kx:Nat->St->Option R) (kr:V->Option R) (n:Nat) (i:Int) (j:Rows) :
    loopN K_4 0 (loopAt Tryz.f14 0) (E_m a b c f g) kn kx kr (n+1) (E_m a b c i j) =
    H_5 a b c i j (fun d e=>loopN K_4 0 (loopAt Tryz.f14 0) (E_m a b c f g) kn kx kr n (E_m a b c d e)) (fun d e=>kn (E_m a b c d e)):=by kernel_rfl
theorem K_5 (a b:Rows) (c:Int) (i:Int) (j:Rows) (kn:St->Option R) (kx:Nat->St->Option R) (kr:V->Option R):∀ (n:Nat) (d:Int) (e:Rows),
    D_t a b c n d e (fun f g=>kn (E_m a b c f g))=loopN K_4 0 (loopAt Tryz.f14 0) (E_m a b c i j) kn kx kr n (E_m a b c d e)
  | 0,_,_=>rfl
  | n+1,d,e=>by
    rw [R_G,D_t]
    congr 1
    funext f g
    exact K_5 a b c i j kn kx kr n f g
theorem X_e {rest} (h:GoodL (R:=R) K_4 0 (loopAt Tryz.f14 0) rest):GoodL (R:=R) K_4 0 (loopAt Tryz.f14 0) (loopAlt F_0 H_6 rest):=by
  refine goodL_alt (fun l kn kx kr r h=>?_) h
  unfold H_6 at h
  split at h
  · rename_i c d e a b
    exact ⟨_,(K_5 c d e a b kn kx kr _ a b).symm.trans h⟩
  · cases h
theorem d_h:GoodLoop (R:=R) K_4 0 (loopAt Tryz.f14 0):=goodL_loop (g:=loopAlt F_0 H_6 loopNil) (fun _ _ _ _=>rfl) (X_e goodL_nil)
noncomputable def T_X (b c:Rows) (k:V->Option R):Option R:=let a:=(((List.length b):Nat):Int);bif (((((decide (0<=a))&&(decide (a<=a)))&&(decide ((a*1)<=140737488355328)))&&(decide (a<=140737488355328)))&&true) then let d:=List.replicate (Int.toNat a) [(V.int .u8 0)];let e:=(((List.length c):Nat):Int);D_t b c e (R_F b c e 0 d) 0 d (fun g f=>k (V.data [.int .u8] f)) else none
abbrev p_J (a b:Rows):List V:=[(V.data [.int .u8] a),V.data U'.sh b]
theorem X_f (a b:Rows) (k:V->Option R):fnK K_4 Tryz.f14 (p_J a b) k=T_X a b k:=by kernel_rfl
theorem v_K (h:∀ (a b:Rows),O_P a b=true->Real (p_J a b)->T_X a b some=some (V.data [.int .u8] (m_U a b))):q_V:=goodHook1 fun l hp=>by
  unfold n_D at hp
  split at hp
  · rename_i d f
    exact fn_ok (fn:=Tryz.f14) (c:=bodyOf Tryz.f14) (E:=K_4) ⟨by kernel_rfl,goodNil,rfl,M'⟩ rfl (by kernel_rfl) (by kernel_rfl) (by kernel_rfl) (loopsOK_of _ (by have e:loopsOf (bodyOf Tryz.f14)=[(0,loopAt Tryz.f14 0)]:=(by kernel_rfl);rw [e];simp only [List.forall_mem_cons,List.not_mem_nil,false_implies,implies_true,and_true];exact d_h)) (fun hr=>(X_f d f some).trans (h d f hp hr))
  · cases hp
noncomputable def i_b:Env R:=⟨Tryz.prog,callCons 13 y_P (callCons 14 y_Q callNil),fun _ _ _ _ _=>none,Tryz.f5.results.toList,maskTab 7 [(0,0x0),(1,0x1)],maskAt [(2,1)],noSort⟩
noncomputable def d_i (k:V->Option R):Option R:=bif (O_P [[(V.int .u8 1)],[(V.int .u8 2)],[(V.int .u8 3)],[(V.int .u8 4)]] [[(V.int .i64 1),(V.int .i64 3)]]) then let a:=m_U [[(V.int .u8 1)],[(V.int .u8 2)],[(V.int .u8 3)],[(V.int .u8 4)]] [[(V.int .i64 1),(V.int .i64 3)]];let b:=q_L a [[(V.int .u8 0)],[(V.int .u8 2)],[(V.int .u8 3)],[(V.int .u8 0)]];k (V.bool b) else none
abbrev v_L:List V:=[]
theorem X_g (k:V->Option R):fnK i_b Tryz.f5 (v_L) k=d_i k:=by kernel_rfl
theorem v_M:F_i=true->d_i some=some ((fun (m:Bool)=>(V.bool m)) (g_q)):=by
  repeat' (first | exact fun _=>rfl | exact fun h=>absurd h (by decide) | refine B_b (v:=(fun (m:Bool)=>(V.bool m))) ?_ ?_)
theorem X_h (h_F2:s_T) (h_J4:q_V):s_W:=goodHook1 fun l hp=>by
  unfold n_E at hp
  split at hp
  · skip
    exact fn_ok (fn:=Tryz.f5) (c:=bodyOf Tryz.f5) (E:=i_b) ⟨by kernel_rfl,(goodCons h_F2 (goodCons h_J4 goodNil)),rfl,M'⟩ rfl (by kernel_rfl) (by kernel_rfl) (by kernel_rfl) (loopsOK_of _ (by have e:loopsOf (bodyOf Tryz.f5)=[]:=(by kernel_rfl);rw [e];intro p hp;cases hp)) (fun hr=>(X_g  some).trans (v_M hp))
  · cases hp
noncomputable def i_c:Env R:=⟨Tryz.prog,callNil,fun _ _ _ _ _=>none,Tryz.f37.results.toList,maskTab 35 [(0,0x39f39cf82),(1,0x4)],maskAt [(2,2)],noSort⟩
noncomputable def d_j (a:F') (k:V->Option R):Option R:=let b:=decide (0<=a.X0);let c:Bool:=(bif b then (decide (a.X0<=a.X1)) else false);let d:=decide (a.X1<=4096);let e:Bool:=(bif c then d else false);let f:=decide (0<=a.Y0);let g:Bool:=(bif e then f else false);let i:Bool:=(bif g then (decide (a.Y0<=a.Y1)) else false);let j:=decide (a.Y1<=4096);let m:Bool:=(bif i then j else false);k (V.bool m)
abbrev v_N (a:F'):List V:=[(F'.v a)]
theorem X_i (a:F') (k:V->Option R):fnK i_c Tryz.f37 (v_N a) k=d_j a k:=by kernel_rfl
theorem v_O (a:F'):d_j a some=some ((fun (m:Bool)=>(V.bool m)) (A_3 a)):=by
  repeat' (first | rfl | refine A_t (v:=(fun (m:Bool)=>(V.bool m))) ?_ ?_)
theorem X_j:T_S:=goodHook1 fun l hp=>by
  unfold n_F at hp
  split at hp
  · rename_i a b d f
    exact fn_ok (fn:=Tryz.f37) (c:=bodyOf Tryz.f37) (E:=i_c) ⟨by kernel_rfl,goodNil,rfl,M'⟩ rfl (by kernel_rfl) (by kernel_rfl) (by kernel_rfl) (loopsOK_of _ (by have e:loopsOf (bodyOf Tryz.f37)=[]:=(by kernel_rfl);rw [e];intro p hp;cases hp)) (fun hr=>(X_i (F'.mk a b d f) some).trans (v_O (F'.mk a b d f)))
  · cases hp
noncomputable def i_d:Env R:=⟨Tryz.prog,callNil,fun _ _ _ _ _=>none,Tryz.f38.results.toList,maskTab 15 [(0,0x3e02),(1,0x4)],maskAt [(2,2)],noSort⟩
noncomputable def d_k (a:F') (k:V->Option R):Option R:=let b:Bool:=(bif (decide (a.X0 >= a.X1)) then true else (decide (a.Y0 >= a.Y1)));k (V.bool b)
abbrev v_P (a:F'):List V:=[(F'.v a)]
theorem X_k (a:F') (k:V->Option R):fnK i_d Tryz.f38 (v_P a) k=d_k a k:=by kernel_rfl
theorem v_Q (a:F'):d_k a some=some ((fun (m:Bool)=>(V.bool m)) (C_R a)):=by
  repeat' (first | rfl | refine A_t (v:=(fun (m:Bool)=>(V.bool m))) ?_ ?_)
theorem X_l:V_9:=goodHook1 fun l hp=>by
  unfold n_G at hp
  split at hp
  · rename_i a b d f
    exact fn_ok (fn:=Tryz.f38) (c:=bodyOf Tryz.f38) (E:=i_d) ⟨by kernel_rfl,goodNil,rfl,M'⟩ rfl (by kernel_rfl) (by kernel_rfl) (by kernel_rfl) (loopsOK_of _ (by have e:loopsOf (bodyOf Tryz.f38)=[]:=(by kernel_rfl);rw [e];intro p hp;cases hp)) (fun hr=>(X_k (F'.mk a b d f) some).trans (v_Q (F'.mk a b d f)))
  · cases hp
noncomputable def i_e:Env R:=⟨Tryz.prog,callNil,fun _ _ _ _ _=>none,Tryz.f71.results.toList,maskTab 18 [(0,0x3),(1,0x83),(2,0x10),(3,0x23),(4,0x4020),(5,0x20),(6,0x10)],maskAt [(2,1),(4,3),(6,4),(8,8),(10,12),(12,15)],noSort⟩
noncomputable def d_l (b a:Int) (k:V->Option R):Option R:=let d:=decide (a<1);bif d then k (V.int .i64 0) else bif (a != 0) then let c:=IntKind.wrap .i64 (Int.tdiv b a);bif (a != 0) then let e:=decide ((Int.tmod b a) > 0);bif e then let f:=IntKind.wrap .i64 (c+1);k (V.int .i64 f) else k (V.int .i64 c) else none else none
abbrev v_R (a b:Int):List V:=[V.int .i64 a,V.int .i64 b]
theorem X_m (a b:Int) (k:V->Option R):fnK i_e Tryz.f71 (v_R a b) k=d_l a b k:=by kernel_rfl
theorem v_S (a b:Int):h_i a b=true->d_l a b some=some ((fun (m:Int)=>(V.int .i64 m)) (B_F a b)):=by
  repeat' (first | exact fun _=>rfl | exact fun h=>absurd h (by decide) | refine B_b (v:=(fun (m:Int)=>(V.int .i64 m))) ?_ ?_)
theorem X_n:h_P:=goodHook1 fun l hp=>by
  unfold n_H at hp
  split at hp
  · rename_i a b
    exact fn_ok (fn:=Tryz.f71) (c:=bodyOf Tryz.f71) (E:=i_e) ⟨by kernel_rfl,goodNil,rfl,M'⟩ rfl (by kernel_rfl) (by kernel_rfl) (by kernel_rfl) (loopsOK_of _ (by have e:loopsOf (bodyOf Tryz.f71)=[]:=(by kernel_rfl);rw [e];intro p hp;cases hp)) (fun hr=>(X_m a b some).trans (v_S a b (r_3 a b)))
  · cases hp
noncomputable def i_f:Env R:=⟨Tryz.prog,callCons 37 c_G (callCons 71 n_I callNil),fun _ _ _ _ _=>none,Tryz.f40.results.toList,maskTab 44 [(0,0x199984e),(1,0x200004e),(2,0x40),(3,0x40)],maskAt [(2,2),(4,21),(6,23)],noSort⟩
noncomputable def d_m (a:F') (b c:Int) (k:V->Option R):Option R:=let d:=A_3 a;let e:=decide (b<1);let f:Bool:=(bif (!d) then true else e);let g:=decide (b > 4096);let i:Bool:=(bif f then true else g);let j:=decide (c<1);let m:Bool:=(bif i then true else j);let o:=decide (c > 4096);let p:Bool:=(bif m then true else o);bif p then k (V.agg [(V.int .i64 0),(V.int .i64 0),(V.int .i64 0),(V.int .i64 0)]) else let q:=B_F a.X0 b;let r:=B_F a.Y0 c;let s:=B_F a.X1 b;let t:=B_F a.Y1 c;k (V.agg [V.int .i64 q,V.int .i64 r,V.int .i64 s,V.int .i64 t])
abbrev v_T (a:F') (b c:Int):List V:=[(F'.v a),V.int .i64 b,V.int .i64 c]
theorem X_o (a:F') (b c:Int) (k:V->Option R):fnK i_f Tryz.f40 (v_T a b c) k=d_m a b c k:=by kernel_rfl
theorem v_U (a:F') (b c:Int):d_m a b c some=some ((fun (m:F')=>(F'.v m)) (D_j a b c)):=by
  repeat' (first | rfl | refine A_t (v:=(fun (m:F')=>(F'.v m))) ?_ ?_)
theorem X_p (h_K0:T_S) (h_G1:h_P):f_Y:=goodHook1 fun l hp=>by
  unfold n_J at hp
  split at hp
  · rename_i a b d f g i
    exact fn_ok (fn:=Tryz.f40) (c:=bodyOf Tryz.f40) (E:=i_f) ⟨by kernel_rfl,(goodCons h_K0 (goodCons h_G1 goodNil)),rfl,M'⟩ rfl (by kernel_rfl) (by kernel_rfl) (by kernel_rfl) (loopsOK_of _ (by have e:loopsOf (bodyOf Tryz.f40)=[]:=(by kernel_rfl);rw [e];intro p hp;cases hp)) (fun hr=>(X_o (F'.mk a b d f) g i some).trans (v_U (F'.mk a b d f) g i))
  · cases hp
noncomputable def N_n (c d:Int) (e:Rows) (a b:Int):Nat:=Int.toNat (a-b)+1
noncomputable def B_R (d e:Int) (b:Rows) (f:Int) (a:Int) (again:Int->Option R) (kn:Int->Option R) (kr:V->Option R):Option R:=bif (decide (a<f)) then bif (inR a (List.length b)) then let g:=List.getD b (Int.toNat a) [];let c:=V.toInt (List.getD g 0 V.undef);let i:Bool:=(bif (decide (c<d)) then true else (decide (c > e)));bif i then kr (V.bool false) else let j:=IntKind.wrap .i64 (a+1);again j else none else kn a
noncomputable def B_x (a b:Int) (c:Rows) (d:Int):Nat->Int->(Int->Option R)->(V->Option R)->Option R
  | 0,_,_,_=>none
  | n+1,e,kn,kr=>B_R a b c d e (fun f=>B_x a b c d n f kn kr) kn kr
noncomputable def F_1:ST:=⟨.int .i64::.int .i64::A_j 7 (.data [.int .i64]::.int .i64::.int .i64::A_j 12 []),[],4⟩
noncomputable def E_n (a b:Int) (c:Rows) (d:Int) (e:Int):St:=F_1.put [.i a,.i b,.r c,.i d,.i e]
noncomputable def H_7:LoopG R:=fun l kn _ kr=>match l with
  | .i a::.i b::.r c::.i d::.i e::[]=>B_x a b c d (N_n a b c d e) e (fun f=>kn (E_n a b c d f)) kr
  | _=>none
noncomputable def K_6:Env R:=⟨Tryz.prog,callNil,fun id=>bif Nat.beq id 0 then loopAlt F_1 H_7 loopNil else (fun _ _ _ _ _=>none) id,Tryz.f64.results.toList,maskTab 24 [(0,0x380007),(1,0x380e03),(2,0x381e03),(3,0x380f03),(4,0x780e03),(5,0x40),(6,0x380e03),(7,0x40)],maskAt [(1,4),(2,1),(4,8),(6,9),(8,12),(10,20),(12,21),(14,23)],noSort⟩
theorem R_H (a b:Int) (c:Rows) (d:Int) (f:Int) (kn:St->Option R) (kx:Nat->St->Option R) (kr:V->Option R) (n:Nat) (g:Int) :
    loopN K_6 0 (loopAt Tryz.f64 0) (E_n a b c d f) kn kx kr (n+1) (E_n a b c d g) =
    B_R a b c d g (fun e=>loopN K_6 0 (loopAt Tryz.f64 0) (E_n a b c d f) kn kx kr n (E_n a b c d e)) (fun e=>kn (E_n a b c d e)) kr:=by kernel_rfl
theorem K_7 (a b:Int) (c:Rows) (d:Int) (g:Int) (kn:St->Option R) (kx:Nat->St->Option R) (kr:V->Option R):∀ (n:Nat) (e:Int),
    B_x a b c d n e (fun f=>kn (E_n a b c d f)) kr=loopN K_6 0 (loopAt Tryz.f64 0) (E_n a b c d g) kn kx kr n (E_n a b c d e)
  | 0,_=>rfl
  | n+1,e=>by
    rw [R_H,B_x]
    congr 1
    funext f
    exact K_7 a b c d g kn kx kr n f
theorem X_q {rest} (h:GoodL (R:=R) K_6 0 (loopAt Tryz.f64 0) rest):GoodL (R:=R) K_6 0 (loopAt Tryz.f64 0) (loopAlt F_1 H_7 rest):=by
  refine goodL_alt (fun l kn kx kr r h=>?_) h
  unfold H_7 at h
  split at h
  · rename_i b c d e a
    exact ⟨_,(K_7 b c d e a kn kx kr _ a).symm.trans h⟩
  · cases h
theorem d_n:GoodLoop (R:=R) K_6 0 (loopAt Tryz.f64 0):=goodL_loop (g:=loopAlt F_1 H_7 loopNil) (fun _ _ _ _=>rfl) (X_q goodL_nil)
noncomputable def d_o (b c:Int) (a:Rows) (k:V->Option R):Option R:=let d:=(((List.length a):Nat):Int);B_x b c a d (N_n b c a d 0) 0 (fun e=>k (V.bool true)) k
abbrev p_K (a b:Int) (c:Rows):List V:=[V.int .i64 a,V.int .i64 b,(V.data [.int .i64] c)]
theorem X_r (a b:Int) (c:Rows) (k:V->Option R):fnK K_6 Tryz.f64 (p_K a b c) k=d_o a b c k:=by kernel_rfl
theorem v_V (h:∀ (a b:Int) (d:Rows),A_O a b d=true->Real (p_K a b d)->d_o a b d some=some (V.bool (K_F a b d))):g_w:=goodHook1 fun l hp=>by
  unfold n_K at hp
  split at hp
  · rename_i f g i
    exact fn_ok (fn:=Tryz.f64) (c:=bodyOf Tryz.f64) (E:=K_6) ⟨by kernel_rfl,goodNil,rfl,M'⟩ rfl (by kernel_rfl) (by kernel_rfl) (by kernel_rfl) (loopsOK_of _ (by have e:loopsOf (bodyOf Tryz.f64)=[(0,loopAt Tryz.f64 0)]:=(by kernel_rfl);rw [e];simp only [List.forall_mem_cons,List.not_mem_nil,false_implies,implies_true,and_true];exact d_n)) (fun hr=>(X_r f g i some).trans (h f g i hp hr))
  · cases hp
noncomputable def i_g:Env R:=⟨Tryz.prog,callNil,fun _ _ _ _ _=>none,Tryz.f72.results.toList,maskTab 18 [(0,0x3),(1,0x83),(2,0x10),(3,0x23),(4,0x4020),(5,0x20),(6,0x10)],maskAt [(2,1),(4,3),(6,4),(8,8),(10,12),(12,15)],noSort⟩
noncomputable def d_p (b a:Int) (k:V->Option R):Option R:=let d:=decide (a<1);bif d then k (V.int .i64 0) else bif (a != 0) then let c:=IntKind.wrap .i64 (Int.tdiv b a);bif (a != 0) then let e:=decide ((Int.tmod b a)<0);bif e then let f:=IntKind.wrap .i64 (c-1);k (V.int .i64 f) else k (V.int .i64 c) else none else none
abbrev v_W (a b:Int):List V:=[V.int .i64 a,V.int .i64 b]
theorem X_s (a b:Int) (k:V->Option R):fnK i_g Tryz.f72 (v_W a b) k=d_p a b k:=by kernel_rfl
theorem v_X (a b:Int):h_j a b=true->d_p a b some=some ((fun (m:Int)=>(V.int .i64 m)) (D_k a b)):=by
  repeat' (first | exact fun _=>rfl | exact fun h=>absurd h (by decide) | refine B_b (v:=(fun (m:Int)=>(V.int .i64 m))) ?_ ?_)
theorem X_t:k_p:=goodHook1 fun l hp=>by
  unfold n_L at hp
  split at hp
  · rename_i a b
    exact fn_ok (fn:=Tryz.f72) (c:=bodyOf Tryz.f72) (E:=i_g) ⟨by kernel_rfl,goodNil,rfl,M'⟩ rfl (by kernel_rfl) (by kernel_rfl) (by kernel_rfl) (loopsOK_of _ (by have e:loopsOf (bodyOf Tryz.f72)=[]:=(by kernel_rfl);rw [e];intro p hp;cases hp)) (fun hr=>(X_s a b some).trans (v_X a b (r_4 a b)))
  · cases hp
noncomputable def i_h:Env R:=⟨Tryz.prog,callCons 37 c_G callNil,fun _ _ _ _ _=>none,Tryz.f73.results.toList,maskTab 17 [(0,0x2),(1,0x22),(2,0x4),(3,0x4)],maskAt [(2,2),(4,5),(6,6)],noSort⟩
noncomputable def d_q (a:F') (k:V->Option R):Option R:=let b:=A_3 a;bif (!b) then k (V.int .i64 0) else let c:=IntKind.wrap .i64 (a.X1-a.X0);let d:=IntKind.wrap .i64 (a.Y1-a.Y0);let e:=IntKind.wrap .i64 (c*d);k (V.int .i64 e)
abbrev v_Y (a:F'):List V:=[(F'.v a)]
theorem X_u (a:F') (k:V->Option R):fnK i_h Tryz.f73 (v_Y a) k=d_q a k:=by kernel_rfl
theorem v_Z (a:F'):d_q a some=some ((fun (m:Int)=>(V.int .i64 m)) (j_C a)):=by
  repeat' (first | rfl | refine A_t (v:=(fun (m:Int)=>(V.int .i64 m))) ?_ ?_)
theorem X_v (h_K0:T_S):q_Y:=goodHook1 fun l hp=>by
  unfold n_M at hp
  split at hp
  · rename_i a b d f
    exact fn_ok (fn:=Tryz.f73) (c:=bodyOf Tryz.f73) (E:=i_h) ⟨by kernel_rfl,(goodCons h_K0 goodNil),rfl,M'⟩ rfl (by kernel_rfl) (by kernel_rfl) (by kernel_rfl) (loopsOK_of _ (by have e:loopsOf (bodyOf Tryz.f73)=[]:=(by kernel_rfl);rw [e];intro p hp;cases hp)) (fun hr=>(X_u (F'.mk a b d f) some).trans (v_Z (F'.mk a b d f)))
  · cases hp
end Go.Vm
