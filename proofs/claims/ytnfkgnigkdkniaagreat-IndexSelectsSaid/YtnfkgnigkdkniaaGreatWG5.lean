import Derived.Test.YtnfkgnigkdkniaaGreatWM
set_option linter.unusedVariables false
set_option linter.unusedSimpArgs false
set_option maxRecDepth 100000
noncomputable section
namespace Go.Vm
open Go.Proofs
variable {R:Type}
noncomputable def i_v:Env R:=⟨Tryz.prog,callCons 35 q_2 (callCons 36 g_x (callCons 37 c_G (callCons 38 g_v (callCons 39 y_Z (callCons 40 k_m (callCons 41 q_Z callNil)))))),fun _ _ _ _ _=>none,Tryz.f15.results.toList,maskTab 82 [(0,0x300007ce7000078),(1,0x300007ce7000178),(2,0x300007ce7020178),(3,0xc0),(4,0x300008000000068),(5,0xc0),(6,0x300000000000268),(7,0x300400000000268),(8,0x300000000000268),(9,0x400000000000268),(10,0xc0),(11,0x648),(12,0xe40),(13,0x840),(14,0x80000000000000000840),(15,0xc0),(16,0xc0)],maskAt [(2,5),(4,9),(6,11),(8,15),(10,35),(12,38),(14,42),(16,46),(18,51),(20,59),(22,62),(24,67),(26,77),(28,87),(30,90),(32,93)],noSort⟩
noncomputable def d_N (b:D') (e:C') (a:O') (k:V->Option R):Option R:=let f:=G_Y b e;bif (f != 0) then k (V.tup [(V.agg [(V.int .i64 0),(V.int .i64 0),(V.int .i64 0),(V.int .i64 0),(V.int .i64 0),(V.int .i64 0),(V.data H'.sh [])]),V.int .i64 f]) else let r:=decide (a.Layers<0);let s:=decide (a.Layers > 16);let t:Bool:=(bif r then true else s);let u:=decide (a.Drop<0);let v:Bool:=(bif t then true else u);let w:=decide (a.Drop > e.Levels);let y:Bool:=(bif v then true else w);bif y then k (V.tup [(V.agg [(V.int .i64 0),(V.int .i64 0),(V.int .i64 0),(V.int .i64 0),(V.int .i64 0),(V.int .i64 0),(V.data H'.sh [])]),(V.int .i64 2)]) else let z:=!((a.Window.X0==0)&&((a.Window.Y0==0)&&((a.Window.X1==0)&&((a.Window.Y1==0)&&true))));bif z then let g:=C_S b.Area a.Window;let A:=A_3 a.Window;bif ((!A)==false) then let B:=C_R g;bif B then k (V.tup [(V.agg [(V.int .i64 0),(V.int .i64 0),(V.int .i64 0),(V.int .i64 0),(V.int .i64 0),(V.int .i64 0),(V.data H'.sh [])]),(V.int .i64 2)]) else let i:=IntKind.wrap .u64 a.Drop;bif (decide (0<=i)) then let j:=IntKind.wrap .i64 (1*2 ^ (min (Int.toNat i) 64));bif (G_Z b (C'.mk 0 0 0 0 0 [] 0 0 (K'.mk false false false false false) false false false [] 0 0)) then let m:=c_u b (C'.mk 0 0 0 0 0 [] 0 0 (K'.mk false false false false false) false false false [] 0 0);let c:=D_j g j j;let D:=F_t (D'.mk c 4096 4096 m.1.Components);bif (D != 0) then k (V.tup [(V.agg [(V.int .i64 0),(V.int .i64 0),(V.int .i64 0),(V.int .i64 0),(V.int .i64 0),(V.int .i64 0),(V.data H'.sh [])]),(V.int .i64 2)]) else k (V.tup [(V.agg [V.int .i64 c.X0,V.int .i64 c.Y0,V.int .i64 c.X1,V.int .i64 c.Y1,(V.int .i64 4096),(V.int .i64 4096),V.data H'.sh m.1.Components]),(V.int .i64 0)]) else none else none else k (V.tup [(V.agg [(V.int .i64 0),(V.int .i64 0),(V.int .i64 0),(V.int .i64 0),(V.int .i64 0),(V.int .i64 0),(V.data H'.sh [])]),(V.int .i64 2)]) else let o:=IntKind.wrap .u64 a.Drop;bif (decide (0<=o)) then let p:=IntKind.wrap .i64 (1*2 ^ (min (Int.toNat o) 64));bif (G_Z b (C'.mk 0 0 0 0 0 [] 0 0 (K'.mk false false false false false) false false false [] 0 0)) then let q:=c_u b (C'.mk 0 0 0 0 0 [] 0 0 (K'.mk false false false false false) false false false [] 0 0);let d:=D_j b.Area p p;let E:=F_t (D'.mk d 4096 4096 q.1.Components);bif (E != 0) then k (V.tup [(V.agg [(V.int .i64 0),(V.int .i64 0),(V.int .i64 0),(V.int .i64 0),(V.int .i64 0),(V.int .i64 0),(V.data H'.sh [])]),(V.int .i64 2)]) else k (V.tup [(V.agg [V.int .i64 d.X0,V.int .i64 d.Y0,V.int .i64 d.X1,V.int .i64 d.Y1,(V.int .i64 4096),(V.int .i64 4096),V.data H'.sh q.1.Components]),(V.int .i64 0)]) else none else none
abbrev w_u (a:D') (b:C') (c:O'):List V:=[(D'.v a),(C'.v b),(O'.v c)]
theorem Y_b (a:D') (b:C') (c:O') (k:V->Option R):fnK i_v Tryz.f15 (w_u a b c) k=d_N a b c k:=by kernel_rfl
theorem w_v (a:D') (b:C') (c:O'):R_b a b c=true->d_N a b c some=some ((fun (m:D' × Int)=>(V.tup [(D'.v m.1),V.int .i64 m.2])) (O_Q a b c)):=by
  repeat' (first | exact fun _=>rfl | exact fun h=>absurd h (by decide) | refine B_b (v:=(fun (m:D' × Int)=>(V.tup [(D'.v m.1),V.int .i64 m.2]))) ?_ ?_)
theorem Y_c (h_H2:m_A) (h_D1:W_a) (h_K0:T_S) (h_J1:V_9) (h_F7:t_t) (h_I0:f_Y) (h_F1:k_s):q_6:=goodHook1 fun l hp=>by
  unfold o_d at hp
  split at hp
  · rename_i a b d f g i j m o q r s t u v w y z A B D F H I J K L M N O Q S
    exact fn_ok (fn:=Tryz.f15) (c:=bodyOf Tryz.f15) (E:=i_v) ⟨by kernel_rfl,(goodCons h_H2 (goodCons h_D1 (goodCons h_K0 (goodCons h_J1 (goodCons h_F7 (goodCons h_I0 (goodCons h_F1 goodNil))))))),rfl,M'⟩ rfl (by kernel_rfl) (by kernel_rfl) (by kernel_rfl) (loopsOK_of _ (by have e:loopsOf (bodyOf Tryz.f15)=[]:=(by kernel_rfl);rw [e];intro p hp;cases hp)) (fun hr=>(Y_b (D'.mk (F'.mk a b d f) g i j) (C'.mk m o q r s t u v (K'.mk w y z A B) D F H I J K) (O'.mk L M (F'.mk N O Q S)) some).trans (w_v (D'.mk (F'.mk a b d f) g i j) (C'.mk m o q r s t u v (K'.mk w y z A B) D F H I J K) (O'.mk L M (F'.mk N O Q S)) hp))
  · cases hp
noncomputable def i_w:Env R:=⟨Tryz.prog,callCons 41 q_Z (callCons 66 s_8 callNil),fun _ _ _ _ _=>none,Tryz.f42.results.toList,maskTab 13 [(0,0x2),(1,0x22),(2,0x4),(3,0x4)],maskAt [(2,2),(4,5),(6,6)],noSort⟩
noncomputable def d_O (a:D') (k:V->Option R):Option R:=let b:=F_t a;bif (b != 0) then k (V.data F'.sh []) else let c:=T_M a.Area a.TileW a.TileH;k (V.data F'.sh c)
abbrev w_w (a:D'):List V:=[(D'.v a)]
theorem Y_d (a:D') (k:V->Option R):fnK i_w Tryz.f42 (w_w a) k=d_O a k:=by kernel_rfl
theorem w_x (a:D'):d_O a some=some ((fun (m:Rows)=>(V.data F'.sh m)) (B_f a)):=by
  repeat' (first | rfl | refine A_t (v:=(fun (m:Rows)=>(V.data F'.sh m))) ?_ ?_)
theorem Y_e (h_F1:k_s) (h_I8:m_x):h_Q:=goodHook1 fun l hp=>by
  unfold o_e at hp
  split at hp
  · rename_i a b d f g i j
    exact fn_ok (fn:=Tryz.f42) (c:=bodyOf Tryz.f42) (E:=i_w) ⟨by kernel_rfl,(goodCons h_F1 (goodCons h_I8 goodNil)),rfl,M'⟩ rfl (by kernel_rfl) (by kernel_rfl) (by kernel_rfl) (loopsOK_of _ (by have e:loopsOf (bodyOf Tryz.f42)=[]:=(by kernel_rfl);rw [e];intro p hp;cases hp)) (fun hr=>(Y_d (D'.mk (F'.mk a b d f) g i j) some).trans (w_x (D'.mk (F'.mk a b d f) g i j)))
  · cases hp
noncomputable def i_x:Env R:=⟨Tryz.prog,callCons 35 q_2 (callCons 42 m_B callNil),fun _ _ _ _ _=>none,Tryz.f74.results.toList,maskTab 23 [(0,0x3e001c),(1,0x3e008c),(2,0x3e108c),(3,0x40),(4,0x400000),(5,0x40),(6,0x40)],maskAt [(2,3),(4,7),(6,9),(8,11),(10,20),(12,21)],noSort⟩
noncomputable def d_P (a:D') (d:C') (b:Int) (k:V->Option R):Option R:=let c:=G_Y a d;bif (c != 0) then k (V.int .i64 c) else let e:=decide (b<0);bif (e==false) then let f:=B_f a;let g:=(((List.length f):Nat):Int);bif (decide (b >= g)) then k (V.int .i64 14) else k (V.int .i64 0) else k (V.int .i64 14)
abbrev w_y (a:D') (b:C') (c:Int):List V:=[(D'.v a),(C'.v b),V.int .i64 c]
theorem Y_f (a:D') (b:C') (c:Int) (k:V->Option R):fnK i_x Tryz.f74 (w_y a b c) k=d_P a b c k:=by kernel_rfl
theorem w_z (a:D') (b:C') (c:Int):d_P a b c some=some ((fun (m:Int)=>(V.int .i64 m)) (T_r a b c)):=by
  repeat' (first | rfl | refine A_t (v:=(fun (m:Int)=>(V.int .i64 m))) ?_ ?_)
theorem Y_g (h_H2:m_A) (h_H0:h_Q):q_7:=goodHook1 fun l hp=>by
  unfold o_f at hp
  split at hp
  · rename_i a b d f g i j m o q r s t u v w y z A B D F H I J K L
    exact fn_ok (fn:=Tryz.f74) (c:=bodyOf Tryz.f74) (E:=i_x) ⟨by kernel_rfl,(goodCons h_H2 (goodCons h_H0 goodNil)),rfl,M'⟩ rfl (by kernel_rfl) (by kernel_rfl) (by kernel_rfl) (loopsOK_of _ (by have e:loopsOf (bodyOf Tryz.f74)=[]:=(by kernel_rfl);rw [e];intro p hp;cases hp)) (fun hr=>(Y_f (D'.mk (F'.mk a b d f) g i j) (C'.mk m o q r s t u v (K'.mk w y z A B) D F H I J K) L some).trans (w_z (D'.mk (F'.mk a b d f) g i j) (C'.mk m o q r s t u v (K'.mk w y z A B) D F H I J K) L))
  · cases hp
noncomputable def i_y:Env R:=⟨Tryz.prog,callCons 40 k_m (callCons 42 m_B callNil),fun _ _ _ _ _=>none,Tryz.f46.results.toList,maskTab 45 [(0,0x1f33c04e),(1,0x1f33c0ce),(2,0x200000ce),(3,0x40),(4,0x1c2),(5,0x40)],maskAt [(2,2),(4,5),(6,24),(8,26),(10,33)],noSort⟩
noncomputable def d_Q (a:D') (b c:Int) (k:V->Option R):Option R:=let d:=B_f a;let f:=decide (b<0);bif (f==false) then let g:=(((List.length d):Nat):Int);let i:=decide (c<0);let j:Bool:=(bif (decide (b >= g)) then true else i);bif (j==false) then let m:=(((List.length a.Components):Nat):Int);bif (decide (c >= m)) then k (V.agg [(V.int .i64 0),(V.int .i64 0),(V.int .i64 0),(V.int .i64 0)]) else bif (inR c (List.length a.Components)) then let o:=List.getD a.Components (Int.toNat c) [];let e:=H'.of o;bif (inR b (List.length d)) then let p:=List.getD d (Int.toNat b) [];let q:=F'.of p;let r:=D_j q e.DX e.DY;k (F'.v r) else none else none else k (V.agg [(V.int .i64 0),(V.int .i64 0),(V.int .i64 0),(V.int .i64 0)]) else k (V.agg [(V.int .i64 0),(V.int .i64 0),(V.int .i64 0),(V.int .i64 0)])
abbrev w_A (a:D') (b c:Int):List V:=[(D'.v a),V.int .i64 b,V.int .i64 c]
theorem Y_h (a:D') (b c:Int) (k:V->Option R):fnK i_y Tryz.f46 (w_A a b c) k=d_Q a b c k:=by kernel_rfl
theorem w_B (a:D') (b c:Int):h_v a b c=true->d_Q a b c some=some ((fun (m:F')=>(F'.v m)) (H_z a b c)):=by
  repeat' (first | exact fun _=>rfl | exact fun h=>absurd h (by decide) | refine B_b (v:=(fun (m:F')=>(F'.v m))) ?_ ?_)
theorem Y_i (h_I0:f_Y) (h_H0:h_Q):o_h:=goodHook1 fun l hp=>by
  unfold o_g at hp
  split at hp
  · rename_i a b d f g i j m o
    exact fn_ok (fn:=Tryz.f46) (c:=bodyOf Tryz.f46) (E:=i_y) ⟨by kernel_rfl,(goodCons h_I0 (goodCons h_H0 goodNil)),rfl,M'⟩ rfl (by kernel_rfl) (by kernel_rfl) (by kernel_rfl) (loopsOK_of _ (by have e:loopsOf (bodyOf Tryz.f46)=[]:=(by kernel_rfl);rw [e];intro p hp;cases hp)) (fun hr=>(Y_h (D'.mk (F'.mk a b d f) g i j) m o some).trans (w_B (D'.mk (F'.mk a b d f) g i j) m o (r_9 (D'.mk (F'.mk a b d f) g i j) m o)))
  · cases hp
noncomputable def i_z:Env R:=⟨Tryz.prog,callCons 35 q_2 (callCons 42 m_B callNil),fun _ _ _ _ _=>none,Tryz.f82.results.toList,maskTab 35 [(0,0x3e67cc03c),(1,0x100)],maskAt [(2,3)],noSort⟩
noncomputable def d_R (a:D') (d:C') (b c:Int) (k:V->Option R):Option R:=let e:=G_Y a d;let f:=decide (b >= 0);let g:Bool:=(bif (e==0) then f else false);bif (g==true) then let i:=B_f a;let j:=(((List.length i):Nat):Int);let m:=decide (c >= 0);let o:Bool:=(bif (decide (b<j)) then m else false);bif (o==true) then let p:=(((List.length a.Components):Nat):Int);k (V.bool (decide (c<p))) else k (V.bool false) else k (V.bool false)
abbrev w_C (a:D') (b:C') (c d:Int):List V:=[(D'.v a),(C'.v b),V.int .i64 c,V.int .i64 d]
theorem Y_j (a:D') (b:C') (c d:Int) (k:V->Option R):fnK i_z Tryz.f82 (w_C a b c d) k=d_R a b c d k:=by kernel_rfl
theorem w_D (a:D') (b:C') (c d:Int):d_R a b c d some=some ((fun (m:Bool)=>(V.bool m)) (c_v a b c d)):=by
  repeat' (first | rfl | refine A_t (v:=(fun (m:Bool)=>(V.bool m))) ?_ ?_)
theorem Y_k (h_H2:m_A) (h_H0:h_Q):q_9:=goodHook1 fun l hp=>by
  unfold o_i at hp
  split at hp
  · rename_i a b d f g i j m o q r s t u v w y z A B D F H I J K L M
    exact fn_ok (fn:=Tryz.f82) (c:=bodyOf Tryz.f82) (E:=i_z) ⟨by kernel_rfl,(goodCons h_H2 (goodCons h_H0 goodNil)),rfl,M'⟩ rfl (by kernel_rfl) (by kernel_rfl) (by kernel_rfl) (loopsOK_of _ (by have e:loopsOf (bodyOf Tryz.f82)=[]:=(by kernel_rfl);rw [e];intro p hp;cases hp)) (fun hr=>(Y_j (D'.mk (F'.mk a b d f) g i j) (C'.mk m o q r s t u v (K'.mk w y z A B) D F H I J K) L M some).trans (w_D (D'.mk (F'.mk a b d f) g i j) (C'.mk m o q r s t u v (K'.mk w y z A B) D F H I J K) L M))
  · cases hp
noncomputable def i_A:Env R:=⟨Tryz.prog,callNil,fun _ _ _ _ _=>none,Tryz.f159.results.toList,maskTab 23 [(0,0x399c07),(1,0x40)],maskAt [(2,1)],noSort⟩
noncomputable def d_S (a b c:Int) (k:V->Option R):Option R:=let d:=decide (a >= 0);let e:Bool:=(bif d then (decide (a<=c)) else false);let f:=decide (b >= 0);let g:Bool:=(bif e then f else false);let i:Bool:=(bif g then (decide (b<=c)) else false);k (V.bool i)
abbrev w_E (a b c:Int):List V:=[V.int .i64 a,V.int .i64 b,V.int .i64 c]
theorem Y_l (a b c:Int) (k:V->Option R):fnK i_A Tryz.f159 (w_E a b c) k=d_S a b c k:=by kernel_rfl
theorem w_F (a b c:Int):d_S a b c some=some ((fun (m:Bool)=>(V.bool m)) (j_D a b c)):=by
  repeat' (first | rfl | refine A_t (v:=(fun (m:Bool)=>(V.bool m))) ?_ ?_)
theorem Y_m:t_B:=goodHook1 fun l hp=>by
  unfold o_j at hp
  split at hp
  · rename_i a b d
    exact fn_ok (fn:=Tryz.f159) (c:=bodyOf Tryz.f159) (E:=i_A) ⟨by kernel_rfl,goodNil,rfl,M'⟩ rfl (by kernel_rfl) (by kernel_rfl) (by kernel_rfl) (loopsOK_of _ (by have e:loopsOf (bodyOf Tryz.f159)=[]:=(by kernel_rfl);rw [e];intro p hp;cases hp)) (fun hr=>(Y_l a b d some).trans (w_F a b d))
  · cases hp
noncomputable def i_B:Env R:=⟨Tryz.prog,callNil,fun _ _ _ _ _=>none,Tryz.f160.results.toList,maskTab 23 [(0,0x7),(1,0x46),(2,0x140),(3,0xc0)],maskAt [(2,2),(4,7),(6,13)],noSort⟩
noncomputable def d_T (c d a:Int) (k:V->Option R):Option R:=bif (decide (0<=(IntKind.wrap .u64 a))) then let b:=Int.fdiv c (2 ^ (min (Int.toNat (IntKind.wrap .u64 a)) 64));let e:=IntKind.wrap .i64 (d-1);bif (decide (0<=(IntKind.wrap .u64 a))) then let f:=Int.fdiv e (2 ^ (min (Int.toNat (IntKind.wrap .u64 a)) 64));let g:=IntKind.wrap .i64 (f-b);let i:=IntKind.wrap .i64 (g+1);k (V.tup [V.int .i64 b,V.int .i64 i]) else none else none
abbrev w_G (a b c:Int):List V:=[V.int .i64 a,V.int .i64 b,V.int .i64 c]
theorem Y_n (a b c:Int) (k:V->Option R):fnK i_B Tryz.f160 (w_G a b c) k=d_T a b c k:=by kernel_rfl
theorem w_H (a b c:Int):h_w a b c=true->d_T a b c some=some ((fun (m:Int × Int)=>(V.tup [V.int .i64 m.1,V.int .i64 m.2])) (g_r a b c)):=by
  repeat' (first | exact fun _=>rfl | exact fun h=>absurd h (by decide) | refine B_b (v:=(fun (m:Int × Int)=>(V.tup [V.int .i64 m.1,V.int .i64 m.2]))) ?_ ?_)
theorem Y_o:t_D:=goodHook1 fun l hp=>by
  unfold o_k at hp
  split at hp
  · rename_i a b d
    exact fn_ok (fn:=Tryz.f160) (c:=bodyOf Tryz.f160) (E:=i_B) ⟨by kernel_rfl,goodNil,rfl,M'⟩ rfl (by kernel_rfl) (by kernel_rfl) (by kernel_rfl) (loopsOK_of _ (by have e:loopsOf (bodyOf Tryz.f160)=[]:=(by kernel_rfl);rw [e];intro p hp;cases hp)) (fun hr=>(Y_n a b d some).trans (w_H a b d (s_a a b d)))
  · cases hp
noncomputable def i_C:Env R:=⟨Tryz.prog,callCons 37 c_G (callCons 38 g_v (callCons 159 y_2 (callCons 160 y_3 callNil))),fun _ _ _ _ _=>none,Tryz.f144.results.toList,maskTab 52 [(0,0x1f3001e),(1,0x2000016),(2,0xf00),(3,0x514),(4,0xf00),(5,0x800000000f00),(6,0xf00),(7,0xf00)],maskAt [(2,5),(4,19),(6,23),(8,34),(10,45),(12,49),(14,53)],noSort⟩
noncomputable def d_U (a:F') (d e f:Int) (k:V->Option R):Option R:=let g:=A_3 a;bif ((!g)==false) then let i:=C_R a;bif (i==false) then let j:=j_D d e f;bif (!j) then k (V.tup [(V.int .i64 0),(V.int .i64 0),(V.int .i64 0),(V.int .i64 0)]) else let b:=g_r a.X0 a.X1 d;let c:=g_r a.Y0 a.Y1 e;let m:=IntKind.wrap .i64 (b.2*c.2);let o:=decide (m > 65536);bif o then k (V.tup [(V.int .i64 0),(V.int .i64 0),(V.int .i64 0),(V.int .i64 0)]) else k (V.tup [V.int .i64 b.1,V.int .i64 c.1,V.int .i64 b.2,V.int .i64 c.2]) else k (V.tup [(V.int .i64 0),(V.int .i64 0),(V.int .i64 0),(V.int .i64 0)]) else k (V.tup [(V.int .i64 0),(V.int .i64 0),(V.int .i64 0),(V.int .i64 0)])
abbrev w_I (a:F') (b c d:Int):List V:=[(F'.v a),V.int .i64 b,V.int .i64 c,V.int .i64 d]
theorem Y_p (a:F') (b c d:Int) (k:V->Option R):fnK i_C Tryz.f144 (w_I a b c d) k=d_U a b c d k:=by kernel_rfl
theorem w_J (a:F') (b c d:Int):d_U a b c d some=some ((fun (m:Int × Int × Int × Int)=>(V.tup [V.int .i64 m.1,V.int .i64 m.2.1,V.int .i64 m.2.2.1,V.int .i64 m.2.2.2])) (A_J a b c d)):=by
  repeat' (first | rfl | refine A_t (v:=(fun (m:Int × Int × Int × Int)=>(V.tup [V.int .i64 m.1,V.int .i64 m.2.1,V.int .i64 m.2.2.1,V.int .i64 m.2.2.2]))) ?_ ?_)
theorem Y_q (h_K0:T_S) (h_J1:V_9) (h_A6:t_B) (h_D5:t_D):m_C:=goodHook1 fun l hp=>by
  unfold o_l at hp
  split at hp
  · rename_i a b d f g i j
    exact fn_ok (fn:=Tryz.f144) (c:=bodyOf Tryz.f144) (E:=i_C) ⟨by kernel_rfl,(goodCons h_K0 (goodCons h_J1 (goodCons h_A6 (goodCons h_D5 goodNil)))),rfl,M'⟩ rfl (by kernel_rfl) (by kernel_rfl) (by kernel_rfl) (loopsOK_of _ (by have e:loopsOf (bodyOf Tryz.f144)=[]:=(by kernel_rfl);rw [e];intro p hp;cases hp)) (fun hr=>(Y_p (F'.mk a b d f) g i j some).trans (w_J (F'.mk a b d f) g i j))
  · cases hp
noncomputable def i_D:Env R:=⟨Tryz.prog,callCons 144 r_a callNil,fun _ _ _ _ _=>none,Tryz.f129.results.toList,maskTab 19 [(0,0xe),(1,0xc0),(2,0xc0)],maskAt [(2,3),(4,14)],noSort⟩
noncomputable def d_V (b:F') (c d:Int) (k:V->Option R):Option R:=let a:=A_J b c d 12;k (V.tup [V.int .i64 a.2.2.1,V.int .i64 a.2.2.2])
abbrev w_K (a:F') (b c:Int):List V:=[(F'.v a),V.int .i64 b,V.int .i64 c]
theorem Y_r (a:F') (b c:Int) (k:V->Option R):fnK i_D Tryz.f129 (w_K a b c) k=d_V a b c k:=by kernel_rfl
theorem w_L (a:F') (b c:Int):d_V a b c some=some ((fun (m:Int × Int)=>(V.tup [V.int .i64 m.1,V.int .i64 m.2])) (m_i a b c)):=by
  repeat' (first | rfl | refine A_t (v:=(fun (m:Int × Int)=>(V.tup [V.int .i64 m.1,V.int .i64 m.2]))) ?_ ?_)
theorem Y_s (h_D7:m_C):t_G:=goodHook1 fun l hp=>by
  unfold o_m at hp
  split at hp
  · rename_i a b d f g i
    exact fn_ok (fn:=Tryz.f129) (c:=bodyOf Tryz.f129) (E:=i_D) ⟨by kernel_rfl,(goodCons h_D7 goodNil),rfl,M'⟩ rfl (by kernel_rfl) (by kernel_rfl) (by kernel_rfl) (loopsOK_of _ (by have e:loopsOf (bodyOf Tryz.f129)=[]:=(by kernel_rfl);rw [e];intro p hp;cases hp)) (fun hr=>(Y_r (F'.mk a b d f) g i some).trans (w_L (F'.mk a b d f) g i))
  · cases hp
noncomputable def i_E:Env R:=⟨Tryz.prog,callCons 46 q_8 (callCons 79 m_y (callCons 82 t_z (callCons 102 n_W (callCons 129 y_4 callNil)))),fun _ _ _ _ _=>none,Tryz.f106.results.toList,maskTab 54 [(0,0x1e60047c),(1,0x2000047c),(2,0x1c00),(3,0x450),(4,0x2400),(5,0x1c00),(6,0x1c00)],maskAt [(2,5),(4,21),(6,25),(8,34),(10,39),(12,50)],noSort⟩
noncomputable def d_W (c:D') (a:C') (d e b:Int) (k:V->Option R):Option R:=let j:=c_v c a d e;let m:=decide (b<0);let o:Bool:=(bif (!j) then true else m);let p:=decide (b > a.Levels);let q:Bool:=(bif o then true else p);bif q then k (V.tup [(V.agg [(V.int .i64 0),(V.int .i64 0),(V.int .i64 0),(V.int .i64 0)]),(V.int .i64 0),(V.int .i64 0)]) else let r:=H_z c d e;let f:=F_h r a.Levels b;let g:=A_X a b;let i:=m_i f g.X g.Y;k (V.tup [(F'.v f),V.int .i64 i.1,V.int .i64 i.2])
abbrev w_M (a:D') (b:C') (c d e:Int):List V:=[(D'.v a),(C'.v b),V.int .i64 c,V.int .i64 d,V.int .i64 e]
theorem Y_t (a:D') (b:C') (c d e:Int) (k:V->Option R):fnK i_E Tryz.f106 (w_M a b c d e) k=d_W a b c d e k:=by kernel_rfl
theorem w_N (a:D') (b:C') (c d e:Int):d_W a b c d e some=some ((fun (m:F' × Int × Int)=>(V.tup [(F'.v m.1),V.int .i64 m.2.1,V.int .i64 m.2.2])) (M_9 a b c d e)):=by
  repeat' (first | rfl | refine A_t (v:=(fun (m:F' × Int × Int)=>(V.tup [(F'.v m.1),V.int .i64 m.2.1,V.int .i64 m.2.2]))) ?_ ?_)
theorem Y_u (h_B5:o_h) (h_A8:g_y) (h_E6:q_9) (h_C8:k_A) (h_A7:t_G):r_b:=goodHook1 fun l hp=>by
  unfold o_n at hp
  split at hp
  · rename_i a b d f g i j m o q r s t u v w y z A B D F H I J K L M N
    exact fn_ok (fn:=Tryz.f106) (c:=bodyOf Tryz.f106) (E:=i_E) ⟨by kernel_rfl,(goodCons h_B5 (goodCons h_A8 (goodCons h_E6 (goodCons h_C8 (goodCons h_A7 goodNil))))),rfl,M'⟩ rfl (by kernel_rfl) (by kernel_rfl) (by kernel_rfl) (loopsOK_of _ (by have e:loopsOf (bodyOf Tryz.f106)=[]:=(by kernel_rfl);rw [e];intro p hp;cases hp)) (fun hr=>(Y_t (D'.mk (F'.mk a b d f) g i j) (C'.mk m o q r s t u v (K'.mk w y z A B) D F H I J K) L M N some).trans (w_N (D'.mk (F'.mk a b d f) g i j) (C'.mk m o q r s t u v (K'.mk w y z A B) D F H I J K) L M N))
  · cases hp
noncomputable def i_F:Env R:=⟨Tryz.prog,callCons 144 r_a callNil,fun _ _ _ _ _=>none,Tryz.f145.results.toList,maskTab 43 [(0,0xf800001e),(1,0xf8007808),(2,0x100003808),(3,0x700),(4,0x700)],maskAt [(2,4),(4,17),(6,26),(8,29)],noSort⟩
noncomputable def d_X (c:F') (d e b:Int) (k:V->Option R):Option R:=let a:=A_J c d e 12;let f:=decide (b<0);let g:=IntKind.wrap .i64 (a.2.2.1*a.2.2.2);let i:Bool:=(bif f then true else (decide (b >= g)));bif i then k (V.tup [(V.int .i64 0),(V.int .i64 0),V.bool false]) else bif (a.2.2.1 != 0) then let j:=IntKind.wrap .i64 (a.1+(Int.tmod b a.2.2.1));bif (a.2.2.1 != 0) then let m:=IntKind.wrap .i64 (Int.tdiv b a.2.2.1);let o:=IntKind.wrap .i64 (a.2.1+m);k (V.tup [V.int .i64 j,V.int .i64 o,V.bool true]) else none else none
abbrev w_O (a:F') (b c d:Int):List V:=[(F'.v a),V.int .i64 b,V.int .i64 c,V.int .i64 d]
theorem Y_v (a:F') (b c d:Int) (k:V->Option R):fnK i_F Tryz.f145 (w_O a b c d) k=d_X a b c d k:=by kernel_rfl
theorem w_P (a:F') (b c d:Int):c_w a b c d=true->d_X a b c d some=some ((fun (m:Int × Int × Bool)=>(V.tup [V.int .i64 m.1,V.int .i64 m.2.1,V.bool m.2.2])) (K_K a b c d)):=by
  repeat' (first | exact fun _=>rfl | exact fun h=>absurd h (by decide) | refine B_b (v:=(fun (m:Int × Int × Bool)=>(V.tup [V.int .i64 m.1,V.int .i64 m.2.1,V.bool m.2.2]))) ?_ ?_)
theorem Y_w (h_D7:m_C):r_c:=goodHook1 fun l hp=>by
  unfold o_o at hp
  split at hp
  · rename_i a b d f g i j
    exact fn_ok (fn:=Tryz.f145) (c:=bodyOf Tryz.f145) (E:=i_F) ⟨by kernel_rfl,(goodCons h_D7 goodNil),rfl,M'⟩ rfl (by kernel_rfl) (by kernel_rfl) (by kernel_rfl) (loopsOK_of _ (by have e:loopsOf (bodyOf Tryz.f145)=[]:=(by kernel_rfl);rw [e];intro p hp;cases hp)) (fun hr=>(Y_v (F'.mk a b d f) g i j some).trans (w_P (F'.mk a b d f) g i j (s_b (F'.mk a b d f) g i j)))
  · cases hp
noncomputable def i_G:Env R:=⟨Tryz.prog,callNil,fun _ _ _ _ _=>none,Tryz.f146.results.toList,maskTab 28 [(0,0x10f),(1,0x100)],maskAt [(2,1)],noSort⟩
noncomputable def d_Y (c d a b:Int) (k:V->Option R):Option R:=bif (decide (0<=(IntKind.wrap .u64 a))) then let e:=IntKind.wrap .i64 (c*2 ^ (min (Int.toNat (IntKind.wrap .u64 a)) 64));bif (decide (0<=(IntKind.wrap .u64 b))) then let f:=IntKind.wrap .i64 (d*2 ^ (min (Int.toNat (IntKind.wrap .u64 b)) 64));let g:=IntKind.wrap .i64 (c+1);bif (decide (0<=(IntKind.wrap .u64 a))) then let i:=IntKind.wrap .i64 (g*2 ^ (min (Int.toNat (IntKind.wrap .u64 a)) 64));let j:=IntKind.wrap .i64 (d+1);bif (decide (0<=(IntKind.wrap .u64 b))) then let m:=IntKind.wrap .i64 (j*2 ^ (min (Int.toNat (IntKind.wrap .u64 b)) 64));k (V.agg [V.int .i64 e,V.int .i64 f,V.int .i64 i,V.int .i64 m]) else none else none else none else none
abbrev w_Q (a b c d:Int):List V:=[V.int .i64 a,V.int .i64 b,V.int .i64 c,V.int .i64 d]
theorem Y_x (a b c d:Int) (k:V->Option R):fnK i_G Tryz.f146 (w_Q a b c d) k=d_Y a b c d k:=by kernel_rfl
theorem w_R (a b c d:Int):h_x a b c d=true->d_Y a b c d some=some ((fun (m:F')=>(F'.v m)) (R_c a b c d)):=by
  repeat' (first | exact fun _=>rfl | exact fun h=>absurd h (by decide) | refine B_b (v:=(fun (m:F')=>(F'.v m))) ?_ ?_)
theorem Y_y:m_D:=goodHook1 fun l hp=>by
  unfold o_p at hp
  split at hp
  · rename_i a b d f
    exact fn_ok (fn:=Tryz.f146) (c:=bodyOf Tryz.f146) (E:=i_G) ⟨by kernel_rfl,goodNil,rfl,M'⟩ rfl (by kernel_rfl) (by kernel_rfl) (by kernel_rfl) (loopsOK_of _ (by have e:loopsOf (bodyOf Tryz.f146)=[]:=(by kernel_rfl);rw [e];intro p hp;cases hp)) (fun hr=>(Y_x a b d f some).trans (w_R a b d f (s_c a b d f)))
  · cases hp
noncomputable def i_H:Env R:=⟨Tryz.prog,callCons 36 g_x (callCons 145 t_J (callCons 146 r_d callNil)),fun _ _ _ _ _=>none,Tryz.f130.results.toList,maskTab 32 [(0,0x11e),(1,0x1d16),(2,0x800d16),(3,0x300),(4,0x300)],maskAt [(2,3),(4,15),(6,17),(8,20)],noSort⟩
noncomputable def d_Z (b:F') (c d e:Int) (k:V->Option R):Option R:=let a:=K_K b c d e;bif (!a.2.2) then k (V.tup [(V.agg [(V.int .i64 0),(V.int .i64 0),(V.int .i64 0),(V.int .i64 0)]),V.bool false]) else let f:=R_c a.1 a.2.1 c d;let g:=C_S b f;k (V.tup [(F'.v g),V.bool true])
abbrev w_S (a:F') (b c d:Int):List V:=[(F'.v a),V.int .i64 b,V.int .i64 c,V.int .i64 d]
theorem Y_z (a:F') (b c d:Int) (k:V->Option R):fnK i_H Tryz.f130 (w_S a b c d) k=d_Z a b c d k:=by kernel_rfl
theorem w_T (a:F') (b c d:Int):d_Z a b c d some=some ((fun (m:F' × Bool)=>(V.tup [(F'.v m.1),V.bool m.2])) (j_E a b c d)):=by
  repeat' (first | rfl | refine A_t (v:=(fun (m:F' × Bool)=>(V.tup [(F'.v m.1),V.bool m.2]))) ?_ ?_)
theorem Y_A (h_D1:W_a) (h_C3:r_c) (h_D8:m_D):t_M:=goodHook1 fun l hp=>by
  unfold o_q at hp
  split at hp
  · rename_i a b d f g i j
    exact fn_ok (fn:=Tryz.f130) (c:=bodyOf Tryz.f130) (E:=i_H) ⟨by kernel_rfl,(goodCons h_D1 (goodCons h_C3 (goodCons h_D8 goodNil))),rfl,M'⟩ rfl (by kernel_rfl) (by kernel_rfl) (by kernel_rfl) (loopsOK_of _ (by have e:loopsOf (bodyOf Tryz.f130)=[]:=(by kernel_rfl);rw [e];intro p hp;cases hp)) (fun hr=>(Y_z (F'.mk a b d f) g i j some).trans (w_T (F'.mk a b d f) g i j))
  · cases hp
noncomputable def i_I:Env R:=⟨Tryz.prog,callCons 102 n_W (callCons 130 y_6 callNil),fun _ _ _ _ _=>none,Tryz.f107.results.toList,maskTab 60 [(0,0x1f0),(1,0x5f0),(2,0x19b0),(3,0x800009b0),(4,0x300),(5,0x29a0),(6,0x6900),(7,0x300)],maskAt [(2,6),(4,12),(6,26),(8,28),(10,31),(12,39),(14,46)],noSort⟩
noncomputable def d_0 (c:D') (d:C') (j:F') (a:G') (k:V->Option R):Option R:=let e:=A_X d a.Res;let b:=j_E j e.X e.Y a.Precinct;bif (!b.2) then k (V.tup [(V.agg [(V.int .i64 0),(V.int .i64 0)]),V.bool false]) else bif (inR a.Comp (List.length c.Components)) then let m:=List.getD c.Components (Int.toNat a.Comp) [];let f:=H'.of m;let g:=IntKind.wrap .i64 (d.Levels-a.Res);bif (decide (0<=g)) then let i:=IntKind.wrap .i64 (1*2 ^ (min (Int.toNat g) 64));let o:=IntKind.wrap .i64 (b.1.X0*i);let p:=IntKind.wrap .i64 (o*f.DX);let q:=IntKind.wrap .i64 (b.1.Y0*i);let r:=IntKind.wrap .i64 (q*f.DY);k (V.tup [(V.agg [V.int .i64 p,V.int .i64 r]),V.bool true]) else none else none
abbrev w_U (a:D') (b:C') (c:F') (d:G'):List V:=[(D'.v a),(C'.v b),(F'.v c),(G'.v d)]
theorem Y_B (a:D') (b:C') (c:F') (d:G') (k:V->Option R):fnK i_I Tryz.f107 (w_U a b c d) k=d_0 a b c d k:=by kernel_rfl
theorem w_V (a:D') (b:C') (c:F') (d:G'):R_d a b c d=true->d_0 a b c d some=some ((fun (m:X' × Bool)=>(V.tup [(X'.v m.1),V.bool m.2])) (m_j a b c d)):=by
  repeat' (first | exact fun _=>rfl | exact fun h=>absurd h (by decide) | refine B_b (v:=(fun (m:X' × Bool)=>(V.tup [(X'.v m.1),V.bool m.2]))) ?_ ?_)
theorem Y_C (h_C8:k_A) (h_A9:t_M):r_e:=goodHook1 fun l hp=>by
  unfold o_r at hp
  split at hp
  · rename_i a b d f g i j m o q r s t u v w y z A B D F H I J K L M N O Q S U W
    exact fn_ok (fn:=Tryz.f107) (c:=bodyOf Tryz.f107) (E:=i_I) ⟨by kernel_rfl,(goodCons h_C8 (goodCons h_A9 goodNil)),rfl,M'⟩ rfl (by kernel_rfl) (by kernel_rfl) (by kernel_rfl) (loopsOK_of _ (by have e:loopsOf (bodyOf Tryz.f107)=[]:=(by kernel_rfl);rw [e];intro p hp;cases hp)) (fun hr=>(Y_B (D'.mk (F'.mk a b d f) g i j) (C'.mk m o q r s t u v (K'.mk w y z A B) D F H I J K) (F'.mk L M N O) (G'.mk Q S U W) some).trans (w_V (D'.mk (F'.mk a b d f) g i j) (C'.mk m o q r s t u v (K'.mk w y z A B) D F H I J K) (F'.mk L M N O) (G'.mk Q S U W) hp))
  · cases hp
noncomputable def i_J:Env R:=⟨Tryz.prog,callNil,fun _ _ _ _ _=>none,Tryz.f110.results.toList,maskTab 80 [(0,0x19),(1,0x39),(2,0x138),(3,0x338),(4,0x10),(5,0x100138),(6,0x10),(7,0x80000138),(8,0x10),(9,0x1000000000038),(10,0x10),(11,0x10)],maskAt [(2,2),(4,6),(6,7),(8,9),(10,19),(12,21),(14,31),(16,33),(18,49),(20,51),(22,67)],noSort⟩
noncomputable def d_1 (b:Int) (a:I') (k:V->Option R):Option R:=bif (b==1) then k (V.agg [V.int .i64 a.id.Layer,V.int .i64 a.id.Res,V.int .i64 a.id.Comp,V.int .i64 a.id.Precinct,(V.int .i64 0),(V.int .i64 0)]) else bif (b==2) then k (V.agg [V.int .i64 a.id.Res,V.int .i64 a.id.Layer,V.int .i64 a.id.Comp,V.int .i64 a.id.Precinct,(V.int .i64 0),(V.int .i64 0)]) else bif (b==3) then k (V.agg [V.int .i64 a.id.Res,V.int .i64 a.at_.Y,V.int .i64 a.at_.X,V.int .i64 a.id.Comp,V.int .i64 a.id.Precinct,V.int .i64 a.id.Layer]) else bif (b==4) then k (V.agg [V.int .i64 a.at_.Y,V.int .i64 a.at_.X,V.int .i64 a.id.Comp,V.int .i64 a.id.Res,V.int .i64 a.id.Precinct,V.int .i64 a.id.Layer]) else k (V.agg [V.int .i64 a.id.Comp,V.int .i64 a.at_.Y,V.int .i64 a.at_.X,V.int .i64 a.id.Res,V.int .i64 a.id.Precinct,V.int .i64 a.id.Layer])
abbrev w_W (a:Int) (b:I'):List V:=[V.int .i64 a,(I'.v b)]
theorem Y_D (a:Int) (b:I') (k:V->Option R):fnK i_J Tryz.f110 (w_W a b) k=d_1 a b k:=by kernel_rfl
theorem w_X (a:Int) (b:I'):d_1 a b some=some ((fun (m:Y')=>(Y'.v m)) (R_e a b)):=by
  repeat' (first | rfl | refine A_t (v:=(fun (m:Y')=>(Y'.v m))) ?_ ?_)
theorem Y_E:t_P:=goodHook1 fun l hp=>by
  unfold o_s at hp
  split at hp
  · rename_i a b d f g i j
    exact fn_ok (fn:=Tryz.f110) (c:=bodyOf Tryz.f110) (E:=i_J) ⟨by kernel_rfl,goodNil,rfl,M'⟩ rfl (by kernel_rfl) (by kernel_rfl) (by kernel_rfl) (loopsOK_of _ (by have e:loopsOf (bodyOf Tryz.f110)=[]:=(by kernel_rfl);rw [e];intro p hp;cases hp)) (fun hr=>(Y_D a (I'.mk (G'.mk b d f g) (X'.mk i j)) some).trans (w_X a (I'.mk (G'.mk b d f g) (X'.mk i j))))
  · cases hp
noncomputable def i_K:Env R:=⟨Tryz.prog,callNil,fun _ _ _ _ _=>none,Tryz.f132.results.toList,maskTab 6 [(0,0x1),(1,0x4)],maskAt [(2,1)],noSort⟩
noncomputable def d_2 (a:Int) (k:V->Option R):Option R:=k (V.bool (a != a))
abbrev w_Y (a:Int):List V:=[V.int .i64 a]
theorem Y_F (a:Int) (k:V->Option R):fnK i_K Tryz.f132 (w_Y a) k=d_2 a k:=by kernel_rfl
theorem w_Z (a:Int):d_2 a some=some ((fun (m:Bool)=>(V.bool m)) (h_y a)):=by
  repeat' (first | rfl | refine A_t (v:=(fun (m:Bool)=>(V.bool m))) ?_ ?_)
theorem Y_G:t_R:=goodHook1 fun l hp=>by
  unfold o_t at hp
  split at hp
  · rename_i a
    exact fn_ok (fn:=Tryz.f132) (c:=bodyOf Tryz.f132) (E:=i_K) ⟨by kernel_rfl,goodNil,rfl,M'⟩ rfl (by kernel_rfl) (by kernel_rfl) (by kernel_rfl) (loopsOK_of _ (by have e:loopsOf (bodyOf Tryz.f132)=[]:=(by kernel_rfl);rw [e];intro p hp;cases hp)) (fun hr=>(Y_F a some).trans (w_Z a))
  · cases hp
noncomputable def i_L:Env R:=⟨Tryz.prog,callCons 132 y_9 callNil,fun _ _ _ _ _=>none,Tryz.f111.results.toList,maskTab 20 [(0,0x3),(1,0x23),(2,0x63),(3,0x843),(4,0x1000),(5,0x10),(6,0x10),(7,0x2003),(8,0x10),(9,0x10003),(10,0x10),(11,0x80000),(12,0x10),(13,0x10)],maskAt [(2,1),(4,4),(6,7),(8,8),(10,9),(12,10),(14,11),(16,12),(18,13),(20,16),(22,17),(24,20),(26,21)],noSort⟩
noncomputable def d_3 (a b:Int) (k:V->Option R):Option R:=let d:=h_y a;let c:=h_y b;bif d then bif c then k (V.int .i64 0) else k (V.int .i64 (-1:Int)) else bif c then k (V.int .i64 1) else bif (decide (a<b)) then k (V.int .i64 (-1:Int)) else bif (decide (a > b)) then k (V.int .i64 1) else k (V.int .i64 0)
abbrev w_0 (a b:Int):List V:=[V.int .i64 a,V.int .i64 b]
theorem Y_H (a b:Int) (k:V->Option R):fnK i_L Tryz.f111 (w_0 a b) k=d_3 a b k:=by kernel_rfl
theorem w_1 (a b:Int):d_3 a b some=some ((fun (m:Int)=>(V.int .i64 m)) (N_a a b)):=by
  repeat' (first | rfl | refine A_t (v:=(fun (m:Int)=>(V.int .i64 m))) ?_ ?_)
theorem Y_I (h_F3:t_R):t_T:=goodHook1 fun l hp=>by
  unfold o_u at hp
  split at hp
  · rename_i a b
    exact fn_ok (fn:=Tryz.f111) (c:=bodyOf Tryz.f111) (E:=i_L) ⟨by kernel_rfl,(goodCons h_F3 goodNil),rfl,M'⟩ rfl (by kernel_rfl) (by kernel_rfl) (by kernel_rfl) (loopsOK_of _ (by have e:loopsOf (bodyOf Tryz.f111)=[]:=(by kernel_rfl);rw [e];intro p hp;cases hp)) (fun hr=>(Y_H a b some).trans (w_1 a b))
  · cases hp
noncomputable def D_y:ST:=⟨A_j 6 (.ptr 11 0 0::.ptr 12 0 0::A_j 9 (.lit .i64 0::A_j 17 [])),[(11,.var O'.sh false [.int .i64,.int .i64,.int .i64,.int .i64,.int .i64,.int .i64]),(12,.var O'.sh false [.int .i64,.int .i64,.int .i64,.int .i64,.int .i64,.int .i64])],16⟩
noncomputable def d_4 (a b:Y') (kn:St->Option R) (kr:V->Option R):Option R:=bif (a.e0 != b.e0) then let c:=N_a a.e0 b.e0;kr (V.int .i64 c) else bif (a.e1 != b.e1) then let d:=N_a a.e1 b.e1;kr (V.int .i64 d) else bif (a.e2 != b.e2) then let e:=N_a a.e2 b.e2;kr (V.int .i64 e) else bif (a.e3 != b.e3) then let f:=N_a a.e3 b.e3;kr (V.int .i64 f) else bif (a.e4 != b.e4) then let g:=N_a a.e4 b.e4;kr (V.int .i64 g) else bif (a.e5 != b.e5) then let i:=N_a a.e5 b.e5;kr (V.int .i64 i) else kn ⟨[V.undef,V.undef,V.undef,V.undef,V.undef,V.undef,(V.ptr 11 (0:Nat) 0),(V.ptr 12 (0:Nat) 0),V.undef,V.undef,V.undef,V.undef,V.undef,V.undef,V.undef,V.undef,V.undef,(V.int .i64 6),V.undef,V.undef,V.undef,V.undef,V.undef,V.undef,V.undef,V.undef,V.undef,V.undef,V.undef,V.undef,V.undef,V.undef,V.undef,V.undef,V.undef],[(11,⟨false,O'.sh,[(Y'.row a)],false⟩),(12,⟨false,O'.sh,[(Y'.row b)],false⟩)],16⟩
noncomputable def I_r:LoopG R:=fun l kn _ kr=>match l with
  | .i a::.i b::.i c::.i d::.i e::.i f::.i g::.i i::.i j::.i m::.i o::.i p::[]=>d_4 (Y'.mk a b c d e f) (Y'.mk g i j m o p) kn kr
  | _=>none
noncomputable def O_1:Env R:=⟨Tryz.prog,callCons 110 y_8 (callCons 111 z_a callNil),fun id=>bif Nat.beq id 0 then loopAlt D_y I_r loopNil else (fun _ _ _ _ _=>none) id,Tryz.f109.results.toList,maskTab 35 [(0,0x1c),(1,0xc0),(2,0x200c0),(3,0x600c0),(4,0x201c0),(5,0x40201c0),(6,0x20),(7,0x200c0),(8,0x20)],maskAt [(1,16),(2,3),(4,15),(6,20),(8,21),(10,23),(12,30),(14,38),(16,40)],noSort⟩
theorem Y_J (a b:Y') (kn:St->Option R) (kx:Nat->St->Option R) (kr:V->Option R):loopN O_1 0 (loopAt Tryz.f109 0) (D_y.put [.i a.e0,.i a.e1,.i a.e2,.i a.e3,.i a.e4,.i a.e5,.i b.e0,.i b.e1,.i b.e2,.i b.e3,.i b.e4,.i b.e5]) kn kx kr 7 (D_y.put [.i a.e0,.i a.e1,.i a.e2,.i a.e3,.i a.e4,.i a.e5,.i b.e0,.i b.e1,.i b.e2,.i b.e3,.i b.e4,.i b.e5])=d_4 a b kn kr:=by kernel_rfl
theorem Y_K {rest} (h:GoodL (R:=R) O_1 0 (loopAt Tryz.f109 0) rest):GoodL (R:=R) O_1 0 (loopAt Tryz.f109 0) (loopAlt D_y I_r rest):=by
  refine goodL_alt (fun l kn kx kr r h=>?_) h
  unfold I_r at h
  split at h
  · rename_i a b c d e f g i j m o p
    exact ⟨7,(Y_J (Y'.mk a b c d e f) (Y'.mk g i j m o p) kn kx kr).trans h⟩
  · cases h
theorem d_5:GoodLoop (R:=R) O_1 0 (loopAt Tryz.f109 0):=goodL_loop (g:=loopAlt D_y I_r loopNil) (fun _ _ _ _=>rfl) (Y_K goodL_nil)
noncomputable def d_6 (d e:I') (c:C') (k:V->Option R):Option R:=let a:=R_e c.Order d;let b:=R_e c.Order e;bif (a.e0 != b.e0) then let f:=N_a a.e0 b.e0;k (V.int .i64 f) else bif (a.e1 != b.e1) then let g:=N_a a.e1 b.e1;k (V.int .i64 g) else bif (a.e2 != b.e2) then let i:=N_a a.e2 b.e2;k (V.int .i64 i) else bif (a.e3 != b.e3) then let j:=N_a a.e3 b.e3;k (V.int .i64 j) else bif (a.e4 != b.e4) then let m:=N_a a.e4 b.e4;k (V.int .i64 m) else bif (a.e5 != b.e5) then let o:=N_a a.e5 b.e5;k (V.int .i64 o) else k (V.int .i64 0)
abbrev w_2 (a b:I') (c:C'):List V:=[(I'.v a),(I'.v b),(V.pdat C'.sh (C'.row c) 0)]
theorem Y_L (a b:I') (c:C') (k:V->Option R):fnK O_1 Tryz.f109 (w_2 a b c) k=d_6 a b c k:=by kernel_rfl
theorem w_3 (a b:I') (c:C'):d_6 a b c some=some ((fun (m:Int)=>(V.int .i64 m)) (m_k a b c)):=by
  repeat' (first | rfl | refine A_t (v:=(fun (m:Int)=>(V.int .i64 m))) ?_ ?_)
theorem Y_M (h_B8:t_P) (h_C4:t_T):r_f:=goodHook1 fun l hp=>by
  unfold o_v at hp
  split at hp
  · rename_i a b d f g i j m o p q r s t u v w y z A B D F H I J K L M N O
    exact fn_ok (fn:=Tryz.f109) (c:=bodyOf Tryz.f109) (E:=O_1) ⟨by kernel_rfl,(goodCons h_B8 (goodCons h_C4 goodNil)),rfl,M'⟩ rfl (by kernel_rfl) (by kernel_rfl) (by kernel_rfl) (loopsOK_of _ (by have e:loopsOf (bodyOf Tryz.f109)=[(0,loopAt Tryz.f109 0)]:=(by kernel_rfl);rw [e];simp only [List.forall_mem_cons,List.not_mem_nil,false_implies,implies_true,and_true];exact d_5)) (fun hr=>(Y_L (I'.mk (G'.mk a b d f) (X'.mk g i)) (I'.mk (G'.mk j m o p) (X'.mk q r)) (C'.mk s t u v w y z A (K'.mk B D F H I) J K L M N O) some).trans (w_3 (I'.mk (G'.mk a b d f) (X'.mk g i)) (I'.mk (G'.mk j m o p) (X'.mk q r)) (C'.mk s t u v w y z A (K'.mk B D F H I) J K L M N O)))
  · cases hp
end Go.Vm
