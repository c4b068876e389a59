import Derived.Test.YtnfkgnigkdkniaaGreatWM
set_option linter.unusedVariables false
set_option linter.unusedSimpArgs false
set_option maxRecDepth 100000
noncomputable section
namespace Go.Vm
open Go.Proofs
variable {R:Type}
noncomputable def h_R:Env R:=⟨Tryz.prog,callNil,fun _ _ _ _ _=>none,Tryz.f23.results.toList,maskTab 35 [(0,0x39f39cf82),(1,0x4)],maskAt [(2,2)],noSort⟩
noncomputable def c_H (a:F') (k:V->Option R):Option R:=let b:=decide (0<=a.X0);let c:Bool:=(bif b then (decide (a.X0<=a.X1)) else false);let d:=decide (a.X1<=4096);let e:Bool:=(bif c then d else false);let f:=decide (0<=a.Y0);let g:Bool:=(bif e then f else false);let i:Bool:=(bif g then (decide (a.Y0<=a.Y1)) else false);let j:=decide (a.Y1<=4096);let m:Bool:=(bif i then j else false);k (V.bool m)
abbrev u_W (a:F'):List V:=[(F'.v a)]
theorem W_b (a:F') (k:V->Option R):fnK h_R Tryz.f23 (u_W a) k=c_H a k:=by kernel_rfl
theorem u_X (a:F'):c_H a some=some ((fun (m:Bool)=>(V.bool m)) (M_4 a)):=by
  repeat' (first | rfl | refine A_t (v:=(fun (m:Bool)=>(V.bool m))) ?_ ?_)
theorem W_c:T_R:=goodHook1 fun l hp=>by
  unfold m_3 at hp
  split at hp
  · rename_i a b d f
    exact fn_ok (fn:=Tryz.f23) (c:=bodyOf Tryz.f23) (E:=h_R) ⟨by kernel_rfl,goodNil,rfl,M'⟩ rfl (by kernel_rfl) (by kernel_rfl) (by kernel_rfl) (loopsOK_of _ (by have e:loopsOf (bodyOf Tryz.f23)=[]:=(by kernel_rfl);rw [e];intro p hp;cases hp)) (fun hr=>(W_b (F'.mk a b d f) some).trans (u_X (F'.mk a b d f)))
  · cases hp
noncomputable def h_S:Env R:=⟨Tryz.prog,callNil,fun _ _ _ _ _=>none,Tryz.f24.results.toList,maskTab 15 [(0,0x3e02),(1,0x4)],maskAt [(2,2)],noSort⟩
noncomputable def c_I (a:F') (k:V->Option R):Option R:=let b:Bool:=(bif (decide (a.X0 >= a.X1)) then true else (decide (a.Y0 >= a.Y1)));k (V.bool b)
abbrev u_Y (a:F'):List V:=[(F'.v a)]
theorem W_d (a:F') (k:V->Option R):fnK h_S Tryz.f24 (u_Y a) k=c_I a k:=by kernel_rfl
theorem u_Z (a:F'):c_I a some=some ((fun (m:Bool)=>(V.bool m)) (O_b a)):=by
  repeat' (first | rfl | refine A_t (v:=(fun (m:Bool)=>(V.bool m))) ?_ ?_)
theorem W_e:V_7:=goodHook1 fun l hp=>by
  unfold m_4 at hp
  split at hp
  · rename_i a b d f
    exact fn_ok (fn:=Tryz.f24) (c:=bodyOf Tryz.f24) (E:=h_S) ⟨by kernel_rfl,goodNil,rfl,M'⟩ rfl (by kernel_rfl) (by kernel_rfl) (by kernel_rfl) (loopsOK_of _ (by have e:loopsOf (bodyOf Tryz.f24)=[]:=(by kernel_rfl);rw [e];intro p hp;cases hp)) (fun hr=>(W_d (F'.mk a b d f) some).trans (u_Z (F'.mk a b d f)))
  · cases hp
noncomputable def h_T:Env R:=⟨Tryz.prog,callNil,fun _ _ _ _ _=>none,Tryz.f25.results.toList,maskTab 15 [(0,0x3807),(1,0x40)],maskAt [(2,1)],noSort⟩
noncomputable def c_J (a b c:Int) (k:V->Option R):Option R:=let d:Bool:=(bif (decide (b<=a)) then (decide (a<=c)) else false);k (V.bool d)
abbrev u_0 (a b c:Int):List V:=[V.int .i64 a,V.int .i64 b,V.int .i64 c]
theorem W_f (a b c:Int) (k:V->Option R):fnK h_T Tryz.f25 (u_0 a b c) k=c_J a b c k:=by kernel_rfl
theorem u_1 (a b c:Int):c_J a b c some=some ((fun (m:Bool)=>(V.bool m)) (P_L a b c)):=by
  repeat' (first | rfl | refine A_t (v:=(fun (m:Bool)=>(V.bool m))) ?_ ?_)
theorem W_g:m_p:=goodHook1 fun l hp=>by
  unfold m_5 at hp
  split at hp
  · rename_i a b d
    exact fn_ok (fn:=Tryz.f25) (c:=bodyOf Tryz.f25) (E:=h_T) ⟨by kernel_rfl,goodNil,rfl,M'⟩ rfl (by kernel_rfl) (by kernel_rfl) (by kernel_rfl) (loopsOK_of _ (by have e:loopsOf (bodyOf Tryz.f25)=[]:=(by kernel_rfl);rw [e];intro p hp;cases hp)) (fun hr=>(W_f a b d some).trans (u_1 a b d))
  · cases hp
noncomputable def h_U:Env R:=⟨Tryz.prog,callNil,fun _ _ _ _ _=>none,Tryz.f58.results.toList,maskTab 18 [(0,0x3),(1,0x83),(2,0x10),(3,0x23),(4,0x4020),(5,0x20),(6,0x10)],maskAt [(2,1),(4,3),(6,4),(8,8),(10,12),(12,15)],noSort⟩
noncomputable def c_K (b a:Int) (k:V->Option R):Option R:=let d:=decide (a<1);bif d then k (V.int .i64 0) else bif (a != 0) then let c:=IntKind.wrap .i64 (Int.tdiv b a);bif (a != 0) then let e:=decide ((Int.tmod b a) > 0);bif e then let f:=IntKind.wrap .i64 (c+1);k (V.int .i64 f) else k (V.int .i64 c) else none else none
abbrev u_2 (a b:Int):List V:=[V.int .i64 a,V.int .i64 b]
theorem W_h (a b:Int) (k:V->Option R):fnK h_U Tryz.f58 (u_2 a b) k=c_K a b k:=by kernel_rfl
theorem u_3 (a b:Int):h_g a b=true->c_K a b some=some ((fun (m:Int)=>(V.int .i64 m)) (K_b a b)):=by
  repeat' (first | exact fun _=>rfl | exact fun h=>absurd h (by decide) | refine B_b (v:=(fun (m:Int)=>(V.int .i64 m))) ?_ ?_)
theorem W_i:h_I:=goodHook1 fun l hp=>by
  unfold m_6 at hp
  split at hp
  · rename_i a b
    exact fn_ok (fn:=Tryz.f58) (c:=bodyOf Tryz.f58) (E:=h_U) ⟨by kernel_rfl,goodNil,rfl,M'⟩ rfl (by kernel_rfl) (by kernel_rfl) (by kernel_rfl) (loopsOK_of _ (by have e:loopsOf (bodyOf Tryz.f58)=[]:=(by kernel_rfl);rw [e];intro p hp;cases hp)) (fun hr=>(W_h a b some).trans (u_3 a b (r_Z a b)))
  · cases hp
noncomputable def h_V:Env R:=⟨Tryz.prog,callCons 23 c_D (callCons 58 m_q callNil),fun _ _ _ _ _=>none,Tryz.f26.results.toList,maskTab 44 [(0,0x199984e),(1,0x200004e),(2,0x40),(3,0x40)],maskAt [(2,2),(4,21),(6,23)],noSort⟩
noncomputable def c_L (a:F') (b c:Int) (k:V->Option R):Option R:=let d:=M_4 a;let e:=decide (b<1);let f:Bool:=(bif (!d) then true else e);let g:=decide (b > 4096);let i:Bool:=(bif f then true else g);let j:=decide (c<1);let m:Bool:=(bif i then true else j);let o:=decide (c > 4096);let p:Bool:=(bif m then true else o);bif p then k (V.agg [(V.int .i64 0),(V.int .i64 0),(V.int .i64 0),(V.int .i64 0)]) else let q:=K_b a.X0 b;let r:=K_b a.Y0 c;let s:=K_b a.X1 b;let t:=K_b a.Y1 c;k (V.agg [V.int .i64 q,V.int .i64 r,V.int .i64 s,V.int .i64 t])
abbrev u_4 (a:F') (b c:Int):List V:=[(F'.v a),V.int .i64 b,V.int .i64 c]
theorem W_j (a:F') (b c:Int) (k:V->Option R):fnK h_V Tryz.f26 (u_4 a b c) k=c_L a b c k:=by kernel_rfl
theorem u_5 (a:F') (b c:Int):c_L a b c some=some ((fun (m:F')=>(F'.v m)) (M_u a b c)):=by
  repeat' (first | rfl | refine A_t (v:=(fun (m:F')=>(F'.v m))) ?_ ?_)
theorem W_k (h_K8:T_R) (h_I2:h_I):V_8:=goodHook1 fun l hp=>by
  unfold m_7 at hp
  split at hp
  · rename_i a b d f g i
    exact fn_ok (fn:=Tryz.f26) (c:=bodyOf Tryz.f26) (E:=h_V) ⟨by kernel_rfl,(goodCons h_K8 (goodCons h_I2 goodNil)),rfl,M'⟩ rfl (by kernel_rfl) (by kernel_rfl) (by kernel_rfl) (loopsOK_of _ (by have e:loopsOf (bodyOf Tryz.f26)=[]:=(by kernel_rfl);rw [e];intro p hp;cases hp)) (fun hr=>(W_j (F'.mk a b d f) g i some).trans (u_5 (F'.mk a b d f) g i))
  · cases hp
noncomputable def h_W:Env R:=⟨Tryz.prog,callNil,fun _ _ _ _ _=>none,Tryz.f59.results.toList,maskTab 18 [(0,0x3),(1,0x83),(2,0x10),(3,0x23),(4,0x4020),(5,0x20),(6,0x10)],maskAt [(2,1),(4,3),(6,4),(8,8),(10,12),(12,15)],noSort⟩
noncomputable def c_M (b a:Int) (k:V->Option R):Option R:=let d:=decide (a<1);bif d then k (V.int .i64 0) else bif (a != 0) then let c:=IntKind.wrap .i64 (Int.tdiv b a);bif (a != 0) then let e:=decide ((Int.tmod b a)<0);bif e then let f:=IntKind.wrap .i64 (c-1);k (V.int .i64 f) else k (V.int .i64 c) else none else none
abbrev u_6 (a b:Int):List V:=[V.int .i64 a,V.int .i64 b]
theorem W_l (a b:Int) (k:V->Option R):fnK h_W Tryz.f59 (u_6 a b) k=c_M a b k:=by kernel_rfl
theorem u_7 (a b:Int):h_h a b=true->c_M a b some=some ((fun (m:Int)=>(V.int .i64 m)) (M_5 a b)):=by
  repeat' (first | exact fun _=>rfl | exact fun h=>absurd h (by decide) | refine B_b (v:=(fun (m:Int)=>(V.int .i64 m))) ?_ ?_)
theorem W_m:h_K:=goodHook1 fun l hp=>by
  unfold m_8 at hp
  split at hp
  · rename_i a b
    exact fn_ok (fn:=Tryz.f59) (c:=bodyOf Tryz.f59) (E:=h_W) ⟨by kernel_rfl,goodNil,rfl,M'⟩ rfl (by kernel_rfl) (by kernel_rfl) (by kernel_rfl) (loopsOK_of _ (by have e:loopsOf (bodyOf Tryz.f59)=[]:=(by kernel_rfl);rw [e];intro p hp;cases hp)) (fun hr=>(W_l a b some).trans (u_7 a b (r_0 a b)))
  · cases hp
noncomputable def h_X:Env R:=⟨Tryz.prog,callCons 58 m_q (callCons 59 m_r callNil),fun _ _ _ _ _=>none,Tryz.f27.results.toList,maskTab 33 [(0,0x2),(1,0xa),(2,0x1a),(3,0x30),(4,0x4)],maskAt [(2,2),(4,6),(6,18),(8,30)],noSort⟩
noncomputable def c_N (a:D') (k:V->Option R):Option R:=let b:=K_b a.Area.X1 a.TileW;let c:=M_5 a.Area.X0 a.TileW;let d:=IntKind.wrap .i64 (b-c);let e:=K_b a.Area.Y1 a.TileH;let f:=M_5 a.Area.Y0 a.TileH;let g:=IntKind.wrap .i64 (e-f);let i:=IntKind.wrap .i64 (d*g);k (V.int .i64 i)
abbrev u_8 (a:D'):List V:=[(D'.v a)]
theorem W_n (a:D') (k:V->Option R):fnK h_X Tryz.f27 (u_8 a) k=c_N a k:=by kernel_rfl
theorem u_9 (a:D'):c_N a some=some ((fun (m:Int)=>(V.int .i64 m)) (q_J a)):=by
  repeat' (first | rfl | refine A_t (v:=(fun (m:Int)=>(V.int .i64 m))) ?_ ?_)
theorem W_o (h_I2:h_I) (h_G3:h_K):q_O:=goodHook1 fun l hp=>by
  unfold m_9 at hp
  split at hp
  · rename_i a b d f g i j
    exact fn_ok (fn:=Tryz.f27) (c:=bodyOf Tryz.f27) (E:=h_X) ⟨by kernel_rfl,(goodCons h_I2 (goodCons h_G3 goodNil)),rfl,M'⟩ rfl (by kernel_rfl) (by kernel_rfl) (by kernel_rfl) (loopsOK_of _ (by have e:loopsOf (bodyOf Tryz.f27)=[]:=(by kernel_rfl);rw [e];intro p hp;cases hp)) (fun hr=>(W_n (D'.mk (F'.mk a b d f) g i j) some).trans (u_9 (D'.mk (F'.mk a b d f) g i j)))
  · cases hp
noncomputable def h_Y:Env R:=⟨Tryz.prog,callCons 23 c_D callNil,fun _ _ _ _ _=>none,Tryz.f28.results.toList,maskTab 17 [(0,0x2),(1,0x22),(2,0x4),(3,0x4)],maskAt [(2,2),(4,5),(6,6)],noSort⟩
noncomputable def c_O (a:F') (k:V->Option R):Option R:=let b:=M_4 a;bif (!b) then k (V.int .i64 0) else let c:=IntKind.wrap .i64 (a.X1-a.X0);let d:=IntKind.wrap .i64 (a.Y1-a.Y0);let e:=IntKind.wrap .i64 (c*d);k (V.int .i64 e)
abbrev v_a (a:F'):List V:=[(F'.v a)]
theorem W_p (a:F') (k:V->Option R):fnK h_Y Tryz.f28 (v_a a) k=c_O a k:=by kernel_rfl
theorem v_b (a:F'):c_O a some=some ((fun (m:Int)=>(V.int .i64 m)) (q_K a)):=by
  repeat' (first | rfl | refine A_t (v:=(fun (m:Int)=>(V.int .i64 m))) ?_ ?_)
theorem W_q (h_K8:T_R):q_P:=goodHook1 fun l hp=>by
  unfold n_a at hp
  split at hp
  · rename_i a b d f
    exact fn_ok (fn:=Tryz.f28) (c:=bodyOf Tryz.f28) (E:=h_Y) ⟨by kernel_rfl,(goodCons h_K8 goodNil),rfl,M'⟩ rfl (by kernel_rfl) (by kernel_rfl) (by kernel_rfl) (loopsOK_of _ (by have e:loopsOf (bodyOf Tryz.f28)=[]:=(by kernel_rfl);rw [e];intro p hp;cases hp)) (fun hr=>(W_p (F'.mk a b d f) some).trans (v_b (F'.mk a b d f)))
  · cases hp
noncomputable def N_h (a:Int) (b:D'):Nat:=let c:=(((List.length b.Components):Nat):Int);Int.toNat (c-a)+1
noncomputable def H_G (c:D') (a:Int) (again:Int->Option R) (kn:Int->Option R) (kr:V->Option R):Option R:=let d:=(((List.length c.Components):Nat):Int);bif (decide (a<d)) then bif (inR a (List.length c.Components)) then let e:=List.getD c.Components (Int.toNat a) [];let b:=H'.of e;let f:=P_L b.Depth 1 16;bif ((!f)==false) then let g:=P_L b.DX 1 4;bif ((!g)==false) then let i:=P_L b.DY 1 4;bif ((!i)==false) then let j:=M_u c.Area b.DX b.DY;let m:=O_b j;bif m then kr (V.int .i64 12) else let o:=IntKind.wrap .i64 (a+1);again o else kr (V.int .i64 12) else kr (V.int .i64 12) else kr (V.int .i64 12) else none else kn a
noncomputable def C_p (a:D'):Nat->Int->(Int->Option R)->(V->Option R)->Option R
  | 0,_,_,_=>none
  | n+1,b,kn,kr=>H_G a b (fun c=>C_p a n c kn kr) kn kr
noncomputable def F_N:ST:=⟨.undef::.ptr 0 0 0::.undef::.int .i64::A_j 93 [],[(0,.var D'.sh false D'.ts)],32⟩
noncomputable def D_9 (a:D') (b:Int):St:=F_N.put [.i b,.i a.Area.X0,.i a.Area.Y0,.i a.Area.X1,.i a.Area.Y1,.i a.TileW,.i a.TileH,.r a.Components]
noncomputable def H_H:LoopG R:=fun l kn _ kr=>match l with
  | .i i::.i a::.i b::.i c::.i d::.i e::.i f::.r g::[]=>C_p (D'.mk (F'.mk a b c d) e f g) (N_h i (D'.mk (F'.mk a b c d) e f g)) i (fun j=>kn (D_9 (D'.mk (F'.mk a b c d) e f g) j)) kr
  | _=>none
noncomputable def N_i (a:Int) (b:D'):Nat:=let c:=(((List.length b.Components):Nat):Int);Int.toNat (c-a)+1
noncomputable def H_I (b:D') (a:Int) (again:Int->Option R) (kn:Int->Option R) (kr:V->Option R):Option R:=let d:=(((List.length b.Components):Nat):Int);bif (decide (a<d)) then bif (inR a (List.length b.Components)) then let e:=List.getD b.Components (Int.toNat a) [];let c:=H'.of e;let f:=M_u b.Area c.DX c.DY;let g:=q_K f;let i:=decide (g > 1048576);bif i then kr (V.int .i64 5) else let j:=IntKind.wrap .i64 (a+1);again j else none else kn a
noncomputable def C_q (a:D'):Nat->Int->(Int->Option R)->(V->Option R)->Option R
  | 0,_,_,_=>none
  | n+1,b,kn,kr=>H_I a b (fun c=>C_q a n c kn kr) kn kr
noncomputable def F_O:ST:=⟨.undef::.ptr 0 0 0::A_j 3 (.int .i64::A_j 91 []),[(0,.var D'.sh false D'.ts)],83⟩
noncomputable def E_a (a:D') (b:Int):St:=F_O.put [.i b,.i a.Area.X0,.i a.Area.Y0,.i a.Area.X1,.i a.Area.Y1,.i a.TileW,.i a.TileH,.r a.Components]
noncomputable def H_J:LoopG R:=fun l kn _ kr=>match l with
  | .i i::.i a::.i b::.i c::.i d::.i e::.i f::.r g::[]=>C_q (D'.mk (F'.mk a b c d) e f g) (N_i i (D'.mk (F'.mk a b c d) e f g)) i (fun j=>kn (E_a (D'.mk (F'.mk a b c d) e f g) j)) kr
  | _=>none
noncomputable def C_Y:Env R:=⟨Tryz.prog,callCons 23 c_D (callCons 24 g_t (callCons 25 s_k (callCons 26 h_J (callCons 27 y_H (callCons 28 y_I callNil))))),fun id=>bif Nat.beq id 0 then loopAlt F_N H_H loopNil else (fun id=>bif Nat.beq id 2 then loopAlt F_O H_J loopNil else (fun _ _ _ _ _=>none) id) id,Tryz.f9.results.toList,maskTab 97 [(0,0xff3cf00003e79e7002),(1,0xff3cf0000400000002),(2,0x4),(3,0xff3cf000000000000a),(4,0xff3cf000800000000a),(5,0xff3cf000000000000a),(6,0xff3cf000000000001a),(7,0x1ff3cf000000000000a),(8,0x4),(9,0x8000000000000000002),(10,0x4),(11,0x22),(12,0x100000000000000000022),(13,0x22),(14,0x62),(15,0x1000000000000000000000022),(16,0x4),(17,0x4)],maskAt [(1,32),(2,2),(4,30),(5,83),(6,31),(8,36),(10,75),(12,41),(14,48),(16,74),(18,78),(20,81),(22,82),(24,87),(26,109),(28,92),(30,99),(32,108),(34,112)],noSort⟩
theorem R_m (a:D') (c:Int) (kn:St->Option R) (kx:Nat->St->Option R) (kr:V->Option R) (n:Nat) (d:Int) :
    loopN C_Y 0 (loopAt Tryz.f9 0) (D_9 a c) kn kx kr (n+1) (D_9 a d) =
    H_G a d (fun b=>loopN C_Y 0 (loopAt Tryz.f9 0) (D_9 a c) kn kx kr n (D_9 a b)) (fun b=>kn (D_9 a b)) kr:=by kernel_rfl
theorem K_O (a:D') (d:Int) (kn:St->Option R) (kx:Nat->St->Option R) (kr:V->Option R):∀ (n:Nat) (b:Int),
    C_p a n b (fun c=>kn (D_9 a c)) kr=loopN C_Y 0 (loopAt Tryz.f9 0) (D_9 a d) kn kx kr n (D_9 a b)
  | 0,_=>rfl
  | n+1,b=>by
    rw [R_m,C_p]
    congr 1
    funext c
    exact K_O a d kn kx kr n c
theorem W_r {rest} (h:GoodL (R:=R) C_Y 0 (loopAt Tryz.f9 0) rest):GoodL (R:=R) C_Y 0 (loopAt Tryz.f9 0) (loopAlt F_N H_H rest):=by
  refine goodL_alt (fun l kn kx kr r h=>?_) h
  unfold H_H at h
  split at h
  · rename_i a b c d e f g i
    exact ⟨_,(K_O (D'.mk (F'.mk b c d e) f g i) a kn kx kr _ a).symm.trans h⟩
  · cases h
theorem R_n (a:D') (c:Int) (kn:St->Option R) (kx:Nat->St->Option R) (kr:V->Option R) (n:Nat) (d:Int) :
    loopN C_Y 2 (loopAt Tryz.f9 1) (E_a a c) kn kx kr (n+1) (E_a a d) =
    H_I a d (fun b=>loopN C_Y 2 (loopAt Tryz.f9 1) (E_a a c) kn kx kr n (E_a a b)) (fun b=>kn (E_a a b)) kr:=by kernel_rfl
theorem K_P (a:D') (d:Int) (kn:St->Option R) (kx:Nat->St->Option R) (kr:V->Option R):∀ (n:Nat) (b:Int),
    C_q a n b (fun c=>kn (E_a a c)) kr=loopN C_Y 2 (loopAt Tryz.f9 1) (E_a a d) kn kx kr n (E_a a b)
  | 0,_=>rfl
  | n+1,b=>by
    rw [R_n,C_q]
    congr 1
    funext c
    exact K_P a d kn kx kr n c
theorem W_s {rest} (h:GoodL (R:=R) C_Y 2 (loopAt Tryz.f9 1) rest):GoodL (R:=R) C_Y 2 (loopAt Tryz.f9 1) (loopAlt F_O H_J rest):=by
  refine goodL_alt (fun l kn kx kr r h=>?_) h
  unfold H_J at h
  split at h
  · rename_i a b c d e f g i
    exact ⟨_,(K_P (D'.mk (F'.mk b c d e) f g i) a kn kx kr _ a).symm.trans h⟩
  · cases h
theorem c_P:GoodLoop (R:=R) C_Y 0 (loopAt Tryz.f9 0):=goodL_loop (g:=loopAlt F_N H_H loopNil) (fun _ _ _ _=>rfl) (W_r goodL_nil)
theorem c_Q:GoodLoop (R:=R) C_Y 2 (loopAt Tryz.f9 1):=goodL_loop (g:=loopAlt F_O H_J loopNil) (fun _ _ _ _=>rfl) (W_s goodL_nil)
noncomputable def P_S (a:D') (k:V->Option R):Option R:=let b:=M_4 a.Area;bif ((!b)==false) then let c:=O_b a.Area;bif (c==false) then let d:=P_L a.TileW 1 4096;bif ((!d)==false) then let e:=P_L a.TileH 1 4096;bif ((!e)==false) then let f:=(((List.length a.Components):Nat):Int);let g:=P_L f 1 4;bif (!g) then k (V.int .i64 12) else C_p a (N_h 0 a) 0 (fun m=>let i:=q_J a;let j:=decide (i > 1024);bif j then k (V.int .i64 5) else C_q a (N_i 0 a) 0 (fun o=>k (V.int .i64 0)) k) k else k (V.int .i64 12) else k (V.int .i64 12) else k (V.int .i64 12) else k (V.int .i64 12)
abbrev p_B (a:D'):List V:=[(D'.v a)]
theorem W_t (a:D') (k:V->Option R):fnK C_Y Tryz.f9 (p_B a) k=P_S a k:=by kernel_rfl
theorem v_c (h_K8:T_R) (h_L1:V_7) (h_M7:m_p) (h_I9:V_8) (h_K2:q_O) (h_M1:q_P) (h:∀ (a:D'),Real (p_B a)->P_S a some=some (V.int .i64 (V_0 a))):g_u:=goodHook1 fun l hp=>by
  unfold n_b at hp
  split at hp
  · rename_i b d f g i j m
    exact fn_ok (fn:=Tryz.f9) (c:=bodyOf Tryz.f9) (E:=C_Y) ⟨by kernel_rfl,(goodCons h_K8 (goodCons h_L1 (goodCons h_M7 (goodCons h_I9 (goodCons h_K2 (goodCons h_M1 goodNil)))))),rfl,M'⟩ rfl (by kernel_rfl) (by kernel_rfl) (by kernel_rfl) (loopsOK_of _ (by have e:loopsOf (bodyOf Tryz.f9)=[(0,loopAt Tryz.f9 0),(2,loopAt Tryz.f9 1)]:=(by kernel_rfl);rw [e];simp only [List.forall_mem_cons,List.not_mem_nil,false_implies,implies_true,and_true];exact ⟨c_P,c_Q⟩)) (fun hr=>(W_t (D'.mk (F'.mk b d f g) i j m) some).trans (h (D'.mk (F'.mk b d f g) i j m) hr))
  · cases hp
noncomputable def h_Z:Env R:=⟨Tryz.prog,callCons 24 g_t callNil,fun _ _ _ _ _=>none,Tryz.f52.results.toList,maskTab 31 [(0,0x1c),(1,0x30),(2,0x10000030),(3,0x10),(4,0x10)],maskAt [(2,3),(4,26),(6,28),(8,30)],noSort⟩
noncomputable def c_R (a b:F') (k:V->Option R):Option R:=let c:Int:=(bif (decide (b.X0 > a.X0)) then b.X0 else a.X0);let d:Int:=(bif (decide (b.Y0 > a.Y0)) then b.Y0 else a.Y0);let e:Int:=(bif (decide (b.X1<a.X1)) then b.X1 else a.X1);let f:Int:=(bif (decide (b.Y1<a.Y1)) then b.Y1 else a.Y1);let g:=O_b (F'.mk c d e f);bif g then k (V.agg [(V.int .i64 0),(V.int .i64 0),(V.int .i64 0),(V.int .i64 0)]) else k (V.agg [V.int .i64 c,V.int .i64 d,V.int .i64 e,V.int .i64 f])
abbrev v_d (a b:F'):List V:=[(F'.v a),(F'.v b)]
theorem W_u (a b:F') (k:V->Option R):fnK h_Z Tryz.f52 (v_d a b) k=c_R a b k:=by kernel_rfl
theorem v_e (a b:F'):c_R a b some=some ((fun (m:F')=>(F'.v m)) (O_K a b)):=by
  repeat' (first | rfl | refine A_t (v:=(fun (m:F')=>(F'.v m))) ?_ ?_)
theorem W_v (h_L1:V_7):c_E:=goodHook1 fun l hp=>by
  unfold n_d at hp
  split at hp
  · rename_i a b d f g i j m
    exact fn_ok (fn:=Tryz.f52) (c:=bodyOf Tryz.f52) (E:=h_Z) ⟨by kernel_rfl,(goodCons h_L1 goodNil),rfl,M'⟩ rfl (by kernel_rfl) (by kernel_rfl) (by kernel_rfl) (loopsOK_of _ (by have e:loopsOf (bodyOf Tryz.f52)=[]:=(by kernel_rfl);rw [e];intro p hp;cases hp)) (fun hr=>(W_u (F'.mk a b d f) (F'.mk g i j m) some).trans (v_e (F'.mk a b d f) (F'.mk g i j m)))
  · cases hp
noncomputable def R_o (c d e a f g b:Int) (i:F') (j:Rows):Nat:=Int.toNat (a-b)+1
noncomputable def D_n (b c u f v e:Int) (g:F') (a:Int) (d:Rows) (again:Int->Rows->Option R) (kn:Int->Rows->Option R):Option R:=bif (decide (a<f)) then let i:=IntKind.wrap .i64 (a*b);let j:=IntKind.wrap .i64 (e*c);let m:=IntKind.wrap .i64 (a*b);let o:=IntKind.wrap .i64 (m+b);let p:=IntKind.wrap .i64 (e*c);let q:=IntKind.wrap .i64 (p+c);let r:=O_K g (F'.mk i j o q);bif (roomOK ((List.length d)+(1:Nat)) 32) then let s:=d++[(F'.row r)];let t:=IntKind.wrap .i64 (a+1);again t s else none else kn a d
noncomputable def B_w (a b c d e f:Int) (g:F'):Nat->Int->Rows->(Int->Rows->Option R)->Option R
  | 0,_,_,_=>none
  | n+1,i,j,kn=>D_n a b c d e f g i j (fun m o=>B_w a b c d e f g n m o kn) kn
noncomputable def F_P:ST:=⟨.undef::.int .i64::.int .i64::.ptr 0 0 0::A_j 3 (.int .i64::.int .i64::.undef::.int .i64::.vs 50::.int .i64::.int .i64::A_j 74 []),[(0,.var F'.sh false F'.ts),(50,.vec F'.sh false)],59⟩
noncomputable def E_b (b c d e f g:Int) (a:F') (i:Int) (j:Rows):St:=F_P.put [.i b,.i c,.i d,.i e,.i f,.i g,.i i,.i a.X0,.i a.Y0,.i a.X1,.i a.Y1,.r j]
noncomputable def H_K:LoopG R:=fun l kn _ _=>match l with
  | .i a::.i b::.i c::.i d::.i e::.i f::.i o::.i g::.i i::.i j::.i m::.r p::[]=>B_w a b c d e f (F'.mk g i j m) (R_o a b c d e f o (F'.mk g i j m) p) o p (fun q r=>kn (E_b a b c d e f (F'.mk g i j m) q r))
  | _=>none
noncomputable def R_p (c d e f a b:Int) (g:F') (i:Rows):Nat:=Int.toNat (a-b)+1
noncomputable def D_o (e f b g c:Int) (i:F') (a:Int) (d:Rows) (again:Int->Rows->Option R) (kn:Int->Rows->Option R):Option R:=bif (decide (a<c)) then B_w e f b g c a i (R_o e f b g c a b i d) b d (fun o j=>let m:=IntKind.wrap .i64 (a+1);again m j) else kn a d
noncomputable def B_c (a b c d e:Int) (f:F'):Nat->Int->Rows->(Int->Rows->Option R)->Option R
  | 0,_,_,_=>none
  | n+1,g,i,kn=>D_o a b c d e f g i (fun j m=>B_c a b c d e f n j m kn) kn
noncomputable def F_Q:ST:=⟨.undef::.int .i64::.int .i64::.ptr 0 0 0::A_j 3 (.int .i64::.int .i64::.undef::.int .i64::.vs 50::.int .i64::A_j 75 []),[(0,.var F'.sh false F'.ts),(50,.vec F'.sh false)],51⟩
noncomputable def E_c (b c d e f:Int) (a:F') (g:Int) (i:Rows):St:=F_Q.put [.i b,.i c,.i d,.i e,.i f,.i g,.i a.X0,.i a.Y0,.i a.X1,.i a.Y1,.r i]
noncomputable def H_L:LoopG R:=fun l kn _ _=>match l with
  | .i a::.i b::.i c::.i d::.i e::.i m::.i f::.i g::.i i::.i j::.r o::[]=>B_c a b c d e (F'.mk f g i j) (R_p a b c d e m (F'.mk f g i j) o) m o (fun p q=>kn (E_c a b c d e (F'.mk f g i j) p q))
  | _=>none
noncomputable def C_Z:Env R:=⟨Tryz.prog,callCons 23 c_D (callCons 24 g_t (callCons 52 h_L (callCons 58 m_q (callCons 59 m_r callNil)))),fun id=>bif Nat.beq id 2 then loopAlt F_P H_K loopNil else (fun id=>bif Nat.beq id 0 then loopAlt F_Q H_L loopNil else (fun _ _ _ _ _=>none) id) id,Tryz.f29.results.toList,maskTab 88 [(0,0xccc000e),(1,0x1000000e),(2,0x40),(3,0x8e),(4,0x18e),(5,0x38e),(6,0x78e),(7,0x1000000000078e),(8,0x40),(9,0xf8e),(10,0x1d8e),(11,0x100000000001d8e),(12,0x1d8e),(13,0x3d8e),(14,0x4000000000003d8e),(15,0x3d8e),(16,0x3d8e),(17,0x40)],maskAt [(1,50),(2,2),(4,17),(5,59),(6,18),(8,23),(10,28),(12,33),(14,38),(16,46),(18,47),(20,48),(22,54),(24,92),(26,57),(28,63),(30,89),(32,66),(34,95)],noSort⟩
theorem R_q (a b c d e f:Int) (g:F') (m:Int) (o:Rows) (kn:St->Option R) (kx:Nat->St->Option R) (kr:V->Option R) (n:Nat) (p:Int) (q:Rows) :
    loopN C_Z 2 (loopAt Tryz.f29 1) (E_b a b c d e f g m o) kn kx kr (n+1) (E_b a b c d e f g p q) =
    D_n a b c d e f g p q (fun i j=>loopN C_Z 2 (loopAt Tryz.f29 1) (E_b a b c d e f g m o) kn kx kr n (E_b a b c d e f g i j)) (fun i j=>kn (E_b a b c d e f g i j)):=by kernel_rfl
theorem K_Q (a b c d e f:Int) (g:F') (p:Int) (q:Rows) (kn:St->Option R) (kx:Nat->St->Option R) (kr:V->Option R):∀ (n:Nat) (i:Int) (j:Rows),
    B_w a b c d e f g n i j (fun m o=>kn (E_b a b c d e f g m o))=loopN C_Z 2 (loopAt Tryz.f29 1) (E_b a b c d e f g p q) kn kx kr n (E_b a b c d e f g i j)
  | 0,_,_=>rfl
  | n+1,i,j=>by
    rw [R_q,B_w]
    congr 1
    funext m o
    exact K_Q a b c d e f g p q kn kx kr n m o
theorem W_w {rest} (h:GoodL (R:=R) C_Z 2 (loopAt Tryz.f29 1) rest):GoodL (R:=R) C_Z 2 (loopAt Tryz.f29 1) (loopAlt F_P H_K rest):=by
  refine goodL_alt (fun l kn kx kr r h=>?_) h
  unfold H_K at h
  split at h
  · rename_i c d e f g i a j m o p b
    exact ⟨_,(K_Q c d e f g i (F'.mk j m o p) a b kn kx kr _ a b).symm.trans h⟩
  · cases h
theorem R_r (a b c d e:Int) (f:F') (j:Int) (m:Rows) (kn:St->Option R) (kx:Nat->St->Option R) (kr:V->Option R) (n:Nat) (o:Int) (p:Rows) :
    loopN C_Z 0 (loopAt Tryz.f29 0) (E_c a b c d e f j m) kn kx kr (n+1) (E_c a b c d e f o p) =
    D_o a b c d e f o p (fun g i=>loopN C_Z 0 (loopAt Tryz.f29 0) (E_c a b c d e f j m) kn kx kr n (E_c a b c d e f g i)) (fun g i=>kn (E_c a b c d e f g i)):=by kernel_rfl
theorem K_R (a b c d e:Int) (f:F') (o:Int) (p:Rows) (kn:St->Option R) (kx:Nat->St->Option R) (kr:V->Option R):∀ (n:Nat) (g:Int) (i:Rows),
    B_c a b c d e f n g i (fun j m=>kn (E_c a b c d e f j m))=loopN C_Z 0 (loopAt Tryz.f29 0) (E_c a b c d e f o p) kn kx kr n (E_c a b c d e f g i)
  | 0,_,_=>rfl
  | n+1,g,i=>by
    rw [R_r,B_c]
    congr 1
    funext j m
    exact K_R a b c d e f o p kn kx kr n j m
theorem W_x {rest} (h:GoodL (R:=R) C_Z 0 (loopAt Tryz.f29 0) rest):GoodL (R:=R) C_Z 0 (loopAt Tryz.f29 0) (loopAlt F_Q H_L rest):=by
  refine goodL_alt (fun l kn kx kr r h=>?_) h
  unfold H_L at h
  split at h
  · rename_i c d e f g a i j m o b
    exact ⟨_,(K_R c d e f g (F'.mk i j m o) a b kn kx kr _ a b).symm.trans h⟩
  · cases h
theorem c_S:GoodLoop (R:=R) C_Z 0 (loopAt Tryz.f29 0):=goodL_loop (g:=loopAlt F_Q H_L loopNil) (fun _ _ _ _=>rfl) (W_x goodL_nil)
theorem c_T:GoodLoop (R:=R) C_Z 2 (loopAt Tryz.f29 1):=goodL_loop (g:=loopAlt F_P H_K loopNil) (fun _ _ _ _=>rfl) (W_w goodL_nil)
noncomputable def T_T (a:F') (b c:Int) (k:V->Option R):Option R:=let i:=M_4 a;bif ((!i)==false) then let j:=O_b a;let m:=decide (b<1);let o:Bool:=(bif j then true else m);let p:=decide (c<1);let q:Bool:=(bif o then true else p);bif q then k (V.data F'.sh []) else let d:=M_5 a.X0 b;let e:=K_b a.X1 b;let f:=M_5 a.Y0 c;let g:=K_b a.Y1 c;let r:=IntKind.wrap .i64 (e-d);let s:=IntKind.wrap .i64 (g-f);let t:=IntKind.wrap .i64 (r*s);let u:=decide (t > 65536);bif u then k (V.data F'.sh []) else B_c b c d e g a (R_p b c d e g f a []) f [] (fun w v=>k (V.data F'.sh v)) else k (V.data F'.sh [])
abbrev p_C (a:F') (b c:Int):List V:=[(F'.v a),V.int .i64 b,V.int .i64 c]
theorem W_y (a:F') (b c:Int) (k:V->Option R):fnK C_Z Tryz.f29 (p_C a b c) k=T_T a b c k:=by kernel_rfl
theorem v_f (h_K8:T_R) (h_L1:V_7) (h_F5:c_E) (h_I2:h_I) (h_G3:h_K) (h:∀ (a:F') (b d:Int),Real (p_C a b d)->T_T a b d some=some (V.data F'.sh (h_k a b d))):m_s:=goodHook1 fun l hp=>by
  unfold n_e at hp
  split at hp
  · rename_i f g i j m o
    exact fn_ok (fn:=Tryz.f29) (c:=bodyOf Tryz.f29) (E:=C_Z) ⟨by kernel_rfl,(goodCons h_K8 (goodCons h_L1 (goodCons h_F5 (goodCons h_I2 (goodCons h_G3 goodNil))))),rfl,M'⟩ rfl (by kernel_rfl) (by kernel_rfl) (by kernel_rfl) (loopsOK_of _ (by have e:loopsOf (bodyOf Tryz.f29)=[(0,loopAt Tryz.f29 0),(2,loopAt Tryz.f29 1)]:=(by kernel_rfl);rw [e];simp only [List.forall_mem_cons,List.not_mem_nil,false_implies,implies_true,and_true];exact ⟨c_S,c_T⟩)) (fun hr=>(W_y (F'.mk f g i j) m o some).trans (h (F'.mk f g i j) m o hr))
  · cases hp
noncomputable def h_0:Env R:=⟨Tryz.prog,callCons 9 n_c (callCons 29 s_t callNil),fun _ _ _ _ _=>none,Tryz.f10.results.toList,maskTab 13 [(0,0x2),(1,0x22),(2,0x4),(3,0x4)],maskAt [(2,2),(4,5),(6,6)],noSort⟩
noncomputable def c_U (a:D') (k:V->Option R):Option R:=let b:=V_0 a;bif (b != 0) then k (V.data F'.sh []) else let c:=h_k a.Area a.TileW a.TileH;k (V.data F'.sh c)
abbrev v_g (a:D'):List V:=[(D'.v a)]
theorem W_z (a:D') (k:V->Option R):fnK h_0 Tryz.f10 (v_g a) k=c_U a k:=by kernel_rfl
theorem v_h (a:D'):c_U a some=some ((fun (m:Rows)=>(V.data F'.sh m)) (P_M a)):=by
  repeat' (first | rfl | refine A_t (v:=(fun (m:Rows)=>(V.data F'.sh m))) ?_ ?_)
theorem W_A (h_J8:g_u) (h_L3:m_s):c_F:=goodHook1 fun l hp=>by
  unfold n_f at hp
  split at hp
  · rename_i a b d f g i j
    exact fn_ok (fn:=Tryz.f10) (c:=bodyOf Tryz.f10) (E:=h_0) ⟨by kernel_rfl,(goodCons h_J8 (goodCons h_L3 goodNil)),rfl,M'⟩ rfl (by kernel_rfl) (by kernel_rfl) (by kernel_rfl) (loopsOK_of _ (by have e:loopsOf (bodyOf Tryz.f10)=[]:=(by kernel_rfl);rw [e];intro p hp;cases hp)) (fun hr=>(W_z (D'.mk (F'.mk a b d f) g i j) some).trans (v_h (D'.mk (F'.mk a b d f) g i j)))
  · cases hp
noncomputable def h_1:Env R:=⟨Tryz.prog,callNil,fun _ _ _ _ _=>none,Tryz.f30.results.toList,maskTab 31 [(0,0x39ce7382),(1,0x4)],maskAt [(2,2)],noSort⟩
noncomputable def c_V (a:C') (k:V->Option R):Option R:=let b:=decide (a.Kernel >= 1);let c:=decide (a.Kernel<=3);let d:Bool:=(bif b then c else false);let e:=decide (a.Color >= 0);let f:Bool:=(bif d then e else false);let g:=decide (a.Color<=2);let i:Bool:=(bif f then g else false);let j:=decide (a.Order >= 1);let m:Bool:=(bif i then j else false);let o:=decide (a.Order<=5);let p:Bool:=(bif m then o else false);k (V.bool p)
abbrev v_i (a:C'):List V:=[(C'.v a)]
theorem W_B (a:C') (k:V->Option R):fnK h_1 Tryz.f30 (v_i a) k=c_V a k:=by kernel_rfl
theorem v_j (a:C'):c_V a some=some ((fun (m:Bool)=>(V.bool m)) (m_T a)):=by
  repeat' (first | rfl | refine A_t (v:=(fun (m:Bool)=>(V.bool m))) ?_ ?_)
theorem W_C:q_Q:=goodHook1 fun l hp=>by
  unfold n_g at hp
  split at hp
  · rename_i a b d f g i j m o q r s t u v w y z A
    exact fn_ok (fn:=Tryz.f30) (c:=bodyOf Tryz.f30) (E:=h_1) ⟨by kernel_rfl,goodNil,rfl,M'⟩ rfl (by kernel_rfl) (by kernel_rfl) (by kernel_rfl) (loopsOK_of _ (by have e:loopsOf (bodyOf Tryz.f30)=[]:=(by kernel_rfl);rw [e];intro p hp;cases hp)) (fun hr=>(W_B (C'.mk a b d f g i j m (K'.mk o q r s t) u v w y z A) some).trans (v_j (C'.mk a b d f g i j m (K'.mk o q r s t) u v w y z A)))
  · cases hp
noncomputable def N_j (a:Int) (b:C'):Nat:=let c:=(((List.length b.Steps):Nat):Int);Int.toNat (c-a)+1
noncomputable def H_M (b:C') (a:Int) (again:Int->Option R) (kn:Int->Option R) (kr:V->Option R):Option R:=let c:=(((List.length b.Steps):Nat):Int);bif (decide (a<c)) then bif (inR a (List.length b.Steps)) then let d:=List.getD b.Steps (Int.toNat a) [];let e:=V.toInt (List.getD d 0 V.undef);let f:=P_L e 1 65536;bif (!f) then kr (V.bool false) else let g:=IntKind.wrap .i64 (a+1);again g else none else kn a
noncomputable def C_r (a:C'):Nat->Int->(Int->Option R)->(V->Option R)->Option R
  | 0,_,_,_=>none
  | n+1,b,kn,kr=>H_M a b (fun c=>C_r a n c kn kr) kn kr
noncomputable def F_R:ST:=⟨.undef::.ptr 0 0 0::.undef::.int .i64::A_j 99 [],[(0,.var C'.sh false C'.ts)],48⟩
noncomputable def E_d (a:C') (b:Int):St:=F_R.put [.i b,.i a.Kernel,.i a.Levels,.i a.Color,.i a.BlockX,.i a.BlockY,.r a.Precincts,.i a.Order,.i a.Layers,.b a.Mode.Bypass,.b a.Mode.Restart,.b a.Mode.Reset,.b a.Mode.Causal,.b a.Mode.Symbols,.b a.Divide,.b a.Sync,.b a.Fence,.r a.Steps,.i a.Dead,.i a.Shift]
noncomputable def H_N:LoopG R:=fun l kn _ kr=>match l with
  | .i y::.i a::.i b::.i c::.i d::.i e::.r f::.i g::.i i::.b j::.b m::.b o::.b p::.b q::.b r::.b s::.b t::.r u::.i v::.i w::[]=>C_r (C'.mk a b c d e f g i (K'.mk j m o p q) r s t u v w) (N_j y (C'.mk a b c d e f g i (K'.mk j m o p q) r s t u v w)) y (fun z=>kn (E_d (C'.mk a b c d e f g i (K'.mk j m o p q) r s t u v w) z)) kr
  | _=>none
noncomputable def N_k (a:Int) (b:C'):Nat:=let c:=(((List.length b.Precincts):Nat):Int);Int.toNat (c-a)+1
noncomputable def H_O (b:C') (a:Int) (again:Int->Option R) (kn:Int->Option R) (kr:V->Option R):Option R:=let d:=(((List.length b.Precincts):Nat):Int);bif (decide (a<d)) then bif (inR a (List.length b.Precincts)) then let e:=List.getD b.Precincts (Int.toNat a) [];let f:=V.toInt (List.getD e 0 V.undef);let g:Int:=(bif (decide (1<a)) then 1 else a);let c:=P_L f g 12;bif ((inR a (List.length b.Precincts))||!((!c)==false)) then let i:=List.getD b.Precincts (Int.toNat a) [];let j:=V.toInt (List.getD i 1 V.undef);bif ((!c)==false) then let m:Int:=(bif (decide (1<a)) then 1 else a);let o:=P_L j m 12;bif (!o) then kr (V.bool false) else let p:=IntKind.wrap .i64 (a+1);again p else kr (V.bool false) else none else none else kn a
noncomputable def C_s (a:C'):Nat->Int->(Int->Option R)->(V->Option R)->Option R
  | 0,_,_,_=>none
  | n+1,b,kn,kr=>H_O a b (fun c=>C_s a n c kn kr) kn kr
noncomputable def F_S:ST:=⟨.undef::.ptr 0 0 0::.undef::.undef::.int .i64::A_j 98 [],[(0,.var C'.sh false C'.ts)],82⟩
noncomputable def E_e (a:C') (b:Int):St:=F_S.put [.i b,.i a.Kernel,.i a.Levels,.i a.Color,.i a.BlockX,.i a.BlockY,.r a.Precincts,.i a.Order,.i a.Layers,.b a.Mode.Bypass,.b a.Mode.Restart,.b a.Mode.Reset,.b a.Mode.Causal,.b a.Mode.Symbols,.b a.Divide,.b a.Sync,.b a.Fence,.r a.Steps,.i a.Dead,.i a.Shift]
noncomputable def H_P:LoopG R:=fun l kn _ kr=>match l with
  | .i y::.i a::.i b::.i c::.i d::.i e::.r f::.i g::.i i::.b j::.b m::.b o::.b p::.b q::.b r::.b s::.b t::.r u::.i v::.i w::[]=>C_s (C'.mk a b c d e f g i (K'.mk j m o p q) r s t u v w) (N_k y (C'.mk a b c d e f g i (K'.mk j m o p q) r s t u v w)) y (fun z=>kn (E_e (C'.mk a b c d e f g i (K'.mk j m o p q) r s t u v w) z)) kr
  | _=>none
noncomputable def C_0:Env R:=⟨Tryz.prog,callCons 25 s_k callNil,fun id=>bif Nat.beq id 0 then loopAlt F_R H_N loopNil else (fun id=>bif Nat.beq id 2 then loopAlt F_S H_P loopNil else (fun _ _ _ _ _=>none) id) id,Tryz.f31.results.toList,maskTab 103 [(0,0x3ff00000000000ff3cf3cf3c02),(1,0x3ff00000000001000000000002),(2,0x4),(3,0x3ff0000000000000000000000a),(4,0x3ff0000000002000000000000a),(5,0x3ff0000000000000000000000a),(6,0x3ff0000000400000000000000a),(7,0x4),(8,0x3ff00000040000000000000002),(9,0x4),(10,0x3ff00002000000000000000002),(11,0x4),(12,0x3ff00000000000000000000012),(13,0x3ff00040000000000000000012),(14,0x3ff00000000000000000000012),(15,0x7ff00000000000000000000012),(16,0x4),(17,0x4)],maskAt [(1,48),(2,2),(4,46),(5,82),(6,47),(8,52),(10,65),(12,57),(14,64),(16,68),(18,72),(20,73),(22,80),(24,81),(26,86),(28,114),(30,91),(32,113),(34,117)],noSort⟩
theorem R_s (a:C') (c:Int) (kn:St->Option R) (kx:Nat->St->Option R) (kr:V->Option R) (n:Nat) (d:Int) :
    loopN C_0 0 (loopAt Tryz.f31 0) (E_d a c) kn kx kr (n+1) (E_d a d) =
    H_M a d (fun b=>loopN C_0 0 (loopAt Tryz.f31 0) (E_d a c) kn kx kr n (E_d a b)) (fun b=>kn (E_d a b)) kr:=by kernel_rfl
theorem K_S (a:C') (d:Int) (kn:St->Option R) (kx:Nat->St->Option R) (kr:V->Option R):∀ (n:Nat) (b:Int),
    C_r a n b (fun c=>kn (E_d a c)) kr=loopN C_0 0 (loopAt Tryz.f31 0) (E_d a d) kn kx kr n (E_d a b)
  | 0,_=>rfl
  | n+1,b=>by
    rw [R_s,C_r]
    congr 1
    funext c
    exact K_S a d kn kx kr n c
theorem W_D {rest} (h:GoodL (R:=R) C_0 0 (loopAt Tryz.f31 0) rest):GoodL (R:=R) C_0 0 (loopAt Tryz.f31 0) (loopAlt F_R H_N rest):=by
  refine goodL_alt (fun l kn kx kr r h=>?_) h
  unfold H_N at h
  split at h
  · rename_i a b c d e f g i j m o p q s t u v w y z
    exact ⟨_,(K_S (C'.mk b c d e f g i j (K'.mk m o p q s) t u v w y z) a kn kx kr _ a).symm.trans h⟩
  · cases h
theorem R_t (a:C') (c:Int) (kn:St->Option R) (kx:Nat->St->Option R) (kr:V->Option R) (n:Nat) (d:Int) :
    loopN C_0 2 (loopAt Tryz.f31 1) (E_e a c) kn kx kr (n+1) (E_e a d) =
    H_O a d (fun b=>loopN C_0 2 (loopAt Tryz.f31 1) (E_e a c) kn kx kr n (E_e a b)) (fun b=>kn (E_e a b)) kr:=by kernel_rfl
theorem K_T (a:C') (d:Int) (kn:St->Option R) (kx:Nat->St->Option R) (kr:V->Option R):∀ (n:Nat) (b:Int),
    C_s a n b (fun c=>kn (E_e a c)) kr=loopN C_0 2 (loopAt Tryz.f31 1) (E_e a d) kn kx kr n (E_e a b)
  | 0,_=>rfl
  | n+1,b=>by
    rw [R_t,C_s]
    congr 1
    funext c
    exact K_T a d kn kx kr n c
theorem W_E {rest} (h:GoodL (R:=R) C_0 2 (loopAt Tryz.f31 1) rest):GoodL (R:=R) C_0 2 (loopAt Tryz.f31 1) (loopAlt F_S H_P rest):=by
  refine goodL_alt (fun l kn kx kr r h=>?_) h
  unfold H_P at h
  split at h
  · rename_i a b c d e f g i j m o p q s t u v w y z
    exact ⟨_,(K_T (C'.mk b c d e f g i j (K'.mk m o p q s) t u v w y z) a kn kx kr _ a).symm.trans h⟩
  · cases h
theorem c_W:GoodLoop (R:=R) C_0 0 (loopAt Tryz.f31 0):=goodL_loop (g:=loopAlt F_R H_N loopNil) (fun _ _ _ _=>rfl) (W_D goodL_nil)
theorem c_X:GoodLoop (R:=R) C_0 2 (loopAt Tryz.f31 1):=goodL_loop (g:=loopAlt F_S H_P loopNil) (fun _ _ _ _=>rfl) (W_E goodL_nil)
noncomputable def P_T (a:C') (k:V->Option R):Option R:=let b:=P_L a.Levels 0 5;bif ((!b)==false) then let c:=P_L a.BlockX 2 6;bif ((!c)==false) then let d:=P_L a.BlockY 2 6;bif ((!d)==false) then let e:=P_L a.Layers 1 16;bif ((!e)==false) then let f:=P_L a.Dead 8 32;bif ((!f)==false) then let g:=P_L a.Shift 0 30;bif ((!g)==false) then let i:=(((List.length a.Steps):Nat):Int);let j:=IntKind.wrap .i64 (3*a.Levels);let m:=IntKind.wrap .i64 (j+1);bif (i != m) then k (V.bool false) else C_r a (N_j 0 a) 0 (fun r=>let o:=(((List.length a.Precincts):Nat):Int);bif (o==0) then k (V.bool true) else let p:=(((List.length a.Precincts):Nat):Int);let q:=IntKind.wrap .i64 (a.Levels+1);bif (p != q) then k (V.bool false) else C_s a (N_k 0 a) 0 (fun s=>k (V.bool true)) k) k else k (V.bool false) else k (V.bool false) else k (V.bool false) else k (V.bool false) else k (V.bool false) else k (V.bool false)
abbrev p_D (a:C'):List V:=[(C'.v a)]
theorem W_F (a:C') (k:V->Option R):fnK C_0 Tryz.f31 (p_D a) k=P_T a k:=by kernel_rfl
theorem v_k (h_M7:m_p) (h:∀ (a:C'),Real (p_D a)->P_T a some=some (V.bool (r_X a))):n_i:=goodHook1 fun l hp=>by
  unfold n_h at hp
  split at hp
  · rename_i b d f g i j m o p q r s t u v w y z A
    exact fn_ok (fn:=Tryz.f31) (c:=bodyOf Tryz.f31) (E:=C_0) ⟨by kernel_rfl,(goodCons h_M7 goodNil),rfl,M'⟩ rfl (by kernel_rfl) (by kernel_rfl) (by kernel_rfl) (loopsOK_of _ (by have e:loopsOf (bodyOf Tryz.f31)=[(0,loopAt Tryz.f31 0),(2,loopAt Tryz.f31 1)]:=(by kernel_rfl);rw [e];simp only [List.forall_mem_cons,List.not_mem_nil,false_implies,implies_true,and_true];exact ⟨c_W,c_X⟩)) (fun hr=>(W_F (C'.mk b d f g i j m o (K'.mk p q r s t) u v w y z A) some).trans (h (C'.mk b d f g i j m o (K'.mk p q r s t) u v w y z A) hr))
  · cases hp
noncomputable def h_2:Env R:=⟨Tryz.prog,callNil,fun _ _ _ _ _=>none,Tryz.f60.results.toList,maskTab 30 [(0,0xf16),(1,0x1016),(2,0x10),(3,0x20016),(4,0x10),(5,0x800016),(6,0x10),(7,0x10)],maskAt [(2,2),(4,10),(6,12),(8,16),(10,18),(12,23),(14,25)],noSort⟩
noncomputable def c_Y (a:C') (b:Int) (k:V->Option R):Option R:=let c:=decide (b<0);let d:=decide (b > a.Levels);let e:Bool:=(bif c then true else d);bif e then k (V.agg [(V.int .i64 0),(V.int .i64 0)]) else let f:=(((List.length a.Precincts):Nat):Int);bif (f==0) then k (V.agg [(V.int .i64 12),(V.int .i64 12)]) else let g:=(((List.length a.Precincts):Nat):Int);bif (decide (b >= g)) then k (V.agg [(V.int .i64 0),(V.int .i64 0)]) else bif (inR b (List.length a.Precincts)) then let i:=List.getD a.Precincts (Int.toNat b) [];let j:=X'.of i;k (X'.v j) else none
abbrev v_l (a:C') (b:Int):List V:=[(C'.v a),V.int .i64 b]
theorem W_G (a:C') (b:Int) (k:V->Option R):fnK h_2 Tryz.f60 (v_l a b) k=c_Y a b k:=by kernel_rfl
theorem v_m (a:C') (b:Int):h_l a b=true->c_Y a b some=some ((fun (m:X')=>(X'.v m)) (Q_q a b)):=by
  repeat' (first | exact fun _=>rfl | exact fun h=>absurd h (by decide) | refine B_b (v:=(fun (m:X')=>(X'.v m))) ?_ ?_)
theorem W_H:f_W:=goodHook1 fun l hp=>by
  unfold n_j at hp
  split at hp
  · rename_i a b d f g i j m o q r s t u v w y z A B
    exact fn_ok (fn:=Tryz.f60) (c:=bodyOf Tryz.f60) (E:=h_2) ⟨by kernel_rfl,goodNil,rfl,M'⟩ rfl (by kernel_rfl) (by kernel_rfl) (by kernel_rfl) (loopsOK_of _ (by have e:loopsOf (bodyOf Tryz.f60)=[]:=(by kernel_rfl);rw [e];intro p hp;cases hp)) (fun hr=>(W_G (C'.mk a b d f g i j m (K'.mk o q r s t) u v w y z A) B some).trans (v_m (C'.mk a b d f g i j m (K'.mk o q r s t) u v w y z A) B (r_1 (C'.mk a b d f g i j m (K'.mk o q r s t) u v w y z A) B)))
  · cases hp
end Go.Vm
