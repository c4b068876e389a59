import Derived.Test.YtnfkgnigkdkniaaGreatWM
set_option linter.unusedVariables false
set_option linter.unusedSimpArgs false
set_option maxRecDepth 100000
noncomputable section
namespace Go.Vm
open Go.Proofs
variable {R:Type}
noncomputable def D_w:ST:=⟨.undef::.ptr 0 0 0::.ptr 1 0 0::.ptr 2 0 0::A_j 7 (.lit .i64 0::A_j 33 []),[(0,.var F'.sh false [.int .i64,.int .i64,.int .i64,.int .i64]),(1,.var A_f.sh false [.lit .i64 0,.lit .i64 0,.lit .i64 0,.lit .i64 0,.lit .i64 0,.lit .i64 0,.lit .i64 0,.lit .i64 0,.lit .i64 0,.lit .i64 0,.lit .i64 0,.lit .i64 0,.lit .i64 0,.lit .i64 0,.lit .i64 0,.lit .i64 0]),(2,.var A_f.sh false [.lit .i64 0,.lit .i64 0,.lit .i64 0,.lit .i64 0,.lit .i64 0,.lit .i64 0,.lit .i64 0,.lit .i64 0,.lit .i64 0,.lit .i64 0,.lit .i64 0,.lit .i64 0,.lit .i64 0,.lit .i64 0,.lit .i64 0,.lit .i64 0])],9⟩
noncomputable def d_C (a:F') (kn:St->Option R) (kr:V->Option R):Option R:=let f:=intBits .and .i64 0 1;let b:=IntKind.wrap .i64 (1-f);let g:=IntKind.wrap .i64 (a.X0+b);let i:=IntKind.wrap .i64 (Int.tdiv g 2);let j:=IntKind.wrap .i64 (a.Y0+1);let m:=IntKind.wrap .i64 (Int.tdiv j 2);let o:=IntKind.wrap .i64 (a.X1+b);let p:=IntKind.wrap .i64 (Int.tdiv o 2);let q:=IntKind.wrap .i64 (a.Y1+1);let r:=IntKind.wrap .i64 (Int.tdiv q 2);let s:=intBits .and .i64 1 1;let c:=IntKind.wrap .i64 (1-s);let t:=IntKind.wrap .i64 (a.X0+c);let u:=IntKind.wrap .i64 (Int.tdiv t 2);let v:=IntKind.wrap .i64 (a.Y0+1);let w:=IntKind.wrap .i64 (Int.tdiv v 2);let y:=IntKind.wrap .i64 (a.X1+c);let z:=IntKind.wrap .i64 (Int.tdiv y 2);let A:=IntKind.wrap .i64 (a.Y1+1);let B:=IntKind.wrap .i64 (Int.tdiv A 2);let D:=intBits .and .i64 2 1;let d:=IntKind.wrap .i64 (1-D);let E:=IntKind.wrap .i64 (a.X0+d);let F:=IntKind.wrap .i64 (Int.tdiv E 2);let H:=IntKind.wrap .i64 (a.Y0+0);let I:=IntKind.wrap .i64 (Int.tdiv H 2);let J:=IntKind.wrap .i64 (a.X1+d);let K:=IntKind.wrap .i64 (Int.tdiv J 2);let L:=IntKind.wrap .i64 (a.Y1+0);let M:=IntKind.wrap .i64 (Int.tdiv L 2);let N:=intBits .and .i64 3 1;let e:=IntKind.wrap .i64 (1-N);let O:=IntKind.wrap .i64 (a.X0+e);let Q:=IntKind.wrap .i64 (Int.tdiv O 2);let S:=IntKind.wrap .i64 (a.Y0+0);let U:=IntKind.wrap .i64 (Int.tdiv S 2);let W:=IntKind.wrap .i64 (a.X1+e);let X:=IntKind.wrap .i64 (Int.tdiv W 2);let Y:=IntKind.wrap .i64 (a.Y1+0);let Z:=IntKind.wrap .i64 (Int.tdiv Y 2);kn ⟨[V.undef,(V.ptr 0 (0:Nat) 0),(V.ptr 1 (0:Nat) 0),(V.ptr 2 (0:Nat) 0),V.undef,V.undef,V.undef,V.undef,V.undef,V.undef,V.undef,(V.int .i64 4),V.undef,V.undef,V.undef,V.undef,V.undef,V.undef,V.undef,V.undef,V.undef,V.undef,V.undef,V.undef,V.undef,V.undef,V.undef,V.undef,V.undef,V.undef,V.undef,V.undef,V.undef,V.undef,V.undef,V.undef,V.undef,V.undef,V.undef,V.undef,V.undef,V.undef,V.undef,V.undef,V.undef],[(0,⟨false,F'.sh,[(F'.row a)],false⟩),(1,⟨false,A_f.sh,[[(V.int .i64 0),(V.int .i64 0),(V.int .i64 0),(V.int .i64 0),(V.int .i64 0),(V.int .i64 0),(V.int .i64 0),(V.int .i64 0),(V.int .i64 0),(V.int .i64 0),(V.int .i64 0),(V.int .i64 0),(V.int .i64 0),(V.int .i64 0),(V.int .i64 0),(V.int .i64 0)]],false⟩),(2,⟨false,A_f.sh,[[V.int .i64 i,V.int .i64 m,V.int .i64 p,V.int .i64 r,V.int .i64 u,V.int .i64 w,V.int .i64 z,V.int .i64 B,V.int .i64 F,V.int .i64 I,V.int .i64 K,V.int .i64 M,V.int .i64 Q,V.int .i64 U,V.int .i64 X,V.int .i64 Z]],false⟩)],9⟩
noncomputable def I_h:LoopG R:=fun l kn _ kr=>match l with
  | .i a::.i b::.i c::.i d::[]=>d_C (F'.mk a b c d) kn kr
  | _=>none
noncomputable def O_0:Env R:=⟨Tryz.prog,callCons 37 c_G callNil,fun id=>bif Nat.beq id 0 then loopAlt D_w I_h loopNil else (fun _ _ _ _ _=>none) id,Tryz.f80.results.toList,maskTab 45 [(0,0x6),(1,0xe),(2,0x20e),(3,0x4),(4,0x80e),(5,0x180e),(6,0x81e),(7,0x87e),(8,0x80e),(9,0x80e),(10,0x4)],maskAt [(1,9),(2,2),(4,3),(6,6),(8,8),(10,13),(12,14),(14,16),(16,24),(18,48),(20,50)],noSort⟩
theorem X_Q (a:F') (kn:St->Option R) (kx:Nat->St->Option R) (kr:V->Option R):loopN O_0 0 (loopAt Tryz.f80 0) (D_w.put [.i a.X0,.i a.Y0,.i a.X1,.i a.Y1]) kn kx kr 5 (D_w.put [.i a.X0,.i a.Y0,.i a.X1,.i a.Y1])=d_C a kn kr:=by kernel_rfl
theorem X_R {rest} (h:GoodL (R:=R) O_0 0 (loopAt Tryz.f80 0) rest):GoodL (R:=R) O_0 0 (loopAt Tryz.f80 0) (loopAlt D_w I_h rest):=by
  refine goodL_alt (fun l kn kx kr r h=>?_) h
  unfold I_h at h
  split at h
  · rename_i a b c d
    exact ⟨5,(X_Q (F'.mk a b c d) kn kx kr).trans h⟩
  · cases h
theorem d_D:GoodLoop (R:=R) O_0 0 (loopAt Tryz.f80 0):=goodL_loop (g:=loopAlt D_w I_h loopNil) (fun _ _ _ _=>rfl) (X_R goodL_nil)
noncomputable def d_E (a:F') (k:V->Option R):Option R:=let f:=A_3 a;bif (!f) then k (V.agg [(V.int .i64 0),(V.int .i64 0),(V.int .i64 0),(V.int .i64 0),(V.int .i64 0),(V.int .i64 0),(V.int .i64 0),(V.int .i64 0),(V.int .i64 0),(V.int .i64 0),(V.int .i64 0),(V.int .i64 0),(V.int .i64 0),(V.int .i64 0),(V.int .i64 0),(V.int .i64 0)]) else let g:=intBits .and .i64 0 1;let b:=IntKind.wrap .i64 (1-g);let i:=IntKind.wrap .i64 (a.X0+b);let j:=IntKind.wrap .i64 (Int.tdiv i 2);let m:=IntKind.wrap .i64 (a.Y0+1);let o:=IntKind.wrap .i64 (Int.tdiv m 2);let p:=IntKind.wrap .i64 (a.X1+b);let q:=IntKind.wrap .i64 (Int.tdiv p 2);let r:=IntKind.wrap .i64 (a.Y1+1);let s:=IntKind.wrap .i64 (Int.tdiv r 2);let t:=intBits .and .i64 1 1;let c:=IntKind.wrap .i64 (1-t);let u:=IntKind.wrap .i64 (a.X0+c);let v:=IntKind.wrap .i64 (Int.tdiv u 2);let w:=IntKind.wrap .i64 (a.Y0+1);let y:=IntKind.wrap .i64 (Int.tdiv w 2);let z:=IntKind.wrap .i64 (a.X1+c);let A:=IntKind.wrap .i64 (Int.tdiv z 2);let B:=IntKind.wrap .i64 (a.Y1+1);let D:=IntKind.wrap .i64 (Int.tdiv B 2);let E:=intBits .and .i64 2 1;let d:=IntKind.wrap .i64 (1-E);let F:=IntKind.wrap .i64 (a.X0+d);let H:=IntKind.wrap .i64 (Int.tdiv F 2);let I:=IntKind.wrap .i64 (a.Y0+0);let J:=IntKind.wrap .i64 (Int.tdiv I 2);let K:=IntKind.wrap .i64 (a.X1+d);let L:=IntKind.wrap .i64 (Int.tdiv K 2);let M:=IntKind.wrap .i64 (a.Y1+0);let N:=IntKind.wrap .i64 (Int.tdiv M 2);let O:=intBits .and .i64 3 1;let e:=IntKind.wrap .i64 (1-O);let Q:=IntKind.wrap .i64 (a.X0+e);let S:=IntKind.wrap .i64 (Int.tdiv Q 2);let U:=IntKind.wrap .i64 (a.Y0+0);let W:=IntKind.wrap .i64 (Int.tdiv U 2);let X:=IntKind.wrap .i64 (a.X1+e);let Y:=IntKind.wrap .i64 (Int.tdiv X 2);let Z:=IntKind.wrap .i64 (a.Y1+0);let a0:=IntKind.wrap .i64 (Int.tdiv Z 2);k (V.agg [V.int .i64 j,V.int .i64 o,V.int .i64 q,V.int .i64 s,V.int .i64 v,V.int .i64 y,V.int .i64 A,V.int .i64 D,V.int .i64 H,V.int .i64 J,V.int .i64 L,V.int .i64 N,V.int .i64 S,V.int .i64 W,V.int .i64 Y,V.int .i64 a0])
abbrev w_f (a:F'):List V:=[(F'.v a)]
theorem X_S (a:F') (k:V->Option R):fnK O_0 Tryz.f80 (w_f a) k=d_E a k:=by kernel_rfl
theorem w_g (a:F'):d_E a some=some ((fun (m:A_f)=>(A_f.v m)) (V_1 a)):=by
  repeat' (first | rfl | refine A_t (v:=(fun (m:A_f)=>(A_f.v m))) ?_ ?_)
theorem X_T (h_K0:T_S):n_0:=goodHook1 fun l hp=>by
  unfold n_Z at hp
  split at hp
  · rename_i a b d f
    exact fn_ok (fn:=Tryz.f80) (c:=bodyOf Tryz.f80) (E:=O_0) ⟨by kernel_rfl,(goodCons h_K0 goodNil),rfl,M'⟩ rfl (by kernel_rfl) (by kernel_rfl) (by kernel_rfl) (loopsOK_of _ (by have e:loopsOf (bodyOf Tryz.f80)=[(0,loopAt Tryz.f80 0)]:=(by kernel_rfl);rw [e];simp only [List.forall_mem_cons,List.not_mem_nil,false_implies,implies_true,and_true];exact d_D)) (fun hr=>(X_S (F'.mk a b d f) some).trans (w_g (F'.mk a b d f)))
  · cases hp
noncomputable def i_o:Env R:=⟨Tryz.prog,callCons 77 n_T callNil,fun _ _ _ _ _=>none,Tryz.f78.results.toList,maskTab 9 [(0,0x1),(1,0x21),(2,0x4),(3,0x4)],maskAt [(2,1),(4,4),(6,5)],noSort⟩
noncomputable def d_F (a:Int) (k:V->Option R):Option R:=let b:=M_v a;bif (!b) then k (V.int .i64 0) else let c:=IntKind.wrap .i64 (3*a);let d:=IntKind.wrap .i64 (c+1);k (V.int .i64 d)
abbrev w_h (a:Int):List V:=[V.int .i64 a]
theorem X_U (a:Int) (k:V->Option R):fnK i_o Tryz.f78 (w_h a) k=d_F a k:=by kernel_rfl
theorem w_i (a:Int):d_F a some=some ((fun (m:Int)=>(V.int .i64 m)) (V_e a)):=by
  repeat' (first | rfl | refine A_t (v:=(fun (m:Int)=>(V.int .i64 m))) ?_ ?_)
theorem X_V (h_A5:k_x):n_2:=goodHook1 fun l hp=>by
  unfold n_1 at hp
  split at hp
  · rename_i a
    exact fn_ok (fn:=Tryz.f78) (c:=bodyOf Tryz.f78) (E:=i_o) ⟨by kernel_rfl,(goodCons h_A5 goodNil),rfl,M'⟩ rfl (by kernel_rfl) (by kernel_rfl) (by kernel_rfl) (loopsOK_of _ (by have e:loopsOf (bodyOf Tryz.f78)=[]:=(by kernel_rfl);rw [e];intro p hp;cases hp)) (fun hr=>(X_U a some).trans (w_i a))
  · cases hp
noncomputable def i_p:Env R:=⟨Tryz.prog,callCons 78 t_i callNil,fun _ _ _ _ _=>none,Tryz.f128.results.toList,maskTab 31 [(0,0x7803),(1,0x8003),(2,0x70),(3,0x20003),(4,0x70),(5,0x83),(6,0x70)],maskAt [(2,3),(4,11),(6,14),(8,16),(10,20),(12,24)],noSort⟩
noncomputable def d_G (a b:Int) (k:V->Option R):Option R:=let d:=decide (a<0);bif (d==false) then let e:=V_e b;bif (decide (a >= e)) then k (V.tup [(V.int .i64 0),(V.int .i64 0),V.bool false]) else bif (a==0) then k (V.tup [V.int .i64 b,(V.int .i64 0),V.bool true]) else let f:=IntKind.wrap .i64 (a+2);let c:=IntKind.wrap .i64 (Int.tdiv f 3);let g:=IntKind.wrap .i64 (b-c);let i:=IntKind.wrap .i64 (g+1);let j:=IntKind.wrap .i64 (3*c);let m:=IntKind.wrap .i64 (a-j);let o:=IntKind.wrap .i64 (m+3);k (V.tup [V.int .i64 i,V.int .i64 o,V.bool true]) else k (V.tup [(V.int .i64 0),(V.int .i64 0),V.bool false])
abbrev w_j (a b:Int):List V:=[V.int .i64 a,V.int .i64 b]
theorem X_W (a b:Int) (k:V->Option R):fnK i_p Tryz.f128 (w_j a b) k=d_G a b k:=by kernel_rfl
theorem w_k (a b:Int):d_G a b some=some ((fun (m:Int × Int × Bool)=>(V.tup [V.int .i64 m.1,V.int .i64 m.2.1,V.bool m.2.2])) (O_c a b)):=by
  repeat' (first | rfl | refine A_t (v:=(fun (m:Int × Int × Bool)=>(V.tup [V.int .i64 m.1,V.int .i64 m.2.1,V.bool m.2.2]))) ?_ ?_)
theorem X_X (h_E2:n_2):q_1:=goodHook1 fun l hp=>by
  unfold n_3 at hp
  split at hp
  · rename_i a b
    exact fn_ok (fn:=Tryz.f128) (c:=bodyOf Tryz.f128) (E:=i_p) ⟨by kernel_rfl,(goodCons h_E2 goodNil),rfl,M'⟩ rfl (by kernel_rfl) (by kernel_rfl) (by kernel_rfl) (loopsOK_of _ (by have e:loopsOf (bodyOf Tryz.f128)=[]:=(by kernel_rfl);rw [e];intro p hp;cases hp)) (fun hr=>(X_W a b some).trans (w_k a b))
  · cases hp
noncomputable def i_q:Env R:=⟨Tryz.prog,callCons 37 c_G (callCons 79 m_y (callCons 80 t_g (callCons 128 t_k callNil))),fun _ _ _ _ _=>none,Tryz.f105.results.toList,maskTab 40 [(0,0x70004e),(1,0x7003ce),(2,0x8001ce),(3,0x40),(4,0x40001ca),(5,0x40),(6,0x40)],maskAt [(2,2),(4,12),(6,19),(8,21),(10,23),(12,27)],noSort⟩
noncomputable def d_H (d:F') (c e:Int) (k:V->Option R):Option R:=let b:=O_c e c;bif ((!b.2.2)==false) then let f:=A_3 d;bif (!f) then k (V.agg [(V.int .i64 0),(V.int .i64 0),(V.int .i64 0),(V.int .i64 0)]) else bif (e==0) then let g:=F_h d c 0;k (F'.v g) else let i:=IntKind.wrap .i64 (c-b.1);let j:=IntKind.wrap .i64 (i+1);let m:=F_h d c j;let a:=V_1 m;bif (true&&(inR b.2.1 (4:Nat))) then let o:Int:=(bif (decide (b.2.1=((0:Nat):Int))) then a.e0.X0 else (bif (decide (b.2.1=((1:Nat):Int))) then a.e1.X0 else (bif (decide (b.2.1=((2:Nat):Int))) then a.e2.X0 else a.e3.X0)));let p:Int:=(bif (decide (b.2.1=((0:Nat):Int))) then a.e0.Y0 else (bif (decide (b.2.1=((1:Nat):Int))) then a.e1.Y0 else (bif (decide (b.2.1=((2:Nat):Int))) then a.e2.Y0 else a.e3.Y0)));let q:Int:=(bif (decide (b.2.1=((0:Nat):Int))) then a.e0.X1 else (bif (decide (b.2.1=((1:Nat):Int))) then a.e1.X1 else (bif (decide (b.2.1=((2:Nat):Int))) then a.e2.X1 else a.e3.X1)));let r:Int:=(bif (decide (b.2.1=((0:Nat):Int))) then a.e0.Y1 else (bif (decide (b.2.1=((1:Nat):Int))) then a.e1.Y1 else (bif (decide (b.2.1=((2:Nat):Int))) then a.e2.Y1 else a.e3.Y1)));k (V.agg [V.int .i64 o,V.int .i64 p,V.int .i64 q,V.int .i64 r]) else none else k (V.agg [(V.int .i64 0),(V.int .i64 0),(V.int .i64 0),(V.int .i64 0)])
abbrev w_l (a:F') (b c:Int):List V:=[(F'.v a),V.int .i64 b,V.int .i64 c]
theorem X_Y (a:F') (b c:Int) (k:V->Option R):fnK i_q Tryz.f105 (w_l a b c) k=d_H a b c k:=by kernel_rfl
theorem w_m (a:F') (b c:Int):h_o a b c=true->d_H a b c some=some ((fun (m:F')=>(F'.v m)) (Q_r a b c)):=by
  repeat' (first | exact fun _=>rfl | exact fun h=>absurd h (by decide) | refine B_b (v:=(fun (m:F')=>(F'.v m))) ?_ ?_)
theorem X_Z (h_K0:T_S) (h_A8:g_y) (h_K4:n_0) (h_E5:q_1):n_5:=goodHook1 fun l hp=>by
  unfold n_4 at hp
  split at hp
  · rename_i a b d f g i
    exact fn_ok (fn:=Tryz.f105) (c:=bodyOf Tryz.f105) (E:=i_q) ⟨by kernel_rfl,(goodCons h_K0 (goodCons h_A8 (goodCons h_K4 (goodCons h_E5 goodNil)))),rfl,M'⟩ rfl (by kernel_rfl) (by kernel_rfl) (by kernel_rfl) (loopsOK_of _ (by have e:loopsOf (bodyOf Tryz.f105)=[]:=(by kernel_rfl);rw [e];intro p hp;cases hp)) (fun hr=>(X_Y (F'.mk a b d f) g i some).trans (w_m (F'.mk a b d f) g i (r_8 (F'.mk a b d f) g i)))
  · cases hp
noncomputable def I_i (c d:Int) (e:Rows) (f g:Int) (i:Rows) (a b:Int) (j:C') (m o:F') (p q:Int):Nat:=Int.toNat (a-b)+1
noncomputable def I_j (t u:Int) (v:Rows) (w y:Int) (c:Rows) (f:Int) (a:C') (z g:F') (d e:Int) (b:Int) (again:Int->Option R) (kn:Int->Option R) (kr:V->Option R):Option R:=bif (decide (b<f)) then bif (inR b (List.length c)) then let i:=List.getD c (Int.toNat b) [];let j:=V.toInt (List.getD i 0 V.undef);let m:=Q_r g a.Levels j;let o:Int:=(bif (decide (d<a.BlockX)) then d else a.BlockX);let p:Int:=(bif (decide (e<a.BlockY)) then e else a.BlockY);let q:=V_d m o p;let r:=decide (q > 65536);bif r then kr (V.bool false) else let s:=IntKind.wrap .i64 (b+1);again s else none else kn b
noncomputable def B_T (a b:Int) (c:Rows) (d e:Int) (f:Rows) (g:Int) (i:C') (j m:F') (o p:Int):Nat->Int->(Int->Option R)->(V->Option R)->Option R
  | 0,_,_,_=>none
  | n+1,q,kn,kr=>I_j a b c d e f g i j m o p q (fun r=>B_T a b c d e f g i j m o p n r kn kr) kn kr
noncomputable def F_7:ST:=⟨A_j 4 (.ptr 1 0 0::.ptr 2 0 0::.undef::.int .i64::.undef::.undef::.ptr 24 0 0::.int .i64::.ptr 38 0 0::A_j 3 (.data H'.sh::.int .i64::.int .i64::A_j 46 (.data [.int .i64]::.int .i64::.int .i64::A_j 24 []))),[(1,.var C'.sh false C'.ts),(2,.var F'.sh false F'.ts),(24,.var F'.sh false F'.ts),(38,.var U'.sh false U'.ts)],74⟩
noncomputable def E_t (d e:Int) (f:Rows) (g i:Int) (j:Rows) (m:Int) (a:C') (b c:F') (o p:Int) (q:Int):St:=F_7.put [.i d,.i e,.r f,.i g,.i i,.r j,.i m,.i q,.i a.Kernel,.i a.Levels,.i a.Color,.i a.BlockX,.i a.BlockY,.r a.Precincts,.i a.Order,.i a.Layers,.b a.Mode.Bypass,.b a.Mode.Restart,.b a.Mode.Reset,.b a.Mode.Causal,.b a.Mode.Symbols,.b a.Divide,.b a.Sync,.b a.Fence,.r a.Steps,.i a.Dead,.i a.Shift,.i b.X0,.i b.Y0,.i b.X1,.i b.Y1,.i c.X0,.i c.Y0,.i c.X1,.i c.Y1,.i o,.i p]
noncomputable def I_k:LoopG R:=fun l kn _ kr=>match l with
  | .i a::.i b::.r c::.i d::.i e::.r f::.i g::.i U::.i i::.i j::.i m::.i o::.i p::.r q::.i r::.i s::.b t::.b u::.b v::.b w::.b y::.b z::.b A::.b B::.r D::.i E::.i F::.i H::.i I::.i J::.i K::.i L::.i M::.i N::.i O::.i Q::.i S::[]=>B_T a b c d e f g (C'.mk i j m o p q r s (K'.mk t u v w y) z A B D E F) (F'.mk H I J K) (F'.mk L M N O) Q S (I_i a b c d e f g U (C'.mk i j m o p q r s (K'.mk t u v w y) z A B D E F) (F'.mk H I J K) (F'.mk L M N O) Q S) U (fun W=>kn (E_t a b c d e f g (C'.mk i j m o p q r s (K'.mk t u v w y) z A B D E F) (F'.mk H I J K) (F'.mk L M N O) Q S W)) kr
  | _=>none
noncomputable def N_q (c a:Int) (d:Rows) (e f:Int) (b:C') (g i:F'):Nat:=let j:=decide (a<=b.Levels);Int.toNat (b.Levels-a)+2
noncomputable def I_l (f:Rows) (g i:Int) (b:C') (j e:F') (p a:Int) (again:Int->Int->Option R) (kn:Int->Int->Option R) (kr:V->Option R):Option R:=let u:=decide (a<=b.Levels);bif u then let c:=A_X b a;let v:=F_h e b.Levels a;let w:=V_d v c.X c.Y;let y:=IntKind.wrap .i64 (w*b.Layers);let d:=IntKind.wrap .i64 (p+y);let z:=decide (a > 0);bif z then let q:=IntKind.wrap .i64 (c.X-1);let r:=IntKind.wrap .i64 (c.Y-1);let m:=O_M b.Levels a;let s:=(((List.length m):Nat):Int);B_T d a f g i m s b j e q r (I_i d a f g i m s 0 b j e q r) 0 (fun D=>let A:=IntKind.wrap .i64 (a+1);again d A) kr else let o:=O_M b.Levels a;let t:=(((List.length o):Nat):Int);B_T d a f g i o t b j e c.X c.Y (I_i d a f g i o t 0 b j e c.X c.Y) 0 (fun E=>let B:=IntKind.wrap .i64 (a+1);again d B) kr else kn p a
noncomputable def C_z (a:Rows) (b c:Int) (d:C') (e f:F'):Nat->Int->Int->(Int->Int->Option R)->(V->Option R)->Option R
  | 0,_,_,_,_=>none
  | n+1,g,i,kn,kr=>I_l a b c d e f g i (fun j m=>C_z a b c d e f n j m kn kr) kn kr
noncomputable def F_8:ST:=⟨A_j 4 (.ptr 1 0 0::.ptr 2 0 0::.undef::.int .i64::.undef::.undef::.ptr 24 0 0::.int .i64::A_j 4 (.data H'.sh::.int .i64::.int .i64::A_j 73 [])),[(1,.var C'.sh false C'.ts),(2,.var F'.sh false F'.ts),(24,.var F'.sh false F'.ts)],27⟩
noncomputable def E_u (d:Rows) (e f:Int) (a:C') (b c:F') (g i:Int):St:=F_8.put [.i g,.i i,.r d,.i e,.i f,.i a.Kernel,.i a.Levels,.i a.Color,.i a.BlockX,.i a.BlockY,.r a.Precincts,.i a.Order,.i a.Layers,.b a.Mode.Bypass,.b a.Mode.Restart,.b a.Mode.Reset,.b a.Mode.Causal,.b a.Mode.Symbols,.b a.Divide,.b a.Sync,.b a.Fence,.r a.Steps,.i a.Dead,.i a.Shift,.i b.X0,.i b.Y0,.i b.X1,.i b.Y1,.i c.X0,.i c.Y0,.i c.X1,.i c.Y1]
noncomputable def I_m:LoopG R:=fun l kn _ kr=>match l with
  | .i L::.i M::.r a::.i b::.i c::.i d::.i e::.i f::.i g::.i i::.r j::.i m::.i o::.b p::.b q::.b r::.b s::.b t::.b u::.b v::.b w::.r y::.i z::.i A::.i B::.i D::.i E::.i F::.i H::.i I::.i J::.i K::[]=>C_z a b c (C'.mk d e f g i j m o (K'.mk p q r s t) u v w y z A) (F'.mk B D E F) (F'.mk H I J K) (N_q L M a b c (C'.mk d e f g i j m o (K'.mk p q r s t) u v w y z A) (F'.mk B D E F) (F'.mk H I J K)) L M (fun N O=>kn (E_u a b c (C'.mk d e f g i j m o (K'.mk p q r s t) u v w y z A) (F'.mk B D E F) (F'.mk H I J K) N O)) kr
  | _=>none
noncomputable def R_P (c:Int) (d:Rows) (a b:Int) (e:C') (f:F'):Nat:=Int.toNat (a-b)+1
noncomputable def I_n (b:Rows) (c:Int) (f:C') (d:F') (e a:Int) (again:Int->Int->Option R) (kn:Int->Int->Option R) (kr:V->Option R):Option R:=bif (decide (a<c)) then bif (inR a (List.length b)) then let j:=List.getD b (Int.toNat a) [];let g:=H'.of j;let i:=D_j d g.DX g.DY;C_z b c a f d i (N_q e 0 b c a f d i) e 0 (fun m p=>let o:=IntKind.wrap .i64 (a+1);again m o) kr else none else kn e a
noncomputable def D_x (a:Rows) (b:Int) (c:C') (d:F'):Nat->Int->Int->(Int->Int->Option R)->(V->Option R)->Option R
  | 0,_,_,_,_=>none
  | n+1,e,f,kn,kr=>I_n a b c d e f (fun g i=>D_x a b c d n g i kn kr) kn kr
noncomputable def F_9:ST:=⟨A_j 4 (.ptr 1 0 0::.ptr 2 0 0::.undef::.int .i64::A_j 8 (.data H'.sh::.int .i64::.int .i64::A_j 73 [])),[(1,.var C'.sh false C'.ts),(2,.var F'.sh false F'.ts)],9⟩
noncomputable def E_v (c:Rows) (d:Int) (a:C') (b:F') (e f:Int):St:=F_9.put [.i e,.r c,.i d,.i f,.i a.Kernel,.i a.Levels,.i a.Color,.i a.BlockX,.i a.BlockY,.r a.Precincts,.i a.Order,.i a.Layers,.b a.Mode.Bypass,.b a.Mode.Restart,.b a.Mode.Reset,.b a.Mode.Causal,.b a.Mode.Symbols,.b a.Divide,.b a.Sync,.b a.Fence,.r a.Steps,.i a.Dead,.i a.Shift,.i b.X0,.i b.Y0,.i b.X1,.i b.Y1]
noncomputable def I_o:LoopG R:=fun l kn _ kr=>match l with
  | .i F::.r a::.i b::.i H::.i c::.i d::.i e::.i f::.i g::.r i::.i j::.i m::.b o::.b p::.b q::.b r::.b s::.b t::.b u::.b v::.r w::.i y::.i z::.i A::.i B::.i D::.i E::[]=>D_x a b (C'.mk c d e f g i j m (K'.mk o p q r s) t u v w y z) (F'.mk A B D E) (R_P F a b H (C'.mk c d e f g i j m (K'.mk o p q r s) t u v w y z) (F'.mk A B D E)) F H (fun I J=>kn (E_v a b (C'.mk c d e f g i j m (K'.mk o p q r s) t u v w y z) (F'.mk A B D E) I J)) kr
  | _=>none
noncomputable def B_o:Env R:=⟨Tryz.prog,callCons 40 k_m (callCons 79 m_y (callCons 102 n_W (callCons 103 y_U (callCons 104 t_e (callCons 105 t_m callNil))))),fun id=>bif Nat.beq id 4 then loopAlt F_7 I_k loopNil else (fun id=>bif Nat.beq id 2 then loopAlt F_8 I_m loopNil else (fun id=>bif Nat.beq id 0 then loopAlt F_9 I_o loopNil else (fun _ _ _ _ _=>none) id) id) id,Tryz.f67.results.toList,maskTab 92 [(0,0x38),(1,0xb8),(2,0x700b0),(3,0xf00b0),(4,0x702b0),(5,0x704b0),(6,0x70cb0),(7,0x80070cb0),(8,0x70cb0),(9,0x71cb0),(10,0x71cb0),(11,0x20000000071cb0),(12,0x71cb0),(13,0xe0000000000071cb0),(14,0x1e0000000000071cb0),(15,0xe0000000000075cb0),(16,0x80000e0000000000071cb0),(17,0x40),(18,0xe0000000000071cb0),(19,0x700b0),(20,0x40)],maskAt [(1,9),(2,4),(4,5),(5,27),(6,13),(8,14),(9,74),(10,18),(12,26),(14,31),(16,102),(18,35),(20,40),(22,56),(24,58),(26,68),(28,78),(30,79),(32,82),(34,99),(36,100),(38,105),(40,107)],noSort⟩
theorem R_Q (a b:Int) (c:Rows) (d e:Int) (f:Rows) (g:Int) (i:C') (j m:F') (o p:Int) (r:Int) (kn:St->Option R) (kx:Nat->St->Option R) (kr:V->Option R) (n:Nat) (s:Int) :
    loopN B_o 4 (loopAt Tryz.f67 2) (E_t a b c d e f g i j m o p r) kn kx kr (n+1) (E_t a b c d e f g i j m o p s) =
    I_j a b c d e f g i j m o p s (fun q=>loopN B_o 4 (loopAt Tryz.f67 2) (E_t a b c d e f g i j m o p r) kn kx kr n (E_t a b c d e f g i j m o p q)) (fun q=>kn (E_t a b c d e f g i j m o p q)) kr:=by kernel_rfl
theorem L_e (a b:Int) (c:Rows) (d e:Int) (f:Rows) (g:Int) (i:C') (j m:F') (o p:Int) (s:Int) (kn:St->Option R) (kx:Nat->St->Option R) (kr:V->Option R):∀ (n:Nat) (q:Int),
    B_T a b c d e f g i j m o p n q (fun r=>kn (E_t a b c d e f g i j m o p r)) kr=loopN B_o 4 (loopAt Tryz.f67 2) (E_t a b c d e f g i j m o p s) kn kx kr n (E_t a b c d e f g i j m o p q)
  | 0,_=>rfl
  | n+1,q=>by
    rw [R_Q,B_T]
    congr 1
    funext r
    exact L_e a b c d e f g i j m o p s kn kx kr n r
theorem X_0 {rest} (h:GoodL (R:=R) B_o 4 (loopAt Tryz.f67 2) rest):GoodL (R:=R) B_o 4 (loopAt Tryz.f67 2) (loopAlt F_7 I_k rest):=by
  refine goodL_alt (fun l kn kx kr r h=>?_) h
  unfold I_k at h
  split at h
  · rename_i b c d e f g i a j m o p q s t u v w y z A B D E F H I J K L M N O Q S U W
    exact ⟨_,(L_e b c d e f g i (C'.mk j m o p q s t u (K'.mk v w y z A) B D E F H I) (F'.mk J K L M) (F'.mk N O Q S) U W a kn kx kr _ a).symm.trans h⟩
  · cases h
theorem R_R (a:Rows) (b c:Int) (d:C') (e f:F') (j m:Int) (kn:St->Option R) (kx:Nat->St->Option R) (kr:V->Option R) (n:Nat) (o p:Int) :
    loopN B_o 2 (loopAt Tryz.f67 1) (E_u a b c d e f j m) kn kx kr (n+1) (E_u a b c d e f o p) =
    I_l a b c d e f o p (fun g i=>loopN B_o 2 (loopAt Tryz.f67 1) (E_u a b c d e f j m) kn kx kr n (E_u a b c d e f g i)) (fun g i=>kn (E_u a b c d e f g i)) kr:=by kernel_rfl
theorem L_f (a:Rows) (b c:Int) (d:C') (e f:F') (o p:Int) (kn:St->Option R) (kx:Nat->St->Option R) (kr:V->Option R):∀ (n:Nat) (g i:Int),
    C_z a b c d e f n g i (fun j m=>kn (E_u a b c d e f j m)) kr=loopN B_o 2 (loopAt Tryz.f67 1) (E_u a b c d e f o p) kn kx kr n (E_u a b c d e f g i)
  | 0,_,_=>rfl
  | n+1,g,i=>by
    rw [R_R,C_z]
    congr 1
    funext j m
    exact L_f a b c d e f o p kn kx kr n j m
theorem X_1 {rest} (h:GoodL (R:=R) B_o 2 (loopAt Tryz.f67 1) rest):GoodL (R:=R) B_o 2 (loopAt Tryz.f67 1) (loopAlt F_8 I_m rest):=by
  refine goodL_alt (fun l kn kx kr r h=>?_) h
  unfold I_m at h
  split at h
  · rename_i a b c d e f g i j m o p q s t u v w y z A B D E F H I J K L M N
    exact ⟨_,(L_f c d e (C'.mk f g i j m o p q (K'.mk s t u v w) y z A B D E) (F'.mk F H I J) (F'.mk K L M N) a b kn kx kr _ a b).symm.trans h⟩
  · cases h
theorem R_S (a:Rows) (b:Int) (c:C') (d:F') (g i:Int) (kn:St->Option R) (kx:Nat->St->Option R) (kr:V->Option R) (n:Nat) (j m:Int) :
    loopN B_o 0 (loopAt Tryz.f67 0) (E_v a b c d g i) kn kx kr (n+1) (E_v a b c d j m) =
    I_n a b c d j m (fun e f=>loopN B_o 0 (loopAt Tryz.f67 0) (E_v a b c d g i) kn kx kr n (E_v a b c d e f)) (fun e f=>kn (E_v a b c d e f)) kr:=by kernel_rfl
theorem L_g (a:Rows) (b:Int) (c:C') (d:F') (j m:Int) (kn:St->Option R) (kx:Nat->St->Option R) (kr:V->Option R):∀ (n:Nat) (e f:Int),
    D_x a b c d n e f (fun g i=>kn (E_v a b c d g i)) kr=loopN B_o 0 (loopAt Tryz.f67 0) (E_v a b c d j m) kn kx kr n (E_v a b c d e f)
  | 0,_,_=>rfl
  | n+1,e,f=>by
    rw [R_S,D_x]
    congr 1
    funext g i
    exact L_g a b c d j m kn kx kr n g i
theorem X_2 {rest} (h:GoodL (R:=R) B_o 0 (loopAt Tryz.f67 0) rest):GoodL (R:=R) B_o 0 (loopAt Tryz.f67 0) (loopAlt F_9 I_o rest):=by
  refine goodL_alt (fun l kn kx kr r h=>?_) h
  unfold I_o at h
  split at h
  · rename_i a c d b e f g i j m o p q s t u v w y z A B D E F H I
    exact ⟨_,(L_g c d (C'.mk e f g i j m o p (K'.mk q s t u v) w y z A B D) (F'.mk E F H I) a b kn kx kr _ a b).symm.trans h⟩
  · cases h
theorem d_I:GoodLoop (R:=R) B_o 0 (loopAt Tryz.f67 0):=goodL_loop (g:=loopAlt F_9 I_o loopNil) (fun _ _ _ _=>rfl) (X_2 goodL_nil)
theorem d_J:GoodLoop (R:=R) B_o 2 (loopAt Tryz.f67 1):=goodL_loop (g:=loopAlt F_8 I_m loopNil) (fun _ _ _ _=>rfl) (X_1 goodL_nil)
theorem d_K:GoodLoop (R:=R) B_o 4 (loopAt Tryz.f67 2):=goodL_loop (g:=loopAlt F_7 I_k loopNil) (fun _ _ _ _=>rfl) (X_0 goodL_nil)
noncomputable def T_Z (a:D') (b:C') (c:F') (k:V->Option R):Option R:=let d:=(((List.length a.Components):Nat):Int);D_x a.Components d b c (R_P 0 a.Components d 0 b c) 0 0 (fun e g=>let f:=decide (e<=65536);k (V.bool f)) k
abbrev p_O (a:D') (b:C') (c:F'):List V:=[(D'.v a),(C'.v b),(F'.v c)]
theorem X_3 (a:D') (b:C') (c:F') (k:V->Option R):fnK B_o Tryz.f67 (p_O a b c) k=T_Z a b c k:=by kernel_rfl
theorem w_n (h_I0:f_Y) (h_A8:g_y) (h_C8:k_A) (h_F9:q_0) (h_C1:m_z) (h_G9:n_5) (h:∀ (a:D') (b:C') (d:F'),O_N a b d=true->Real (p_O a b d)->T_Z a b d some=some (V.bool (M_w a b d))):n_7:=goodHook1 fun l hp=>by
  unfold n_6 at hp
  split at hp
  · rename_i f g i j m o p q r s t u v w y z A B D F H I J K L M N O Q S
    exact fn_ok (fn:=Tryz.f67) (c:=bodyOf Tryz.f67) (E:=B_o) ⟨by kernel_rfl,(goodCons h_I0 (goodCons h_A8 (goodCons h_C8 (goodCons h_F9 (goodCons h_C1 (goodCons h_G9 goodNil)))))),rfl,M'⟩ rfl (by kernel_rfl) (by kernel_rfl) (by kernel_rfl) (loopsOK_of _ (by have e:loopsOf (bodyOf Tryz.f67)=[(0,loopAt Tryz.f67 0),(2,loopAt Tryz.f67 1),(4,loopAt Tryz.f67 2)]:=(by kernel_rfl);rw [e];simp only [List.forall_mem_cons,List.not_mem_nil,false_implies,implies_true,and_true];exact ⟨d_I,d_J,d_K⟩)) (fun hr=>(X_3 (D'.mk (F'.mk f g i j) m o p) (C'.mk q r s t u v w y (K'.mk z A B D F) H I J K L M) (F'.mk N O Q S) some).trans (h (D'.mk (F'.mk f g i j) m o p) (C'.mk q r s t u v w y (K'.mk z A B D F) H I J K L M) (F'.mk N O Q S) hp hr))
  · cases hp
noncomputable def N_r (c:Rows) (a b:Int) (d:D') (e:C'):Nat:=Int.toNat (a-b)+1
noncomputable def I_p (b:Rows) (f:Int) (c:D') (d:C') (a:Int) (again:Int->Option R) (kn:Int->Option R) (kr:V->Option R):Option R:=bif (decide (a<f)) then bif (inR a (List.length b)) then let g:=List.getD b (Int.toNat a) [];let e:=F'.of g;bif (O_N c d e) then let i:=M_w c d e;bif (!i) then kr (V.int .i64 5) else let j:=IntKind.wrap .i64 (a+1);again j else none else none else kn a
noncomputable def C_A (a:Rows) (b:Int) (c:D') (d:C'):Nat->Int->(Int->Option R)->(V->Option R)->Option R
  | 0,_,_,_=>none
  | n+1,e,kn,kr=>I_p a b c d e (fun f=>C_A a b c d n f kn kr) kn kr
noncomputable def G_a:ST:=⟨.undef::.undef::.ptr 0 0 0::.ptr 1 0 0::A_j 38 (.data F'.sh::.int .i64::.int .i64::A_j 9 []),[(0,.var D'.sh false D'.ts),(1,.var C'.sh false C'.ts)],44⟩
noncomputable def E_w (c:Rows) (d:Int) (b:D') (a:C') (e:Int):St:=G_a.put [.r c,.i d,.i e,.i b.Area.X0,.i b.Area.Y0,.i b.Area.X1,.i b.Area.Y1,.i b.TileW,.i b.TileH,.r b.Components,.i a.Kernel,.i a.Levels,.i a.Color,.i a.BlockX,.i a.BlockY,.r a.Precincts,.i a.Order,.i a.Layers,.b a.Mode.Bypass,.b a.Mode.Restart,.b a.Mode.Reset,.b a.Mode.Causal,.b a.Mode.Symbols,.b a.Divide,.b a.Sync,.b a.Fence,.r a.Steps,.i a.Dead,.i a.Shift]
noncomputable def I_q:LoopG R:=fun l kn _ kr=>match l with
  | .r a::.i b::.i J::.i c::.i d::.i e::.i f::.i g::.i i::.r j::.i m::.i o::.i p::.i q::.i r::.r s::.i t::.i u::.b v::.b w::.b y::.b z::.b A::.b B::.b D::.b E::.r F::.i H::.i I::[]=>C_A a b (D'.mk (F'.mk c d e f) g i j) (C'.mk m o p q r s t u (K'.mk v w y z A) B D E F H I) (N_r a b J (D'.mk (F'.mk c d e f) g i j) (C'.mk m o p q r s t u (K'.mk v w y z A) B D E F H I)) J (fun K=>kn (E_w a b (D'.mk (F'.mk c d e f) g i j) (C'.mk m o p q r s t u (K'.mk v w y z A) B D E F H I) K)) kr
  | _=>none
noncomputable def L_h:Env R:=⟨Tryz.prog,callCons 41 q_Z (callCons 64 q_W (callCons 65 y_T (callCons 66 s_8 (callCons 67 y_V callNil)))),fun id=>bif Nat.beq id 0 then loopAlt G_a I_q loopNil else (fun _ _ _ _ _=>none) id,Tryz.f35.results.toList,maskTab 54 [(0,0x7cf8000c),(1,0x7cf8002c),(2,0x7cf8082c),(3,0x10),(4,0x8000000c),(5,0x10),(6,0x80000000c),(7,0x10),(8,0x1c000000000c),(9,0x3c000000000c),(10,0x1c000000008c),(11,0x101c000000000c),(12,0x10),(13,0x1c000000000c),(14,0x10)],maskAt [(1,44),(2,3),(4,6),(6,8),(8,10),(10,29),(12,30),(14,34),(16,35),(18,48),(20,49),(22,53),(24,58),(26,59),(28,61)],noSort⟩
theorem R_T (a:Rows) (b:Int) (c:D') (d:C') (f:Int) (kn:St->Option R) (kx:Nat->St->Option R) (kr:V->Option R) (n:Nat) (g:Int) :
    loopN L_h 0 (loopAt Tryz.f35 0) (E_w a b c d f) kn kx kr (n+1) (E_w a b c d g) =
    I_p a b c d g (fun e=>loopN L_h 0 (loopAt Tryz.f35 0) (E_w a b c d f) kn kx kr n (E_w a b c d e)) (fun e=>kn (E_w a b c d e)) kr:=by kernel_rfl
theorem L_i (a:Rows) (b:Int) (c:D') (d:C') (g:Int) (kn:St->Option R) (kx:Nat->St->Option R) (kr:V->Option R):∀ (n:Nat) (e:Int),
    C_A a b c d n e (fun f=>kn (E_w a b c d f)) kr=loopN L_h 0 (loopAt Tryz.f35 0) (E_w a b c d g) kn kx kr n (E_w a b c d e)
  | 0,_=>rfl
  | n+1,e=>by
    rw [R_T,C_A]
    congr 1
    funext f
    exact L_i a b c d g kn kx kr n f
theorem X_4 {rest} (h:GoodL (R:=R) L_h 0 (loopAt Tryz.f35 0) rest):GoodL (R:=R) L_h 0 (loopAt Tryz.f35 0) (loopAlt G_a I_q rest):=by
  refine goodL_alt (fun l kn kx kr r h=>?_) h
  unfold I_q at h
  split at h
  · rename_i b c a d e f g i j m o p q s t u v w y z A B D E F H I J K
    exact ⟨_,(L_i b c (D'.mk (F'.mk d e f g) i j m) (C'.mk o p q s t u v w (K'.mk y z A B D) E F H I J K) a kn kx kr _ a).symm.trans h⟩
  · cases h
theorem d_L:GoodLoop (R:=R) L_h 0 (loopAt Tryz.f35 0):=goodL_loop (g:=loopAlt G_a I_q loopNil) (fun _ _ _ _=>rfl) (X_4 goodL_nil)
noncomputable def P_Y (b:D') (a:C') (k:V->Option R):Option R:=let d:=F_t b;bif (d != 0) then k (V.int .i64 d) else bif (A_O 1 3 [[V.int .i64 a.Kernel]]) then let f:=K_F 1 3 [[V.int .i64 a.Kernel]];bif ((!f)==false) then bif (A_O 0 2 [[V.int .i64 a.Color]]) then let g:=K_F 0 2 [[V.int .i64 a.Color]];bif ((!g)==false) then bif (A_O 1 5 [[V.int .i64 a.Order]]) then let i:=K_F 1 5 [[V.int .i64 a.Order]];bif (!i) then k (V.int .i64 3) else let j:=b_H b a;bif (!j) then k (V.int .i64 13) else let c:=T_M b.Area b.TileW b.TileH;let e:=(((List.length c):Nat):Int);C_A c e b a (N_r c e 0 b a) 0 (fun m=>k (V.int .i64 0)) k else none else k (V.int .i64 3) else none else k (V.int .i64 3) else none
abbrev p_P (a:D') (b:C'):List V:=[(D'.v a),(C'.v b)]
theorem X_5 (a:D') (b:C') (k:V->Option R):fnK L_h Tryz.f35 (p_P a b) k=P_Y a b k:=by kernel_rfl
theorem w_o (h_F1:k_s) (h_E3:g_w) (h_D4:n_P) (h_I8:m_x) (h_C7:n_7) (h:∀ (a:D') (b:C'),Real (p_P a b)->P_Y a b some=some (V.int .i64 (G_Y a b))):m_A:=goodHook1 fun l hp=>by
  unfold n_8 at hp
  split at hp
  · rename_i d f g i j m o p q r s t u v w y z A B D F H I J K L
    exact fn_ok (fn:=Tryz.f35) (c:=bodyOf Tryz.f35) (E:=L_h) ⟨by kernel_rfl,(goodCons h_F1 (goodCons h_E3 (goodCons h_D4 (goodCons h_I8 (goodCons h_C7 goodNil))))),rfl,M'⟩ rfl (by kernel_rfl) (by kernel_rfl) (by kernel_rfl) (loopsOK_of _ (by have e:loopsOf (bodyOf Tryz.f35)=[(0,loopAt Tryz.f35 0)]:=(by kernel_rfl);rw [e];simp only [List.forall_mem_cons,List.not_mem_nil,false_implies,implies_true,and_true];exact d_L)) (fun hr=>(X_5 (D'.mk (F'.mk d f g i) j m o) (C'.mk p q r s t u v w (K'.mk y z A B D) F H I J K L) some).trans (h (D'.mk (F'.mk d f g i) j m o) (C'.mk p q r s t u v w (K'.mk y z A B D) F H I J K L) hr))
  · cases hp
noncomputable def i_r:Env R:=⟨Tryz.prog,callNil,fun _ _ _ _ _=>none,Tryz.f68.results.toList,maskTab 8 [(0,0x1),(1,0x11),(2,0x4),(3,0x4)],maskAt [(2,1),(4,3),(6,4)],noSort⟩
noncomputable def T_0 (a:Rows) (k:V->Option R):Option R:=match a with | []=>agree (k (V.data H'.sh [])) (bif (roomOK ((0:Nat)+(List.length a)) 32) then k (V.data H'.sh ([]++a)) else none) | _::_=>bif (roomOK ((0:Nat)+(List.length a)) 32) then k (V.data H'.sh ([]++a)) else none
abbrev p_Q (a:Rows):List V:=[V.data H'.sh a]
theorem X_6 (a:Rows) (k:V->Option R):fnK i_r Tryz.f68 (p_Q a) k=T_0 a k:=by cases a <;> kernel_rfl
theorem w_p (h:∀ (a:Rows),K_H a=true->Real (p_Q a)->T_0 a some=some (V.data H'.sh (m_V a))):q_3:=goodHook1 fun l hp=>by
  unfold n_9 at hp
  split at hp
  · rename_i b
    exact fn_ok (fn:=Tryz.f68) (c:=bodyOf Tryz.f68) (E:=i_r) ⟨by kernel_rfl,goodNil,rfl,M'⟩ rfl (by kernel_rfl) (by kernel_rfl) (by kernel_rfl) (loopsOK_of _ (by have e:loopsOf (bodyOf Tryz.f68)=[]:=(by kernel_rfl);rw [e];intro p hp;cases hp)) (fun hr=>(X_6 b some).trans (h b hp hr))
  · cases hp
noncomputable def i_s:Env R:=⟨Tryz.prog,callNil,fun _ _ _ _ _=>none,Tryz.f69.results.toList,maskTab 8 [(0,0x1),(1,0x11),(2,0x4),(3,0x4)],maskAt [(2,1),(4,3),(6,4)],noSort⟩
noncomputable def T_1 (a:Rows) (k:V->Option R):Option R:=match a with | []=>agree (k (V.data U'.sh [])) (bif (roomOK ((0:Nat)+(List.length a)) 16) then k (V.data U'.sh ([]++a)) else none) | _::_=>bif (roomOK ((0:Nat)+(List.length a)) 16) then k (V.data U'.sh ([]++a)) else none
abbrev p_R (a:Rows):List V:=[V.data U'.sh a]
theorem X_7 (a:Rows) (k:V->Option R):fnK i_s Tryz.f69 (p_R a) k=T_1 a k:=by cases a <;> kernel_rfl
theorem w_q (h:∀ (a:Rows),K_I a=true->Real (p_R a)->T_1 a some=some (V.data U'.sh (m_W a))):q_4:=goodHook1 fun l hp=>by
  unfold o_a at hp
  split at hp
  · rename_i b
    exact fn_ok (fn:=Tryz.f69) (c:=bodyOf Tryz.f69) (E:=i_s) ⟨by kernel_rfl,goodNil,rfl,M'⟩ rfl (by kernel_rfl) (by kernel_rfl) (by kernel_rfl) (loopsOK_of _ (by have e:loopsOf (bodyOf Tryz.f69)=[]:=(by kernel_rfl);rw [e];intro p hp;cases hp)) (fun hr=>(X_7 b some).trans (h b hp hr))
  · cases hp
noncomputable def i_t:Env R:=⟨Tryz.prog,callNil,fun _ _ _ _ _=>none,Tryz.f70.results.toList,maskTab 8 [(0,0x1),(1,0x11),(2,0x4),(3,0x4)],maskAt [(2,1),(4,3),(6,4)],noSort⟩
noncomputable def T_2 (a:Rows) (k:V->Option R):Option R:=match a with | []=>agree (k (V.data [.int .i64] [])) (bif (roomOK ((0:Nat)+(List.length a)) 8) then k (V.data [.int .i64] ([]++a)) else none) | _::_=>bif (roomOK ((0:Nat)+(List.length a)) 8) then k (V.data [.int .i64] ([]++a)) else none
abbrev p_S (a:Rows):List V:=[(V.data [.int .i64] a)]
theorem X_8 (a:Rows) (k:V->Option R):fnK i_t Tryz.f70 (p_S a) k=T_2 a k:=by cases a <;> kernel_rfl
theorem w_r (h:∀ (a:Rows),K_J a=true->Real (p_S a)->T_2 a some=some (V.data [.int .i64] (m_X a))):q_5:=goodHook1 fun l hp=>by
  unfold o_b at hp
  split at hp
  · rename_i b
    exact fn_ok (fn:=Tryz.f70) (c:=bodyOf Tryz.f70) (E:=i_t) ⟨by kernel_rfl,goodNil,rfl,M'⟩ rfl (by kernel_rfl) (by kernel_rfl) (by kernel_rfl) (loopsOK_of _ (by have e:loopsOf (bodyOf Tryz.f70)=[]:=(by kernel_rfl);rw [e];intro p hp;cases hp)) (fun hr=>(X_8 b some).trans (h b hp hr))
  · cases hp
noncomputable def i_u:Env R:=⟨Tryz.prog,callCons 68 y_W (callCons 69 y_X (callCons 70 y_Y callNil)),fun _ _ _ _ _=>none,Tryz.f39.results.toList,maskTab 20 [(0,0x3c),(1,0x3c),(2,0x3c),(3,0x3c),(4,0x30)],maskAt [(2,4),(4,9),(6,14),(8,19)],noSort⟩
noncomputable def d_M (b:D') (a:C') (k:V->Option R):Option R:=bif (K_H b.Components) then let c:=m_V b.Components;bif (K_I a.Precincts) then let d:=m_W a.Precincts;bif (K_J a.Steps) then let e:=m_X a.Steps;k (V.tup [(V.agg [V.int .i64 b.Area.X0,V.int .i64 b.Area.Y0,V.int .i64 b.Area.X1,V.int .i64 b.Area.Y1,V.int .i64 b.TileW,V.int .i64 b.TileH,V.data H'.sh c]),(V.agg [V.int .i64 a.Kernel,V.int .i64 a.Levels,V.int .i64 a.Color,V.int .i64 a.BlockX,V.int .i64 a.BlockY,V.data U'.sh d,V.int .i64 a.Order,V.int .i64 a.Layers,V.bool a.Mode.Bypass,V.bool a.Mode.Restart,V.bool a.Mode.Reset,V.bool a.Mode.Causal,V.bool a.Mode.Symbols,V.bool a.Divide,V.bool a.Sync,V.bool a.Fence,(V.data [.int .i64] e),V.int .i64 a.Dead,V.int .i64 a.Shift])]) else none else none else none
abbrev w_s (a:D') (b:C'):List V:=[(D'.v a),(C'.v b)]
theorem X_9 (a:D') (b:C') (k:V->Option R):fnK i_u Tryz.f39 (w_s a b) k=d_M a b k:=by kernel_rfl
theorem w_t (a:D') (b:C'):G_Z a b=true->d_M a b some=some ((fun (m:D' × C')=>(V.tup [(D'.v m.1),(C'.v m.2)])) (c_u a b)):=by
  repeat' (first | exact fun _=>rfl | exact fun h=>absurd h (by decide) | refine B_b (v:=(fun (m:D' × C')=>(V.tup [(D'.v m.1),(C'.v m.2)]))) ?_ ?_)
theorem Y_a (h_A1:q_3) (h_A3:q_4) (h_A4:q_5):t_t:=goodHook1 fun l hp=>by
  unfold o_c at hp
  split at hp
  · rename_i a b d f g i j m o q r s t u v w y z A B D F H I J K
    exact fn_ok (fn:=Tryz.f39) (c:=bodyOf Tryz.f39) (E:=i_u) ⟨by kernel_rfl,(goodCons h_A1 (goodCons h_A3 (goodCons h_A4 goodNil))),rfl,M'⟩ rfl (by kernel_rfl) (by kernel_rfl) (by kernel_rfl) (loopsOK_of _ (by have e:loopsOf (bodyOf Tryz.f39)=[]:=(by kernel_rfl);rw [e];intro p hp;cases hp)) (fun hr=>(X_9 (D'.mk (F'.mk a b d f) g i j) (C'.mk m o q r s t u v (K'.mk w y z A B) D F H I J K) some).trans (w_t (D'.mk (F'.mk a b d f) g i j) (C'.mk m o q r s t u v (K'.mk w y z A B) D F H I J K) hp))
  · cases hp
end Go.Vm
