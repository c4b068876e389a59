import Derived.Test.YtnfkgnigkdkniaaGreatWM
set_option linter.unusedVariables false
set_option linter.unusedSimpArgs false
set_option maxRecDepth 100000
noncomputable section
namespace Go.Vm
open Go.Proofs
variable {R:Type}
noncomputable def i_M:Env R:=⟨Tryz.prog,callCons 42 m_B callNil,fun _ _ _ _ _=>none,Tryz.f17.results.toList,maskTab 26 [(0,0x38),(1,0xb8),(2,0x40b8),(3,0xb8),(4,0x1b8),(5,0x3b8),(6,0x40)],maskAt [(2,4),(4,8),(6,11),(8,16),(10,20),(12,26)],noSort⟩
noncomputable def e_f (c:D') (b:C') (a:O') (k:V->Option R):Option R:=let f:=decide (a.Layers > 0);bif f then let g:Int:=(bif (decide (b.Layers<a.Layers)) then b.Layers else a.Layers);let i:=B_f c;let d:=IntKind.wrap .u64 a.Drop;bif (decide (0<=d)) then let j:=IntKind.wrap .i64 (1*2 ^ (min (Int.toNat d) 64));k (V.fn 44 [(V.pdat [.int .i64] [V.int .i64 g] 0),(V.pdat C'.sh (C'.row b) 0),(V.pdat O'.sh (O'.row a) 0),(V.pdat [.sl F'.sh] [V.data F'.sh i] 0),(V.pdat D'.sh (D'.row c) 0),(V.pdat [.int .i64] [V.int .i64 j] 0)]) else none else let m:=B_f c;let e:=IntKind.wrap .u64 a.Drop;bif (decide (0<=e)) then let o:=IntKind.wrap .i64 (1*2 ^ (min (Int.toNat e) 64));k (V.fn 44 [(V.pdat [.int .i64] [V.int .i64 b.Layers] 0),(V.pdat C'.sh (C'.row b) 0),(V.pdat O'.sh (O'.row a) 0),(V.pdat [.sl F'.sh] [V.data F'.sh m] 0),(V.pdat D'.sh (D'.row c) 0),(V.pdat [.int .i64] [V.int .i64 o] 0)]) else none
abbrev w_7 (a:D') (b:C') (c:O'):List V:=[(D'.v a),(C'.v b),(O'.v c)]
theorem Y_Y (a:D') (b:C') (c:O') (k:V->Option R):fnK i_M Tryz.f17 (w_7 a b c) k=e_f a b c k:=by kernel_rfl
theorem w_8 (a:D') (b:C') (c:O'):R_h a b c=true->e_f a b c some=some ((fun (m:Int × C' × O' × Rows × D' × Int)=>(V.fn 44 [(V.pdat [.int .i64] [V.int .i64 m.1] 0),(V.pdat C'.sh (C'.row m.2.1) 0),(V.pdat O'.sh (O'.row m.2.2.1) 0),(V.pdat [.sl F'.sh] [V.data F'.sh m.2.2.2.1] 0),(V.pdat D'.sh (D'.row m.2.2.2.2.1) 0),(V.pdat [.int .i64] [V.int .i64 m.2.2.2.2.2] 0)])) (T_s a b c)):=by
  repeat' (first | exact fun _=>rfl | exact fun h=>absurd h (by decide) | refine B_b (v:=(fun (m:Int × C' × O' × Rows × D' × Int)=>(V.fn 44 [(V.pdat [.int .i64] [V.int .i64 m.1] 0),(V.pdat C'.sh (C'.row m.2.1) 0),(V.pdat O'.sh (O'.row m.2.2.1) 0),(V.pdat [.sl F'.sh] [V.data F'.sh m.2.2.2.1] 0),(V.pdat D'.sh (D'.row m.2.2.2.2.1) 0),(V.pdat [.int .i64] [V.int .i64 m.2.2.2.2.2] 0)]))) ?_ ?_)
theorem Y_Z (h_H0:h_Q):r_g:=goodHook1 fun l hp=>by
  unfold o_C at hp
  split at hp
  · rename_i a b d f g i j m o q r s t u v w y z A B D F H I J K L M N O Q S
    exact fn_ok (fn:=Tryz.f17) (c:=bodyOf Tryz.f17) (E:=i_M) ⟨by kernel_rfl,(goodCons h_H0 goodNil),rfl,M'⟩ rfl (by kernel_rfl) (by kernel_rfl) (by kernel_rfl) (loopsOK_of _ (by have e:loopsOf (bodyOf Tryz.f17)=[]:=(by kernel_rfl);rw [e];intro p hp;cases hp)) (fun hr=>(Y_Y (D'.mk (F'.mk a b d f) g i j) (C'.mk m o q r s t u v (K'.mk w y z A B) D F H I J K) (O'.mk L M (F'.mk N O Q S)) some).trans (w_8 (D'.mk (F'.mk a b d f) g i j) (C'.mk m o q r s t u v (K'.mk w y z A B) D F H I J K) (O'.mk L M (F'.mk N O Q S)) hp))
  · cases hp
noncomputable def i_N:Env R:=⟨Tryz.prog,callNil,fun _ _ _ _ _=>none,Tryz.f19.results.toList,maskTab 10 [(0,0xc),(1,0x10)],maskAt [(2,3)],noSort⟩
noncomputable def e_g (a b:U') (k:V->Option R):Option R:=let c:=IntKind.wrap .i64 (a.From-b.From);k (V.int .i64 c)
abbrev w_9 (a b:U'):List V:=[(U'.v a),(U'.v b)]
theorem Y_0 (a b:U') (k:V->Option R):fnK i_N Tryz.f19 (w_9 a b) k=e_g a b k:=by kernel_rfl
theorem x_a (a b:U'):e_g a b some=some ((fun (m:Int)=>(V.int .i64 m)) (q_M a b)):=by
  repeat' (first | rfl | refine A_t (v:=(fun (m:Int)=>(V.int .i64 m))) ?_ ?_)
theorem Y_1:r_h:=goodHook1 fun l hp=>by
  unfold o_D at hp
  split at hp
  · rename_i a b d f
    exact fn_ok (fn:=Tryz.f19) (c:=bodyOf Tryz.f19) (E:=i_N) ⟨by kernel_rfl,goodNil,rfl,M'⟩ rfl (by kernel_rfl) (by kernel_rfl) (by kernel_rfl) (loopsOK_of _ (by have e:loopsOf (bodyOf Tryz.f19)=[]:=(by kernel_rfl);rw [e];intro p hp;cases hp)) (fun hr=>(Y_0 (U'.mk a b) (U'.mk d f) some).trans (x_a (U'.mk a b) (U'.mk d f)))
  · cases hp
noncomputable def i_O:Env R:=⟨Tryz.prog,callNil,fun _ _ _ _ _=>none,Tryz.f76.results.toList,maskTab 9 [(0,0x1),(1,0x8),(2,0x18),(3,0x18),(4,0x4),(5,0x80),(6,0x4),(7,0x4)],maskAt [(2,1),(4,2),(6,4),(8,6),(10,7),(12,9),(14,10)],noSort⟩
noncomputable def e_h (a:Int) (k:V->Option R):Option R:=bif (a==1) then bif (a==1) then k (V.int .i64 2) else bif (a==3) then k (V.int .i64 4) else k (V.int .i64 0) else bif (a==2) then k (V.int .i64 2) else bif (a==3) then k (V.int .i64 4) else k (V.int .i64 0)
abbrev x_b (a:Int):List V:=[V.int .i64 a]
theorem Y_2 (a:Int) (k:V->Option R):fnK i_O Tryz.f76 (x_b a) k=e_h a k:=by kernel_rfl
theorem x_c (a:Int):e_h a some=some ((fun (m:Int)=>(V.int .i64 m)) (O_d a)):=by
  repeat' (first | rfl | refine A_t (v:=(fun (m:Int)=>(V.int .i64 m))) ?_ ?_)
theorem Y_3:r_i:=goodHook1 fun l hp=>by
  unfold o_E at hp
  split at hp
  · rename_i a
    exact fn_ok (fn:=Tryz.f76) (c:=bodyOf Tryz.f76) (E:=i_O) ⟨by kernel_rfl,goodNil,rfl,M'⟩ rfl (by kernel_rfl) (by kernel_rfl) (by kernel_rfl) (loopsOK_of _ (by have e:loopsOf (bodyOf Tryz.f76)=[]:=(by kernel_rfl);rw [e];intro p hp;cases hp)) (fun hr=>(Y_2 a some).trans (x_c a))
  · cases hp
noncomputable def N_t (b c a:Int) (d:F') (e:Rows) (f:F'):Nat:=let g:=decide (a > 0);Int.toNat (a-0)+1
noncomputable def B_X (o c:Int) (p:F') (a:Int) (d:Rows) (b:F') (again:Int->Rows->F'->Option R) (kn:Int->Rows->F'->Option R):Option R:=let q:=decide (a > 0);bif q then let r:=IntKind.wrap .i64 (b.X0-c);let s:=IntKind.wrap .i64 (b.Y0-c);let t:=IntKind.wrap .i64 (b.X1+c);let u:=IntKind.wrap .i64 (b.Y1+c);let v:=F_h p o a;let w:=C_S (F'.mk r s t u) v;let e:=V_1 w;let y:=IntKind.wrap .i64 (3*a);let f:=IntKind.wrap .i64 (y-2);let z:=IntKind.wrap .i64 (3*a);let g:=IntKind.wrap .i64 (z-1);let i:=IntKind.wrap .i64 (3*a);bif (inR f (List.length d)) then let j:=List.set d (Int.toNat f) (setCells (List.getD d (Int.toNat f) []) 0 (F'.row e.e1));bif (inR g (List.length j)) then let m:=List.set j (Int.toNat g) (setCells (List.getD j (Int.toNat g) []) 0 (F'.row e.e2));bif (inR i (List.length m)) then let A:=List.set m (Int.toNat i) (setCells (List.getD m (Int.toNat i) []) 0 (F'.row e.e3));let B:=IntKind.wrap .i64 (a-1);again B A e.e0 else none else none else none else kn a d b
noncomputable def B_z (a b:Int) (c:F'):Nat->Int->Rows->F'->(Int->Rows->F'->Option R)->Option R
  | 0,_,_,_,_=>none
  | n+1,d,e,f,kn=>B_X a b c d e f (fun g i j=>B_z a b c n g i j kn) kn
noncomputable def G_j:ST:=⟨.undef::.int .i64::A_j 3 (.ptr 0 0 0::A_j 5 (.int .i64::.vs 30::.ptr 38 0 0::.int .i64::A_j 92 [])),[(0,.var F'.sh false F'.ts),(30,.vec F'.sh false),(38,.var F'.sh false F'.ts)],46⟩
noncomputable def E_F (c d:Int) (a:F') (e:Int) (f:Rows) (b:F'):St:=G_j.put [.i c,.i d,.i e,.i a.X0,.i a.Y0,.i a.X1,.i a.Y1,.r f,.i b.X0,.i b.Y0,.i b.X1,.i b.Y1]
noncomputable def I_I:LoopG R:=fun l kn _ _=>match l with
  | .i a::.i b::.i g::.i c::.i d::.i e::.i f::.r i::.i j::.i m::.i o::.i p::[]=>B_z a b (F'.mk c d e f) (N_t a b g (F'.mk c d e f) i (F'.mk j m o p)) g i (F'.mk j m o p) (fun q r s=>kn (E_F a b (F'.mk c d e f) q r s))
  | _=>none
noncomputable def L_s:Env R:=⟨Tryz.prog,callCons 36 g_x (callCons 37 c_G (callCons 38 g_v (callCons 76 z_h (callCons 77 n_T (callCons 78 t_i (callCons 79 m_y (callCons 80 t_g callNil))))))),fun id=>bif Nat.beq id 0 then loopAlt G_j I_I loopNil else (fun _ _ _ _ _=>none) id,Tryz.f45.results.toList,maskTab 107 [(0,0x6733800136),(1,0x6733800926),(2,0x8000000926),(3,0x400),(4,0x1926),(5,0x3826),(6,0x4000000003826),(7,0x400),(8,0x7822),(9,0x40000000007822),(10,0x7822),(11,0xf822),(12,0x17822),(13,0x17822),(14,0x7822),(15,0x1000),(16,0x400)],maskAt [(1,46),(2,3),(4,6),(6,27),(8,28),(10,32),(12,40),(14,42),(16,44),(18,50),(20,106),(22,52),(24,76),(26,80),(28,103),(30,109),(32,113)],noSort⟩
theorem R_9 (a b:Int) (c:F') (g:Int) (i:Rows) (j:F') (kn:St->Option R) (kx:Nat->St->Option R) (kr:V->Option R) (n:Nat) (m:Int) (o:Rows) (p:F') :
    loopN L_s 0 (loopAt Tryz.f45 0) (E_F a b c g i j) kn kx kr (n+1) (E_F a b c m o p) =
    B_X a b c m o p (fun d e f=>loopN L_s 0 (loopAt Tryz.f45 0) (E_F a b c g i j) kn kx kr n (E_F a b c d e f)) (fun d e f=>kn (E_F a b c d e f)):=by kernel_rfl
theorem L_t (a b:Int) (c:F') (m:Int) (o:Rows) (p:F') (kn:St->Option R) (kx:Nat->St->Option R) (kr:V->Option R):∀ (n:Nat) (d:Int) (e:Rows) (f:F'),
    B_z a b c n d e f (fun g i j=>kn (E_F a b c g i j))=loopN L_s 0 (loopAt Tryz.f45 0) (E_F a b c m o p) kn kx kr n (E_F a b c d e f)
  | 0,_,_,_=>rfl
  | n+1,d,e,f=>by
    rw [R_9,B_z]
    congr 1
    funext g i j
    exact L_t a b c m o p kn kx kr n g i j
theorem Y_4 {rest} (h:GoodL (R:=R) L_s 0 (loopAt Tryz.f45 0) rest):GoodL (R:=R) L_s 0 (loopAt Tryz.f45 0) (loopAlt G_j I_I rest):=by
  refine goodL_alt (fun l kn kx kr r h=>?_) h
  unfold I_I at h
  split at h
  · rename_i g i a j m o p b c d e f
    exact ⟨_,(L_t g i (F'.mk j m o p) a b (F'.mk c d e f) kn kx kr _ a b (F'.mk c d e f)).symm.trans h⟩
  · cases h
theorem e_i:GoodLoop (R:=R) L_s 0 (loopAt Tryz.f45 0):=goodL_loop (g:=loopAlt G_j I_I loopNil) (fun _ _ _ _=>rfl) (Y_4 goodL_nil)
noncomputable def K_e (d:F') (a c:Int) (j:F') (m:Int) (k:V->Option R):Option R:=let e:=O_d m;let o:=A_3 d;bif ((!o)==false) then let p:=M_v a;let q:=decide (c<0);let r:Bool:=(bif (!p) then true else q);let s:Bool:=(bif r then true else (decide (c > a)));let t:Bool:=(bif s then true else (e==0));bif t then k (V.data F'.sh []) else let b:=V_e a;bif (((((decide (0<=b))&&(decide (b<=b)))&&(decide ((b*32)<=140737488355328)))&&(decide (b<=140737488355328)))&&true) then let f:=List.replicate (Int.toNat b) [(V.int .i64 0),(V.int .i64 0),(V.int .i64 0),(V.int .i64 0)];let u:=F_h d a c;let g:=C_S j u;let v:=C_R g;bif v then k (V.data F'.sh f) else B_z a e d (N_t a e c d f g) c f g (fun z i w=>bif (inR 0 (List.length i)) then let y:=List.set i (0:Nat) (setCells (List.getD i (0:Nat) []) 0 (F'.row w));k (V.data F'.sh y) else none) else none else k (V.data F'.sh [])
abbrev p_W (a:F') (b c:Int) (d:F') (e:Int):List V:=[(F'.v a),V.int .i64 b,V.int .i64 c,(F'.v d),V.int .i64 e]
theorem Y_5 (a:F') (b c:Int) (d:F') (e:Int) (k:V->Option R):fnK L_s Tryz.f45 (p_W a b c d e) k=K_e a b c d e k:=by kernel_rfl
theorem x_d (h_D1:W_a) (h_K0:T_S) (h_J1:V_9) (h_I1:r_i) (h_A5:k_x) (h_E2:n_2) (h_A8:g_y) (h_K4:n_0) (h:∀ (a:F') (b d:Int) (f:F') (g:Int),Real (p_W a b d f g)->K_e a b d f g some=some (V.data F'.sh (V_f a b d f g))):r_j:=goodHook1 fun l hp=>by
  unfold o_F at hp
  split at hp
  · rename_i i j m o p q r s t u v
    exact fn_ok (fn:=Tryz.f45) (c:=bodyOf Tryz.f45) (E:=L_s) ⟨by kernel_rfl,(goodCons h_D1 (goodCons h_K0 (goodCons h_J1 (goodCons h_I1 (goodCons h_A5 (goodCons h_E2 (goodCons h_A8 (goodCons h_K4 goodNil)))))))),rfl,M'⟩ rfl (by kernel_rfl) (by kernel_rfl) (by kernel_rfl) (loopsOK_of _ (by have e:loopsOf (bodyOf Tryz.f45)=[(0,loopAt Tryz.f45 0)]:=(by kernel_rfl);rw [e];simp only [List.forall_mem_cons,List.not_mem_nil,false_implies,implies_true,and_true];exact e_i)) (fun hr=>(Y_5 (F'.mk i j m o) p q (F'.mk r s t u) v some).trans (h (F'.mk i j m o) p q (F'.mk r s t u) v hr))
  · cases hp
noncomputable def i_P:Env R:=⟨Tryz.prog,callCons 36 g_x (callCons 38 g_v callNil),fun _ _ _ _ _=>none,Tryz.f49.results.toList,maskTab 21 [(0,0xffc0e),(1,0x10)],maskAt [(2,2)],noSort⟩
noncomputable def e_j (b:N') (a:O') (c:Rows) (k:V->Option R):Option R:=let d:=(a.Window.X0==0)&&((a.Window.Y0==0)&&((a.Window.X1==0)&&((a.Window.Y1==0)&&true)));bif ((inR b.Band (List.length c))||!(d==false)) then let e:=List.getD c (Int.toNat b.Band) [];let f:=F'.of e;bif (d==false) then let g:=C_S b.Rect f;let i:=C_R g;k (V.bool (!i)) else k (V.bool true) else none
abbrev x_e (a:N') (b:O') (c:Rows):List V:=[(N'.v a),(V.pdat O'.sh (O'.row b) 0),(V.pdat [.sl F'.sh] [V.data F'.sh c] 0)]
theorem Y_6 (a:N') (b:O') (c:Rows) (k:V->Option R):fnK i_P Tryz.f49 (x_e a b c) k=e_j a b c k:=by kernel_rfl
theorem x_f (a:N') (b:O') (c:Rows):N_d a b c=true->e_j a b c some=some ((fun (m:Bool)=>(V.bool m)) (j_F a b c)):=by
  repeat' (first | exact fun _=>rfl | exact fun h=>absurd h (by decide) | refine B_b (v:=(fun (m:Bool)=>(V.bool m))) ?_ ?_)
theorem Y_7 (h_D1:W_a) (h_J1:V_9):r_k:=goodHook1 fun l hp=>by
  unfold o_G at hp
  split at hp
  · rename_i a b d f g i j m o q r s t u v w
    exact fn_ok (fn:=Tryz.f49) (c:=bodyOf Tryz.f49) (E:=i_P) ⟨by kernel_rfl,(goodCons h_D1 (goodCons h_J1 goodNil)),rfl,M'⟩ rfl (by kernel_rfl) (by kernel_rfl) (by kernel_rfl) (loopsOK_of _ (by have e:loopsOf (bodyOf Tryz.f49)=[]:=(by kernel_rfl);rw [e];intro p hp;cases hp)) (fun hr=>(Y_6 (N'.mk a b d f g (F'.mk i j m o)) (O'.mk q r (F'.mk s t u v)) w some).trans (x_f (N'.mk a b d f g (F'.mk i j m o)) (O'.mk q r (F'.mk s t u v)) w hp))
  · cases hp
noncomputable def S_a (c:Rows) (d:O') (e:Rows) (a b:Int):Nat:=Int.toNat (a-b)+1
noncomputable def I_J (b:Rows) (c:O') (d:Rows) (f:Int) (a:Int) (again:Int->Option R) (kn:Int->Option R) (kr:V->Option R):Option R:=bif (decide (a<f)) then bif (inR a (List.length b)) then let g:=List.getD b (Int.toNat a) [];let e:=N'.of g;bif (N_d e c d) then let i:=j_F e c d;bif i then kr (V.int .i64 a) else let j:=IntKind.wrap .i64 (a+1);again j else none else none else kn a
noncomputable def D_B (a:Rows) (b:O') (c:Rows) (d:Int):Nat->Int->(Int->Option R)->(V->Option R)->Option R
  | 0,_,_,_=>none
  | n+1,e,kn,kr=>I_J a b c d e (fun f=>D_B a b c d n f kn kr) kn kr
noncomputable def G_k:ST:=⟨.data N'.sh::.fn 49 [.pdc O'.sh 0 [.int .i64,.int .i64,.int .i64,.int .i64,.int .i64,.int .i64],.pdc [.sl F'.sh] 0 [.data F'.sh]]::A_j 5 (.int .i64::.int .i64::A_j 10 []),[],4⟩
noncomputable def E_G (b:Rows) (a:O') (c:Rows) (d:Int) (e:Int):St:=G_k.put [.r b,.i a.Layers,.i a.Drop,.i a.Window.X0,.i a.Window.Y0,.i a.Window.X1,.i a.Window.Y1,.r c,.i d,.i e]
noncomputable def I_K:LoopG R:=fun l kn _ kr=>match l with
  | .r a::.i b::.i c::.i d::.i e::.i f::.i g::.r i::.i j::.i m::[]=>D_B a (O'.mk b c (F'.mk d e f g)) i j (S_a a (O'.mk b c (F'.mk d e f g)) i j m) m (fun o=>kn (E_G a (O'.mk b c (F'.mk d e f g)) i j o)) kr
  | _=>none
noncomputable def L_u:Env R:=⟨Tryz.prog,callCons 49 z_j callNil,fun id=>bif Nat.beq id 0 then loopAlt G_k I_K loopNil else (fun _ _ _ _ _=>none) id,Tryz.f81.results.toList,maskTab 19 [(0,0x3),(1,0x183),(2,0x383),(3,0x1a3),(4,0x101a3),(5,0x10),(6,0x183),(7,0x10)],maskAt [(1,4),(2,1),(4,8),(6,9),(8,11),(10,17),(12,19),(14,21)],noSort⟩
theorem S_b (a:Rows) (b:O') (c:Rows) (d:Int) (f:Int) (kn:St->Option R) (kx:Nat->St->Option R) (kr:V->Option R) (n:Nat) (g:Int) :
    loopN L_u 0 (loopAt Tryz.f81 0) (E_G a b c d f) kn kx kr (n+1) (E_G a b c d g) =
    I_J a b c d g (fun e=>loopN L_u 0 (loopAt Tryz.f81 0) (E_G a b c d f) kn kx kr n (E_G a b c d e)) (fun e=>kn (E_G a b c d e)) kr:=by kernel_rfl
theorem L_v (a:Rows) (b:O') (c:Rows) (d:Int) (g:Int) (kn:St->Option R) (kx:Nat->St->Option R) (kr:V->Option R):∀ (n:Nat) (e:Int),
    D_B a b c d n e (fun f=>kn (E_G a b c d f)) kr=loopN L_u 0 (loopAt Tryz.f81 0) (E_G a b c d g) kn kx kr n (E_G a b c d e)
  | 0,_=>rfl
  | n+1,e=>by
    rw [S_b,D_B]
    congr 1
    funext f
    exact L_v a b c d g kn kx kr n f
theorem Y_8 {rest} (h:GoodL (R:=R) L_u 0 (loopAt Tryz.f81 0) rest):GoodL (R:=R) L_u 0 (loopAt Tryz.f81 0) (loopAlt G_k I_K rest):=by
  refine goodL_alt (fun l kn kx kr r h=>?_) h
  unfold I_K at h
  split at h
  · rename_i b c d e f g i j m a
    exact ⟨_,(L_v b (O'.mk c d (F'.mk e f g i)) j m a kn kx kr _ a).symm.trans h⟩
  · cases h
theorem e_k:GoodLoop (R:=R) L_u 0 (loopAt Tryz.f81 0):=goodL_loop (g:=loopAlt G_k I_K loopNil) (fun _ _ _ _=>rfl) (Y_8 goodL_nil)
noncomputable def T_6 (a:Rows) (b:O') (c:Rows) (k:V->Option R):Option R:=let d:=(((List.length a):Nat):Int);D_B a b c d (S_a a b c d 0) 0 (fun e=>k (V.int .i64 (-1:Int))) k
abbrev p_X (a:Rows) (b:O') (c:Rows):List V:=[V.data N'.sh a,(V.fn 49 [(V.pdat O'.sh (O'.row b) 0),(V.pdat [.sl F'.sh] [V.data F'.sh c] 0)])]
theorem Y_9 (a:Rows) (b:O') (c:Rows) (k:V->Option R):fnK L_u Tryz.f81 (p_X a b c) k=T_6 a b c k:=by kernel_rfl
theorem x_g (h_B4:r_k) (h:∀ (a:Rows) (b:O') (d:Rows),K_L a b d=true->Real (p_X a b d)->T_6 a b d some=some (V.int .i64 (m_l a b d))):r_l:=goodHook1 fun l hp=>by
  unfold o_H at hp
  split at hp
  · rename_i f g i j m o p q
    exact fn_ok (fn:=Tryz.f81) (c:=bodyOf Tryz.f81) (E:=L_u) ⟨by kernel_rfl,(goodCons h_B4 goodNil),rfl,M'⟩ rfl (by kernel_rfl) (by kernel_rfl) (by kernel_rfl) (loopsOK_of _ (by have e:loopsOf (bodyOf Tryz.f81)=[(0,loopAt Tryz.f81 0)]:=(by kernel_rfl);rw [e];simp only [List.forall_mem_cons,List.not_mem_nil,false_implies,implies_true,and_true];exact e_k)) (fun hr=>(Y_9 f (O'.mk g i (F'.mk j m o p)) q some).trans (h f (O'.mk g i (F'.mk j m o p)) q hp hr))
  · cases hp
noncomputable def i_Q:Env R:=⟨Tryz.prog,callCons 81 z_k callNil,fun _ _ _ _ _=>none,Tryz.f47.results.toList,maskTab 9 [(0,0x3),(1,0x10)],maskAt [(2,1)],noSort⟩
noncomputable def e_l (a:Rows) (b:O') (c:Rows) (k:V->Option R):Option R:=bif (K_L a b c) then let d:=m_l a b c;let e:=decide (d >= 0);k (V.bool e) else none
abbrev x_h (a:Rows) (b:O') (c:Rows):List V:=[V.data N'.sh a,(V.fn 49 [(V.pdat O'.sh (O'.row b) 0),(V.pdat [.sl F'.sh] [V.data F'.sh c] 0)])]
theorem Z_a (a:Rows) (b:O') (c:Rows) (k:V->Option R):fnK i_Q Tryz.f47 (x_h a b c) k=e_l a b c k:=by kernel_rfl
theorem x_i (a:Rows) (b:O') (c:Rows):G_0 a b c=true->e_l a b c some=some ((fun (m:Bool)=>(V.bool m)) (h_z a b c)):=by
  repeat' (first | exact fun _=>rfl | exact fun h=>absurd h (by decide) | refine B_b (v:=(fun (m:Bool)=>(V.bool m))) ?_ ?_)
theorem Z_b (h_A2:r_l):t_5:=goodHook1 fun l hp=>by
  unfold o_I at hp
  split at hp
  · rename_i a b d f g i j m
    exact fn_ok (fn:=Tryz.f47) (c:=bodyOf Tryz.f47) (E:=i_Q) ⟨by kernel_rfl,(goodCons h_A2 goodNil),rfl,M'⟩ rfl (by kernel_rfl) (by kernel_rfl) (by kernel_rfl) (loopsOK_of _ (by have e:loopsOf (bodyOf Tryz.f47)=[]:=(by kernel_rfl);rw [e];intro p hp;cases hp)) (fun hr=>(Z_a a (O'.mk b d (F'.mk f g i j)) m some).trans (x_i a (O'.mk b d (F'.mk f g i j)) m hp))
  · cases hp
noncomputable def i_R:Env R:=⟨Tryz.prog,callCons 36 g_x (callCons 37 c_G (callCons 145 t_J (callCons 146 r_d callNil))),fun _ _ _ _ _=>none,Tryz.f133.results.toList,maskTab 68 [(0,0x30199c00010fc),(1,0x30199c001d09c),(2,0x302000000d09c),(3,0x3000),(4,0x310000000d098),(5,0x400000000d098),(6,0x3000),(7,0xd098),(8,0x21000),(9,0x20000000000021000),(10,0x3000),(11,0x3000)],maskAt [(2,4),(4,16),(6,31),(8,34),(10,36),(12,42),(14,45),(16,51),(18,60),(20,63),(22,66)],noSort⟩
noncomputable def e_m (i f:F') (g d e j:Int) (k:V->Option R):Option R:=let a:=K_K i d e j;bif ((!a.2.2)==false) then let m:=A_3 f;let o:=decide (g<0);let p:Bool:=(bif (!m) then true else o);let q:=decide (g > 3);let r:Bool:=(bif p then true else q);bif r then k (V.tup [(V.agg [(V.int .i64 0),(V.int .i64 0),(V.int .i64 0),(V.int .i64 0)]),V.bool false]) else bif (g != 0) then let s:Bool:=(bif (d==0) then true else (e==0));bif s then k (V.tup [(V.agg [(V.int .i64 0),(V.int .i64 0),(V.int .i64 0),(V.int .i64 0)]),V.bool false]) else let t:=IntKind.wrap .i64 (d-1);let u:=IntKind.wrap .i64 (e-1);let v:=R_c a.1 a.2.1 t u;let b:=C_S f v;let w:=(b.X0==0)&&((b.Y0==0)&&((b.X1==0)&&((b.Y1==0)&&true)));bif w then k (V.tup [(V.agg [(V.int .i64 0),(V.int .i64 0),(V.int .i64 0),(V.int .i64 0)]),V.bool true]) else k (V.tup [(F'.v b),V.bool true]) else let y:=R_c a.1 a.2.1 d e;let c:=C_S f y;let z:=(c.X0==0)&&((c.Y0==0)&&((c.X1==0)&&((c.Y1==0)&&true)));bif z then k (V.tup [(V.agg [(V.int .i64 0),(V.int .i64 0),(V.int .i64 0),(V.int .i64 0)]),V.bool true]) else k (V.tup [(F'.v c),V.bool true]) else k (V.tup [(V.agg [(V.int .i64 0),(V.int .i64 0),(V.int .i64 0),(V.int .i64 0)]),V.bool false])
abbrev x_j (a b:F') (c d e f:Int):List V:=[(F'.v a),(F'.v b),V.int .i64 c,V.int .i64 d,V.int .i64 e,V.int .i64 f]
theorem Z_c (a b:F') (c d e f:Int) (k:V->Option R):fnK i_R Tryz.f133 (x_j a b c d e f) k=e_m a b c d e f k:=by kernel_rfl
theorem x_k (a b:F') (c d e f:Int):e_m a b c d e f some=some ((fun (m:F' × Bool)=>(V.tup [(F'.v m.1),V.bool m.2])) (b_J a b c d e f)):=by
  repeat' (first | rfl | refine A_t (v:=(fun (m:F' × Bool)=>(V.tup [(F'.v m.1),V.bool m.2]))) ?_ ?_)
theorem Z_d (h_D1:W_a) (h_K0:T_S) (h_C3:r_c) (h_D8:m_D):t_7:=goodHook1 fun l hp=>by
  unfold o_J at hp
  split at hp
  · rename_i a b d f g i j m o q r s
    exact fn_ok (fn:=Tryz.f133) (c:=bodyOf Tryz.f133) (E:=i_R) ⟨by kernel_rfl,(goodCons h_D1 (goodCons h_K0 (goodCons h_C3 (goodCons h_D8 goodNil)))),rfl,M'⟩ rfl (by kernel_rfl) (by kernel_rfl) (by kernel_rfl) (loopsOK_of _ (by have e:loopsOf (bodyOf Tryz.f133)=[]:=(by kernel_rfl);rw [e];intro p hp;cases hp)) (fun hr=>(Z_c (F'.mk a b d f) (F'.mk g i j m) o q r s some).trans (x_k (F'.mk a b d f) (F'.mk g i j m) o q r s))
  · cases hp
noncomputable def S_c (c d e f g i j m o a b:Int) (p:F') (q:Rows):Nat:=Int.toNat (a-b)+1
noncomputable def I_L (c d t u e f g v w i:Int) (j:F') (a:Int) (b:Rows) (again:Int->Rows->Option R) (kn:Int->Rows->Option R):Option R:=bif (decide (a<i)) then let m:=IntKind.wrap .i64 (e+a);let o:=IntKind.wrap .i64 (f+g);let p:=R_c m o c d;let q:=C_S j p;bif (roomOK ((List.length b)+(1:Nat)) 32) then let r:=b++[(F'.row q)];let s:=IntKind.wrap .i64 (a+1);again s r else none else kn a b
noncomputable def C_E (a b c d e f g i j m:Int) (o:F'):Nat->Int->Rows->(Int->Rows->Option R)->Option R
  | 0,_,_,_=>none
  | n+1,p,q,kn=>I_L a b c d e f g i j m o p q (fun r s=>C_E a b c d e f g i j m o n r s kn) kn
noncomputable def G_l:ST:=⟨.undef::.int .i64::.int .i64::.ptr 0 0 0::.undef::.undef::.int .i64::.int .i64::.vs 19::.int .i64::.int .i64::.int .i64::A_j 10 (.int .i64::.int .i64::.undef::.undef::.int .i64::.int .i64::A_j 21 []),[(0,.var F'.sh false F'.ts),(19,.vec F'.sh false)],28⟩
noncomputable def E_H (b c d e f g i j m o:Int) (a:F') (p:Int) (q:Rows):St:=G_l.put [.i b,.i c,.i d,.i e,.i f,.i g,.i i,.i j,.i m,.i o,.i p,.i a.X0,.i a.Y0,.i a.X1,.i a.Y1,.r q]
noncomputable def I_M:LoopG R:=fun l kn _ _=>match l with
  | .i a::.i b::.i c::.i d::.i e::.i f::.i g::.i i::.i j::.i m::.i s::.i o::.i p::.i q::.i r::.r t::[]=>C_E a b c d e f g i j m (F'.mk o p q r) (S_c a b c d e f g i j m s (F'.mk o p q r) t) s t (fun u v=>kn (E_H a b c d e f g i j m (F'.mk o p q r) u v))
  | _=>none
noncomputable def S_d (c d e f g i a b:Int) (j:F') (m:Rows):Nat:=Int.toNat (a-b)+1
noncomputable def I_N (e f b g i j c:Int) (m:F') (a:Int) (d:Rows) (again:Int->Rows->Option R) (kn:Int->Rows->Option R):Option R:=bif (decide (a<c)) then C_E e f b g i j a c a b m (S_c e f b g i j a c a b 0 m d) 0 d (fun q o=>let p:=IntKind.wrap .i64 (a+1);again p o) else kn a d
noncomputable def B_Y (a b c d e f g:Int) (i:F'):Nat->Int->Rows->(Int->Rows->Option R)->Option R
  | 0,_,_,_=>none
  | n+1,j,m,kn=>I_N a b c d e f g i j m (fun o p=>B_Y a b c d e f g i n o p kn) kn
noncomputable def G_m:ST:=⟨.undef::.int .i64::.int .i64::.ptr 0 0 0::.undef::.undef::.int .i64::.int .i64::.vs 19::.int .i64::.int .i64::A_j 11 (.int .i64::.int .i64::A_j 25 []),[(0,.var F'.sh false F'.ts),(19,.vec F'.sh false)],20⟩
noncomputable def E_I (b c d e f g i:Int) (a:F') (j:Int) (m:Rows):St:=G_m.put [.i b,.i c,.i d,.i e,.i f,.i g,.i i,.i j,.i a.X0,.i a.Y0,.i a.X1,.i a.Y1,.r m]
noncomputable def I_O:LoopG R:=fun l kn _ _=>match l with
  | .i a::.i b::.i c::.i d::.i e::.i f::.i g::.i p::.i i::.i j::.i m::.i o::.r q::[]=>B_Y a b c d e f g (F'.mk i j m o) (S_d a b c d e f g p (F'.mk i j m o) q) p q (fun r s=>kn (E_I a b c d e f g (F'.mk i j m o) r s))
  | _=>none
noncomputable def C_5:Env R:=⟨Tryz.prog,callCons 36 g_x (callCons 144 r_a (callCons 146 r_d callNil)),fun id=>bif Nat.beq id 2 then loopAlt G_l I_M loopNil else (fun id=>bif Nat.beq id 0 then loopAlt G_m I_O loopNil else (fun _ _ _ _ _=>none) id) id,Tryz.f134.results.toList,maskTab 49 [(0,0x10e),(1,0x7ce),(2,0xc007ce),(3,0x1c007ce),(4,0xc00fce),(5,0xcc00fce),(6,0x1cc00fce),(7,0xcc01fce),(8,0xcc00fce),(9,0xcc00fce),(10,0xc007ce),(11,0x1c0)],maskAt [(1,19),(2,4),(4,17),(5,28),(6,23),(8,24),(10,26),(12,32),(14,33),(16,35),(18,50),(20,52),(22,54)],noSort⟩
theorem S_e (a b c d e f g i j m:Int) (o:F') (r:Int) (s:Rows) (kn:St->Option R) (kx:Nat->St->Option R) (kr:V->Option R) (n:Nat) (t:Int) (u:Rows) :
    loopN C_5 2 (loopAt Tryz.f134 1) (E_H a b c d e f g i j m o r s) kn kx kr (n+1) (E_H a b c d e f g i j m o t u) =
    I_L a b c d e f g i j m o t u (fun p q=>loopN C_5 2 (loopAt Tryz.f134 1) (E_H a b c d e f g i j m o r s) kn kx kr n (E_H a b c d e f g i j m o p q)) (fun p q=>kn (E_H a b c d e f g i j m o p q)):=by kernel_rfl
theorem L_w (a b c d e f g i j m:Int) (o:F') (t:Int) (u:Rows) (kn:St->Option R) (kx:Nat->St->Option R) (kr:V->Option R):∀ (n:Nat) (p:Int) (q:Rows),
    C_E a b c d e f g i j m o n p q (fun r s=>kn (E_H a b c d e f g i j m o r s))=loopN C_5 2 (loopAt Tryz.f134 1) (E_H a b c d e f g i j m o t u) kn kx kr n (E_H a b c d e f g i j m o p q)
  | 0,_,_=>rfl
  | n+1,p,q=>by
    rw [S_e,C_E]
    congr 1
    funext r s
    exact L_w a b c d e f g i j m o t u kn kx kr n r s
theorem Z_e {rest} (h:GoodL (R:=R) C_5 2 (loopAt Tryz.f134 1) rest):GoodL (R:=R) C_5 2 (loopAt Tryz.f134 1) (loopAlt G_l I_M rest):=by
  refine goodL_alt (fun l kn kx kr r h=>?_) h
  unfold I_M at h
  split at h
  · rename_i c d e f g i j m o p a q s t u b
    exact ⟨_,(L_w c d e f g i j m o p (F'.mk q s t u) a b kn kx kr _ a b).symm.trans h⟩
  · cases h
theorem S_f (a b c d e f g:Int) (i:F') (o:Int) (p:Rows) (kn:St->Option R) (kx:Nat->St->Option R) (kr:V->Option R) (n:Nat) (q:Int) (r:Rows) :
    loopN C_5 0 (loopAt Tryz.f134 0) (E_I a b c d e f g i o p) kn kx kr (n+1) (E_I a b c d e f g i q r) =
    I_N a b c d e f g i q r (fun j m=>loopN C_5 0 (loopAt Tryz.f134 0) (E_I a b c d e f g i o p) kn kx kr n (E_I a b c d e f g i j m)) (fun j m=>kn (E_I a b c d e f g i j m)):=by kernel_rfl
theorem L_x (a b c d e f g:Int) (i:F') (q:Int) (r:Rows) (kn:St->Option R) (kx:Nat->St->Option R) (kr:V->Option R):∀ (n:Nat) (j:Int) (m:Rows),
    B_Y a b c d e f g i n j m (fun o p=>kn (E_I a b c d e f g i o p))=loopN C_5 0 (loopAt Tryz.f134 0) (E_I a b c d e f g i q r) kn kx kr n (E_I a b c d e f g i j m)
  | 0,_,_=>rfl
  | n+1,j,m=>by
    rw [S_f,B_Y]
    congr 1
    funext o p
    exact L_x a b c d e f g i q r kn kx kr n o p
theorem Z_f {rest} (h:GoodL (R:=R) C_5 0 (loopAt Tryz.f134 0) rest):GoodL (R:=R) C_5 0 (loopAt Tryz.f134 0) (loopAlt G_m I_O rest):=by
  refine goodL_alt (fun l kn kx kr r h=>?_) h
  unfold I_O at h
  split at h
  · rename_i c d e f g i j a m o p q b
    exact ⟨_,(L_x c d e f g i j (F'.mk m o p q) a b kn kx kr _ a b).symm.trans h⟩
  · cases h
theorem e_n:GoodLoop (R:=R) C_5 0 (loopAt Tryz.f134 0):=goodL_loop (g:=loopAlt G_m I_O loopNil) (fun _ _ _ _=>rfl) (Z_f goodL_nil)
theorem e_o:GoodLoop (R:=R) C_5 2 (loopAt Tryz.f134 1):=goodL_loop (g:=loopAlt G_l I_M loopNil) (fun _ _ _ _=>rfl) (Z_e goodL_nil)
noncomputable def T_7 (b:F') (c d:Int) (k:V->Option R):Option R:=let a:=A_J b c d 6;B_Y c d a.2.2.1 a.2.2.2 a.1 a.2.1 a.2.2.2 b (S_d c d a.2.2.1 a.2.2.2 a.1 a.2.1 a.2.2.2 0 b []) 0 [] (fun f e=>k (V.tup [V.int .i64 a.2.2.1,V.int .i64 a.2.2.2,V.data F'.sh e]))
abbrev p_Y (a:F') (b c:Int):List V:=[(F'.v a),V.int .i64 b,V.int .i64 c]
theorem Z_g (a:F') (b c:Int) (k:V->Option R):fnK C_5 Tryz.f134 (p_Y a b c) k=T_7 a b c k:=by kernel_rfl
theorem x_l (h_D1:W_a) (h_D7:m_C) (h_D8:m_D) (h:∀ (a:F') (b d:Int),Real (p_Y a b d)->T_7 a b d some=some (V.tup [(V.int .i64 (O_f a b d).1),(V.int .i64 (O_f a b d).2.1),(V.data F'.sh (O_f a b d).2.2)])):r_m:=goodHook1 fun l hp=>by
  unfold o_K at hp
  split at hp
  · rename_i f g i j m o
    exact fn_ok (fn:=Tryz.f134) (c:=bodyOf Tryz.f134) (E:=C_5) ⟨by kernel_rfl,(goodCons h_D1 (goodCons h_D7 (goodCons h_D8 goodNil))),rfl,M'⟩ rfl (by kernel_rfl) (by kernel_rfl) (by kernel_rfl) (loopsOK_of _ (by have e:loopsOf (bodyOf Tryz.f134)=[(0,loopAt Tryz.f134 0),(2,loopAt Tryz.f134 1)]:=(by kernel_rfl);rw [e];simp only [List.forall_mem_cons,List.not_mem_nil,false_implies,implies_true,and_true];exact ⟨e_n,e_o⟩)) (fun hr=>(Z_g (F'.mk f g i j) m o some).trans (h (F'.mk f g i j) m o hr))
  · cases hp
noncomputable def i_S:Env R:=⟨Tryz.prog,callCons 46 q_8 (callCons 79 m_y (callCons 102 n_W (callCons 105 t_m (callCons 128 t_k (callCons 133 z_m (callCons 134 z_n callNil)))))),fun _ _ _ _ _=>none,Tryz.f113.results.toList,maskTab 99 [(0,0x10fc),(1,0xf0fc),(2,0x400070fc),(3,0x1000),(4,0x170fc),(5,0x2000170fc),(6,0x150fc),(7,0x350b0),(8,0x750b0),(9,0xd9080),(10,0x800000000000d1080),(11,0x1000),(12,0x4000000000000c1080),(13,0xc1080),(14,0x1c1080),(15,0x101000),(16,0x1000)],maskAt [(2,3),(4,14),(6,16),(8,18),(10,19),(12,21),(14,27),(16,33),(18,38),(20,61),(22,63),(24,65),(26,67),(28,77),(30,78),(32,100)],noSort⟩
noncomputable def e_p (o:D') (a:C') (p q d r:Int) (k:V->Option R):Option R:=let e:=O_c d a.Levels;bif (!e.2.2) then k (V.agg [(V.int .i64 0),(V.int .i64 0),(V.data F'.sh [])]) else let y:=decide (d > 0);bif y then let z:=IntKind.wrap .i64 (a.Levels-e.1);let f:=IntKind.wrap .i64 (z+1);let s:=H_z o p q;let b:=A_X a f;let A:=F_h s a.Levels f;let B:=Q_r s a.Levels d;let g:=b_J A B e.2.1 b.X b.Y r;bif (!g.2) then k (V.agg [(V.int .i64 0),(V.int .i64 0),(V.data F'.sh [])]) else let D:=decide (f > 0);bif D then let t:=IntKind.wrap .i64 (b.X-1);let u:=IntKind.wrap .i64 (b.Y-1);let E:Int:=(bif (decide (t<a.BlockX)) then t else a.BlockX);let F:Int:=(bif (decide (u<a.BlockY)) then u else a.BlockY);let i:=O_f g.1 E F;k (V.agg [V.int .i64 i.1,V.int .i64 i.2.1,V.data F'.sh i.2.2]) else let H:Int:=(bif (decide (b.X<a.BlockX)) then b.X else a.BlockX);let I:Int:=(bif (decide (b.Y<a.BlockY)) then b.Y else a.BlockY);let j:=O_f g.1 H I;k (V.agg [V.int .i64 j.1,V.int .i64 j.2.1,V.data F'.sh j.2.2]) else let v:=H_z o p q;let c:=A_X a 0;let J:=F_h v a.Levels 0;let K:=Q_r v a.Levels d;let w:=b_J J K e.2.1 c.X c.Y r;bif (!w.2) then k (V.agg [(V.int .i64 0),(V.int .i64 0),(V.data F'.sh [])]) else let L:Int:=(bif (decide (c.X<a.BlockX)) then c.X else a.BlockX);let M:Int:=(bif (decide (c.Y<a.BlockY)) then c.Y else a.BlockY);let m:=O_f w.1 L M;k (V.agg [V.int .i64 m.1,V.int .i64 m.2.1,V.data F'.sh m.2.2])
abbrev x_m (a:D') (b:C') (c d e f:Int):List V:=[(D'.v a),(C'.v b),V.int .i64 c,V.int .i64 d,V.int .i64 e,V.int .i64 f]
theorem Z_h (a:D') (b:C') (c d e f:Int) (k:V->Option R):fnK i_S Tryz.f113 (x_m a b c d e f) k=e_p a b c d e f k:=by kernel_rfl
theorem x_n (a:D') (b:C') (c d e f:Int):e_p a b c d e f some=some ((fun (m:A_a)=>(A_a.v m)) (h_A a b c d e f)):=by
  repeat' (first | rfl | refine A_t (v:=(fun (m:A_a)=>(A_a.v m))) ?_ ?_)
theorem Z_i (h_B5:o_h) (h_A8:g_y) (h_C8:k_A) (h_G9:n_5) (h_E5:q_1) (h_B7:t_7) (h_C0:r_m):r_n:=goodHook1 fun l hp=>by
  unfold o_L at hp
  split at hp
  · rename_i a b d f g i j m o q r s t u v w y z A B D F H I J K L M N O
    exact fn_ok (fn:=Tryz.f113) (c:=bodyOf Tryz.f113) (E:=i_S) ⟨by kernel_rfl,(goodCons h_B5 (goodCons h_A8 (goodCons h_C8 (goodCons h_G9 (goodCons h_E5 (goodCons h_B7 (goodCons h_C0 goodNil))))))),rfl,M'⟩ rfl (by kernel_rfl) (by kernel_rfl) (by kernel_rfl) (loopsOK_of _ (by have e:loopsOf (bodyOf Tryz.f113)=[]:=(by kernel_rfl);rw [e];intro p hp;cases hp)) (fun hr=>(Z_h (D'.mk (F'.mk a b d f) g i j) (C'.mk m o q r s t u v (K'.mk w y z A B) D F H I J K) L M N O some).trans (x_n (D'.mk (F'.mk a b d f) g i j) (C'.mk m o q r s t u v (K'.mk w y z A B) D F H I J K) L M N O))
  · cases hp
noncomputable def N_u (c:Int) (d:G') (e:Rows) (a b:Int) (f:Rows):Nat:=Int.toNat (a-b)+1
noncomputable def I_P (f:Int) (c:G') (e:Rows) (g:Int) (a:Int) (d:Rows) (again:Int->Rows->Option R) (kn:Int->Rows->Option R):Option R:=bif (decide (a<g)) then bif (inR a (List.length e)) then let i:=List.getD e (Int.toNat a) [];let b:=F'.of i;bif (roomOK ((List.length d)+(1:Nat)) 72) then let j:=d++[[V.int .i64 c.Comp,V.int .i64 c.Res,V.int .i64 f,V.int .i64 c.Precinct,V.int .i64 a,V.int .i64 b.X0,V.int .i64 b.Y0,V.int .i64 b.X1,V.int .i64 b.Y1]];let m:=IntKind.wrap .i64 (a+1);again m j else none else none else kn a d
noncomputable def C_F (a:Int) (b:G') (c:Rows) (d:Int):Nat->Int->Rows->(Int->Rows->Option R)->Option R
  | 0,_,_,_=>none
  | n+1,e,f,kn=>I_P a b c d e f (fun g i=>C_F a b c d n g i kn) kn
noncomputable def G_n:ST:=⟨.int .i64::A_j 3 (.pdc F'.sh 0 [.int .i64,.int .i64,.int .i64,.int .i64]::.undef::.undef::.vs 14::A_j 11 (.data F'.sh::.int .i64::.int .i64::A_j 19 [])),[(14,.vec N'.sh false)],15⟩
noncomputable def E_J (b:Int) (a:G') (c:Rows) (d:Int) (e:Int) (f:Rows):St:=G_n.put [.i b,.i a.Comp,.i a.Res,.i a.Precinct,.i a.Layer,.r c,.i d,.i e,.r f]
noncomputable def I_Q:LoopG R:=fun l kn _ _=>match l with
  | .i a::.i b::.i c::.i d::.i e::.r f::.i g::.i i::.r j::[]=>C_F a (G'.mk b c d e) f g (N_u a (G'.mk b c d e) f g i j) i j (fun m o=>kn (E_J a (G'.mk b c d e) f g m o))
  | _=>none
noncomputable def L_y:Env R:=⟨Tryz.prog,callCons 113 z_o callNil,fun id=>bif Nat.beq id 0 then loopAlt G_n I_Q loopNil else (fun _ _ _ _ _=>none) id,Tryz.f112.results.toList,maskTab 41 [(0,0x1f),(1,0x9f),(2,0x380091),(3,0x780091),(4,0x380391),(5,0x380091),(6,0x380091),(7,0x40)],maskAt [(1,14),(2,1),(4,2),(6,18),(8,19),(10,25),(12,39),(14,41)],noSort⟩
theorem S_g (a:Int) (b:G') (c:Rows) (d:Int) (g:Int) (i:Rows) (kn:St->Option R) (kx:Nat->St->Option R) (kr:V->Option R) (n:Nat) (j:Int) (m:Rows) :
    loopN L_y 0 (loopAt Tryz.f112 0) (E_J a b c d g i) kn kx kr (n+1) (E_J a b c d j m) =
    I_P a b c d j m (fun e f=>loopN L_y 0 (loopAt Tryz.f112 0) (E_J a b c d g i) kn kx kr n (E_J a b c d e f)) (fun e f=>kn (E_J a b c d e f)):=by kernel_rfl
theorem L_z (a:Int) (b:G') (c:Rows) (d:Int) (j:Int) (m:Rows) (kn:St->Option R) (kx:Nat->St->Option R) (kr:V->Option R):∀ (n:Nat) (e:Int) (f:Rows),
    C_F a b c d n e f (fun g i=>kn (E_J a b c d g i))=loopN L_y 0 (loopAt Tryz.f112 0) (E_J a b c d j m) kn kx kr n (E_J a b c d e f)
  | 0,_,_=>rfl
  | n+1,e,f=>by
    rw [S_g,C_F]
    congr 1
    funext g i
    exact L_z a b c d j m kn kx kr n g i
theorem Z_j {rest} (h:GoodL (R:=R) L_y 0 (loopAt Tryz.f112 0) rest):GoodL (R:=R) L_y 0 (loopAt Tryz.f112 0) (loopAlt G_n I_Q rest):=by
  refine goodL_alt (fun l kn kx kr r h=>?_) h
  unfold I_Q at h
  split at h
  · rename_i c d e f g i j a b
    exact ⟨_,(L_z c (G'.mk d e f g) i j a b kn kx kr _ a b).symm.trans h⟩
  · cases h
theorem e_q:GoodLoop (R:=R) L_y 0 (loopAt Tryz.f112 0):=goodL_loop (g:=loopAlt G_n I_Q loopNil) (fun _ _ _ _=>rfl) (Z_j goodL_nil)
noncomputable def e_r (b:Int) (e:D') (f:C') (g:Int) (a:G') (k:V->Option R):Option R:=let c:=h_A e f g a.Comp b a.Precinct;let d:=(((List.length c.blocks):Nat):Int);C_F b a c.blocks d (N_u b a c.blocks d 0 []) 0 [] (fun j i=>k (V.data N'.sh i))
abbrev p_Z (a:Int) (b:D') (c:C') (d:Int) (e:G'):List V:=[V.int .i64 a,(V.pdat D'.sh (D'.row b) 0),(V.pdat C'.sh (C'.row c) 0),(V.pdat [.int .i64] [V.int .i64 d] 0),(V.pdat F'.sh (G'.row e) 0)]
theorem Z_k (a:Int) (b:D') (c:C') (d:Int) (e:G') (k:V->Option R):fnK L_y Tryz.f112 (p_Z a b c d e) k=e_r a b c d e k:=by kernel_rfl
theorem x_o (h_H3:r_n) (h:∀ (a:Int) (b:D') (d:C') (f:Int) (g:G'),Real (p_Z a b d f g)->e_r a b d f g some=some (V.data N'.sh (T_P a b d f g))):o_N:=goodHook1 fun l hp=>by
  unfold o_M at hp
  split at hp
  · rename_i i j m o p q r s t u v w y z A B D F H I J K L M N O Q S U W X Y
    exact fn_ok (fn:=Tryz.f112) (c:=bodyOf Tryz.f112) (E:=L_y) ⟨by kernel_rfl,(goodCons h_H3 goodNil),rfl,M'⟩ rfl (by kernel_rfl) (by kernel_rfl) (by kernel_rfl) (loopsOK_of _ (by have e:loopsOf (bodyOf Tryz.f112)=[(0,loopAt Tryz.f112 0)]:=(by kernel_rfl);rw [e];simp only [List.forall_mem_cons,List.not_mem_nil,false_implies,implies_true,and_true];exact e_q)) (fun hr=>(Z_k i (D'.mk (F'.mk j m o p) q r s) (C'.mk t u v w y z A B (K'.mk D F H I J) K L M N O Q) S (G'.mk U W X Y) some).trans (h i (D'.mk (F'.mk j m o p) q r s) (C'.mk t u v w y z A B (K'.mk D F H I J) K L M N O Q) S (G'.mk U W X Y) hr))
  · cases hp
end Go.Vm
