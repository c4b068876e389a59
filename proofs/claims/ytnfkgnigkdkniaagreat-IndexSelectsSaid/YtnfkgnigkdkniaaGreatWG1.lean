import Derived.Test.YtnfkgnigkdkniaaGreatWM
set_option linter.unusedVariables false
set_option linter.unusedSimpArgs false
set_option maxRecDepth 100000
noncomputable section
namespace Go.Vm
open Go.Proofs
variable {R:Type}
noncomputable def h_3:Env R:=⟨Tryz.prog,callCons 24 g_t (callCons 58 m_q (callCons 59 m_r callNil)),fun _ _ _ _ _=>none,Tryz.f61.results.toList,maskTab 36 [(0,0xe),(1,0x40e),(2,0x40),(3,0x8c),(4,0x180),(5,0x40)],maskAt [(2,2),(4,4),(6,5),(8,17),(10,29)],noSort⟩
noncomputable def c_Z (a:F') (b c:Int) (k:V->Option R):Option R:=let d:=O_b a;bif d then k (V.int .i64 0) else bif (decide (0<=b)) then let e:=IntKind.wrap .i64 (1*2 ^ (min (Int.toNat b) 64));let f:=K_b a.X1 e;bif (decide (0<=b)) then let g:=IntKind.wrap .i64 (1*2 ^ (min (Int.toNat b) 64));let i:=M_5 a.X0 g;let j:=IntKind.wrap .i64 (f-i);bif (decide (0<=c)) then let m:=IntKind.wrap .i64 (1*2 ^ (min (Int.toNat c) 64));let o:=K_b a.Y1 m;bif (decide (0<=c)) then let p:=IntKind.wrap .i64 (1*2 ^ (min (Int.toNat c) 64));let q:=M_5 a.Y0 p;let r:=IntKind.wrap .i64 (o-q);let s:=IntKind.wrap .i64 (j*r);k (V.int .i64 s) else none else none else none else none
abbrev v_n (a:F') (b c:Int):List V:=[(F'.v a),V.int .i64 b,V.int .i64 c]
theorem W_I (a:F') (b c:Int) (k:V->Option R):fnK h_3 Tryz.f61 (v_n a b c) k=c_Z a b c k:=by kernel_rfl
theorem v_o (a:F') (b c:Int):M_8 a b c=true->c_Z a b c some=some ((fun (m:Int)=>(V.int .i64 m)) (f_N a b c)):=by
  repeat' (first | exact fun _=>rfl | exact fun h=>absurd h (by decide) | refine B_b (v:=(fun (m:Int)=>(V.int .i64 m))) ?_ ?_)
theorem W_J (h_L1:V_7) (h_I2:h_I) (h_G3:h_K):m_u:=goodHook1 fun l hp=>by
  unfold n_k at hp
  split at hp
  · rename_i a b d f g i
    exact fn_ok (fn:=Tryz.f61) (c:=bodyOf Tryz.f61) (E:=h_3) ⟨by kernel_rfl,(goodCons h_L1 (goodCons h_I2 (goodCons h_G3 goodNil))),rfl,M'⟩ rfl (by kernel_rfl) (by kernel_rfl) (by kernel_rfl) (loopsOK_of _ (by have e:loopsOf (bodyOf Tryz.f61)=[]:=(by kernel_rfl);rw [e];intro p hp;cases hp)) (fun hr=>(W_I (F'.mk a b d f) g i some).trans (v_o (F'.mk a b d f) g i hp))
  · cases hp
noncomputable def h_4:Env R:=⟨Tryz.prog,callNil,fun _ _ _ _ _=>none,Tryz.f99.results.toList,maskTab 12 [(0,0xc1),(1,0x101),(2,0x4),(3,0x4)],maskAt [(2,1),(4,7),(6,8)],noSort⟩
noncomputable def c_0 (a:Int) (k:V->Option R):Option R:=let b:=decide (a<0);let c:=decide (a > 5);let d:Bool:=(bif b then true else c);bif d then k (V.int .i64 0) else let e:=IntKind.wrap .i64 (3*a);let f:=IntKind.wrap .i64 (e+1);k (V.int .i64 f)
abbrev v_p (a:Int):List V:=[V.int .i64 a]
theorem W_K (a:Int) (k:V->Option R):fnK h_4 Tryz.f99 (v_p a) k=c_0 a k:=by kernel_rfl
theorem v_q (a:Int):c_0 a some=some ((fun (m:Int)=>(V.int .i64 m)) (b_I a)):=by
  repeat' (first | rfl | refine A_t (v:=(fun (m:Int)=>(V.int .i64 m))) ?_ ?_)
theorem W_L:h_N:=goodHook1 fun l hp=>by
  unfold n_l at hp
  split at hp
  · rename_i a
    exact fn_ok (fn:=Tryz.f99) (c:=bodyOf Tryz.f99) (E:=h_4) ⟨by kernel_rfl,goodNil,rfl,M'⟩ rfl (by kernel_rfl) (by kernel_rfl) (by kernel_rfl) (loopsOK_of _ (by have e:loopsOf (bodyOf Tryz.f99)=[]:=(by kernel_rfl);rw [e];intro p hp;cases hp)) (fun hr=>(W_K a some).trans (v_q a))
  · cases hp
noncomputable def R_u (a c b:Int) (d:F') (e f g i:Int):Nat:=Int.toNat (a-b)+1
noncomputable def D_p (c:Int) (f:F') (g i j m:Int) (b a:Int) (again:Int->Int->Option R) (kn:Int->Int->Option R):Option R:=bif (decide (a<c)) then let d:=IntKind.wrap .i64 (2*b);let e:=IntKind.wrap .i64 (a+1);again d e else kn b a
noncomputable def C_t (a:Int) (b:F') (c d e f:Int):Nat->Int->Int->(Int->Int->Option R)->Option R
  | 0,_,_,_=>none
  | n+1,g,i,kn=>D_p a b c d e f g i (fun j m=>C_t a b c d e f n j m kn) kn
noncomputable def F_T:ST:=⟨.undef::.int .i64::.undef::.ptr 0 0 0::.undef::.undef::.ptr 1 0 0::.int .i64::.int .i64::A_j 25 [],[(0,.var F'.sh false F'.ts),(1,.var F'.sh false F'.ts)],19⟩
noncomputable def E_f (b:Int) (a:F') (c d e f:Int) (g i:Int):St:=F_T.put [.i b,.i g,.i i,.i a.X0,.i a.Y0,.i a.X1,.i a.Y1,.i c,.i d,.i e,.i f]
noncomputable def H_Q:LoopG R:=fun l kn _ _=>match l with
  | .i a::.i m::.i o::.i b::.i c::.i d::.i e::.i f::.i g::.i i::.i j::[]=>C_t a (F'.mk b c d e) f g i j (R_u a m o (F'.mk b c d e) f g i j) m o (fun p q=>kn (E_f a (F'.mk b c d e) f g i j p q))
  | _=>none
noncomputable def K_U:Env R:=⟨Tryz.prog,callCons 26 h_J (callCons 99 n_m callNil),fun id=>bif Nat.beq id 0 then loopAlt F_T H_Q loopNil else (fun _ _ _ _ _=>none) id,Tryz.f62.results.toList,maskTab 34 [(0,0xe604e),(1,0x10004e),(2,0x40),(3,0xce),(4,0x1ca),(5,0x20001ca),(6,0x1ca),(7,0x1ca),(8,0x40)],maskAt [(1,19),(2,2),(4,14),(6,16),(8,17),(10,23),(12,29),(14,26),(16,32)],noSort⟩
theorem R_v (a:Int) (b:F') (c d e f:Int) (j m:Int) (kn:St->Option R) (kx:Nat->St->Option R) (kr:V->Option R) (n:Nat) (o p:Int) :
    loopN K_U 0 (loopAt Tryz.f62 0) (E_f a b c d e f j m) kn kx kr (n+1) (E_f a b c d e f o p) =
    D_p a b c d e f o p (fun g i=>loopN K_U 0 (loopAt Tryz.f62 0) (E_f a b c d e f j m) kn kx kr n (E_f a b c d e f g i)) (fun g i=>kn (E_f a b c d e f g i)):=by kernel_rfl
theorem K_V (a:Int) (b:F') (c d e f:Int) (o p:Int) (kn:St->Option R) (kx:Nat->St->Option R) (kr:V->Option R):∀ (n:Nat) (g i:Int),
    C_t a b c d e f n g i (fun j m=>kn (E_f a b c d e f j m))=loopN K_U 0 (loopAt Tryz.f62 0) (E_f a b c d e f o p) kn kx kr n (E_f a b c d e f g i)
  | 0,_,_=>rfl
  | n+1,g,i=>by
    rw [R_v,C_t]
    congr 1
    funext j m
    exact K_V a b c d e f o p kn kx kr n j m
theorem W_M {rest} (h:GoodL (R:=R) K_U 0 (loopAt Tryz.f62 0) rest):GoodL (R:=R) K_U 0 (loopAt Tryz.f62 0) (loopAlt F_T H_Q rest):=by
  refine goodL_alt (fun l kn kx kr r h=>?_) h
  unfold H_Q at h
  split at h
  · rename_i c a b d e f g i j m o
    exact ⟨_,(K_V c (F'.mk d e f g) i j m o a b kn kx kr _ a b).symm.trans h⟩
  · cases h
theorem c_1:GoodLoop (R:=R) K_U 0 (loopAt Tryz.f62 0):=goodL_loop (g:=loopAlt F_T H_Q loopNil) (fun _ _ _ _=>rfl) (W_M goodL_nil)
noncomputable def T_U (c:F') (a b:Int) (k:V->Option R):Option R:=let e:=b_I a;let f:=decide (b<0);let g:Bool:=(bif (e==0) then true else f);let i:Bool:=(bif g then true else (decide (b > a)));bif i then k (V.agg [(V.int .i64 0),(V.int .i64 0),(V.int .i64 0),(V.int .i64 0)]) else C_t a c 0 0 0 0 (R_u a 1 b c 0 0 0 0) 1 b (fun d m=>let j:=M_u c d d;k (F'.v j))
abbrev p_E (a:F') (b c:Int):List V:=[(F'.v a),V.int .i64 b,V.int .i64 c]
theorem W_N (a:F') (b c:Int) (k:V->Option R):fnK K_U Tryz.f62 (p_E a b c) k=T_U a b c k:=by kernel_rfl
theorem v_r (h_I9:V_8) (h_L0:h_N) (h:∀ (a:F') (b d:Int),Real (p_E a b d)->T_U a b d some=some (F'.v (P_N a b d))):f_X:=goodHook1 fun l hp=>by
  unfold n_n at hp
  split at hp
  · rename_i f g i j m o
    exact fn_ok (fn:=Tryz.f62) (c:=bodyOf Tryz.f62) (E:=K_U) ⟨by kernel_rfl,(goodCons h_I9 (goodCons h_L0 goodNil)),rfl,M'⟩ rfl (by kernel_rfl) (by kernel_rfl) (by kernel_rfl) (loopsOK_of _ (by have e:loopsOf (bodyOf Tryz.f62)=[(0,loopAt Tryz.f62 0)]:=(by kernel_rfl);rw [e];simp only [List.forall_mem_cons,List.not_mem_nil,false_implies,implies_true,and_true];exact c_1)) (fun hr=>(W_N (F'.mk f g i j) m o some).trans (h (F'.mk f g i j) m o hr))
  · cases hp
noncomputable def N_l (c d a:Int) (e:D') (b:C') (f g:F'):Nat:=let i:=decide (a<=b.Levels);Int.toNat (b.Levels-a)+2
noncomputable def H_R (o:Int) (p:D') (c:C') (q f:F') (d a:Int) (again:Int->Int->Option R) (kn:Int->Int->Option R):Option R:=let g:=decide (a<=c.Levels);bif g then let b:=Q_q c a;let e:=P_N f c.Levels a;bif (M_8 e b.X b.Y) then let i:=f_N e b.X b.Y;let j:=IntKind.wrap .i64 (d+i);let m:=IntKind.wrap .i64 (a+1);again j m else none else kn d a
noncomputable def C_u (a:Int) (b:D') (c:C') (d e:F'):Nat->Int->Int->(Int->Int->Option R)->Option R
  | 0,_,_,_=>none
  | n+1,f,g,kn=>H_R a b c d e f g (fun i j=>C_u a b c d e n i j kn) kn
noncomputable def F_U:ST:=⟨A_j 3 (.ptr 0 0 0::.ptr 1 0 0::.ptr 2 0 0::.undef::.int .i64::.int .i64::.ptr 29 0 0::.int .i64::A_j 47 []),[(0,.var D'.sh false D'.ts),(1,.var C'.sh false C'.ts),(2,.var F'.sh false F'.ts),(29,.var F'.sh false F'.ts)],32⟩
noncomputable def E_g (e:Int) (b:D') (a:C') (c d:F') (f g:Int):St:=F_U.put [.i f,.i e,.i g,.i b.Area.X0,.i b.Area.Y0,.i b.Area.X1,.i b.Area.Y1,.i b.TileW,.i b.TileH,.r b.Components,.i a.Kernel,.i a.Levels,.i a.Color,.i a.BlockX,.i a.BlockY,.r a.Precincts,.i a.Order,.i a.Layers,.b a.Mode.Bypass,.b a.Mode.Restart,.b a.Mode.Reset,.b a.Mode.Causal,.b a.Mode.Symbols,.b a.Divide,.b a.Sync,.b a.Fence,.r a.Steps,.i a.Dead,.i a.Shift,.i c.X0,.i c.Y0,.i c.X1,.i c.Y1,.i d.X0,.i d.Y0,.i d.X1,.i d.Y1]
noncomputable def H_S:LoopG R:=fun l kn _ _=>match l with
  | .i S::.i a::.i U::.i b::.i c::.i d::.i e::.i f::.i g::.r i::.i j::.i m::.i o::.i p::.i q::.r r::.i s::.i t::.b u::.b v::.b w::.b y::.b z::.b A::.b B::.b D::.r E::.i F::.i H::.i I::.i J::.i K::.i L::.i M::.i N::.i O::.i Q::[]=>C_u a (D'.mk (F'.mk b c d e) f g i) (C'.mk j m o p q r s t (K'.mk u v w y z) A B D E F H) (F'.mk I J K L) (F'.mk M N O Q) (N_l S a U (D'.mk (F'.mk b c d e) f g i) (C'.mk j m o p q r s t (K'.mk u v w y z) A B D E F H) (F'.mk I J K L) (F'.mk M N O Q)) S U (fun W X=>kn (E_g a (D'.mk (F'.mk b c d e) f g i) (C'.mk j m o p q r s t (K'.mk u v w y z) A B D E F H) (F'.mk I J K L) (F'.mk M N O Q) W X))
  | _=>none
noncomputable def R_w (d a:Int) (b:D') (e:C') (f:F'):Nat:=let c:=(((List.length b.Components):Nat):Int);Int.toNat (c-a)+1
noncomputable def H_T (b:D') (e:C') (c:F') (d a:Int) (again:Int->Int->Option R) (kn:Int->Int->Option R):Option R:=let g:=(((List.length b.Components):Nat):Int);bif (decide (a<g)) then bif (inR a (List.length b.Components)) then let i:=List.getD b.Components (Int.toNat a) [];let j:=V.toInt (List.getD i 2 V.undef);bif (inR a (List.length b.Components)) then let m:=List.getD b.Components (Int.toNat a) [];let o:=V.toInt (List.getD m 3 V.undef);let f:=M_u c j o;C_u a b e c f (N_l d a 0 b e c f) d 0 (fun p r=>let q:=IntKind.wrap .i64 (a+1);again p q) else none else none else kn d a
noncomputable def D_q (a:D') (b:C') (c:F'):Nat->Int->Int->(Int->Int->Option R)->Option R
  | 0,_,_,_=>none
  | n+1,d,e,kn=>H_T a b c d e (fun f g=>D_q a b c n f g kn) kn
noncomputable def F_V:ST:=⟨A_j 3 (.ptr 0 0 0::.ptr 1 0 0::.ptr 2 0 0::.undef::.int .i64::.int .i64::A_j 49 []),[(0,.var D'.sh false D'.ts),(1,.var C'.sh false C'.ts),(2,.var F'.sh false F'.ts)],6⟩
noncomputable def E_h (b:D') (a:C') (c:F') (d e:Int):St:=F_V.put [.i d,.i e,.i b.Area.X0,.i b.Area.Y0,.i b.Area.X1,.i b.Area.Y1,.i b.TileW,.i b.TileH,.r b.Components,.i a.Kernel,.i a.Levels,.i a.Color,.i a.BlockX,.i a.BlockY,.r a.Precincts,.i a.Order,.i a.Layers,.b a.Mode.Bypass,.b a.Mode.Restart,.b a.Mode.Reset,.b a.Mode.Causal,.b a.Mode.Symbols,.b a.Divide,.b a.Sync,.b a.Fence,.r a.Steps,.i a.Dead,.i a.Shift,.i c.X0,.i c.Y0,.i c.X1,.i c.Y1]
noncomputable def H_U:LoopG R:=fun l kn _ _=>match l with
  | .i L::.i M::.i a::.i b::.i c::.i d::.i e::.i f::.r g::.i i::.i j::.i m::.i o::.i p::.r q::.i r::.i s::.b t::.b u::.b v::.b w::.b y::.b z::.b A::.b B::.r D::.i E::.i F::.i H::.i I::.i J::.i K::[]=>D_q (D'.mk (F'.mk a b c d) e f g) (C'.mk i j m o p q r s (K'.mk t u v w y) z A B D E F) (F'.mk H I J K) (R_w L M (D'.mk (F'.mk a b c d) e f g) (C'.mk i j m o p q r s (K'.mk t u v w y) z A B D E F) (F'.mk H I J K)) L M (fun N O=>kn (E_h (D'.mk (F'.mk a b c d) e f g) (C'.mk i j m o p q r s (K'.mk t u v w y) z A B D E F) (F'.mk H I J K) N O))
  | _=>none
noncomputable def C_1:Env R:=⟨Tryz.prog,callCons 26 h_J (callCons 60 m_t (callCons 61 s_z (callCons 62 m_v callNil))),fun id=>bif Nat.beq id 2 then loopAlt F_U H_S loopNil else (fun id=>bif Nat.beq id 0 then loopAlt F_V H_U loopNil else (fun _ _ _ _ _=>none) id) id,Tryz.f32.results.toList,maskTab 58 [(0,0x38),(1,0xb8),(2,0x1b8),(3,0x101b8),(4,0x1b8),(5,0x3b8),(6,0x7b8),(7,0x10000007b8),(8,0x7b8),(9,0xfb8),(10,0x7b8),(11,0x40)],maskAt [(1,6),(2,4),(4,5),(5,32),(6,10),(8,61),(10,15),(12,31),(14,36),(16,58),(18,40),(20,45),(22,64)],noSort⟩
theorem R_x (a:Int) (b:D') (c:C') (d e:F') (i j:Int) (kn:St->Option R) (kx:Nat->St->Option R) (kr:V->Option R) (n:Nat) (m o:Int) :
    loopN C_1 2 (loopAt Tryz.f32 1) (E_g a b c d e i j) kn kx kr (n+1) (E_g a b c d e m o) =
    H_R a b c d e m o (fun f g=>loopN C_1 2 (loopAt Tryz.f32 1) (E_g a b c d e i j) kn kx kr n (E_g a b c d e f g)) (fun f g=>kn (E_g a b c d e f g)):=by kernel_rfl
theorem K_W (a:Int) (b:D') (c:C') (d e:F') (m o:Int) (kn:St->Option R) (kx:Nat->St->Option R) (kr:V->Option R):∀ (n:Nat) (f g:Int),
    C_u a b c d e n f g (fun i j=>kn (E_g a b c d e i j))=loopN C_1 2 (loopAt Tryz.f32 1) (E_g a b c d e m o) kn kx kr n (E_g a b c d e f g)
  | 0,_,_=>rfl
  | n+1,f,g=>by
    rw [R_x,C_u]
    congr 1
    funext i j
    exact K_W a b c d e m o kn kx kr n i j
theorem W_O {rest} (h:GoodL (R:=R) C_1 2 (loopAt Tryz.f32 1) rest):GoodL (R:=R) C_1 2 (loopAt Tryz.f32 1) (loopAlt F_U H_S rest):=by
  refine goodL_alt (fun l kn kx kr r h=>?_) h
  unfold H_S at h
  split at h
  · rename_i a c b d e f g i j m o p q s t u v w y z A B D E F H I J K L M N O Q S U W
    exact ⟨_,(K_W c (D'.mk (F'.mk d e f g) i j m) (C'.mk o p q s t u v w (K'.mk y z A B D) E F H I J K) (F'.mk L M N O) (F'.mk Q S U W) a b kn kx kr _ a b).symm.trans h⟩
  · cases h
theorem R_y (a:D') (b:C') (c:F') (f g:Int) (kn:St->Option R) (kx:Nat->St->Option R) (kr:V->Option R) (n:Nat) (i j:Int) :
    loopN C_1 0 (loopAt Tryz.f32 0) (E_h a b c f g) kn kx kr (n+1) (E_h a b c i j) =
    H_T a b c i j (fun d e=>loopN C_1 0 (loopAt Tryz.f32 0) (E_h a b c f g) kn kx kr n (E_h a b c d e)) (fun d e=>kn (E_h a b c d e)):=by kernel_rfl
theorem K_X (a:D') (b:C') (c:F') (i j:Int) (kn:St->Option R) (kx:Nat->St->Option R) (kr:V->Option R):∀ (n:Nat) (d e:Int),
    D_q a b c n d e (fun f g=>kn (E_h a b c f g))=loopN C_1 0 (loopAt Tryz.f32 0) (E_h a b c i j) kn kx kr n (E_h a b c d e)
  | 0,_,_=>rfl
  | n+1,d,e=>by
    rw [R_y,D_q]
    congr 1
    funext f g
    exact K_X a b c i j kn kx kr n f g
theorem W_P {rest} (h:GoodL (R:=R) C_1 0 (loopAt Tryz.f32 0) rest):GoodL (R:=R) C_1 0 (loopAt Tryz.f32 0) (loopAlt F_V H_U rest):=by
  refine goodL_alt (fun l kn kx kr r h=>?_) h
  unfold H_U at h
  split at h
  · rename_i a b c d e f g i j m o p q s t u v w y z A B D E F H I J K L M N
    exact ⟨_,(K_X (D'.mk (F'.mk c d e f) g i j) (C'.mk m o p q s t u v (K'.mk w y z A B) D E F H I J) (F'.mk K L M N) a b kn kx kr _ a b).symm.trans h⟩
  · cases h
theorem c_2:GoodLoop (R:=R) C_1 0 (loopAt Tryz.f32 0):=goodL_loop (g:=loopAlt F_V H_U loopNil) (fun _ _ _ _=>rfl) (W_P goodL_nil)
theorem c_3:GoodLoop (R:=R) C_1 2 (loopAt Tryz.f32 1):=goodL_loop (g:=loopAlt F_U H_S loopNil) (fun _ _ _ _=>rfl) (W_O goodL_nil)
noncomputable def T_V (b:D') (a:C') (c:F') (k:V->Option R):Option R:=D_q b a c (R_w 0 0 b a c) 0 0 (fun d f=>let e:=IntKind.wrap .i64 (d*a.Layers);k (V.int .i64 e))
abbrev p_F (a:D') (b:C') (c:F'):List V:=[(D'.v a),(C'.v b),(F'.v c)]
theorem W_Q (a:D') (b:C') (c:F') (k:V->Option R):fnK C_1 Tryz.f32 (p_F a b c) k=T_V a b c k:=by kernel_rfl
theorem v_s (h_I9:V_8) (h_F8:f_W) (h_M0:m_u) (h_D2:f_X) (h:∀ (a:D') (b:C') (d:F'),F_v a b d=true->Real (p_F a b d)->T_V a b d some=some (V.int .i64 (T_N a b d))):m_w:=goodHook1 fun l hp=>by
  unfold n_o at hp
  split at hp
  · rename_i f g i j m o p q r s t u v w y z A B D F H I J K L M N O Q S
    exact fn_ok (fn:=Tryz.f32) (c:=bodyOf Tryz.f32) (E:=C_1) ⟨by kernel_rfl,(goodCons h_I9 (goodCons h_F8 (goodCons h_M0 (goodCons h_D2 goodNil)))),rfl,M'⟩ rfl (by kernel_rfl) (by kernel_rfl) (by kernel_rfl) (loopsOK_of _ (by have e:loopsOf (bodyOf Tryz.f32)=[(0,loopAt Tryz.f32 0),(2,loopAt Tryz.f32 1)]:=(by kernel_rfl);rw [e];simp only [List.forall_mem_cons,List.not_mem_nil,false_implies,implies_true,and_true];exact ⟨c_2,c_3⟩)) (fun hr=>(W_Q (D'.mk (F'.mk f g i j) m o p) (C'.mk q r s t u v w y (K'.mk z A B D F) H I J K L M) (F'.mk N O Q S) some).trans (h (D'.mk (F'.mk f g i j) m o p) (C'.mk q r s t u v w y (K'.mk z A B D F) H I J K L M) (F'.mk N O Q S) hp hr))
  · cases hp
noncomputable def h_5:Env R:=⟨Tryz.prog,callCons 99 n_m callNil,fun _ _ _ _ _=>none,Tryz.f100.results.toList,maskTab 31 [(0,0x7803),(1,0x8003),(2,0x70),(3,0x20003),(4,0x70),(5,0x83),(6,0x70)],maskAt [(2,3),(4,11),(6,14),(8,16),(10,20),(12,24)],noSort⟩
noncomputable def c_4 (a b:Int) (k:V->Option R):Option R:=let d:=decide (a<0);bif (d==false) then let e:=b_I b;bif (decide (a >= e)) then k (V.tup [(V.int .i64 0),(V.int .i64 0),V.bool false]) else bif (a==0) then k (V.tup [V.int .i64 b,(V.int .i64 0),V.bool true]) else let f:=IntKind.wrap .i64 (a+2);let c:=IntKind.wrap .i64 (Int.tdiv f 3);let g:=IntKind.wrap .i64 (b-c);let i:=IntKind.wrap .i64 (g+1);let j:=IntKind.wrap .i64 (3*c);let m:=IntKind.wrap .i64 (a-j);let o:=IntKind.wrap .i64 (m+3);k (V.tup [V.int .i64 i,V.int .i64 o,V.bool true]) else k (V.tup [(V.int .i64 0),(V.int .i64 0),V.bool false])
abbrev v_t (a b:Int):List V:=[V.int .i64 a,V.int .i64 b]
theorem W_R (a b:Int) (k:V->Option R):fnK h_5 Tryz.f100 (v_t a b) k=c_4 a b k:=by kernel_rfl
theorem v_u (a b:Int):c_4 a b some=some ((fun (m:Int × Int × Bool)=>(V.tup [V.int .i64 m.1,V.int .i64 m.2.1,V.bool m.2.2])) (c_s a b)):=by
  repeat' (first | rfl | refine A_t (v:=(fun (m:Int × Int × Bool)=>(V.tup [V.int .i64 m.1,V.int .i64 m.2.1,V.bool m.2.2]))) ?_ ?_)
theorem W_S (h_L0:h_N):q_R:=goodHook1 fun l hp=>by
  unfold n_p at hp
  split at hp
  · rename_i a b
    exact fn_ok (fn:=Tryz.f100) (c:=bodyOf Tryz.f100) (E:=h_5) ⟨by kernel_rfl,(goodCons h_L0 goodNil),rfl,M'⟩ rfl (by kernel_rfl) (by kernel_rfl) (by kernel_rfl) (loopsOK_of _ (by have e:loopsOf (bodyOf Tryz.f100)=[]:=(by kernel_rfl);rw [e];intro p hp;cases hp)) (fun hr=>(W_R a b some).trans (v_u a b))
  · cases hp
noncomputable def h_6:Env R:=⟨Tryz.prog,callNil,fun _ _ _ _ _=>none,Tryz.f127.results.toList,maskTab 11 [(0,0x3),(1,0x21),(2,0x10),(3,0x10)],maskAt [(2,1),(4,2),(6,5)],noSort⟩
noncomputable def c_5 (a:Int) (b:Bool) (k:V->Option R):Option R:=bif b then let c:=IntKind.wrap .i64 (Int.tdiv a 2);k (V.int .i64 c) else let d:=IntKind.wrap .i64 (a+1);let e:=IntKind.wrap .i64 (Int.tdiv d 2);k (V.int .i64 e)
abbrev v_v (a:Int) (b:Bool):List V:=[V.int .i64 a,V.bool b]
theorem W_T (a:Int) (b:Bool) (k:V->Option R):fnK h_6 Tryz.f127 (v_v a b) k=c_5 a b k:=by kernel_rfl
theorem v_w (a:Int) (b:Bool):c_5 a b some=some ((fun (m:Int)=>(V.int .i64 m)) (B_9 a b)):=by
  repeat' (first | rfl | refine A_t (v:=(fun (m:Int)=>(V.int .i64 m))) ?_ ?_)
theorem W_U:s_H:=goodHook1 fun l hp=>by
  unfold n_q at hp
  split at hp
  · rename_i a b
    exact fn_ok (fn:=Tryz.f127) (c:=bodyOf Tryz.f127) (E:=h_6) ⟨by kernel_rfl,goodNil,rfl,M'⟩ rfl (by kernel_rfl) (by kernel_rfl) (by kernel_rfl) (loopsOK_of _ (by have e:loopsOf (bodyOf Tryz.f127)=[]:=(by kernel_rfl);rw [e];intro p hp;cases hp)) (fun hr=>(W_T a b some).trans (v_w a b))
  · cases hp
noncomputable def D_r:ST:=⟨.undef::.ptr 0 0 0::.ptr 1 0 0::.ptr 3 0 0::.lit .i64 0::A_j 43 [],[(0,.var F'.sh false [.int .i64,.int .i64,.int .i64,.int .i64]),(1,.var A_f.sh false [.lit .i64 0,.lit .i64 0,.lit .i64 0,.lit .i64 0,.lit .i64 0,.lit .i64 0,.lit .i64 0,.lit .i64 0,.lit .i64 0,.lit .i64 0,.lit .i64 0,.lit .i64 0,.lit .i64 0,.lit .i64 0,.lit .i64 0,.lit .i64 0]),(3,.var A_f.sh false [.lit .i64 0,.lit .i64 0,.lit .i64 0,.lit .i64 0,.lit .i64 0,.lit .i64 0,.lit .i64 0,.lit .i64 0,.lit .i64 0,.lit .i64 0,.lit .i64 0,.lit .i64 0,.lit .i64 0,.lit .i64 0,.lit .i64 0,.lit .i64 0])],11⟩
noncomputable def c_6 (a:F') (kn:St->Option R) (kr:V->Option R):Option R:=let b:=B_9 a.X0 false;let c:=B_9 a.Y0 false;let d:=B_9 a.X1 false;let e:=B_9 a.Y1 false;let f:=B_9 a.X0 true;let g:=B_9 a.Y0 false;let i:=B_9 a.X1 true;let j:=B_9 a.Y1 false;let m:=B_9 a.X0 false;let o:=B_9 a.Y0 true;let p:=B_9 a.X1 false;let q:=B_9 a.Y1 true;let r:=B_9 a.X0 true;let s:=B_9 a.Y0 true;let t:=B_9 a.X1 true;let u:=B_9 a.Y1 true;kn ⟨[V.undef,(V.ptr 0 (0:Nat) 0),(V.ptr 1 (0:Nat) 0),(V.ptr 3 (0:Nat) 0),(V.int .i64 4),V.undef,V.undef,V.undef,V.undef,V.undef,V.undef,V.undef,V.undef,V.undef,V.undef,V.undef,V.undef,V.undef,V.undef,V.undef,V.undef,V.undef,V.undef,V.undef,V.undef,V.undef,V.undef,V.undef,V.undef,V.undef,V.undef,V.undef,V.undef,V.undef,V.undef,V.undef,V.undef,V.undef,V.undef,V.undef,V.undef,V.undef,V.undef,V.undef,V.undef,V.undef,V.undef,V.undef],[(0,⟨false,F'.sh,[(F'.row a)],false⟩),(1,⟨false,A_f.sh,[[(V.int .i64 0),(V.int .i64 0),(V.int .i64 0),(V.int .i64 0),(V.int .i64 0),(V.int .i64 0),(V.int .i64 0),(V.int .i64 0),(V.int .i64 0),(V.int .i64 0),(V.int .i64 0),(V.int .i64 0),(V.int .i64 0),(V.int .i64 0),(V.int .i64 0),(V.int .i64 0)]],false⟩),(3,⟨false,A_f.sh,[[V.int .i64 b,V.int .i64 c,V.int .i64 d,V.int .i64 e,V.int .i64 f,V.int .i64 g,V.int .i64 i,V.int .i64 j,V.int .i64 m,V.int .i64 o,V.int .i64 p,V.int .i64 q,V.int .i64 r,V.int .i64 s,V.int .i64 t,V.int .i64 u]],false⟩)],11⟩
noncomputable def H_V:LoopG R:=fun l kn _ kr=>match l with
  | .i a::.i b::.i c::.i d::[]=>c_6 (F'.mk a b c d) kn kr
  | _=>none
noncomputable def O_Z:Env R:=⟨Tryz.prog,callCons 23 c_D (callCons 127 y_L callNil),fun id=>bif Nat.beq id 0 then loopAlt D_r H_V loopNil else (fun _ _ _ _ _=>none) id,Tryz.f101.results.toList,maskTab 48 [(0,0x6180006),(1,0x618000e),(2,0x618040e),(3,0x4),(4,0x618001e),(5,0x618201e),(6,0x618001e),(7,0x618003e),(8,0x618007e),(9,0x618001e),(10,0x4)],maskAt [(1,11),(2,2),(4,5),(6,8),(8,10),(10,15),(12,51),(14,17),(16,24),(18,31),(20,54)],noSort⟩
theorem W_V (a:F') (kn:St->Option R) (kx:Nat->St->Option R) (kr:V->Option R):loopN O_Z 0 (loopAt Tryz.f101 0) (D_r.put [.i a.X0,.i a.Y0,.i a.X1,.i a.Y1]) kn kx kr 5 (D_r.put [.i a.X0,.i a.Y0,.i a.X1,.i a.Y1])=c_6 a kn kr:=by kernel_rfl
theorem W_W {rest} (h:GoodL (R:=R) O_Z 0 (loopAt Tryz.f101 0) rest):GoodL (R:=R) O_Z 0 (loopAt Tryz.f101 0) (loopAlt D_r H_V rest):=by
  refine goodL_alt (fun l kn kx kr r h=>?_) h
  unfold H_V at h
  split at h
  · rename_i a b c d
    exact ⟨5,(W_V (F'.mk a b c d) kn kx kr).trans h⟩
  · cases h
theorem c_7:GoodLoop (R:=R) O_Z 0 (loopAt Tryz.f101 0):=goodL_loop (g:=loopAlt D_r H_V loopNil) (fun _ _ _ _=>rfl) (W_W goodL_nil)
noncomputable def c_8 (a:F') (k:V->Option R):Option R:=let b:=M_4 a;bif (!b) then k (V.agg [(V.int .i64 0),(V.int .i64 0),(V.int .i64 0),(V.int .i64 0),(V.int .i64 0),(V.int .i64 0),(V.int .i64 0),(V.int .i64 0),(V.int .i64 0),(V.int .i64 0),(V.int .i64 0),(V.int .i64 0),(V.int .i64 0),(V.int .i64 0),(V.int .i64 0),(V.int .i64 0)]) else let c:=B_9 a.X0 false;let d:=B_9 a.Y0 false;let e:=B_9 a.X1 false;let f:=B_9 a.Y1 false;let g:=B_9 a.X0 true;let i:=B_9 a.Y0 false;let j:=B_9 a.X1 true;let m:=B_9 a.Y1 false;let o:=B_9 a.X0 false;let p:=B_9 a.Y0 true;let q:=B_9 a.X1 false;let r:=B_9 a.Y1 true;let s:=B_9 a.X0 true;let t:=B_9 a.Y0 true;let u:=B_9 a.X1 true;let v:=B_9 a.Y1 true;k (V.agg [V.int .i64 c,V.int .i64 d,V.int .i64 e,V.int .i64 f,V.int .i64 g,V.int .i64 i,V.int .i64 j,V.int .i64 m,V.int .i64 o,V.int .i64 p,V.int .i64 q,V.int .i64 r,V.int .i64 s,V.int .i64 t,V.int .i64 u,V.int .i64 v])
abbrev v_x (a:F'):List V:=[(F'.v a)]
theorem W_X (a:F') (k:V->Option R):fnK O_Z Tryz.f101 (v_x a) k=c_8 a k:=by kernel_rfl
theorem v_y (a:F'):c_8 a some=some ((fun (m:A_f)=>(A_f.v m)) (h_q a)):=by
  repeat' (first | rfl | refine A_t (v:=(fun (m:A_f)=>(A_f.v m))) ?_ ?_)
theorem W_Y (h_K8:T_R) (h_L8:s_H):n_s:=goodHook1 fun l hp=>by
  unfold n_r at hp
  split at hp
  · rename_i a b d f
    exact fn_ok (fn:=Tryz.f101) (c:=bodyOf Tryz.f101) (E:=O_Z) ⟨by kernel_rfl,(goodCons h_K8 (goodCons h_L8 goodNil)),rfl,M'⟩ rfl (by kernel_rfl) (by kernel_rfl) (by kernel_rfl) (loopsOK_of _ (by have e:loopsOf (bodyOf Tryz.f101)=[(0,loopAt Tryz.f101 0)]:=(by kernel_rfl);rw [e];simp only [List.forall_mem_cons,List.not_mem_nil,false_implies,implies_true,and_true];exact c_7)) (fun hr=>(W_X (F'.mk a b d f) some).trans (v_y (F'.mk a b d f)))
  · cases hp
noncomputable def h_7:Env R:=⟨Tryz.prog,callCons 23 c_D (callCons 62 m_v (callCons 100 s_F (callCons 101 s_J callNil))),fun _ _ _ _ _=>none,Tryz.f63.results.toList,maskTab 40 [(0,0x70004e),(1,0x7003ce),(2,0x8001ce),(3,0x40),(4,0x40001ca),(5,0x40),(6,0x40)],maskAt [(2,2),(4,12),(6,19),(8,21),(10,23),(12,27)],noSort⟩
noncomputable def c_9 (d:F') (c e:Int) (k:V->Option R):Option R:=let b:=c_s e c;bif ((!b.2.2)==false) then let f:=M_4 d;bif (!f) then k (V.agg [(V.int .i64 0),(V.int .i64 0),(V.int .i64 0),(V.int .i64 0)]) else bif (e==0) then let g:=P_N d c 0;k (F'.v g) else let i:=IntKind.wrap .i64 (c-b.1);let j:=IntKind.wrap .i64 (i+1);let m:=P_N d c j;let a:=h_q m;bif (true&&(inR b.2.1 (4:Nat))) then let o:Int:=(bif (decide (b.2.1=((0:Nat):Int))) then a.e0.X0 else (bif (decide (b.2.1=((1:Nat):Int))) then a.e1.X0 else (bif (decide (b.2.1=((2:Nat):Int))) then a.e2.X0 else a.e3.X0)));let p:Int:=(bif (decide (b.2.1=((0:Nat):Int))) then a.e0.Y0 else (bif (decide (b.2.1=((1:Nat):Int))) then a.e1.Y0 else (bif (decide (b.2.1=((2:Nat):Int))) then a.e2.Y0 else a.e3.Y0)));let q:Int:=(bif (decide (b.2.1=((0:Nat):Int))) then a.e0.X1 else (bif (decide (b.2.1=((1:Nat):Int))) then a.e1.X1 else (bif (decide (b.2.1=((2:Nat):Int))) then a.e2.X1 else a.e3.X1)));let r:Int:=(bif (decide (b.2.1=((0:Nat):Int))) then a.e0.Y1 else (bif (decide (b.2.1=((1:Nat):Int))) then a.e1.Y1 else (bif (decide (b.2.1=((2:Nat):Int))) then a.e2.Y1 else a.e3.Y1)));k (V.agg [V.int .i64 o,V.int .i64 p,V.int .i64 q,V.int .i64 r]) else none else k (V.agg [(V.int .i64 0),(V.int .i64 0),(V.int .i64 0),(V.int .i64 0)])
abbrev v_z (a:F') (b c:Int):List V:=[(F'.v a),V.int .i64 b,V.int .i64 c]
theorem W_Z (a:F') (b c:Int) (k:V->Option R):fnK h_7 Tryz.f63 (v_z a b c) k=c_9 a b c k:=by kernel_rfl
theorem v_A (a:F') (b c:Int):h_r a b c=true->c_9 a b c some=some ((fun (m:F')=>(F'.v m)) (c_t a b c)):=by
  repeat' (first | exact fun _=>rfl | exact fun h=>absurd h (by decide) | refine B_b (v:=(fun (m:F')=>(F'.v m))) ?_ ?_)
theorem W_0 (h_K8:T_R) (h_D2:f_X) (h_L7:q_R) (h_K5:n_s):n_u:=goodHook1 fun l hp=>by
  unfold n_t at hp
  split at hp
  · rename_i a b d f g i
    exact fn_ok (fn:=Tryz.f63) (c:=bodyOf Tryz.f63) (E:=h_7) ⟨by kernel_rfl,(goodCons h_K8 (goodCons h_D2 (goodCons h_L7 (goodCons h_K5 goodNil)))),rfl,M'⟩ rfl (by kernel_rfl) (by kernel_rfl) (by kernel_rfl) (loopsOK_of _ (by have e:loopsOf (bodyOf Tryz.f63)=[]:=(by kernel_rfl);rw [e];intro p hp;cases hp)) (fun hr=>(W_Z (F'.mk a b d f) g i some).trans (v_A (F'.mk a b d f) g i (r_2 (F'.mk a b d f) g i)))
  · cases hp
noncomputable def N_m (d e a:Int) (f:D') (b:C') (g i:F'):Nat:=let c:=IntKind.wrap .i64 (3*b.Levels);Int.toNat (c-a)+2
noncomputable def H_W (w:Int) (y:D') (a:C') (z p:F') (d b:Int) (again:Int->Int->Option R) (kn:Int->Int->Option R):Option R:=let q:=IntKind.wrap .i64 (3*a.Levels);bif (decide (b<=q)) then let r:=IntKind.wrap .i64 (b+2);let c:=IntKind.wrap .i64 (Int.tdiv r 3);let e:=Q_q a c;let f:=c_t p a.Levels b;let s:Int:=(bif (decide (1<c)) then 1 else c);let g:=IntKind.wrap .i64 (e.X-s);let i:Int:=(bif (decide (g<a.BlockX)) then g else a.BlockX);let t:Int:=(bif (decide (1<c)) then 1 else c);let j:=IntKind.wrap .i64 (e.Y-t);let m:Int:=(bif (decide (j<a.BlockY)) then j else a.BlockY);bif (M_8 f i m) then let o:=f_N f i m;let u:Int:=(bif (decide (o > d)) then o else d);let v:=IntKind.wrap .i64 (b+1);again u v else none else kn d b
noncomputable def C_v (a:Int) (b:D') (c:C') (d e:F'):Nat->Int->Int->(Int->Int->Option R)->Option R
  | 0,_,_,_=>none
  | n+1,f,g,kn=>H_W a b c d e f g (fun i j=>C_v a b c d e n i j kn) kn
noncomputable def F_W:ST:=⟨A_j 3 (.ptr 0 0 0::.ptr 1 0 0::.ptr 2 0 0::.undef::.int .i64::.int .i64::.ptr 29 0 0::.int .i64::A_j 61 []),[(0,.var D'.sh false D'.ts),(1,.var C'.sh false C'.ts),(2,.var F'.sh false F'.ts),(29,.var F'.sh false F'.ts)],32⟩
noncomputable def E_i (e:Int) (b:D') (a:C') (c d:F') (f g:Int):St:=F_W.put [.i f,.i e,.i g,.i b.Area.X0,.i b.Area.Y0,.i b.Area.X1,.i b.Area.Y1,.i b.TileW,.i b.TileH,.r b.Components,.i a.Kernel,.i a.Levels,.i a.Color,.i a.BlockX,.i a.BlockY,.r a.Precincts,.i a.Order,.i a.Layers,.b a.Mode.Bypass,.b a.Mode.Restart,.b a.Mode.Reset,.b a.Mode.Causal,.b a.Mode.Symbols,.b a.Divide,.b a.Sync,.b a.Fence,.r a.Steps,.i a.Dead,.i a.Shift,.i c.X0,.i c.Y0,.i c.X1,.i c.Y1,.i d.X0,.i d.Y0,.i d.X1,.i d.Y1]
noncomputable def H_X:LoopG R:=fun l kn _ _=>match l with
  | .i S::.i a::.i U::.i b::.i c::.i d::.i e::.i f::.i g::.r i::.i j::.i m::.i o::.i p::.i q::.r r::.i s::.i t::.b u::.b v::.b w::.b y::.b z::.b A::.b B::.b D::.r E::.i F::.i H::.i I::.i J::.i K::.i L::.i M::.i N::.i O::.i Q::[]=>C_v a (D'.mk (F'.mk b c d e) f g i) (C'.mk j m o p q r s t (K'.mk u v w y z) A B D E F H) (F'.mk I J K L) (F'.mk M N O Q) (N_m S a U (D'.mk (F'.mk b c d e) f g i) (C'.mk j m o p q r s t (K'.mk u v w y z) A B D E F H) (F'.mk I J K L) (F'.mk M N O Q)) S U (fun W X=>kn (E_i a (D'.mk (F'.mk b c d e) f g i) (C'.mk j m o p q r s t (K'.mk u v w y z) A B D E F H) (F'.mk I J K L) (F'.mk M N O Q) W X))
  | _=>none
noncomputable def R_z (d a:Int) (b:D') (e:C') (f:F'):Nat:=let c:=(((List.length b.Components):Nat):Int);Int.toNat (c-a)+1
noncomputable def H_Y (b:D') (e:C') (c:F') (d a:Int) (again:Int->Int->Option R) (kn:Int->Int->Option R):Option R:=let g:=(((List.length b.Components):Nat):Int);bif (decide (a<g)) then bif (inR a (List.length b.Components)) then let i:=List.getD b.Components (Int.toNat a) [];let j:=V.toInt (List.getD i 2 V.undef);bif (inR a (List.length b.Components)) then let m:=List.getD b.Components (Int.toNat a) [];let o:=V.toInt (List.getD m 3 V.undef);let f:=M_u c j o;C_v a b e c f (N_m d a 0 b e c f) d 0 (fun p r=>let q:=IntKind.wrap .i64 (a+1);again p q) else none else none else kn d a
noncomputable def D_s (a:D') (b:C') (c:F'):Nat->Int->Int->(Int->Int->Option R)->Option R
  | 0,_,_,_=>none
  | n+1,d,e,kn=>H_Y a b c d e (fun f g=>D_s a b c n f g kn) kn
noncomputable def F_X:ST:=⟨A_j 3 (.ptr 0 0 0::.ptr 1 0 0::.ptr 2 0 0::.undef::.int .i64::.int .i64::A_j 63 []),[(0,.var D'.sh false D'.ts),(1,.var C'.sh false C'.ts),(2,.var F'.sh false F'.ts)],6⟩
noncomputable def E_j (b:D') (a:C') (c:F') (d e:Int):St:=F_X.put [.i d,.i e,.i b.Area.X0,.i b.Area.Y0,.i b.Area.X1,.i b.Area.Y1,.i b.TileW,.i b.TileH,.r b.Components,.i a.Kernel,.i a.Levels,.i a.Color,.i a.BlockX,.i a.BlockY,.r a.Precincts,.i a.Order,.i a.Layers,.b a.Mode.Bypass,.b a.Mode.Restart,.b a.Mode.Reset,.b a.Mode.Causal,.b a.Mode.Symbols,.b a.Divide,.b a.Sync,.b a.Fence,.r a.Steps,.i a.Dead,.i a.Shift,.i c.X0,.i c.Y0,.i c.X1,.i c.Y1]
noncomputable def H_Z:LoopG R:=fun l kn _ _=>match l with
  | .i L::.i M::.i a::.i b::.i c::.i d::.i e::.i f::.r g::.i i::.i j::.i m::.i o::.i p::.r q::.i r::.i s::.b t::.b u::.b v::.b w::.b y::.b z::.b A::.b B::.r D::.i E::.i F::.i H::.i I::.i J::.i K::[]=>D_s (D'.mk (F'.mk a b c d) e f g) (C'.mk i j m o p q r s (K'.mk t u v w y) z A B D E F) (F'.mk H I J K) (R_z L M (D'.mk (F'.mk a b c d) e f g) (C'.mk i j m o p q r s (K'.mk t u v w y) z A B D E F) (F'.mk H I J K)) L M (fun N O=>kn (E_j (D'.mk (F'.mk a b c d) e f g) (C'.mk i j m o p q r s (K'.mk t u v w y) z A B D E F) (F'.mk H I J K) N O))
  | _=>none
noncomputable def C_2:Env R:=⟨Tryz.prog,callCons 26 h_J (callCons 60 m_t (callCons 61 s_z (callCons 63 s_L callNil))),fun id=>bif Nat.beq id 2 then loopAlt F_W H_X loopNil else (fun id=>bif Nat.beq id 0 then loopAlt F_X H_Z loopNil else (fun _ _ _ _ _=>none) id) id,Tryz.f33.results.toList,maskTab 72 [(0,0x38),(1,0xb8),(2,0x1b8),(3,0x201b8),(4,0x1b8),(5,0x3b8),(6,0x7b8),(7,0x40000007b8),(8,0x7b8),(9,0xfb8),(10,0x1fb8),(11,0x7b8),(12,0x40)],maskAt [(1,6),(2,4),(4,5),(5,32),(6,10),(8,78),(10,15),(12,31),(14,36),(16,75),(18,41),(20,45),(22,50),(24,81)],noSort⟩
theorem R_A (a:Int) (b:D') (c:C') (d e:F') (i j:Int) (kn:St->Option R) (kx:Nat->St->Option R) (kr:V->Option R) (n:Nat) (m o:Int) :
    loopN C_2 2 (loopAt Tryz.f33 1) (E_i a b c d e i j) kn kx kr (n+1) (E_i a b c d e m o) =
    H_W a b c d e m o (fun f g=>loopN C_2 2 (loopAt Tryz.f33 1) (E_i a b c d e i j) kn kx kr n (E_i a b c d e f g)) (fun f g=>kn (E_i a b c d e f g)):=by kernel_rfl
theorem K_Y (a:Int) (b:D') (c:C') (d e:F') (m o:Int) (kn:St->Option R) (kx:Nat->St->Option R) (kr:V->Option R):∀ (n:Nat) (f g:Int),
    C_v a b c d e n f g (fun i j=>kn (E_i a b c d e i j))=loopN C_2 2 (loopAt Tryz.f33 1) (E_i a b c d e m o) kn kx kr n (E_i a b c d e f g)
  | 0,_,_=>rfl
  | n+1,f,g=>by
    rw [R_A,C_v]
    congr 1
    funext i j
    exact K_Y a b c d e m o kn kx kr n i j
theorem W_1 {rest} (h:GoodL (R:=R) C_2 2 (loopAt Tryz.f33 1) rest):GoodL (R:=R) C_2 2 (loopAt Tryz.f33 1) (loopAlt F_W H_X rest):=by
  refine goodL_alt (fun l kn kx kr r h=>?_) h
  unfold H_X at h
  split at h
  · rename_i a c b d e f g i j m o p q s t u v w y z A B D E F H I J K L M N O Q S U W
    exact ⟨_,(K_Y c (D'.mk (F'.mk d e f g) i j m) (C'.mk o p q s t u v w (K'.mk y z A B D) E F H I J K) (F'.mk L M N O) (F'.mk Q S U W) a b kn kx kr _ a b).symm.trans h⟩
  · cases h
theorem R_B (a:D') (b:C') (c:F') (f g:Int) (kn:St->Option R) (kx:Nat->St->Option R) (kr:V->Option R) (n:Nat) (i j:Int) :
    loopN C_2 0 (loopAt Tryz.f33 0) (E_j a b c f g) kn kx kr (n+1) (E_j a b c i j) =
    H_Y a b c i j (fun d e=>loopN C_2 0 (loopAt Tryz.f33 0) (E_j a b c f g) kn kx kr n (E_j a b c d e)) (fun d e=>kn (E_j a b c d e)):=by kernel_rfl
theorem K_Z (a:D') (b:C') (c:F') (i j:Int) (kn:St->Option R) (kx:Nat->St->Option R) (kr:V->Option R):∀ (n:Nat) (d e:Int),
    D_s a b c n d e (fun f g=>kn (E_j a b c f g))=loopN C_2 0 (loopAt Tryz.f33 0) (E_j a b c i j) kn kx kr n (E_j a b c d e)
  | 0,_,_=>rfl
  | n+1,d,e=>by
    rw [R_B,D_s]
    congr 1
    funext f g
    exact K_Z a b c i j kn kx kr n f g
theorem W_2 {rest} (h:GoodL (R:=R) C_2 0 (loopAt Tryz.f33 0) rest):GoodL (R:=R) C_2 0 (loopAt Tryz.f33 0) (loopAlt F_X H_Z rest):=by
  refine goodL_alt (fun l kn kx kr r h=>?_) h
  unfold H_Z at h
  split at h
  · rename_i a b c d e f g i j m o p q s t u v w y z A B D E F H I J K L M N
    exact ⟨_,(K_Z (D'.mk (F'.mk c d e f) g i j) (C'.mk m o p q s t u v (K'.mk w y z A B) D E F H I J) (F'.mk K L M N) a b kn kx kr _ a b).symm.trans h⟩
  · cases h
theorem d_a:GoodLoop (R:=R) C_2 0 (loopAt Tryz.f33 0):=goodL_loop (g:=loopAlt F_X H_Z loopNil) (fun _ _ _ _=>rfl) (W_2 goodL_nil)
theorem d_b:GoodLoop (R:=R) C_2 2 (loopAt Tryz.f33 1):=goodL_loop (g:=loopAlt F_W H_X loopNil) (fun _ _ _ _=>rfl) (W_1 goodL_nil)
noncomputable def T_W (a:D') (b:C') (c:F') (k:V->Option R):Option R:=D_s a b c (R_z 0 0 a b c) 0 0 (fun d e=>k (V.int .i64 d))
abbrev p_G (a:D') (b:C') (c:F'):List V:=[(D'.v a),(C'.v b),(F'.v c)]
theorem W_3 (a:D') (b:C') (c:F') (k:V->Option R):fnK C_2 Tryz.f33 (p_G a b c) k=T_W a b c k:=by kernel_rfl
theorem v_B (h_I9:V_8) (h_F8:f_W) (h_M0:m_u) (h_M2:n_u) (h:∀ (a:D') (b:C') (d:F'),O_O a b d=true->Real (p_G a b d)->T_W a b d some=some (V.int .i64 (h_s a b d))):n_w:=goodHook1 fun l hp=>by
  unfold n_v at hp
  split at hp
  · rename_i f g i j m o p q r s t u v w y z A B D F H I J K L M N O Q S
    exact fn_ok (fn:=Tryz.f33) (c:=bodyOf Tryz.f33) (E:=C_2) ⟨by kernel_rfl,(goodCons h_I9 (goodCons h_F8 (goodCons h_M0 (goodCons h_M2 goodNil)))),rfl,M'⟩ rfl (by kernel_rfl) (by kernel_rfl) (by kernel_rfl) (loopsOK_of _ (by have e:loopsOf (bodyOf Tryz.f33)=[(0,loopAt Tryz.f33 0),(2,loopAt Tryz.f33 1)]:=(by kernel_rfl);rw [e];simp only [List.forall_mem_cons,List.not_mem_nil,false_implies,implies_true,and_true];exact ⟨d_a,d_b⟩)) (fun hr=>(W_3 (D'.mk (F'.mk f g i j) m o p) (C'.mk q r s t u v w y (K'.mk z A B D F) H I J K L M) (F'.mk N O Q S) some).trans (h (D'.mk (F'.mk f g i j) m o p) (C'.mk q r s t u v w y (K'.mk z A B D F) H I J K L M) (F'.mk N O Q S) hp hr))
  · cases hp
end Go.Vm
