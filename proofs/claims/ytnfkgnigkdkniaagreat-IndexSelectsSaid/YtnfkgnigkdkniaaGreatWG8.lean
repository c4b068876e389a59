import Derived.Test.YtnfkgnigkdkniaaGreatWM
set_option linter.unusedVariables false
set_option linter.unusedSimpArgs false
set_option maxRecDepth 100000
noncomputable section
namespace Go.Vm
open Go.Proofs
variable {R:Type}
noncomputable def S_h (c:Rows) (a b:Int) (d:Rows):Nat:=Int.toNat (a-b)+1
noncomputable def I_R (c:Rows) (e:Int) (a:Int) (b:Rows) (again:Int->Rows->Option R) (kn:Int->Rows->Option R):Option R:=bif (decide (a<e)) then bif (inR a (List.length c)) then let f:=List.getD c (Int.toNat a) [];let d:=V.toRows (List.getD f 0 V.undef);bif (roomOK ((List.length b)+(List.length d)) 72) then let g:=IntKind.wrap .i64 (a+1);again g (b++d) else none else none else kn a b
noncomputable def D_C (a:Rows) (b:Int):Nat->Int->Rows->(Int->Rows->Option R)->Option R
  | 0,_,_,_=>none
  | n+1,c,d,kn=>I_R a b c d (fun e f=>D_C a b n e f kn) kn
noncomputable def G_o:ST:=⟨A_j 3 (.vs 5::.undef::.undef::.data [.sl N'.sh]::.int .i64::.int .i64::A_j 8 []),[(5,.vec N'.sh false)],6⟩
noncomputable def E_K (a:Rows) (b:Int) (c:Int) (d:Rows):St:=G_o.put [.r a,.i b,.i c,.r d]
noncomputable def I_S:LoopG R:=fun l kn _ _=>match l with
  | .r a::.i b::.i c::.r d::[]=>D_C a b (S_h a b c d) c d (fun e f=>kn (E_K a b e f))
  | _=>none
noncomputable def L_A:Env R:=⟨Tryz.prog,callNil,fun id=>bif Nat.beq id 0 then loopAlt G_o I_S loopNil else (fun _ _ _ _ _=>none) id,Tryz.f114.results.toList,maskTab 17 [(0,0x1),(1,0x9),(2,0x1c8),(3,0x3c8),(4,0x1e8),(5,0x1c8),(6,0x1c8),(7,0x4)],maskAt [(1,5),(2,1),(4,2),(6,9),(8,10),(10,13),(12,17),(14,19)],noSort⟩
theorem S_i (a:Rows) (b:Int) (e:Int) (f:Rows) (kn:St->Option R) (kx:Nat->St->Option R) (kr:V->Option R) (n:Nat) (g:Int) (i:Rows) :
    loopN L_A 0 (loopAt Tryz.f114 0) (E_K a b e f) kn kx kr (n+1) (E_K a b g i) =
    I_R a b g i (fun c d=>loopN L_A 0 (loopAt Tryz.f114 0) (E_K a b e f) kn kx kr n (E_K a b c d)) (fun c d=>kn (E_K a b c d)):=by kernel_rfl
theorem L_B (a:Rows) (b:Int) (g:Int) (i:Rows) (kn:St->Option R) (kx:Nat->St->Option R) (kr:V->Option R):∀ (n:Nat) (c:Int) (d:Rows),
    D_C a b n c d (fun e f=>kn (E_K a b e f))=loopN L_A 0 (loopAt Tryz.f114 0) (E_K a b g i) kn kx kr n (E_K a b c d)
  | 0,_,_=>rfl
  | n+1,c,d=>by
    rw [S_i,D_C]
    congr 1
    funext e f
    exact L_B a b g i kn kx kr n e f
theorem Z_l {rest} (h:GoodL (R:=R) L_A 0 (loopAt Tryz.f114 0) rest):GoodL (R:=R) L_A 0 (loopAt Tryz.f114 0) (loopAlt G_o I_S rest):=by
  refine goodL_alt (fun l kn kx kr r h=>?_) h
  unfold I_S at h
  split at h
  · rename_i c d a b
    exact ⟨_,(L_B c d a b kn kx kr _ a b).symm.trans h⟩
  · cases h
theorem e_s:GoodLoop (R:=R) L_A 0 (loopAt Tryz.f114 0):=goodL_loop (g:=loopAlt G_o I_S loopNil) (fun _ _ _ _=>rfl) (Z_l goodL_nil)
noncomputable def T_8 (a:Rows) (k:V->Option R):Option R:=let b:=(((List.length a):Nat):Int);D_C a b (S_h a b 0 []) 0 [] (fun d c=>k (V.data N'.sh c))
abbrev p_0 (a:Rows):List V:=[(V.data [.sl N'.sh] a)]
theorem Z_m (a:Rows) (k:V->Option R):fnK L_A Tryz.f114 (p_0 a) k=T_8 a k:=by kernel_rfl
theorem x_p (h:∀ (a:Rows),N_e a=true->Real (p_0 a)->T_8 a some=some (V.data N'.sh (V_3 a))):o_P:=goodHook1 fun l hp=>by
  unfold o_O at hp
  split at hp
  · rename_i b
    exact fn_ok (fn:=Tryz.f114) (c:=bodyOf Tryz.f114) (E:=L_A) ⟨by kernel_rfl,goodNil,rfl,M'⟩ rfl (by kernel_rfl) (by kernel_rfl) (by kernel_rfl) (loopsOK_of _ (by have e:loopsOf (bodyOf Tryz.f114)=[(0,loopAt Tryz.f114 0)]:=(by kernel_rfl);rw [e];simp only [List.forall_mem_cons,List.not_mem_nil,false_implies,implies_true,and_true];exact e_s)) (fun hr=>(Z_m b some).trans (h b hp hr))
  · cases hp
noncomputable def N_v (c:Rows) (a b:Int) (d:D') (e:C') (f:Int) (g:G') (i:Rows):Nat:=Int.toNat (a-b)+1
noncomputable def I_T (c:Rows) (d:Int) (e:D') (f:C') (g:Int) (i:G') (a:Int) (b:Rows) (again:Int->Rows->Option R) (kn:Int->Rows->Option R):Option R:=bif (decide (a<d)) then bif (inR a (List.length c)) then let j:=List.getD c (Int.toNat a) [];let m:=V.toInt (List.getD j 0 V.undef);let o:=T_P m e f g i;bif (roomOK ((List.length b)+(1:Nat)) 24) then let p:=b++[[V.data N'.sh o]];let q:=IntKind.wrap .i64 (a+1);again q p else none else none else kn a b
noncomputable def C_G (a:Rows) (b:Int) (c:D') (d:C') (e:Int) (f:G'):Nat->Int->Rows->(Int->Rows->Option R)->Option R
  | 0,_,_,_=>none
  | n+1,g,i,kn=>I_T a b c d e f g i (fun j m=>C_G a b c d e f n j m kn) kn
noncomputable def G_p:ST:=⟨A_j 9 (.fn 112 [.ptr 0 0 0,.ptr 1 0 0,.ptr 2 0 0,.ptr 3 0 0]::.vs 15::A_j 7 (.data [.int .i64]::.int .i64::.int .i64::A_j 12 [])),[(0,.var D'.sh true D'.ts),(1,.var C'.sh true C'.ts),(2,.var [.int .i64] true [.int .i64]),(3,.var F'.sh true F'.ts),(15,.vec [.sl N'.sh] false)],16⟩
noncomputable def E_L (d:Rows) (e:Int) (b:D') (a:C') (f:Int) (c:G') (g:Int) (i:Rows):St:=G_p.put [.r d,.i e,.i g,.i b.Area.X0,.i b.Area.Y0,.i b.Area.X1,.i b.Area.Y1,.i b.TileW,.i b.TileH,.r b.Components,.i a.Kernel,.i a.Levels,.i a.Color,.i a.BlockX,.i a.BlockY,.r a.Precincts,.i a.Order,.i a.Layers,.b a.Mode.Bypass,.b a.Mode.Restart,.b a.Mode.Reset,.b a.Mode.Causal,.b a.Mode.Symbols,.b a.Divide,.b a.Sync,.b a.Fence,.r a.Steps,.i a.Dead,.i a.Shift,.i f,.i c.Comp,.i c.Res,.i c.Precinct,.i c.Layer,.r i]
noncomputable def I_U:LoopG R:=fun l kn _ _=>match l with
  | .r a::.i b::.i O::.i c::.i d::.i e::.i f::.i g::.i i::.r j::.i m::.i o::.i p::.i q::.i r::.r s::.i t::.i u::.b v::.b w::.b y::.b z::.b A::.b B::.b D::.b E::.r F::.i H::.i I::.i J::.i K::.i L::.i M::.i N::.r Q::[]=>C_G a b (D'.mk (F'.mk c d e f) g i j) (C'.mk m o p q r s t u (K'.mk v w y z A) B D E F H I) J (G'.mk K L M N) (N_v a b O (D'.mk (F'.mk c d e f) g i j) (C'.mk m o p q r s t u (K'.mk v w y z A) B D E F H I) J (G'.mk K L M N) Q) O Q (fun S U=>kn (E_L a b (D'.mk (F'.mk c d e f) g i j) (C'.mk m o p q r s t u (K'.mk v w y z A) B D E F H I) J (G'.mk K L M N) S U))
  | _=>none
noncomputable def L_C:Env R:=⟨Tryz.prog,callCons 104 t_e (callCons 112 z_p (callCons 114 z_q callNil)),fun id=>bif Nat.beq id 0 then loopAlt G_p I_U loopNil else (fun _ _ _ _ _=>none) id,Tryz.f83.results.toList,maskTab 33 [(0,0xf0),(1,0x2a0),(2,0x6a0),(3,0x1c0600),(4,0x3c0600),(5,0x1c1600),(6,0x1c0600),(7,0x1c0600),(8,0x100)],maskAt [(1,15),(2,5),(4,7),(6,8),(8,19),(10,20),(12,23),(14,30),(16,32)],noSort⟩
theorem S_j (a:Rows) (b:Int) (c:D') (d:C') (e:Int) (f:G') (j:Int) (m:Rows) (kn:St->Option R) (kx:Nat->St->Option R) (kr:V->Option R) (n:Nat) (o:Int) (p:Rows) :
    loopN L_C 0 (loopAt Tryz.f83 0) (E_L a b c d e f j m) kn kx kr (n+1) (E_L a b c d e f o p) =
    I_T a b c d e f o p (fun g i=>loopN L_C 0 (loopAt Tryz.f83 0) (E_L a b c d e f j m) kn kx kr n (E_L a b c d e f g i)) (fun g i=>kn (E_L a b c d e f g i)):=by kernel_rfl
theorem L_D (a:Rows) (b:Int) (c:D') (d:C') (e:Int) (f:G') (o:Int) (p:Rows) (kn:St->Option R) (kx:Nat->St->Option R) (kr:V->Option R):∀ (n:Nat) (g:Int) (i:Rows),
    C_G a b c d e f n g i (fun j m=>kn (E_L a b c d e f j m))=loopN L_C 0 (loopAt Tryz.f83 0) (E_L a b c d e f o p) kn kx kr n (E_L a b c d e f g i)
  | 0,_,_=>rfl
  | n+1,g,i=>by
    rw [S_j,C_G]
    congr 1
    funext j m
    exact L_D a b c d e f o p kn kx kr n j m
theorem Z_n {rest} (h:GoodL (R:=R) L_C 0 (loopAt Tryz.f83 0) rest):GoodL (R:=R) L_C 0 (loopAt Tryz.f83 0) (loopAlt G_p I_U rest):=by
  refine goodL_alt (fun l kn kx kr r h=>?_) h
  unfold I_U at h
  split at h
  · rename_i c d a e f g i j m o p q s t u v w y z A B D E F H I J K L M N O Q S b
    exact ⟨_,(L_D c d (D'.mk (F'.mk e f g i) j m o) (C'.mk p q s t u v w y (K'.mk z A B D E) F H I J K L) M (G'.mk N O Q S) a b kn kx kr _ a b).symm.trans h⟩
  · cases h
theorem e_t:GoodLoop (R:=R) L_C 0 (loopAt Tryz.f83 0):=goodL_loop (g:=loopAlt G_p I_U loopNil) (fun _ _ _ _=>rfl) (Z_n goodL_nil)
noncomputable def T_9 (d:D') (a:C') (e:Int) (b:G') (k:V->Option R):Option R:=let c:=O_M a.Levels b.Res;let f:=(((List.length c):Nat):Int);C_G c f d a e b (N_v c f 0 d a e b []) 0 [] (fun j g=>bif (N_e g) then let i:=V_3 g;k (V.data N'.sh i) else none)
abbrev p_1 (a:D') (b:C') (c:Int) (d:G'):List V:=[(D'.v a),(C'.v b),V.int .i64 c,(G'.v d)]
theorem Z_o (a:D') (b:C') (c:Int) (d:G') (k:V->Option R):fnK L_C Tryz.f83 (p_1 a b c d) k=T_9 a b c d k:=by kernel_rfl
theorem x_q (h_C1:m_z) (h_B2:o_N) (h_H7:o_P) (h:∀ (a:D') (b:C') (d:Int) (f:G'),Real (p_1 a b d f)->T_9 a b d f some=some (V.data N'.sh (M_y a b d f))):r_o:=goodHook1 fun l hp=>by
  unfold o_Q at hp
  split at hp
  · rename_i g i j m o p q r s t u v w y z A B D F H I J K L M N O Q S U W
    exact fn_ok (fn:=Tryz.f83) (c:=bodyOf Tryz.f83) (E:=L_C) ⟨by kernel_rfl,(goodCons h_C1 (goodCons h_B2 (goodCons h_H7 goodNil))),rfl,M'⟩ rfl (by kernel_rfl) (by kernel_rfl) (by kernel_rfl) (loopsOK_of _ (by have e:loopsOf (bodyOf Tryz.f83)=[(0,loopAt Tryz.f83 0)]:=(by kernel_rfl);rw [e];simp only [List.forall_mem_cons,List.not_mem_nil,false_implies,implies_true,and_true];exact e_t)) (fun hr=>(Z_o (D'.mk (F'.mk g i j m) o p q) (C'.mk r s t u v w y z (K'.mk A B D F H) I J K L M N) O (G'.mk Q S U W) some).trans (h (D'.mk (F'.mk g i j m) o p q) (C'.mk r s t u v w y z (K'.mk A B D F H) I J K L M N) O (G'.mk Q S U W) hr))
  · cases hp
noncomputable def i_T:Env R:=⟨Tryz.prog,callCons 82 t_z (callCons 83 z_r callNil),fun _ _ _ _ _=>none,Tryz.f48.results.toList,maskTab 21 [(0,0xb4),(1,0x80b4),(2,0x100),(3,0x100)],maskAt [(2,4),(4,11),(6,12)],noSort⟩
noncomputable def e_u (a:D') (b:C') (c:Int) (d:G') (k:V->Option R):Option R:=let e:=c_v a b c d.Comp;bif (!e) then k (V.data N'.sh []) else let f:=M_y a b c d;k (V.data N'.sh f)
abbrev x_r (a:D') (b:C') (c:Int) (d:G'):List V:=[(D'.v a),(C'.v b),V.int .i64 c,(G'.v d)]
theorem Z_p (a:D') (b:C') (c:Int) (d:G') (k:V->Option R):fnK i_T Tryz.f48 (x_r a b c d) k=e_u a b c d k:=by kernel_rfl
theorem x_s (a:D') (b:C') (c:Int) (d:G'):e_u a b c d some=some ((fun (m:Rows)=>(V.data N'.sh m)) (f_O a b c d)):=by
  repeat' (first | rfl | refine A_t (v:=(fun (m:Rows)=>(V.data N'.sh m))) ?_ ?_)
theorem Z_q (h_E6:q_9) (h_C2:r_o):u_e:=goodHook1 fun l hp=>by
  unfold o_R at hp
  split at hp
  · rename_i a b d f g i j m o q r s t u v w y z A B D F H I J K L M N O Q
    exact fn_ok (fn:=Tryz.f48) (c:=bodyOf Tryz.f48) (E:=i_T) ⟨by kernel_rfl,(goodCons h_E6 (goodCons h_C2 goodNil)),rfl,M'⟩ rfl (by kernel_rfl) (by kernel_rfl) (by kernel_rfl) (loopsOK_of _ (by have e:loopsOf (bodyOf Tryz.f48)=[]:=(by kernel_rfl);rw [e];intro p hp;cases hp)) (fun hr=>(Z_p (D'.mk (F'.mk a b d f) g i j) (C'.mk m o q r s t u v (K'.mk w y z A B) D F H I J K) L (G'.mk M N O Q) some).trans (x_s (D'.mk (F'.mk a b d f) g i j) (C'.mk m o q r s t u v (K'.mk w y z A B) D F H I J K) L (G'.mk M N O Q)))
  · cases hp
noncomputable def i_U:Env R:=⟨Tryz.prog,callCons 36 g_x (callCons 40 k_m (callCons 45 z_i (callCons 46 q_8 (callCons 47 z_l (callCons 48 z_s callNil))))),fun _ _ _ _ _=>none,Tryz.f44.results.toList,maskTab 78 [(0,0x7f802fd),(1,0x80002f9),(2,0x400),(3,0xad9),(4,0x800000ad9),(5,0xad9),(6,0x1ad9),(7,0xa59),(8,0x2259),(9,0x400)],maskAt [(2,2),(4,16),(6,17),(8,23),(10,27),(12,32),(14,40),(16,50),(18,68)],noSort⟩
noncomputable def e_v (e:Int) (b:G') (s:Int) (c:C') (a:O') (g:Rows) (d:D') (f:Int) (k:V->Option R):Option R:=let t:=IntKind.wrap .i64 (c.Levels-a.Drop);let u:Bool:=(bif (decide (b.Layer >= s)) then true else (decide (b.Res > t)));bif u then k (V.bool false) else bif (inR e (List.length g)) then let v:=List.getD g (Int.toNat e) [];let i:=F'.of v;let w:=!((a.Window.X0==0)&&((a.Window.Y0==0)&&((a.Window.X1==0)&&((a.Window.Y1==0)&&true))));bif w then let y:=C_S i a.Window;bif (inR b.Comp (List.length d.Components)) then let z:=List.getD d.Components (Int.toNat b.Comp) [];let j:=H'.of z;let A:=D_j y j.DX j.DY;let B:=D_j A f f;let D:=H_z d e b.Comp;let E:=IntKind.wrap .i64 (c.Levels-a.Drop);let m:=V_f D c.Levels E B c.Kernel;let o:=f_O d c e b;bif (G_0 o a m) then let F:=h_z o a m;k (V.bool F) else none else none else bif (inR b.Comp (List.length d.Components)) then let H:=List.getD d.Components (Int.toNat b.Comp) [];let p:=H'.of H;let I:=D_j i p.DX p.DY;let J:=D_j I f f;let K:=H_z d e b.Comp;let L:=IntKind.wrap .i64 (c.Levels-a.Drop);let q:=V_f K c.Levels L J c.Kernel;let r:=f_O d c e b;bif (G_0 r a q) then let M:=h_z r a q;k (V.bool M) else none else none else none
abbrev x_t (a:Int) (b:G') (c:Int) (d:C') (e:O') (f:Rows) (g:D') (i:Int):List V:=[V.int .i64 a,(G'.v b),(V.pdat [.int .i64] [V.int .i64 c] 0),(V.pdat C'.sh (C'.row d) 0),(V.pdat O'.sh (O'.row e) 0),(V.pdat [.sl F'.sh] [V.data F'.sh f] 0),(V.pdat D'.sh (D'.row g) 0),(V.pdat [.int .i64] [V.int .i64 i] 0)]
theorem Z_r (a:Int) (b:G') (c:Int) (d:C') (e:O') (f:Rows) (g:D') (i:Int) (k:V->Option R):fnK i_U Tryz.f44 (x_t a b c d e f g i) k=e_v a b c d e f g i k:=by kernel_rfl
theorem x_u (a:Int) (b:G') (c:Int) (d:C') (e:O') (f:Rows) (g:D') (i:Int):R_i a b c d e f g i=true->e_v a b c d e f g i some=some ((fun (m:Bool)=>(V.bool m)) (m_m a b c d e f g i)):=by
  repeat' (first | exact fun _=>rfl | exact fun h=>absurd h (by decide) | refine B_b (v:=(fun (m:Bool)=>(V.bool m))) ?_ ?_)
theorem Z_s (h_D1:W_a) (h_I0:f_Y) (h_G4:r_j) (h_B5:o_h) (h_A0:t_5) (h_E4:u_e):r_p:=goodHook1 fun l hp=>by
  unfold o_S at hp
  split at hp
  · rename_i a b d f g i j m o q r s t u v w y z A B D F H I J K L M N O Q S U W X Y Z a0 a1 a2
    exact fn_ok (fn:=Tryz.f44) (c:=bodyOf Tryz.f44) (E:=i_U) ⟨by kernel_rfl,(goodCons h_D1 (goodCons h_I0 (goodCons h_G4 (goodCons h_B5 (goodCons h_A0 (goodCons h_E4 goodNil)))))),rfl,M'⟩ rfl (by kernel_rfl) (by kernel_rfl) (by kernel_rfl) (loopsOK_of _ (by have e:loopsOf (bodyOf Tryz.f44)=[]:=(by kernel_rfl);rw [e];intro p hp;cases hp)) (fun hr=>(Z_r a (G'.mk b d f g) i (C'.mk j m o q r s t u (K'.mk v w y z A) B D F H I J) (O'.mk K L (F'.mk M N O Q)) S (D'.mk (F'.mk U W X Y) Z a0 a1) a2 some).trans (x_u a (G'.mk b d f g) i (C'.mk j m o q r s t u (K'.mk v w y z A) B D F H I J) (O'.mk K L (F'.mk M N O Q)) S (D'.mk (F'.mk U W X Y) Z a0 a1) a2 hp))
  · cases hp
noncomputable def S_k (c:Int) (d:C') (e:O') (f:Rows) (g:D') (i:Int) (j:Rows) (a b:Int) (m:Rows):Nat:=Int.toNat (a-b)+1
noncomputable def I_V (d:Int) (e:C') (f:O') (g:Rows) (i:D') (j:Int) (m:Rows) (o:Int) (a:Int) (c:Rows) (again:Int->Rows->Option R) (kn:Int->Rows->Option R):Option R:=bif (decide (a<o)) then bif (inR a (List.length m)) then let p:=List.getD m (Int.toNat a) [];let b:=V'.of p;let q:=decide (b.Span.From<b.Span.To);bif (q==true) then bif (R_i b.Tile b.ID d e f g i j) then let r:=m_m b.Tile b.ID d e f g i j;bif r then bif (roomOK ((List.length c)+(1:Nat)) 16) then let s:=c++[(U'.row b.Span)];let t:=IntKind.wrap .i64 (a+1);again t s else none else let u:=IntKind.wrap .i64 (a+1);again u c else none else let v:=IntKind.wrap .i64 (a+1);again v c else none else kn a c
noncomputable def D_D (a:Int) (b:C') (c:O') (d:Rows) (e:D') (f:Int) (g:Rows) (i:Int):Nat->Int->Rows->(Int->Rows->Option R)->Option R
  | 0,_,_,_=>none
  | n+1,j,m,kn=>I_V a b c d e f g i j m (fun o p=>D_D a b c d e f g i n o p kn) kn
noncomputable def G_q:ST:=⟨A_j 14 (.fn 44 [.pdc [.int .i64] 0 [.int .i64],.pdc C'.sh 0 [.int .i64,.int .i64,.int .i64,.int .i64,.int .i64,.data U'.sh,.int .i64,.int .i64,.bool,.bool,.bool,.bool,.bool,.bool,.bool,.bool,.data [.int .i64],.int .i64,.int .i64],.pdc O'.sh 0 [.int .i64,.int .i64,.int .i64,.int .i64,.int .i64,.int .i64],.pdc [.sl F'.sh] 0 [.data F'.sh],.pdc D'.sh 0 [.int .i64,.int .i64,.int .i64,.int .i64,.int .i64,.int .i64,.data H'.sh],.pdc [.int .i64] 0 [.int .i64]]::.vs 43::A_j 30 (.data V'.sh::.int .i64::.int .i64::A_j 67 [])),[(43,.vec U'.sh false)],44⟩
noncomputable def E_M (d:Int) (a:C') (c:O') (e:Rows) (b:D') (f:Int) (g:Rows) (i:Int) (j:Int) (m:Rows):St:=G_q.put [.i d,.i a.Kernel,.i a.Levels,.i a.Color,.i a.BlockX,.i a.BlockY,.r a.Precincts,.i a.Order,.i a.Layers,.b a.Mode.Bypass,.b a.Mode.Restart,.b a.Mode.Reset,.b a.Mode.Causal,.b a.Mode.Symbols,.b a.Divide,.b a.Sync,.b a.Fence,.r a.Steps,.i a.Dead,.i a.Shift,.i c.Layers,.i c.Drop,.i c.Window.X0,.i c.Window.Y0,.i c.Window.X1,.i c.Window.Y1,.r e,.i b.Area.X0,.i b.Area.Y0,.i b.Area.X1,.i b.Area.Y1,.i b.TileW,.i b.TileH,.r b.Components,.i f,.r g,.i i,.i j,.r m]
noncomputable def I_W:LoopG R:=fun l kn _ _=>match l with
  | .i a::.i b::.i c::.i d::.i e::.i f::.r g::.i i::.i j::.b m::.b o::.b p::.b q::.b r::.b s::.b t::.b u::.r v::.i w::.i y::.i z::.i A::.i B::.i D::.i E::.i F::.r H::.i I::.i J::.i K::.i L::.i M::.i N::.r O::.i Q::.r S::.i U::.i W::.r X::[]=>D_D a (C'.mk b c d e f g i j (K'.mk m o p q r) s t u v w y) (O'.mk z A (F'.mk B D E F)) H (D'.mk (F'.mk I J K L) M N O) Q S U (S_k a (C'.mk b c d e f g i j (K'.mk m o p q r) s t u v w y) (O'.mk z A (F'.mk B D E F)) H (D'.mk (F'.mk I J K L) M N O) Q S U W X) W X (fun Y Z=>kn (E_M a (C'.mk b c d e f g i j (K'.mk m o p q r) s t u v w y) (O'.mk z A (F'.mk B D E F)) H (D'.mk (F'.mk I J K L) M N O) Q S U Y Z))
  | _=>none
noncomputable def N_w (a b:Int) (c d:Rows):Nat:=Int.toNat (a-b)+1
noncomputable def I_X (o:Int) (f:Rows) (b:Int) (a:Rows) (again:Int->Rows->Option R) (kn:Int->Rows->Option R):Option R:=bif (decide (b<o)) then bif (inR b (List.length f)) then let c:=U'.of (List.getD f (Int.toNat b) []);let d:=(((List.length a):Nat):Int);let g:=decide (d > 0);let i:=IntKind.wrap .i64 (d-1);bif ((inR i (List.length a))||!(g==true)) then let p:=V.toInt (List.getD (List.getD a (Int.toNat i) []) 1 V.undef);let q:=decide (c.From<=p);let r:Bool:=(bif g then q else false);bif r then let e:=IntKind.wrap .i64 (d-1);let j:=IntKind.wrap .i64 (d-1);bif (inR j (List.length a)) then let m:=V.toInt (List.getD (List.getD a (Int.toNat j) []) 1 V.undef);let s:Int:=(bif (decide (c.To > m)) then c.To else m);bif (inR e (List.length a)) then let t:=List.set a (Int.toNat e) (setCells (List.getD a (Int.toNat e) []) 1 [V.int .i64 s]);let u:=IntKind.wrap .i64 (b+1);again u t else none else none else bif (roomOK ((List.length a)+(1:Nat)) 16) then let v:=a++[(U'.row c)];let w:=IntKind.wrap .i64 (b+1);again w v else none else none else none else kn b a
noncomputable def B_Z (a:Int) (b:Rows):Nat->Int->Rows->(Int->Rows->Option R)->Option R
  | 0,_,_,_=>none
  | n+1,c,d,kn=>I_X a b c d (fun e f=>B_Z a b n e f kn) kn
noncomputable def G_r:ST:=⟨A_j 18 (.vs 81::A_j 56 (.vs 43::.int .i64::.int .i64::A_j 38 [])),[(43,.vec U'.sh false),(81,.vec U'.sh false)],82⟩
noncomputable def E_N (a:Int) (b:Rows) (c:Int) (d:Rows):St:=G_r.put [.i a,.i c,.r b,.r d]
noncomputable def I_Y:LoopG R:=fun l kn _ _=>match l with
  | .i a::.i c::.r b::.r d::[]=>B_Z a b (N_w a c b d) c d (fun e f=>kn (E_N a b e f))
  | _=>none
noncomputable def O_3:Sorts:=⟨fun f=>Nat.beq f 18,fun sf g caps=>bif Nat.beq sf 18&&Nat.beq g 19 then l_W caps else (none)⟩
noncomputable def C_6:Env R:=⟨Tryz.prog,callCons 15 y_0 (callCons 16 z_e (callCons 17 z_f (callCons 44 z_t callNil))),fun id=>bif Nat.beq id 0 then loopAlt G_q I_W loopNil else (fun id=>bif Nat.beq id 2 then loopAlt G_r I_Y loopNil else (fun _ _ _ _ _=>none) id) id,Tryz.f6.results.toList,maskTab 116 [(0,0x7fc00003f0000000000000b4),(1,0x7fc00003f0000000000008b4),(2,0x7fc00003f0000000400008b4),(3,0x300),(4,0x7fc00003f0000000000020b4),(5,0x7fc00003f0000100000020b4),(6,0x300),(7,0x7fc00003f000000000004004),(8,0x7fc00003f00000000000c004),(9,0x7fc00003f001c0000000c000),(10,0x7fc00003f003c0000000c000),(11,0x7fc00003f001c0000002c000),(12,0x7fc00007f001c0000002c000),(13,0x7fc00003f001c0000000c000),(14,0x7fc00003f001c0000000c000),(15,0x7fc000000000000000008000),(16,0x7fc000000000000000048000),(17,0x7fc038000000000000040000),(18,0x7fc078000000000000040000),(19,0x7fc038000000000000140000),(20,0x7fc038000000000000340000),(21,0xffc038000000000000340000),(22,0x7fc038000000000000040000),(23,0x7fc038000000000000040000),(24,0x7fc038000000000000040000),(25,0x300)],maskAt [(1,43),(2,5),(4,15),(5,81),(6,17),(8,20),(10,29),(12,31),(14,34),(16,39),(18,40),(20,47),(22,48),(24,52),(26,67),(28,73),(30,75),(32,77),(34,78),(36,85),(38,86),(40,90),(42,93),(44,106),(46,121),(48,126),(50,128)],O_3⟩
theorem S_l (a:Int) (b:C') (c:O') (d:Rows) (e:D') (f:Int) (g:Rows) (i:Int) (o:Int) (p:Rows) (kn:St->Option R) (kx:Nat->St->Option R) (kr:V->Option R) (n:Nat) (q:Int) (r:Rows) :
    loopN C_6 0 (loopAt Tryz.f6 0) (E_M a b c d e f g i o p) kn kx kr (n+1) (E_M a b c d e f g i q r) =
    I_V a b c d e f g i q r (fun j m=>loopN C_6 0 (loopAt Tryz.f6 0) (E_M a b c d e f g i o p) kn kx kr n (E_M a b c d e f g i j m)) (fun j m=>kn (E_M a b c d e f g i j m)):=by kernel_rfl
theorem L_E (a:Int) (b:C') (c:O') (d:Rows) (e:D') (f:Int) (g:Rows) (i:Int) (q:Int) (r:Rows) (kn:St->Option R) (kx:Nat->St->Option R) (kr:V->Option R):∀ (n:Nat) (j:Int) (m:Rows),
    D_D a b c d e f g i n j m (fun o p=>kn (E_M a b c d e f g i o p))=loopN C_6 0 (loopAt Tryz.f6 0) (E_M a b c d e f g i q r) kn kx kr n (E_M a b c d e f g i j m)
  | 0,_,_=>rfl
  | n+1,j,m=>by
    rw [S_l,D_D]
    congr 1
    funext o p
    exact L_E a b c d e f g i q r kn kx kr n o p
theorem Z_t {rest} (h:GoodL (R:=R) C_6 0 (loopAt Tryz.f6 0) rest):GoodL (R:=R) C_6 0 (loopAt Tryz.f6 0) (loopAlt G_q I_W rest):=by
  refine goodL_alt (fun l kn kx kr r h=>?_) h
  unfold I_W at h
  split at h
  · rename_i c d e f g i j m o p q s t u v w y z A B D E F H I J K L M N O Q S U W X Y a b
    exact ⟨_,(L_E c (C'.mk d e f g i j m o (K'.mk p q s t u) v w y z A B) (O'.mk D E (F'.mk F H I J)) K (D'.mk (F'.mk L M N O) Q S U) W X Y a b kn kx kr _ a b).symm.trans h⟩
  · cases h
theorem S_m (a:Int) (b:Rows) (e:Int) (f:Rows) (kn:St->Option R) (kx:Nat->St->Option R) (kr:V->Option R) (n:Nat) (g:Int) (i:Rows) :
    loopN C_6 2 (loopAt Tryz.f6 1) (E_N a b e f) kn kx kr (n+1) (E_N a b g i) =
    I_X a b g i (fun c d=>loopN C_6 2 (loopAt Tryz.f6 1) (E_N a b e f) kn kx kr n (E_N a b c d)) (fun c d=>kn (E_N a b c d)):=by kernel_rfl
theorem L_F (a:Int) (b:Rows) (g:Int) (i:Rows) (kn:St->Option R) (kx:Nat->St->Option R) (kr:V->Option R):∀ (n:Nat) (c:Int) (d:Rows),
    B_Z a b n c d (fun e f=>kn (E_N a b e f))=loopN C_6 2 (loopAt Tryz.f6 1) (E_N a b g i) kn kx kr n (E_N a b c d)
  | 0,_,_=>rfl
  | n+1,c,d=>by
    rw [S_m,B_Z]
    congr 1
    funext e f
    exact L_F a b g i kn kx kr n e f
theorem Z_u {rest} (h:GoodL (R:=R) C_6 2 (loopAt Tryz.f6 1) rest):GoodL (R:=R) C_6 2 (loopAt Tryz.f6 1) (loopAlt G_r I_Y rest):=by
  refine goodL_alt (fun l kn kx kr r h=>?_) h
  unfold I_Y at h
  split at h
  · rename_i c a d b
    exact ⟨_,(L_F c d a b kn kx kr _ a b).symm.trans h⟩
  · cases h
theorem e_w:GoodLoop (R:=R) C_6 0 (loopAt Tryz.f6 0):=goodL_loop (g:=loopAlt G_q I_W loopNil) (fun _ _ _ _=>rfl) (Z_t goodL_nil)
theorem e_x:GoodLoop (R:=R) C_6 2 (loopAt Tryz.f6 1):=goodL_loop (g:=loopAlt G_r I_Y loopNil) (fun _ _ _ _=>rfl) (Z_u goodL_nil)
noncomputable def U_a (b:D') (c:C') (d:Rows) (e:O') (k:V->Option R):Option R:=bif (R_b b c e) then let i:=O_Q b c e;bif (i.2 != 0) then k (V.tup [(V.data U'.sh []),V.int .i64 i.2]) else bif (O_R b c d) then let j:=Q_t b c d;bif (j.2 != 0) then k (V.tup [(V.data U'.sh []),V.int .i64 j.2]) else bif (R_h b c e) then let a:=T_s b c e;let m:=(((List.length d):Nat):Int);D_D a.1 a.2.1 a.2.2.1 a.2.2.2.1 a.2.2.2.2.1 a.2.2.2.2.2 d m (S_k a.1 a.2.1 a.2.2.1 a.2.2.2.1 a.2.2.2.2.1 a.2.2.2.2.2 d m 0 []) 0 [] (fun q f=>bif (Nat.blt (List.length f) 4611686018427387904&&true&&(f.all fun r=>O_I (r.map V.toInt))) then anyS (fun z=>z.Perm f/\sortedBy N_g z) fun g=>let o:=(((List.length g):Nat):Int);B_Z o g (N_w o 0 g []) 0 [] (fun s p=>k (V.tup [V.data U'.sh p,(V.int .i64 0)])) else none) else none else none else none
abbrev p_2 (a:D') (b:C') (c:Rows) (d:O'):List V:=[(D'.v a),(C'.v b),V.data V'.sh c,(O'.v d)]
theorem Z_v (a:D') (b:C') (c:Rows) (d:O') (k:V->Option R):fnK C_6 Tryz.f6 (p_2 a b c d) k=U_a a b c d k:=by kernel_rfl
theorem x_v (h_C6:q_6) (h_G0:o_B) (h_G8:r_g) (h_D0:r_p) (h_srt:M_3 Tryz.prog O_3) (h:∀ (a:D') (b:C') (d:Rows) (f:O'),K_M a b d f=true->Real (p_2 a b d f)->U_a a b d f some=some (V.tup [(V.data U'.sh (f_P a b d f).1),(V.int .i64 (f_P a b d f).2)])):r_q:=goodHook1 fun l hp=>by
  unfold o_T at hp
  split at hp
  · rename_i g i j m o p q r s t u v w y z A B D F H I J K L M N O Q S U W X Y
    exact fn_ok (fn:=Tryz.f6) (c:=bodyOf Tryz.f6) (E:=C_6) ⟨by kernel_rfl,(goodCons h_C6 (goodCons h_G0 (goodCons h_G8 (goodCons h_D0 goodNil)))),rfl,h_srt⟩ rfl (by kernel_rfl) (by kernel_rfl) (by kernel_rfl) (loopsOK_of _ (by have e:loopsOf (bodyOf Tryz.f6)=[(0,loopAt Tryz.f6 0),(2,loopAt Tryz.f6 1)]:=(by kernel_rfl);rw [e];simp only [List.forall_mem_cons,List.not_mem_nil,false_implies,implies_true,and_true];exact ⟨e_w,e_x⟩)) (fun hr=>(Z_v (D'.mk (F'.mk g i j m) o p q) (C'.mk r s t u v w y z (K'.mk A B D F H) I J K L M N) O (O'.mk Q S (F'.mk U W X Y)) some).trans (h (D'.mk (F'.mk g i j m) o p q) (C'.mk r s t u v w y z (K'.mk A B D F H) I J K L M N) O (O'.mk Q S (F'.mk U W X Y)) hp hr))
  · cases hp
noncomputable def i_V:Env R:=⟨Tryz.prog,callCons 9 n_c (callCons 11 n_y (callCons 23 c_D (callCons 24 g_t (callCons 26 h_J (callCons 52 h_L callNil))))),fun _ _ _ _ _=>none,Tryz.f20.results.toList,maskTab 77 [(0,0x180003e73800078),(1,0x180003e73800178),(2,0x180003e73810178),(3,0xc0),(4,0x180004000000068),(5,0xc0),(6,0x180000000000268),(7,0x180200000000268),(8,0x180000000000268),(9,0x200000000000268),(10,0xc0),(11,0x648),(12,0x840),(13,0x4000000000000000840),(14,0xc0),(15,0xc0)],maskAt [(2,5),(4,9),(6,11),(8,15),(10,35),(12,38),(14,42),(16,46),(18,51),(20,59),(22,62),(24,67),(26,78),(28,81),(30,84)],noSort⟩
noncomputable def e_y (b:D') (e:C') (a:O') (k:V->Option R):Option R:=let f:=V_2 b e;bif (f != 0) then k (V.tup [(V.agg [(V.int .i64 0),(V.int .i64 0),(V.int .i64 0),(V.int .i64 0),(V.int .i64 0),(V.int .i64 0),(V.data H'.sh [])]),V.int .i64 f]) else let p:=decide (a.Layers<0);let q:=decide (a.Layers > 16);let r:Bool:=(bif p then true else q);let s:=decide (a.Drop<0);let t:Bool:=(bif r then true else s);let u:=decide (a.Drop > e.Levels);let v:Bool:=(bif t then true else u);bif v then k (V.tup [(V.agg [(V.int .i64 0),(V.int .i64 0),(V.int .i64 0),(V.int .i64 0),(V.int .i64 0),(V.int .i64 0),(V.data H'.sh [])]),(V.int .i64 2)]) else let w:=!((a.Window.X0==0)&&((a.Window.Y0==0)&&((a.Window.X1==0)&&((a.Window.Y1==0)&&true))));bif w then let g:=O_K b.Area a.Window;let y:=M_4 a.Window;bif ((!y)==false) then let z:=O_b g;bif z then k (V.tup [(V.agg [(V.int .i64 0),(V.int .i64 0),(V.int .i64 0),(V.int .i64 0),(V.int .i64 0),(V.int .i64 0),(V.data H'.sh [])]),(V.int .i64 2)]) else let i:=IntKind.wrap .u64 a.Drop;bif (decide (0<=i)) then let j:=IntKind.wrap .i64 (1*2 ^ (min (Int.toNat i) 64));let c:=M_u g j j;bif (roomOK ((0:Nat)+(List.length b.Components)) 32) then let A:=V_0 (D'.mk c 4096 4096 ([]++b.Components));bif (A != 0) then k (V.tup [(V.agg [(V.int .i64 0),(V.int .i64 0),(V.int .i64 0),(V.int .i64 0),(V.int .i64 0),(V.int .i64 0),(V.data H'.sh [])]),(V.int .i64 2)]) else k (V.tup [(V.agg [V.int .i64 c.X0,V.int .i64 c.Y0,V.int .i64 c.X1,V.int .i64 c.Y1,(V.int .i64 4096),(V.int .i64 4096),(V.data H'.sh ([]++b.Components))]),(V.int .i64 0)]) else none else none else k (V.tup [(V.agg [(V.int .i64 0),(V.int .i64 0),(V.int .i64 0),(V.int .i64 0),(V.int .i64 0),(V.int .i64 0),(V.data H'.sh [])]),(V.int .i64 2)]) else let m:=IntKind.wrap .u64 a.Drop;bif (decide (0<=m)) then let o:=IntKind.wrap .i64 (1*2 ^ (min (Int.toNat m) 64));let d:=M_u b.Area o o;bif (roomOK ((0:Nat)+(List.length b.Components)) 32) then let B:=V_0 (D'.mk d 4096 4096 ([]++b.Components));bif (B != 0) then k (V.tup [(V.agg [(V.int .i64 0),(V.int .i64 0),(V.int .i64 0),(V.int .i64 0),(V.int .i64 0),(V.int .i64 0),(V.data H'.sh [])]),(V.int .i64 2)]) else k (V.tup [(V.agg [V.int .i64 d.X0,V.int .i64 d.Y0,V.int .i64 d.X1,V.int .i64 d.Y1,(V.int .i64 4096),(V.int .i64 4096),(V.data H'.sh ([]++b.Components))]),(V.int .i64 0)]) else none else none
abbrev x_w (a:D') (b:C') (c:O'):List V:=[(D'.v a),(C'.v b),(O'.v c)]
theorem Z_w (a:D') (b:C') (c:O') (k:V->Option R):fnK i_V Tryz.f20 (x_w a b c) k=e_y a b c k:=by kernel_rfl
theorem x_x (a:D') (b:C') (c:O'):R_j a b c=true->e_y a b c some=some ((fun (m:D' × Int)=>(V.tup [(D'.v m.1),V.int .i64 m.2])) (g_s a b c)):=by
  repeat' (first | exact fun _=>rfl | exact fun h=>absurd h (by decide) | refine B_b (v:=(fun (m:D' × Int)=>(V.tup [(D'.v m.1),V.int .i64 m.2]))) ?_ ?_)
theorem Z_x (h_J8:g_u) (h_L6:h_O) (h_K8:T_R) (h_L1:V_7) (h_I9:V_8) (h_F5:c_E):r_r:=goodHook1 fun l hp=>by
  unfold o_U at hp
  split at hp
  · rename_i a b d f g i j m o q r s t u v w y z A B D F H I J K L M N O Q S
    exact fn_ok (fn:=Tryz.f20) (c:=bodyOf Tryz.f20) (E:=i_V) ⟨by kernel_rfl,(goodCons h_J8 (goodCons h_L6 (goodCons h_K8 (goodCons h_L1 (goodCons h_I9 (goodCons h_F5 goodNil)))))),rfl,M'⟩ rfl (by kernel_rfl) (by kernel_rfl) (by kernel_rfl) (loopsOK_of _ (by have e:loopsOf (bodyOf Tryz.f20)=[]:=(by kernel_rfl);rw [e];intro p hp;cases hp)) (fun hr=>(Z_w (D'.mk (F'.mk a b d f) g i j) (C'.mk m o q r s t u v (K'.mk w y z A B) D F H I J K) (O'.mk L M (F'.mk N O Q S)) some).trans (x_x (D'.mk (F'.mk a b d f) g i j) (C'.mk m o q r s t u v (K'.mk w y z A B) D F H I J K) (O'.mk L M (F'.mk N O Q S)) hp))
  · cases hp
noncomputable def i_W:Env R:=⟨Tryz.prog,callCons 10 h_M (callCons 11 n_y callNil),fun _ _ _ _ _=>none,Tryz.f120.results.toList,maskTab 23 [(0,0x3e001c),(1,0x3e008c),(2,0x3e108c),(3,0x40),(4,0x400000),(5,0x40),(6,0x40)],maskAt [(2,3),(4,7),(6,9),(8,11),(10,20),(12,21)],noSort⟩
noncomputable def e_z (a:D') (d:C') (b:Int) (k:V->Option R):Option R:=let c:=V_2 a d;bif (c != 0) then k (V.int .i64 c) else let e:=decide (b<0);bif (e==false) then let f:=P_M a;let g:=(((List.length f):Nat):Int);bif (decide (b >= g)) then k (V.int .i64 14) else k (V.int .i64 0) else k (V.int .i64 14)
abbrev x_y (a:D') (b:C') (c:Int):List V:=[(D'.v a),(C'.v b),V.int .i64 c]
theorem Z_y (a:D') (b:C') (c:Int) (k:V->Option R):fnK i_W Tryz.f120 (x_y a b c) k=e_z a b c k:=by kernel_rfl
theorem x_z (a:D') (b:C') (c:Int):e_z a b c some=some ((fun (m:Int)=>(V.int .i64 m)) (j_G a b c)):=by
  repeat' (first | rfl | refine A_t (v:=(fun (m:Int)=>(V.int .i64 m))) ?_ ?_)
theorem Z_z (h_K6:c_F) (h_L6:h_O):r_s:=goodHook1 fun l hp=>by
  unfold o_V at hp
  split at hp
  · rename_i a b d f g i j m o q r s t u v w y z A B D F H I J K L
    exact fn_ok (fn:=Tryz.f120) (c:=bodyOf Tryz.f120) (E:=i_W) ⟨by kernel_rfl,(goodCons h_K6 (goodCons h_L6 goodNil)),rfl,M'⟩ rfl (by kernel_rfl) (by kernel_rfl) (by kernel_rfl) (loopsOK_of _ (by have e:loopsOf (bodyOf Tryz.f120)=[]:=(by kernel_rfl);rw [e];intro p hp;cases hp)) (fun hr=>(Z_y (D'.mk (F'.mk a b d f) g i j) (C'.mk m o q r s t u v (K'.mk w y z A B) D F H I J K) L some).trans (x_z (D'.mk (F'.mk a b d f) g i j) (C'.mk m o q r s t u v (K'.mk w y z A B) D F H I J K) L))
  · cases hp
noncomputable def D_E:ST:=⟨.undef::.undef::.ptr 0 0 0::.ptr 1 0 0::.undef::.lit .i64 0::A_j 18 [],[(0,.var O'.sh false [.int .i64,.int .i64,.int .i64,.int .i64,.int .i64,.int .i64]),(1,.var O'.sh false [.int .i64,.int .i64,.int .i64,.int .i64,.int .i64,.int .i64])],4⟩
noncomputable def e_A (a b:Y') (kn:St->Option R) (kr:V->Option R):Option R:=bif (a.e0 != b.e0) then kr (V.bool (decide (a.e0<b.e0))) else bif (a.e1 != b.e1) then kr (V.bool (decide (a.e1<b.e1))) else bif (a.e2 != b.e2) then kr (V.bool (decide (a.e2<b.e2))) else bif (a.e3 != b.e3) then kr (V.bool (decide (a.e3<b.e3))) else bif (a.e4 != b.e4) then kr (V.bool (decide (a.e4<b.e4))) else bif (a.e5 != b.e5) then kr (V.bool (decide (a.e5<b.e5))) else kn ⟨[V.undef,V.undef,(V.ptr 0 (0:Nat) 0),(V.ptr 1 (0:Nat) 0),V.undef,(V.int .i64 6),V.undef,V.undef,V.undef,V.undef,V.undef,V.undef,V.undef,V.undef,V.undef,V.undef,V.undef,V.undef,V.undef,V.undef,V.undef,V.undef,V.undef,V.undef],[(0,⟨false,O'.sh,[(Y'.row a)],false⟩),(1,⟨false,O'.sh,[(Y'.row b)],false⟩)],4⟩
noncomputable def I_Z:LoopG R:=fun l kn _ kr=>match l with
  | .i a::.i b::.i c::.i d::.i e::.i f::.i g::.i i::.i j::.i m::.i o::.i p::[]=>e_A (Y'.mk a b c d e f) (Y'.mk g i j m o p) kn kr
  | _=>none
noncomputable def O_4:Env R:=⟨Tryz.prog,callNil,fun id=>bif Nat.beq id 0 then loopAlt D_E I_Z loopNil else (fun _ _ _ _ _=>none) id,Tryz.f155.results.toList,maskTab 24 [(0,0xc),(1,0x2c),(2,0xac),(3,0x2c),(4,0x1002c),(5,0x10),(6,0x10)],maskAt [(1,4),(2,3),(4,8),(6,25),(8,10),(10,17),(12,28)],noSort⟩
theorem Z_A (a b:Y') (kn:St->Option R) (kx:Nat->St->Option R) (kr:V->Option R):loopN O_4 0 (loopAt Tryz.f155 0) (D_E.put [.i a.e0,.i a.e1,.i a.e2,.i a.e3,.i a.e4,.i a.e5,.i b.e0,.i b.e1,.i b.e2,.i b.e3,.i b.e4,.i b.e5]) kn kx kr 7 (D_E.put [.i a.e0,.i a.e1,.i a.e2,.i a.e3,.i a.e4,.i a.e5,.i b.e0,.i b.e1,.i b.e2,.i b.e3,.i b.e4,.i b.e5])=e_A a b kn kr:=by kernel_rfl
theorem Z_B {rest} (h:GoodL (R:=R) O_4 0 (loopAt Tryz.f155 0) rest):GoodL (R:=R) O_4 0 (loopAt Tryz.f155 0) (loopAlt D_E I_Z rest):=by
  refine goodL_alt (fun l kn kx kr r h=>?_) h
  unfold I_Z at h
  split at h
  · rename_i a b c d e f g i j m o p
    exact ⟨7,(Z_A (Y'.mk a b c d e f) (Y'.mk g i j m o p) kn kx kr).trans h⟩
  · cases h
theorem e_B:GoodLoop (R:=R) O_4 0 (loopAt Tryz.f155 0):=goodL_loop (g:=loopAlt D_E I_Z loopNil) (fun _ _ _ _=>rfl) (Z_B goodL_nil)
noncomputable def e_C (a b:Y') (k:V->Option R):Option R:=bif (a.e0 != b.e0) then k (V.bool (decide (a.e0<b.e0))) else bif (a.e1 != b.e1) then k (V.bool (decide (a.e1<b.e1))) else bif (a.e2 != b.e2) then k (V.bool (decide (a.e2<b.e2))) else bif (a.e3 != b.e3) then k (V.bool (decide (a.e3<b.e3))) else bif (a.e4 != b.e4) then k (V.bool (decide (a.e4<b.e4))) else bif (a.e5 != b.e5) then k (V.bool (decide (a.e5<b.e5))) else k (V.bool false)
abbrev x_A (a b:Y'):List V:=[(Y'.v a),(Y'.v b)]
theorem Z_C (a b:Y') (k:V->Option R):fnK O_4 Tryz.f155 (x_A a b) k=e_C a b k:=by kernel_rfl
theorem x_B (a b:Y'):e_C a b some=some ((fun (m:Bool)=>(V.bool m)) (V_g a b)):=by
  repeat' (first | rfl | refine A_t (v:=(fun (m:Bool)=>(V.bool m))) ?_ ?_)
theorem Z_D:r_t:=goodHook1 fun l hp=>by
  unfold o_W at hp
  split at hp
  · rename_i a b d f g i j m o p q r
    exact fn_ok (fn:=Tryz.f155) (c:=bodyOf Tryz.f155) (E:=O_4) ⟨by kernel_rfl,goodNil,rfl,M'⟩ rfl (by kernel_rfl) (by kernel_rfl) (by kernel_rfl) (loopsOK_of _ (by have e:loopsOf (bodyOf Tryz.f155)=[(0,loopAt Tryz.f155 0)]:=(by kernel_rfl);rw [e];simp only [List.forall_mem_cons,List.not_mem_nil,false_implies,implies_true,and_true];exact e_B)) (fun hr=>(Z_C (Y'.mk a b d f g i) (Y'.mk j m o p q r) some).trans (x_B (Y'.mk a b d f g i) (Y'.mk j m o p q r)))
  · cases hp
end Go.Vm
