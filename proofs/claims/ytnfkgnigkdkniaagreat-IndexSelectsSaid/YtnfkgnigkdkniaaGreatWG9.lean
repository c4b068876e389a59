import Derived.Test.YtnfkgnigkdkniaaGreatWM
set_option linter.unusedVariables false
set_option linter.unusedSimpArgs false
set_option maxRecDepth 100000
noncomputable section
namespace Go.Vm
open Go.Proofs
variable {R:Type}
noncomputable def N_x (a c:Rows) (b d:Int) (e:Bool) (f:Rows):Nat:=Int.toNat ((((List.length a):Nat):Int)-b)+1
noncomputable def D_F (d g:Rows) (i:Int) (F:Bool) (a:Int) (e:Rows) (again:Int->Rows->Option R) (kn:Int->Rows->Option R):Option R:=let f:=(((List.length d):Nat):Int);bif ((inR a (List.length d))||!((decide (a<f))==true)) then let b:=List.getD d (Int.toNat a) [];let j:=V.toInt (List.getD b 4 V.undef);let m:=V.toInt (List.getD b 5 V.undef);let o:=V.toInt (List.getD b 6 V.undef);let p:=V.toInt (List.getD b 7 V.undef);let q:=V.toInt (List.getD b 8 V.undef);let r:=V.toInt (List.getD b 9 V.undef);bif ((inR i (List.length g))||!((decide (a<f))==true)) then let c:=List.getD g (Int.toNat i) [];let s:=V.toInt (List.getD c 4 V.undef);let t:=V.toInt (List.getD c 5 V.undef);let u:=V.toInt (List.getD c 6 V.undef);let v:=V.toInt (List.getD c 7 V.undef);let w:=V.toInt (List.getD c 8 V.undef);let y:=V.toInt (List.getD c 9 V.undef);bif ((decide (a<f))==true) then let z:=V_g (Y'.mk j m o p q r) (Y'.mk s t u v w y);bif z then bif (inR a (List.length d)) then let A:=List.getD d (Int.toNat a) [];let B:=Z'.of A;bif (roomOK ((List.length e)+(1:Nat)) 80) then let D:=e++[(Z'.row B)];let E:=IntKind.wrap .i64 (a+1);again E D else none else none else kn a e else kn a e else none else none
noncomputable def D_G (a b:Rows) (c:Int) (d:Bool):Nat->Int->Rows->(Int->Rows->Option R)->Option R
  | 0,_,_,_=>none
  | n+1,e,f,kn=>D_F a b c d e f (fun g i=>D_G a b c d n g i kn) kn
noncomputable def G_s:ST:=⟨.data Z'.sh::.data Z'.sh::A_j 3 (.vs 4::.int .i64::.int .i64::A_j 3 (.bool::A_j 40 [])),[(4,.vec Z'.sh false)],12⟩
noncomputable def E_O (a b:Rows) (c:Int) (d:Bool) (e:Int) (f:Rows):St:=G_s.put [.r a,.r b,.i e,.i c,.b d,.r f]
noncomputable def I_0:LoopG R:=fun l kn _ _=>match l with
  | .r a::.r b::.i e::.i c::.b d::.r f::[]=>D_G a b c d (N_x a b e c d f) e f (fun g i=>kn (E_O a b c d g i))
  | _=>none
noncomputable def N_y (d a:Rows) (e b:Int) (f:Rows):Nat:=let c:=(((List.length a):Nat):Int);Int.toNat (c-b)+1
noncomputable def D_H (f b:Rows) (c a:Int) (d:Rows) (again:Int->Int->Rows->Option R) (kn:Int->Int->Rows->Option R):Option R:=let e:=(((List.length b):Nat):Int);bif (decide (a<e)) then D_G f b a (decide (a<e)) (N_x f b c a (decide (a<e)) d) c d (fun i g=>bif (inR a (List.length b)) then let j:=List.getD b (Int.toNat a) [];let m:=Z'.of j;bif (roomOK ((List.length g)+(1:Nat)) 80) then let o:=g++[(Z'.row m)];let p:=IntKind.wrap .i64 (a+1);again i p o else none else none) else kn c a d
noncomputable def D_I (a b:Rows):Nat->Int->Int->Rows->(Int->Int->Rows->Option R)->Option R
  | 0,_,_,_,_=>none
  | n+1,c,d,e,kn=>D_H a b c d e (fun f g i=>D_I a b n f g i kn) kn
noncomputable def G_t:ST:=⟨.data Z'.sh::.data Z'.sh::A_j 3 (.vs 4::.int .i64::.int .i64::A_j 44 []),[(4,.vec Z'.sh false)],5⟩
noncomputable def E_P (a b:Rows) (c d:Int) (e:Rows):St:=G_t.put [.r a,.r b,.i c,.i d,.r e]
noncomputable def I_1:LoopG R:=fun l kn _ _=>match l with
  | .r a::.r b::.i c::.i d::.r e::[]=>D_I a b (N_y a b c d e) c d e (fun f g i=>kn (E_P a b f g i))
  | _=>none
noncomputable def C_7:Env R:=⟨Tryz.prog,callCons 155 z_x callNil,fun id=>bif Nat.beq id 2 then loopAlt G_s I_0 loopNil else (fun id=>bif Nat.beq id 0 then loopAlt G_t I_1 loopNil else (fun _ _ _ _ _=>none) id) id,Tryz.f136.results.toList,maskTab 52 [(0,0x3ff80003),(1,0x3ff80023),(2,0x3ff80063),(3,0x3ff800e3),(4,0x3ff808e3),(5,0x3ff800e3),(6,0x7ff808e3),(7,0x3ff808e3),(8,0x3ff808e3),(9,0x3ff800e3),(10,0x10)],maskAt [(1,4),(2,1),(4,2),(5,12),(6,3),(8,8),(10,52),(12,16),(14,33),(16,41),(18,44),(20,55)],noSort⟩
theorem S_n (a b:Rows) (c:Int) (d:Bool) (g:Int) (i:Rows) (kn:St->Option R) (kx:Nat->St->Option R) (kr:V->Option R) (n:Nat) (j:Int) (m:Rows) :
    loopN C_7 2 (loopAt Tryz.f136 1) (E_O a b c d g i) kn kx kr (n+1) (E_O a b c d j m) =
    D_F a b c d j m (fun e f=>loopN C_7 2 (loopAt Tryz.f136 1) (E_O a b c d g i) kn kx kr n (E_O a b c d e f)) (fun e f=>kn (E_O a b c d e f)):=by kernel_rfl
theorem L_G (a b:Rows) (c:Int) (d:Bool) (j:Int) (m:Rows) (kn:St->Option R) (kx:Nat->St->Option R) (kr:V->Option R):∀ (n:Nat) (e:Int) (f:Rows),
    D_G a b c d n e f (fun g i=>kn (E_O a b c d g i))=loopN C_7 2 (loopAt Tryz.f136 1) (E_O a b c d j m) kn kx kr n (E_O a b c d e f)
  | 0,_,_=>rfl
  | n+1,e,f=>by
    rw [S_n,D_G]
    congr 1
    funext g i
    exact L_G a b c d j m kn kx kr n g i
theorem Z_E {rest} (h:GoodL (R:=R) C_7 2 (loopAt Tryz.f136 1) rest):GoodL (R:=R) C_7 2 (loopAt Tryz.f136 1) (loopAlt G_s I_0 rest):=by
  refine goodL_alt (fun l kn kx kr r h=>?_) h
  unfold I_0 at h
  split at h
  · rename_i c d a e f b
    exact ⟨_,(L_G c d e f a b kn kx kr _ a b).symm.trans h⟩
  · cases h
theorem S_o (a b:Rows) (f g:Int) (i:Rows) (kn:St->Option R) (kx:Nat->St->Option R) (kr:V->Option R) (n:Nat) (j m:Int) (o:Rows) :
    loopN C_7 0 (loopAt Tryz.f136 0) (E_P a b f g i) kn kx kr (n+1) (E_P a b j m o) =
    D_H a b j m o (fun c d e=>loopN C_7 0 (loopAt Tryz.f136 0) (E_P a b f g i) kn kx kr n (E_P a b c d e)) (fun c d e=>kn (E_P a b c d e)):=by kernel_rfl
theorem L_H (a b:Rows) (j m:Int) (o:Rows) (kn:St->Option R) (kx:Nat->St->Option R) (kr:V->Option R):∀ (n:Nat) (c d:Int) (e:Rows),
    D_I a b n c d e (fun f g i=>kn (E_P a b f g i))=loopN C_7 0 (loopAt Tryz.f136 0) (E_P a b j m o) kn kx kr n (E_P a b c d e)
  | 0,_,_,_=>rfl
  | n+1,c,d,e=>by
    rw [S_o,D_I]
    congr 1
    funext f g i
    exact L_H a b j m o kn kx kr n f g i
theorem Z_F {rest} (h:GoodL (R:=R) C_7 0 (loopAt Tryz.f136 0) rest):GoodL (R:=R) C_7 0 (loopAt Tryz.f136 0) (loopAlt G_t I_1 rest):=by
  refine goodL_alt (fun l kn kx kr r h=>?_) h
  unfold I_1 at h
  split at h
  · rename_i d e a b c
    exact ⟨_,(L_H d e a b c kn kx kr _ a b c).symm.trans h⟩
  · cases h
theorem e_D:GoodLoop (R:=R) C_7 0 (loopAt Tryz.f136 0):=goodL_loop (g:=loopAlt G_t I_1 loopNil) (fun _ _ _ _=>rfl) (Z_F goodL_nil)
theorem e_E:GoodLoop (R:=R) C_7 2 (loopAt Tryz.f136 1):=goodL_loop (g:=loopAlt G_s I_0 loopNil) (fun _ _ _ _=>rfl) (Z_E goodL_nil)
noncomputable def U_b (a c:Rows) (k:V->Option R):Option R:=D_I a c (N_y a c 0 0 []) 0 0 [] (fun b f d=>bif (((decide (0<=b))&&(decide (b<=(((List.length a):Nat):Int))))&&(decide ((((List.length a):Nat):Int)<=(((List.length a):Nat):Int)))) then let e:=List.drop (Int.toNat b) (List.take (Int.toNat (((List.length a):Nat):Int)) a);bif (roomOK ((List.length d)+(List.length e)) 80) then k (V.data Z'.sh (d++e)) else none else none)
abbrev p_3 (a b:Rows):List V:=[V.data Z'.sh a,V.data Z'.sh b]
theorem Z_G (a b:Rows) (k:V->Option R):fnK C_7 Tryz.f136 (p_3 a b) k=U_b a b k:=by kernel_rfl
theorem x_C (h_L9:r_t) (h:∀ (a b:Rows),O_S a b=true->Real (p_3 a b)->U_b a b some=some (V.data Z'.sh (m_n a b))):m_E:=goodHook1 fun l hp=>by
  unfold o_X at hp
  split at hp
  · rename_i d f
    exact fn_ok (fn:=Tryz.f136) (c:=bodyOf Tryz.f136) (E:=C_7) ⟨by kernel_rfl,(goodCons h_L9 goodNil),rfl,M'⟩ rfl (by kernel_rfl) (by kernel_rfl) (by kernel_rfl) (loopsOK_of _ (by have e:loopsOf (bodyOf Tryz.f136)=[(0,loopAt Tryz.f136 0),(2,loopAt Tryz.f136 1)]:=(by kernel_rfl);rw [e];simp only [List.forall_mem_cons,List.not_mem_nil,false_implies,implies_true,and_true];exact ⟨e_D,e_E⟩)) (fun hr=>(Z_G d f some).trans (h d f hp hr))
  · cases hp
noncomputable def G_1 (rn:Nat):Env R:=⟨Tryz.prog,callCons 121 (D_8 rn) (callCons 136 z_y callNil),fun _ _ _ _ _=>none,Tryz.f121.results.toList,maskTab 20 [(0,0x1),(1,0x41),(2,0x4),(3,0x9),(4,0x4)],maskAt [(2,1),(4,4),(6,6),(8,10)],noSort⟩
noncomputable def B_A (rn:Nat) (a:Rows) (k:V->Option R):Option R:=let g:=(((List.length a):Nat):Int);let i:=decide (g<2);bif i then k (V.data Z'.sh a) else let j:=(((List.length a):Nat):Int);let b:=IntKind.wrap .i64 (Int.tdiv j 2);bif ((true&&(decide (0<=b)))&&(decide (b<=(((List.length a):Nat):Int)))) then let c:=List.drop (0:Nat) (List.take (Int.toNat b) a);bif (Nat.blt (List.length c) rn) then let d:=A_h c;bif (((decide (0<=b))&&(decide (b<=(((List.length a):Nat):Int))))&&(decide ((((List.length a):Nat):Int)<=(((List.length a):Nat):Int)))) then let e:=List.drop (Int.toNat b) (List.take (Int.toNat (((List.length a):Nat):Int)) a);bif (Nat.blt (List.length e) rn) then let f:=A_h e;bif (O_S d f) then let m:=m_n d f;k (V.data Z'.sh m) else none else none else none else none else none
abbrev E_Q (a:Rows):List V:=[V.data Z'.sh a]
theorem I_2 (rn:Nat) (a:Rows) (k:V->Option R):fnK (G_1 rn) Tryz.f121 (E_Q a) k=B_A rn a k:=by kernel_rfl
theorem I_3 (rn:Nat) (h_R25_sorted:Good1 (R:=V) Tryz.prog 121 (D_8 rn)) (h_K3:m_E) (a:Rows) {v:V} (h:Real (E_Q a)->B_A rn a some=some v):M_P Tryz.prog 121 (E_Q a) v :=
  fn_ok (fn:=Tryz.f121) (c:=bodyOf Tryz.f121) (E:=(G_1 rn)) ⟨by kernel_rfl,(goodCons h_R25_sorted (goodCons h_K3 goodNil)),rfl,M'⟩ rfl (by kernel_rfl) (by kernel_rfl) (by kernel_rfl)
  (loopsOK_of _ (by
    have e:loopsOf (bodyOf Tryz.f121)=[]:=by kernel_rfl
    rw [e]
    intro p hp;cases hp))
  (fun hr=>(I_2 rn a some).trans (h hr))
noncomputable def i_X:Env R:=⟨Tryz.prog,callCons 10 h_M (callCons 26 h_J callNil),fun _ _ _ _ _=>none,Tryz.f97.results.toList,maskTab 47 [(0,0xf99e04e),(1,0xf99e0ce),(2,0x100000ce),(3,0x40),(4,0x40)],maskAt [(2,2),(4,5),(6,24),(8,26)],noSort⟩
noncomputable def e_F (a:D') (c b:Int) (k:V->Option R):Option R:=let d:=P_M a;let e:=decide (c<0);bif (e==false) then let f:=(((List.length d):Nat):Int);let g:=decide (b<0);let i:Bool:=(bif (decide (c >= f)) then true else g);bif (i==false) then let j:=(((List.length a.Components):Nat):Int);bif (decide (b >= j)) then k (V.agg [(V.int .i64 0),(V.int .i64 0),(V.int .i64 0),(V.int .i64 0)]) else bif (inR c (List.length d)) then let m:=List.getD d (Int.toNat c) [];let o:=F'.of m;bif (inR b (List.length a.Components)) then let p:=List.getD a.Components (Int.toNat b) [];let q:=V.toInt (List.getD p 2 V.undef);bif (inR b (List.length a.Components)) then let r:=List.getD a.Components (Int.toNat b) [];let s:=V.toInt (List.getD r 3 V.undef);let t:=M_u o q s;k (F'.v t) else none else none else none else k (V.agg [(V.int .i64 0),(V.int .i64 0),(V.int .i64 0),(V.int .i64 0)]) else k (V.agg [(V.int .i64 0),(V.int .i64 0),(V.int .i64 0),(V.int .i64 0)])
abbrev x_D (a:D') (b c:Int):List V:=[(D'.v a),V.int .i64 b,V.int .i64 c]
theorem Z_H (a:D') (b c:Int) (k:V->Option R):fnK i_X Tryz.f97 (x_D a b c) k=e_F a b c k:=by kernel_rfl
theorem x_E (a:D') (b c:Int):h_B a b c=true->e_F a b c some=some ((fun (m:F')=>(F'.v m)) (f_Q a b c)):=by
  repeat' (first | exact fun _=>rfl | exact fun h=>absurd h (by decide) | refine B_b (v:=(fun (m:F')=>(F'.v m))) ?_ ?_)
theorem Z_I (h_K6:c_F) (h_I9:V_8):o_Z:=goodHook1 fun l hp=>by
  unfold o_Y at hp
  split at hp
  · rename_i a b d f g i j m o
    exact fn_ok (fn:=Tryz.f97) (c:=bodyOf Tryz.f97) (E:=i_X) ⟨by kernel_rfl,(goodCons h_K6 (goodCons h_I9 goodNil)),rfl,M'⟩ rfl (by kernel_rfl) (by kernel_rfl) (by kernel_rfl) (loopsOK_of _ (by have e:loopsOf (bodyOf Tryz.f97)=[]:=(by kernel_rfl);rw [e];intro p hp;cases hp)) (fun hr=>(Z_H (D'.mk (F'.mk a b d f) g i j) m o some).trans (x_E (D'.mk (F'.mk a b d f) g i j) m o (s_d (D'.mk (F'.mk a b d f) g i j) m o)))
  · cases hp
noncomputable def i_Y:Env R:=⟨Tryz.prog,callCons 23 c_D (callCons 24 g_t (callCons 58 m_q (callCons 59 m_r callNil))),fun _ _ _ _ _=>none,Tryz.f139.results.toList,maskTab 63 [(0,0xccccc00e),(1,0x10000000e),(2,0xc0),(3,0x308),(4,0x248),(5,0xc0),(6,0x10000000000000c0),(7,0xc0),(8,0xc0)],maskAt [(2,3),(4,26),(6,28),(8,36),(10,46),(12,56),(14,60),(16,62)],noSort⟩
noncomputable def e_G (a:F') (b c:Int) (k:V->Option R):Option R:=let i:=M_4 a;bif ((!i)==false) then let j:=O_b a;let m:=decide (b<0);let o:Bool:=(bif j then true else m);let p:=decide (b > 12);let q:Bool:=(bif o then true else p);let r:=decide (c<0);let s:Bool:=(bif q then true else r);let t:=decide (c > 12);let u:Bool:=(bif s then true else t);bif u then k (V.tup [(V.int .i64 0),(V.int .i64 0)]) else bif (decide (0<=(IntKind.wrap .u64 b))) then let d:=IntKind.wrap .i64 (1*2 ^ (min (Int.toNat (IntKind.wrap .u64 b)) 64));bif (decide (0<=(IntKind.wrap .u64 c))) then let e:=IntKind.wrap .i64 (1*2 ^ (min (Int.toNat (IntKind.wrap .u64 c)) 64));let v:=K_b a.X1 d;let w:=M_5 a.X0 d;let f:=IntKind.wrap .i64 (v-w);let y:=K_b a.Y1 e;let z:=M_5 a.Y0 e;let g:=IntKind.wrap .i64 (y-z);let A:=IntKind.wrap .i64 (f*g);let B:=decide (A > 65536);bif B then k (V.tup [(V.int .i64 0),(V.int .i64 0)]) else k (V.tup [V.int .i64 f,V.int .i64 g]) else none else none else k (V.tup [(V.int .i64 0),(V.int .i64 0)])
abbrev x_F (a:F') (b c:Int):List V:=[(F'.v a),V.int .i64 b,V.int .i64 c]
theorem Z_J (a:F') (b c:Int) (k:V->Option R):fnK i_Y Tryz.f139 (x_F a b c) k=e_G a b c k:=by kernel_rfl
theorem x_G (a:F') (b c:Int):h_C a b c=true->e_G a b c some=some ((fun (m:Int × Int)=>(V.tup [V.int .i64 m.1,V.int .i64 m.2])) (V_4 a b c)):=by
  repeat' (first | exact fun _=>rfl | exact fun h=>absurd h (by decide) | refine B_b (v:=(fun (m:Int × Int)=>(V.tup [V.int .i64 m.1,V.int .i64 m.2]))) ?_ ?_)
theorem Z_K (h_K8:T_R) (h_L1:V_7) (h_I2:h_I) (h_G3:h_K):m_F:=goodHook1 fun l hp=>by
  unfold o_0 at hp
  split at hp
  · rename_i a b d f g i
    exact fn_ok (fn:=Tryz.f139) (c:=bodyOf Tryz.f139) (E:=i_Y) ⟨by kernel_rfl,(goodCons h_K8 (goodCons h_L1 (goodCons h_I2 (goodCons h_G3 goodNil)))),rfl,M'⟩ rfl (by kernel_rfl) (by kernel_rfl) (by kernel_rfl) (loopsOK_of _ (by have e:loopsOf (bodyOf Tryz.f139)=[]:=(by kernel_rfl);rw [e];intro p hp;cases hp)) (fun hr=>(Z_J (F'.mk a b d f) g i some).trans (x_G (F'.mk a b d f) g i (s_e (F'.mk a b d f) g i)))
  · cases hp
noncomputable def i_Z:Env R:=⟨Tryz.prog,callCons 60 m_t (callCons 62 m_v (callCons 139 r_v callNil)),fun _ _ _ _ _=>none,Tryz.f123.results.toList,maskTab 30 [(0,0x5c),(1,0x54),(2,0x240),(3,0x1c0),(4,0x1c0)],maskAt [(2,5),(4,11),(6,16),(8,27)],noSort⟩
noncomputable def e_H (f:F') (a:C') (b:Int) (k:V->Option R):Option R:=let c:=P_N f a.Levels b;let d:=Q_q a b;let e:=V_4 c d.X d.Y;k (V.tup [(F'.v c),V.int .i64 e.1,V.int .i64 e.2])
abbrev x_H (a:F') (b:C') (c:Int):List V:=[(F'.v a),(C'.v b),V.int .i64 c]
theorem Z_L (a:F') (b:C') (c:Int) (k:V->Option R):fnK i_Z Tryz.f123 (x_H a b c) k=e_H a b c k:=by kernel_rfl
theorem x_I (a:F') (b:C') (c:Int):e_H a b c some=some ((fun (m:F' × Int × Int)=>(V.tup [(F'.v m.1),V.int .i64 m.2.1,V.int .i64 m.2.2])) (j_H a b c)):=by
  repeat' (first | rfl | refine A_t (v:=(fun (m:F' × Int × Int)=>(V.tup [(F'.v m.1),V.int .i64 m.2.1,V.int .i64 m.2.2]))) ?_ ?_)
theorem Z_M (h_F8:f_W) (h_D2:f_X) (h_E9:m_F):u_o:=goodHook1 fun l hp=>by
  unfold o_1 at hp
  split at hp
  · rename_i a b d f g i j m o q r s t u v w y z A B D F H I
    exact fn_ok (fn:=Tryz.f123) (c:=bodyOf Tryz.f123) (E:=i_Z) ⟨by kernel_rfl,(goodCons h_F8 (goodCons h_D2 (goodCons h_E9 goodNil))),rfl,M'⟩ rfl (by kernel_rfl) (by kernel_rfl) (by kernel_rfl) (loopsOK_of _ (by have e:loopsOf (bodyOf Tryz.f123)=[]:=(by kernel_rfl);rw [e];intro p hp;cases hp)) (fun hr=>(Z_L (F'.mk a b d f) (C'.mk g i j m o q r s (K'.mk t u v w y) z A B D F H) I some).trans (x_I (F'.mk a b d f) (C'.mk g i j m o q r s (K'.mk t u v w y) z A B D F H) I))
  · cases hp
noncomputable def i_0:Env R:=⟨Tryz.prog,callCons 34 s_P (callCons 97 r_u (callCons 123 z_z callNil)),fun _ _ _ _ _=>none,Tryz.f95.results.toList,maskTab 40 [(0,0xf30047c),(1,0x1000047c),(2,0x1c00),(3,0x1c00)],maskAt [(2,5),(4,21),(6,25)],noSort⟩
noncomputable def e_I (d:D') (a:C') (e f b:Int) (k:V->Option R):Option R:=let g:=h_t d a e f;let i:=decide (b<0);let j:Bool:=(bif (!g) then true else i);let m:=decide (b > a.Levels);let o:Bool:=(bif j then true else m);bif o then k (V.tup [(V.agg [(V.int .i64 0),(V.int .i64 0),(V.int .i64 0),(V.int .i64 0)]),(V.int .i64 0),(V.int .i64 0)]) else let p:=f_Q d e f;let c:=j_H p a b;k (V.tup [(F'.v c.1),V.int .i64 c.2.1,V.int .i64 c.2.2])
abbrev x_J (a:D') (b:C') (c d e:Int):List V:=[(D'.v a),(C'.v b),V.int .i64 c,V.int .i64 d,V.int .i64 e]
theorem Z_N (a:D') (b:C') (c d e:Int) (k:V->Option R):fnK i_0 Tryz.f95 (x_J a b c d e) k=e_I a b c d e k:=by kernel_rfl
theorem x_K (a:D') (b:C') (c d e:Int):e_I a b c d e some=some ((fun (m:F' × Int × Int)=>(V.tup [(F'.v m.1),V.int .i64 m.2.1,V.int .i64 m.2.2])) (H_e a b c d e)):=by
  repeat' (first | rfl | refine A_t (v:=(fun (m:F' × Int × Int)=>(V.tup [(F'.v m.1),V.int .i64 m.2.1,V.int .i64 m.2.2]))) ?_ ?_)
theorem Z_O (h_F6:q_S) (h_F4:o_Z) (h_E0:u_o):o_3:=goodHook1 fun l hp=>by
  unfold o_2 at hp
  split at hp
  · rename_i a b d f g i j m o q r s t u v w y z A B D F H I J K L M N
    exact fn_ok (fn:=Tryz.f95) (c:=bodyOf Tryz.f95) (E:=i_0) ⟨by kernel_rfl,(goodCons h_F6 (goodCons h_F4 (goodCons h_E0 goodNil))),rfl,M'⟩ rfl (by kernel_rfl) (by kernel_rfl) (by kernel_rfl) (loopsOK_of _ (by have e:loopsOf (bodyOf Tryz.f95)=[]:=(by kernel_rfl);rw [e];intro p hp;cases hp)) (fun hr=>(Z_N (D'.mk (F'.mk a b d f) g i j) (C'.mk m o q r s t u v (K'.mk w y z A B) D F H I J K) L M N some).trans (x_K (D'.mk (F'.mk a b d f) g i j) (C'.mk m o q r s t u v (K'.mk w y z A B) D F H I J K) L M N))
  · cases hp
noncomputable def i_1:Env R:=⟨Tryz.prog,callCons 59 m_r (callCons 139 r_v callNil),fun _ _ _ _ _=>none,Tryz.f157.results.toList,maskTab 49 [(0,0xf80001e),(1,0xf80181e),(2,0x1000081e),(3,0x700),(4,0x700)],maskAt [(2,4),(4,13),(6,22),(8,25)],noSort⟩
noncomputable def e_J (c:F') (d e b:Int) (k:V->Option R):Option R:=let a:=V_4 c d e;let f:=decide (b<0);let g:=IntKind.wrap .i64 (a.1*a.2);let i:Bool:=(bif f then true else (decide (b >= g)));bif i then k (V.tup [(V.int .i64 0),(V.int .i64 0),V.bool false]) else bif (decide (0<=(IntKind.wrap .u64 d))) then let j:=IntKind.wrap .i64 (1*2 ^ (min (Int.toNat (IntKind.wrap .u64 d)) 64));let m:=M_5 c.X0 j;bif (a.1 != 0) then let o:=IntKind.wrap .i64 (m+(Int.tmod b a.1));bif (decide (0<=(IntKind.wrap .u64 e))) then let p:=IntKind.wrap .i64 (1*2 ^ (min (Int.toNat (IntKind.wrap .u64 e)) 64));let q:=M_5 c.Y0 p;bif (a.1 != 0) then let r:=IntKind.wrap .i64 (Int.tdiv b a.1);let s:=IntKind.wrap .i64 (q+r);k (V.tup [V.int .i64 o,V.int .i64 s,V.bool true]) else none else none else none else none
abbrev x_L (a:F') (b c d:Int):List V:=[(F'.v a),V.int .i64 b,V.int .i64 c,V.int .i64 d]
theorem Z_P (a:F') (b c d:Int) (k:V->Option R):fnK i_1 Tryz.f157 (x_L a b c d) k=e_J a b c d k:=by kernel_rfl
theorem x_M (a:F') (b c d:Int):c_A a b c d=true->e_J a b c d some=some ((fun (m:Int × Int × Bool)=>(V.tup [V.int .i64 m.1,V.int .i64 m.2.1,V.bool m.2.2])) (f_R a b c d)):=by
  repeat' (first | exact fun _=>rfl | exact fun h=>absurd h (by decide) | refine B_b (v:=(fun (m:Int × Int × Bool)=>(V.tup [V.int .i64 m.1,V.int .i64 m.2.1,V.bool m.2.2]))) ?_ ?_)
theorem Z_Q (h_G3:h_K) (h_E9:m_F):r_w:=goodHook1 fun l hp=>by
  unfold o_4 at hp
  split at hp
  · rename_i a b d f g i j
    exact fn_ok (fn:=Tryz.f157) (c:=bodyOf Tryz.f157) (E:=i_1) ⟨by kernel_rfl,(goodCons h_G3 (goodCons h_E9 goodNil)),rfl,M'⟩ rfl (by kernel_rfl) (by kernel_rfl) (by kernel_rfl) (loopsOK_of _ (by have e:loopsOf (bodyOf Tryz.f157)=[]:=(by kernel_rfl);rw [e];intro p hp;cases hp)) (fun hr=>(Z_P (F'.mk a b d f) g i j some).trans (x_M (F'.mk a b d f) g i j (s_f (F'.mk a b d f) g i j)))
  · cases hp
noncomputable def i_2:Env R:=⟨Tryz.prog,callNil,fun _ _ _ _ _=>none,Tryz.f158.results.toList,maskTab 32 [(0,0x10f),(1,0x703),(2,0x100)],maskAt [(2,1),(4,9)],noSort⟩
noncomputable def e_K (a b c d:Int) (k:V->Option R):Option R:=bif (decide (0<=(IntKind.wrap .u64 c))) then let e:=IntKind.wrap .i64 (1*2 ^ (min (Int.toNat (IntKind.wrap .u64 c)) 64));bif (decide (0<=(IntKind.wrap .u64 d))) then let f:=IntKind.wrap .i64 (1*2 ^ (min (Int.toNat (IntKind.wrap .u64 d)) 64));let g:=IntKind.wrap .i64 (a*e);let i:=IntKind.wrap .i64 (b*f);let j:=IntKind.wrap .i64 (a+1);let m:=IntKind.wrap .i64 (j*e);let o:=IntKind.wrap .i64 (b+1);let p:=IntKind.wrap .i64 (o*f);k (V.agg [V.int .i64 g,V.int .i64 i,V.int .i64 m,V.int .i64 p]) else none else none
abbrev x_N (a b c d:Int):List V:=[V.int .i64 a,V.int .i64 b,V.int .i64 c,V.int .i64 d]
theorem Z_R (a b c d:Int) (k:V->Option R):fnK i_2 Tryz.f158 (x_N a b c d) k=e_K a b c d k:=by kernel_rfl
theorem x_O (a b c d:Int):h_D a b c d=true->e_K a b c d some=some ((fun (m:F')=>(F'.v m)) (f_S a b c d)):=by
  repeat' (first | exact fun _=>rfl | exact fun h=>absurd h (by decide) | refine B_b (v:=(fun (m:F')=>(F'.v m))) ?_ ?_)
theorem Z_S:r_x:=goodHook1 fun l hp=>by
  unfold o_5 at hp
  split at hp
  · rename_i a b d f
    exact fn_ok (fn:=Tryz.f158) (c:=bodyOf Tryz.f158) (E:=i_2) ⟨by kernel_rfl,goodNil,rfl,M'⟩ rfl (by kernel_rfl) (by kernel_rfl) (by kernel_rfl) (loopsOK_of _ (by have e:loopsOf (bodyOf Tryz.f158)=[]:=(by kernel_rfl);rw [e];intro p hp;cases hp)) (fun hr=>(Z_R a b d f some).trans (x_O a b d f (s_g a b d f)))
  · cases hp
noncomputable def i_3:Env R:=⟨Tryz.prog,callCons 52 h_L (callCons 157 u_s (callCons 158 u_u callNil)),fun _ _ _ _ _=>none,Tryz.f156.results.toList,maskTab 32 [(0,0x11e),(1,0x1d16),(2,0x800d16),(3,0x300),(4,0x300)],maskAt [(2,3),(4,15),(6,17),(8,20)],noSort⟩
noncomputable def e_L (b:F') (c d e:Int) (k:V->Option R):Option R:=let a:=f_R b c d e;bif (!a.2.2) then k (V.tup [(V.agg [(V.int .i64 0),(V.int .i64 0),(V.int .i64 0),(V.int .i64 0)]),V.bool false]) else let f:=f_S a.1 a.2.1 c d;let g:=O_K b f;k (V.tup [(F'.v g),V.bool true])
abbrev x_P (a:F') (b c d:Int):List V:=[(F'.v a),V.int .i64 b,V.int .i64 c,V.int .i64 d]
theorem Z_T (a:F') (b c d:Int) (k:V->Option R):fnK i_3 Tryz.f156 (x_P a b c d) k=e_L a b c d k:=by kernel_rfl
theorem x_Q (a:F') (b c d:Int):e_L a b c d some=some ((fun (m:F' × Bool)=>(V.tup [(F'.v m.1),V.bool m.2])) (V_5 a b c d)):=by
  repeat' (first | rfl | refine A_t (v:=(fun (m:F' × Bool)=>(V.tup [(F'.v m.1),V.bool m.2]))) ?_ ?_)
theorem Z_U (h_F5:c_E) (h_L4:r_w) (h_M3:r_x):m_G:=goodHook1 fun l hp=>by
  unfold o_6 at hp
  split at hp
  · rename_i a b d f g i j
    exact fn_ok (fn:=Tryz.f156) (c:=bodyOf Tryz.f156) (E:=i_3) ⟨by kernel_rfl,(goodCons h_F5 (goodCons h_L4 (goodCons h_M3 goodNil))),rfl,M'⟩ rfl (by kernel_rfl) (by kernel_rfl) (by kernel_rfl) (loopsOK_of _ (by have e:loopsOf (bodyOf Tryz.f156)=[]:=(by kernel_rfl);rw [e];intro p hp;cases hp)) (fun hr=>(Z_T (F'.mk a b d f) g i j some).trans (x_Q (F'.mk a b d f) g i j))
  · cases hp
noncomputable def S_p (c d a:Int) (e:D') (b:C') (f g:Int) (i:F'):Nat:=let j:=decide (a<b.Levels);Int.toNat (b.Levels-a)+1
noncomputable def D_J (g:Int) (i:D') (c:C') (j m:Int) (o:F') (b a:Int) (again:Int->Int->Option R) (kn:Int->Int->Option R):Option R:=let d:=decide (a<c.Levels);bif d then let e:=IntKind.wrap .i64 (2*b);let f:=IntKind.wrap .i64 (a+1);again e f else kn b a
noncomputable def D_K (a:Int) (b:D') (c:C') (d e:Int) (f:F'):Nat->Int->Int->(Int->Int->Option R)->Option R
  | 0,_,_,_=>none
  | n+1,g,i,kn=>D_J a b c d e f g i (fun j m=>D_K a b c d e f n j m kn) kn
noncomputable def G_u:ST:=⟨A_j 3 (.int .i64::.undef::.undef::.ptr 0 0 0::.ptr 1 0 0::A_j 4 (.ptr 3 0 0::.undef::.ptr 19 0 0::.undef::.int .i64::.int .i64::A_j 45 [])),[(0,.var D'.sh false D'.ts),(1,.var C'.sh false C'.ts),(3,.var U'.sh false U'.ts),(19,.var F'.sh false F'.ts)],25⟩
noncomputable def E_R (d:Int) (b:D') (a:C') (e f:Int) (c:F') (g i:Int):St:=G_u.put [.i d,.i g,.i i,.i b.Area.X0,.i b.Area.Y0,.i b.Area.X1,.i b.Area.Y1,.i b.TileW,.i b.TileH,.r b.Components,.i a.Kernel,.i a.Levels,.i a.Color,.i a.BlockX,.i a.BlockY,.r a.Precincts,.i a.Order,.i a.Layers,.b a.Mode.Bypass,.b a.Mode.Restart,.b a.Mode.Reset,.b a.Mode.Causal,.b a.Mode.Symbols,.b a.Divide,.b a.Sync,.b a.Fence,.r a.Steps,.i a.Dead,.i a.Shift,.i e,.i f,.i c.X0,.i c.Y0,.i c.X1,.i c.Y1]
noncomputable def I_4:LoopG R:=fun l kn _ _=>match l with
  | .i a::.i O::.i Q::.i b::.i c::.i d::.i e::.i f::.i g::.r i::.i j::.i m::.i o::.i p::.i q::.r r::.i s::.i t::.b u::.b v::.b w::.b y::.b z::.b A::.b B::.b D::.r E::.i F::.i H::.i I::.i J::.i K::.i L::.i M::.i N::[]=>D_K a (D'.mk (F'.mk b c d e) f g i) (C'.mk j m o p q r s t (K'.mk u v w y z) A B D E F H) I J (F'.mk K L M N) (S_p a O Q (D'.mk (F'.mk b c d e) f g i) (C'.mk j m o p q r s t (K'.mk u v w y z) A B D E F H) I J (F'.mk K L M N)) O Q (fun S U=>kn (E_R a (D'.mk (F'.mk b c d e) f g i) (C'.mk j m o p q r s t (K'.mk u v w y z) A B D E F H) I J (F'.mk K L M N) S U))
  | _=>none
noncomputable def L_I:Env R:=⟨Tryz.prog,callCons 60 m_t (callCons 156 u_w callNil),fun id=>bif Nat.beq id 0 then loopAlt G_u I_4 loopNil else (fun _ _ _ _ _=>none) id,Tryz.f137.results.toList,maskTab 63 [(0,0x11f8),(1,0x31f8),(2,0x50d8),(3,0x150d8),(4,0x350c8),(5,0x8000350c8),(6,0x350c8),(7,0x350c8),(8,0x1000)],maskAt [(1,25),(2,4),(4,9),(6,22),(8,23),(10,29),(12,36),(14,33),(16,39)],noSort⟩
theorem S_q (a:Int) (b:D') (c:C') (d e:Int) (f:F') (j m:Int) (kn:St->Option R) (kx:Nat->St->Option R) (kr:V->Option R) (n:Nat) (o p:Int) :
    loopN L_I 0 (loopAt Tryz.f137 0) (E_R a b c d e f j m) kn kx kr (n+1) (E_R a b c d e f o p) =
    D_J a b c d e f o p (fun g i=>loopN L_I 0 (loopAt Tryz.f137 0) (E_R a b c d e f j m) kn kx kr n (E_R a b c d e f g i)) (fun g i=>kn (E_R a b c d e f g i)):=by kernel_rfl
theorem L_J (a:Int) (b:D') (c:C') (d e:Int) (f:F') (o p:Int) (kn:St->Option R) (kx:Nat->St->Option R) (kr:V->Option R):∀ (n:Nat) (g i:Int),
    D_K a b c d e f n g i (fun j m=>kn (E_R a b c d e f j m))=loopN L_I 0 (loopAt Tryz.f137 0) (E_R a b c d e f o p) kn kx kr n (E_R a b c d e f g i)
  | 0,_,_=>rfl
  | n+1,g,i=>by
    rw [S_q,D_K]
    congr 1
    funext j m
    exact L_J a b c d e f o p kn kx kr n j m
theorem Z_V {rest} (h:GoodL (R:=R) L_I 0 (loopAt Tryz.f137 0) rest):GoodL (R:=R) L_I 0 (loopAt Tryz.f137 0) (loopAlt G_u I_4 rest):=by
  refine goodL_alt (fun l kn kx kr r h=>?_) h
  unfold I_4 at h
  split at h
  · rename_i c a b d e f g i j m o p q s t u v w y z A B D E F H I J K L M N O Q S
    exact ⟨_,(L_J c (D'.mk (F'.mk d e f g) i j m) (C'.mk o p q s t u v w (K'.mk y z A B D) E F H I J K) L M (F'.mk N O Q S) a b kn kx kr _ a b).symm.trans h⟩
  · cases h
theorem e_M:GoodLoop (R:=R) L_I 0 (loopAt Tryz.f137 0):=goodL_loop (g:=loopAlt G_u I_4 loopNil) (fun _ _ _ _=>rfl) (Z_V goodL_nil)
noncomputable def U_c (a:D') (d:C') (i:F') (b e j:Int) (k:V->Option R):Option R:=let f:=Q_q d e;let c:=V_5 i f.X f.Y j;D_K b a d 0 0 c.1 (S_p b 1 e a d 0 0 c.1) 1 e (fun g v=>let m:=IntKind.wrap .i64 (c.1.X0*g);bif (inR b (List.length a.Components)) then let o:=List.getD a.Components (Int.toNat b) [];let p:=V.toInt (List.getD o 2 V.undef);let q:=IntKind.wrap .i64 (m*p);let r:=IntKind.wrap .i64 (c.1.Y0*g);bif (inR b (List.length a.Components)) then let s:=List.getD a.Components (Int.toNat b) [];let t:=V.toInt (List.getD s 3 V.undef);let u:=IntKind.wrap .i64 (r*t);k (V.agg [V.int .i64 q,V.int .i64 u]) else none else none)
abbrev p_4 (a:D') (b:C') (c:F') (d e f:Int):List V:=[(D'.v a),(C'.v b),(F'.v c),V.int .i64 d,V.int .i64 e,V.int .i64 f]
theorem Z_W (a:D') (b:C') (c:F') (d e f:Int) (k:V->Option R):fnK L_I Tryz.f137 (p_4 a b c d e f) k=U_c a b c d e f k:=by kernel_rfl
theorem x_R (h_F8:f_W) (h_G2:m_G) (h:∀ (a:D') (b:C') (d:F') (f g i:Int),O_T a b d f g i=true->Real (p_4 a b d f g i)->U_c a b d f g i some=some (X'.v (m_o a b d f g i))):o_8:=goodHook1 fun l hp=>by
  unfold o_7 at hp
  split at hp
  · rename_i j m o p q r s t u v w y z A B D F H I J K L M N O Q S U W X Y Z a0
    exact fn_ok (fn:=Tryz.f137) (c:=bodyOf Tryz.f137) (E:=L_I) ⟨by kernel_rfl,(goodCons h_F8 (goodCons h_G2 goodNil)),rfl,M'⟩ rfl (by kernel_rfl) (by kernel_rfl) (by kernel_rfl) (loopsOK_of _ (by have e:loopsOf (bodyOf Tryz.f137)=[(0,loopAt Tryz.f137 0)]:=(by kernel_rfl);rw [e];simp only [List.forall_mem_cons,List.not_mem_nil,false_implies,implies_true,and_true];exact e_M)) (fun hr=>(Z_W (D'.mk (F'.mk j m o p) q r s) (C'.mk t u v w y z A B (K'.mk D F H I J) K L M N O Q) (F'.mk S U W X) Y Z a0 some).trans (h (D'.mk (F'.mk j m o p) q r s) (C'.mk t u v w y z A B (K'.mk D F H I J) K L M N O Q) (F'.mk S U W X) Y Z a0 hp hr))
  · cases hp
noncomputable def i_4:Env R:=⟨Tryz.prog,callNil,fun _ _ _ _ _=>none,Tryz.f138.results.toList,maskTab 73 [(0,0x71),(1,0xf0),(2,0x1f0),(3,0x40),(4,0x800f0),(5,0x40),(6,0x400000f0),(7,0x40),(8,0x200000000070),(9,0x40),(10,0x40)],maskAt [(2,3),(4,4),(6,6),(8,16),(10,18),(12,28),(14,30),(16,44),(18,46),(20,60)],noSort⟩
noncomputable def e_N (c:Int) (a:G') (b:X') (k:V->Option R):Option R:=bif (c==1) then k (V.agg [V.int .i64 a.Layer,V.int .i64 a.Res,V.int .i64 a.Comp,V.int .i64 a.Precinct,(V.int .i64 0),(V.int .i64 0)]) else bif (c==2) then k (V.agg [V.int .i64 a.Res,V.int .i64 a.Layer,V.int .i64 a.Comp,V.int .i64 a.Precinct,(V.int .i64 0),(V.int .i64 0)]) else bif (c==3) then k (V.agg [V.int .i64 a.Res,V.int .i64 b.Y,V.int .i64 b.X,V.int .i64 a.Comp,V.int .i64 a.Precinct,V.int .i64 a.Layer]) else bif (c==4) then k (V.agg [V.int .i64 b.Y,V.int .i64 b.X,V.int .i64 a.Comp,V.int .i64 a.Res,V.int .i64 a.Precinct,V.int .i64 a.Layer]) else k (V.agg [V.int .i64 a.Comp,V.int .i64 b.Y,V.int .i64 b.X,V.int .i64 a.Res,V.int .i64 a.Precinct,V.int .i64 a.Layer])
abbrev x_S (a:Int) (b:G') (c:X'):List V:=[V.int .i64 a,(G'.v b),(X'.v c)]
theorem Z_X (a:Int) (b:G') (c:X') (k:V->Option R):fnK i_4 Tryz.f138 (x_S a b c) k=e_N a b c k:=by kernel_rfl
theorem x_T (a:Int) (b:G') (c:X'):e_N a b c some=some ((fun (m:Y')=>(Y'.v m)) (q_N a b c)):=by
  repeat' (first | rfl | refine A_t (v:=(fun (m:Y')=>(Y'.v m))) ?_ ?_)
theorem Z_Y:r_y:=goodHook1 fun l hp=>by
  unfold o_9 at hp
  split at hp
  · rename_i a b d f g i j
    exact fn_ok (fn:=Tryz.f138) (c:=bodyOf Tryz.f138) (E:=i_4) ⟨by kernel_rfl,goodNil,rfl,M'⟩ rfl (by kernel_rfl) (by kernel_rfl) (by kernel_rfl) (loopsOK_of _ (by have e:loopsOf (bodyOf Tryz.f138)=[]:=(by kernel_rfl);rw [e];intro p hp;cases hp)) (fun hr=>(Z_X a (G'.mk b d f g) (X'.mk i j) some).trans (x_T a (G'.mk b d f g) (X'.mk i j)))
  · cases hp
end Go.Vm
