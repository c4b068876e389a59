/- IndexSelects: the program selects the spans that the reference selects, or returns its error, for every header, parameters, entries and view; nothing that was handed in changes. No condition. -/
import Derived.Test.YtnfkgnigkdkniaaGreatWPb
import Derived.Test.YtnfkgnigkdkniaaGreatVmLaw
import Derived.Test.YtnfkgnigkdkniaaGreatRows
import Derived.WalkKit
import Derived.ProofKit
import Derived.OpenShut
noncomputable section
namespace Go.Vm
open Go.Proofs
theorem f_Z:T_R:=W_c
theorem j_h:V_7:=W_e
theorem q_B:h_I:=W_i
theorem m_c:V_8:=W_k f_Z q_B
theorem z_Y:m_p:=W_g
theorem q_C:h_K:=W_m
theorem g_K2:q_O:=W_o q_B q_C
theorem g_M1:q_P:=W_q f_Z
theorem r_L:g_u:=a_R f_Z j_h m_c z_Y g_K2 g_M1
theorem m_d:c_E:=W_v j_h
theorem z_Z:m_s:=a_P j_h m_d f_Z q_B q_C
theorem m_e:c_F:=W_A r_L z_Z
theorem g_K7:q_Q:=W_C
theorem g_I4:n_i:=a_U z_Y
theorem r_M:h_N:=W_L
theorem q_D:f_X:=a_V m_c r_M
theorem q_E:f_W:=W_H
theorem z_0:m_u:=W_J j_h q_B q_C
theorem z_1:m_w:=a_Y m_c q_D q_E z_0
theorem z_2:q_R:=W_S r_M
theorem g_L8:s_H:=W_U
theorem z_3:n_s:=W_Y f_Z g_L8
theorem z_4:n_u:=W_0 f_Z q_D z_2 z_3
theorem g_J0:n_w:=a_Z m_c q_E z_0 z_4
theorem r_N:h_O:=a_4 r_L z_Z g_K7 g_I4 z_1 g_J0
theorem z_5:q_S:=W_7 m_e r_N
theorem g_H4:q_T:=W_9 m_e z_1 z_5
theorem g_M6:q_U:=b_j r_L m_e r_N g_H4
theorem g_F2:s_T:=X_d
theorem g_J4:q_V:=b_n
theorem g_L2:s_W:=X_h g_F2 g_J4
theorem f_0:T_S:=X_j
theorem j_i:V_9:=X_l
theorem r_O:h_P:=X_n
theorem m_H:f_Y:=X_p f_0 r_O
theorem y_w:g_w:=l_Z
theorem y_x:k_p:=X_t
theorem g_L5:q_Y:=X_v f_0
theorem y_y:k_s:=a_Q f_0 j_i m_H y_w r_O y_x g_L5
theorem j_j:W_a:=X_C j_i
theorem z_6:m_x:=a_N f_0 j_i j_j r_O y_x
theorem g_D4:n_P:=a_T y_w
theorem r_P:k_x:=X_H
theorem q_F:g_y:=X_J m_H r_P
theorem r_Q:k_A:=X_L
theorem z_7:m_z:=X_P r_P
theorem z_8:n_0:=X_T f_0
theorem z_9:n_2:=X_V r_P
theorem g_E5:q_1:=X_X z_9
theorem g_G9:n_5:=X_Z f_0 q_F z_8 g_E5
theorem g_F9:q_0:=X_N j_i r_O y_x
theorem g_C7:n_7:=a_W m_H q_F r_Q z_7 g_G9 g_F9
theorem y_z:m_A:=a_2 y_y z_6 y_w g_D4 g_C7
theorem g_A1:q_3:=b_f
theorem g_A3:q_4:=b_g
theorem g_A4:q_5:=b_h
theorem g_F7:t_t:=Y_a g_A1 g_A3 g_A4
theorem g_C6:q_6:=Y_c y_z j_j f_0 j_i g_F7 m_H y_y
theorem q_G:h_Q:=Y_e y_y z_6
theorem g_D9:q_7:=Y_g y_z q_G
theorem y_A:o_h:=Y_i m_H q_G
theorem g_E6:q_9:=Y_k y_z q_G
theorem g_A6:t_B:=Y_m
theorem g_D5:t_D:=Y_o
theorem y_B:m_C:=Y_q f_0 j_i g_A6 g_D5
theorem g_A7:t_G:=Y_s y_B
theorem g_B3:r_b:=Y_u y_A q_F g_E6 r_Q g_A7
theorem g_C3:r_c:=Y_w y_B
theorem y_C:m_D:=Y_y
theorem g_A9:t_M:=Y_A j_j g_C3 y_C
theorem g_B1:r_e:=Y_C r_Q g_A9
theorem g_B8:t_P:=Y_E
theorem g_F3:t_R:=Y_G
theorem g_C4:t_T:=Y_I g_F3
theorem g_E1:r_f:=Y_M g_B8 g_C4
theorem J_Y:M_3 Tryz.prog O_2:=D_Y g_E1
theorem g_G5:o_x:=b_o g_B3 g_B1 J_Y
theorem g_B0:o_z:=b_p g_D9 g_G5
theorem g_G0:o_B:=b_v q_G g_B0
theorem g_G8:r_g:=Y_Z q_G
theorem g_I1:r_i:=Y_3
theorem g_G4:r_j:=b_c f_0 j_i j_j q_F g_I1 r_P z_9 z_8
theorem g_B4:r_k:=Y_7 j_j j_i
theorem g_A2:r_l:=b_k g_B4
theorem g_A0:t_5:=Z_b g_A2
theorem g_H7:o_P:=a_7
theorem g_B7:t_7:=Z_d j_j f_0 g_C3 y_C
theorem g_C0:r_m:=a_5 j_j y_B y_C
theorem g_H3:r_n:=Z_i y_A q_F r_Q g_G9 g_E5 g_B7 g_C0
theorem g_B2:o_N:=a_8 g_H3
theorem g_C2:r_o:=b_a g_H7 g_B2 z_7
theorem g_E4:u_e:=Z_q g_E6 g_C2
theorem g_D0:r_p:=Z_s j_j m_H g_G4 y_A g_A0 g_E4
theorem g_D6:r_h:=Y_1
theorem J_Z:M_3 Tryz.prog O_3:=D_X g_D6
theorem g_G7:r_q:=b_E g_C6 g_G0 g_G8 g_D0 J_Z
theorem g_H5:r_r:=Z_x r_L r_N f_Z j_h m_c m_d
theorem g_J2:r_s:=Z_z m_e r_N
theorem g_L9:r_t:=Z_D
theorem g_K3:m_E:=b_t g_L9
theorem T_q:C_X:=J_S g_K3
theorem y_D:o_Z:=Z_I m_e m_c
theorem y_E:m_F:=Z_K f_Z j_h q_B q_C
theorem g_E0:u_o:=Z_M q_E q_D y_E
theorem g_D3:o_3:=Z_O z_5 y_D g_E0
theorem g_L4:r_w:=Z_Q q_C y_E
theorem g_M3:r_x:=Z_S
theorem g_G2:m_G:=Z_U m_d g_L4 g_M3
theorem g_H1:o_8:=b_q q_E g_G2
theorem g_I5:r_y:=Z_Y
theorem g_M4:p_b:=b_s g_D3 g_H1 g_I5
theorem g_G6:p_d:=b_w g_J2 T_q g_M4
theorem g_E8:p_f:=b_x m_e g_G6
theorem g_I3:p_h:=b_l
theorem g_H9:p_j:=b_y g_E8 g_I3
theorem g_J5:r_z:=a_d
theorem g_J7:u_H:=a_h f_Z m_d g_L4 g_M3
theorem g_J3:r_B:=a_6 y_E g_G2
theorem g_J9:r_C:=a_l q_E q_D z_4 z_2 g_J7 g_J3
theorem g_H6:r_A:=a_f r_M
theorem g_C9:r_D:=b_b g_J9 g_H6
theorem g_K1:r_E:=a_q g_D3 g_C9 y_D
theorem g_K9:r_F:=a_s
theorem g_J6:r_G:=a_u
theorem g_M5:r_H:=b_e j_h m_d f_Z r_M g_K9 q_D g_J6 z_3
theorem g_I7:u_Q:=a_y m_e m_c m_d y_D g_M5
theorem g_C5:r_I:=a_A j_h m_d g_I7
theorem g_B6:p_x:=b_z g_J5 g_K1 g_C5
theorem g_I6:r_J:=b_D g_H5 g_H9 g_B6
theorem g_F0:r_K:=b_m
theorem g_B9:z_X:=a_L g_M6 g_L2 g_G7 g_I6 g_F0
theorem U_J {vs:List V} (h:A_E [] vs):vs=[]:=List.eq_nil_of_length_eq_zero h.1
theorem M_E {c:CK} {sh:List CK} {vs:List V} (h:A_E (c::sh) vs):∃ v r,vs=v::r/\c_p c v/\A_E sh r:=by
  cases vs with
  | nil=>cases h.1
  | cons v r=>exact ⟨v,r,rfl,h.2 0 c v rfl rfl,by have:=h.1;simpa using this,fun j c' v' h1 h2=>h.2 (j+1) c' v' (by simpa using h1) (by simpa using h2)⟩
theorem A_L {k:IntKind} {sh:List CK} {vs:List V} (h:A_E (.int k::sh) vs):∃ n r,vs=.int k n::r/\A_E sh r:=by
  obtain ⟨v,r,rfl,h1,h2⟩:=M_E h
  cases h1
  exact ⟨_,r,rfl,h2⟩
theorem D_c {sh:List CK} {vs:List V} (h:A_E (.bool::sh) vs):∃ b r,vs=.bool b::r/\A_E sh r:=by
  obtain ⟨v,r,rfl,h1,h2⟩:=M_E h
  cases h1
  exact ⟨_,r,rfl,h2⟩
theorem f_K {s sh:List CK} {vs:List V} (h:A_E (.sl s::sh) vs):∃ rows r,vs=.data s rows::r/\A_E sh r:=by
  obtain ⟨v,r,rfl,h1,h2⟩:=M_E h
  cases h1
  exact ⟨_,r,rfl,h2⟩
theorem U_K {P:Program} {t:TypeId} {v:V} (ha:aggT P t=true) (h:T_L P t v):∃ vs,v=.agg vs/\A_E (ck P t) vs:=by
  rcases h with ⟨_,h⟩ | ⟨h1,_⟩
  · exact h
  · rw [ha] at h1;cases h1
theorem m_f {s sh:List CK} {vs:List V} (h:A_E (.sl s::sh) vs):∃ rows r,vs=.data s rows::r/\(∀ w ∈ rows,A_E s w)/\A_E sh r:=by
  obtain ⟨v,r,rfl,h1,h2⟩:=M_E h
  cases h1 with
  | sl _ rows hl hr hc =>
    refine ⟨_,r,rfl,fun w hw=>?_,h2⟩
    obtain ⟨i,hi,he⟩:=List.getElem_of_mem hw
    exact ⟨hr w hw,fun j c v h1 h2=>hc i w j c v (by rw [List.getElem?_eq_getElem hi,he]) h1 h2⟩
theorem m_g {w:List V} (h:A_E V'.sh w):(V'.of w).Span.From<9223372036854775808:=by
  have hl:w.length=7:=h.1
  have h5:5<w.length:=by omega
  have hv:=h.2 5 (.int .i64) w[5] rfl (List.getElem?_eq_getElem h5)
  have e:(V'.of w).Span.From=V.toInt w[5]:=by
    show V.toInt (List.getD w 5 V.undef)=_
    rw [List.getD_eq_getElem?_getD,List.getElem?_eq_getElem h5]
    rfl
  rw [e]
  generalize w[5]=v at hv
  cases hv with
  | int _ n hwf =>
    unfold Lit.wf at hwf
    rw [Bool.and_eq_true,decide_eq_true_eq,decide_eq_true_eq] at hwf
    have:=hwf.2
    show n<9223372036854775808
    have hm:IntKind.max .i64=9223372036854775807:=by rfl
    rw [hm] at this
    omega
theorem K_x {v1 v2 v3:V} (h1:T_L Tryz.prog 26 v1) (h2:T_L Tryz.prog 35 v2) (h3:T_L Tryz.prog 40 v3):M_P Tryz.prog 3 [v1,v2,v3] (.bool true):=by
  obtain ⟨xxs,rfl,h⟩:=U_K (by kernel_rfl) h1
  rw [show ck Tryz.prog 26=[.int .i64,.int .i64,.int .i64,.int .i64,.int .i64,.int .i64,.sl [.int .i64,.bool,.int .i64,.int .i64]] from by kernel_rfl] at h
  obtain ⟨x0,xr0,ex0,h⟩:=A_L h
  obtain ⟨x1,xr1,ex1,h⟩:=A_L h
  obtain ⟨x2,xr2,ex2,h⟩:=A_L h
  obtain ⟨x3,xr3,ex3,h⟩:=A_L h
  obtain ⟨x4,xr4,ex4,h⟩:=A_L h
  obtain ⟨x5,xr5,ex5,h⟩:=A_L h
  obtain ⟨x6,xr6,ex6,h⟩:=f_K h
  replace h:=U_J h
  subst_vars
  obtain ⟨yys,rfl,h⟩:=U_K (by kernel_rfl) h2
  rw [show ck Tryz.prog 35=[.int .i64,.int .i64,.int .i64,.int .i64,.int .i64,.sl [.int .i64,.int .i64],.int .i64,.int .i64,.bool,.bool,.bool,.bool,.bool,.bool,.bool,.bool,.sl [.int .i64],.int .i64,.int .i64] from by kernel_rfl] at h
  obtain ⟨y0,yr0,ey0,h⟩:=A_L h
  obtain ⟨y1,yr1,ey1,h⟩:=A_L h
  obtain ⟨y2,yr2,ey2,h⟩:=A_L h
  obtain ⟨y3,yr3,ey3,h⟩:=A_L h
  obtain ⟨y4,yr4,ey4,h⟩:=A_L h
  obtain ⟨y5,yr5,ey5,h⟩:=f_K h
  obtain ⟨y6,yr6,ey6,h⟩:=A_L h
  obtain ⟨y7,yr7,ey7,h⟩:=A_L h
  obtain ⟨y8,yr8,ey8,h⟩:=D_c h
  obtain ⟨y9,yr9,ey9,h⟩:=D_c h
  obtain ⟨y10,yr10,ey10,h⟩:=D_c h
  obtain ⟨y11,yr11,ey11,h⟩:=D_c h
  obtain ⟨y12,yr12,ey12,h⟩:=D_c h
  obtain ⟨y13,yr13,ey13,h⟩:=D_c h
  obtain ⟨y14,yr14,ey14,h⟩:=D_c h
  obtain ⟨y15,yr15,ey15,h⟩:=D_c h
  obtain ⟨y16,yr16,ey16,h⟩:=f_K h
  obtain ⟨y17,yr17,ey17,h⟩:=A_L h
  obtain ⟨y18,yr18,ey18,h⟩:=A_L h
  replace h:=U_J h
  subst_vars
  obtain ⟨zzs,rfl,h⟩:=U_K (by kernel_rfl) h3
  rw [show ck Tryz.prog 40=[.sl [.int .i64,.int .i64,.int .i64,.int .i64,.int .i64,.int .i64,.int .i64],.int .i64,.int .i64,.int .i64,.int .i64,.int .i64,.int .i64] from by kernel_rfl] at h
  obtain ⟨z0,zr0,ez0,hz,h⟩:=m_f h
  obtain ⟨z1,zr1,ez1,h⟩:=A_L h
  obtain ⟨z2,zr2,ez2,h⟩:=A_L h
  obtain ⟨z3,zr3,ez3,h⟩:=A_L h
  obtain ⟨z4,zr4,ez4,h⟩:=A_L h
  obtain ⟨z5,zr5,ez5,h⟩:=A_L h
  obtain ⟨z6,zr6,ez6,h⟩:=A_L h
  replace h:=U_J h
  subst_vars
  have hall:=U_I (D'.mk (F'.mk x0 x1 x2 x3) x4 x5 x6) (C'.mk y0 y1 y2 y3 y4 y5 y6 y7 (K'.mk y8 y9 y10 y11 y12) y13 y14 y15 y16 y17 y18) (A_d.mk z0 (O'.mk z1 z2 (F'.mk z3 z4 z5 z6))) fun w hw=>m_g (hz w hw)
  obtain ⟨v,hv,he⟩:=g_B9 _ some (.bool true) ((show z_W [D'.v (D'.mk (F'.mk x0 x1 x2 x3) x4 x5 x6),C'.v (C'.mk y0 y1 y2 y3 y4 y5 y6 y7 (K'.mk y8 y9 y10 y11 y12) y13 y14 y15 y16 y17 y18),A_d.v (A_d.mk z0 (O'.mk z1 z2 (F'.mk z3 z4 z5 z6)))] some=bif R_l (D'.mk (F'.mk x0 x1 x2 x3) x4 x5 x6) (C'.mk y0 y1 y2 y3 y4 y5 y6 y7 (K'.mk y8 y9 y10 y11 y12) y13 y14 y15 y16 y17 y18) (A_d.mk z0 (O'.mk z1 z2 (F'.mk z3 z4 z5 z6))) then some (V.bool (m_1 (D'.mk (F'.mk x0 x1 x2 x3) x4 x5 x6) (C'.mk y0 y1 y2 y3 y4 y5 y6 y7 (K'.mk y8 y9 y10 y11 y12) y13 y14 y15 y16 y17 y18) (A_d.mk z0 (O'.mk z1 z2 (F'.mk z3 z4 z5 z6))))) else none from by kernel_rfl).trans (by rw [hall.1,hall.2];rfl))
  cases he
  exact hv
end Go.Vm
namespace Go.Proofs.YtnfkgnigkdkniaaGreat.IndexSelectsLaw
open Go.ChangeShapes Go.WideShapes Go.ChangeAt Go.RowKit
set_option linter.unusedVariables false
set_option maxRecDepth 100000 in
theorem lifted (os:Os) (started:os.Started) (H:Type) (enc:TypeId × Value->H) :
    ReturnsInHanded {} Tryz.checked os 3 .any (Rows.indexSelectsSpec.pre6 enc Tryz.prog Tryz.f3 Rows.indexSelectsRow.domain false) (Rows.indexSelectsSpec.post enc Tryz.prog Tryz.f3 false true false false):=by
  refine returnsInHanded_of_change (C:=Tryz.checked) (by kernel_rfl) started (by kernel_rfl) Tryz.func3
    (ChangeSpec.witness6 (enc:=enc) (C:=Tryz.checked) false ⟨#[],#[.agg #[.int .i64 0,.int .i64 0,.int .i64 0,.int .i64 0,.int .i64 0,.int .i64 0,.slice none 0 0],.agg #[.int .i64 0,.int .i64 0,.int .i64 0,.int .i64 0,.int .i64 0,.slice none 0 0,.int .i64 0,.int .i64 0,.bool false,.bool false,.bool false,.bool false,.bool false,.bool false,.bool false,.bool false,.slice none 0 0,.int .i64 0,.int .i64 0],.agg #[.slice none 0 0,.int .i64 0,.int .i64 0,.int .i64 0,.int .i64 0,.int .i64 0,.int .i64 0]],[]⟩ 8 (by kernel_rfl) (by kernel_rfl) (by kernel_rfl) (by kernel_rfl)) ?_
  intro W base args ds gs before hval hW hcnd _
  refine Vm.Q_9 (P:=Tryz.prog) (fn:=Tryz.f3) (bt:=4) (by kernel_rfl) (by kernel_rfl) rfl (by kernel_rfl) rfl (fun ds hl=>?_) (fun Vs hl hV=>?_) hval hW
  · match ds,hl with
    | [d1,d2,d3],_=>exact ⟨rfl,rfl,rfl⟩
  · match Vs,hl,hV with
    | [v1,v2,v3],_,hV=>exact Vm.K_x (hV 0 26 v1 rfl rfl) (hV 1 35 v2 rfl rfl) (hV 2 40 v3 rfl rfl)
theorem over:Rows.indexSelectsRow.holds Tryz.pinned (OpenSpec.ofChange Rows.indexSelectsSpec) :=
  OpenClaim.holds_of_wide 3 Tryz.f3 rfl rfl rfl rfl rfl rfl rfl ⟨rfl,rfl,rfl,rfl,rfl⟩ rfl rfl rfl rfl rfl (by kernel_rfl) Tryz.func3 (by kernel_rfl)
    (of_decide_eq_true (by kernel_rfl)) (by unfold Func.isWrapper;first | (rw [if_pos (by decide +kernel)];kernel_rfl) | (rw [if_neg (by decide +kernel)];exact ⟨rfl,rfl⟩))
    (fun os started H enc _=>lifted os started H enc)
theorem proved:Rows.IndexSelectsSaid:=over
#print axioms proved
end Go.Proofs.YtnfkgnigkdkniaaGreat.IndexSelectsLaw
