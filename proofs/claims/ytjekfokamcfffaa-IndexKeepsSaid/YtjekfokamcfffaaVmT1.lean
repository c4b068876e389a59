import Derived.Test.YtjekfokamcfffaaVmLoop
import Derived.Test.YtjekfokamcfffaaProg
set_option linter.unusedVariables false
set_option maxRecDepth 100000
noncomputable section
namespace Go.Vm
open Go.Proofs

/-! wavelet/rect.CeilDiv -/

noncomputable def env66 {R : Type} : Env R := ⟨Try.prog, callNil, fun _ _ _ _ _ => none, Try.f66.results.toList, [true, true, false, false, true, true, false, true, false, false, false, false, false, false, true, false, false, false]⟩

def spec66 {R : Type} (p0 : Int) (p1 : Int) (k : V → Option R) : Option R :=
 let b1 : Bool := (decide (p1 < (1 : Int)))
 bif b1 then
 k (V.int .i64 (0 : Int))
 else
 bif (p1 != 0) then
 let x2 : Int := (IntKind.wrap .i64 (Int.tdiv p0 p1))
 bif (p1 != 0) then
 let b3 : Bool := (decide ((Int.tmod p0 p1) > (0 : Int)))
 bif b3 then
 let x4 : Int := (IntKind.wrap .i64 (x2 + (1 : Int)))
 k (V.int .i64 x4)
 else
 k (V.int .i64 x2)
 else none
 else none

theorem spec66_eq {R : Type} (p0 : Int) (p1 : Int) (k : V → Option R) : fnK env66 Try.f66 [(V.int .i64 p0), (V.int .i64 p1)] k = spec66 p0 p1 k := by kernel_rfl

theorem ok66 (p0 : Int) (p1 : Int) {v : V} (h : Real [(V.int .i64 p0), (V.int .i64 p1)] → spec66 p0 p1 some = some v) : FunOK Try.prog 66 [(V.int .i64 p0), (V.int .i64 p1)] v :=
  fn_ok (fn := Try.f66) (c := bodyOf Try.f66) (E := env66) ⟨by kernel_rfl, goodNil, rfl⟩ rfl (by kernel_rfl) (by kernel_rfl) (by kernel_rfl)
  (loopsOK_of _ (by
    have e : loopsOf (bodyOf Try.f66) = [] := by kernel_rfl
    rw [e]
    intro p hp; cases hp))
  (fun hr => (spec66_eq p0 p1 some).trans (h hr))

/-! wavelet/waveletref27.SameBytes -/

noncomputable def env8 {R : Type} : Env R := ⟨Try.prog, callNil, fun _ _ _ _ _ => none, Try.f8.results.toList, [true, true, false, false, true, false, false, false, false, false]⟩

def spec8 {R : Type} (p0 : List (List V)) (p1 : List (List V)) (k : V → Option R) : Option R :=
 let b1 : Bool := (ByteArray.toList (bytesOfRows p0) == ByteArray.toList (bytesOfRows p1))
 k (V.bool b1)

theorem spec8_eq {R : Type} (p0 : List (List V)) (p1 : List (List V)) (k : V → Option R) : fnK env8 Try.f8 [(V.data [.int .u8] p0), (V.data [.int .u8] p1)] k = spec8 p0 p1 k := by kernel_rfl

theorem ok8 (p0 : List (List V)) (p1 : List (List V)) {v : V} (h : Real [(V.data [.int .u8] p0), (V.data [.int .u8] p1)] → spec8 p0 p1 some = some v) : FunOK Try.prog 8 [(V.data [.int .u8] p0), (V.data [.int .u8] p1)] v :=
  fn_ok (fn := Try.f8) (c := bodyOf Try.f8) (E := env8) ⟨by kernel_rfl, goodNil, rfl⟩ rfl (by kernel_rfl) (by kernel_rfl) (by kernel_rfl)
  (loopsOK_of _ (by
    have e : loopsOf (bodyOf Try.f8) = [] := by kernel_rfl
    rw [e]
    intro p hp; cases hp))
  (fun hr => (spec8_eq p0 p1 some).trans (h hr))

/-! wavelet/waveletref38.Keep -/

def fuel10_2 (r2_0 : List (List V)) (r2_1 : List (List V)) (i2_2 : Int) (r2_3 : List (List V)) (i2_4 : Int) (i2_5 : Int) (b2_6 : Bool) (r2_7 : List (List V)) (r2_8 : List (List V)) (i2_9 : Int) (i2_10 : Int) : Nat :=
 let x8 : Int := (((List.length r2_0) : Nat) : Int)
 let x9 : Int := (bif (decide (x8 < i2_10)) then x8 else i2_10)
 Int.toNat (x9 - i2_2) + 1

def step10_2 {R : Type} (r2_0 : List (List V)) (r2_1 : List (List V)) (i2_2 : Int) (r2_3 : List (List V)) (i2_4 : Int) (i2_5 : Int) (b2_6 : Bool) (r2_7 : List (List V)) (r2_8 : List (List V)) (i2_9 : Int) (i2_10 : Int) (again : List (List V) → List (List V) → Int → List (List V) → Int → Int → Bool → List (List V) → List (List V) → Int → Int → Option R) (kn : List (List V) → List (List V) → Int → List (List V) → Int → Int → Bool → List (List V) → List (List V) → Int → Int → Option R) : Option R :=
 let x8 : Int := (((List.length r2_0) : Nat) : Int)
 let x9 : Int := (bif (decide (x8 < i2_10)) then x8 else i2_10)
 bif (decide (i2_2 < x9)) then
 bif (inR i2_2 (List.length r2_0)) then
 let w10 : List V := (List.getD r2_0 (Int.toNat i2_2) [])
 let x11 : Int := (V.toInt (List.getD w10 0 V.undef))
 bif (inR i2_2 (List.length r2_7)) then
 let r12 : List (List V) := (List.set r2_7 (Int.toNat i2_2) (setCells (List.getD r2_7 (Int.toNat i2_2) []) 0 [(V.int .u8 x11)]))
 let x13 : Int := (IntKind.wrap .i64 (i2_2 + (1 : Int)))
 again r2_0 r2_1 x13 r2_3 i2_4 i2_5 b2_6 r12 r2_8 i2_9 i2_10
 else none
 else none
 else
 kn r2_0 r2_1 i2_2 r2_3 i2_4 i2_5 b2_6 r2_7 r2_8 i2_9 i2_10

def loop10_2 {R : Type} : Nat → List (List V) → List (List V) → Int → List (List V) → Int → Int → Bool → List (List V) → List (List V) → Int → Int → (List (List V) → List (List V) → Int → List (List V) → Int → Int → Bool → List (List V) → List (List V) → Int → Int → Option R) → Option R
  | 0, _, _, _, _, _, _, _, _, _, _, _, _ => none
  | n + 1, r2_0, r2_1, i2_2, r2_3, i2_4, i2_5, b2_6, r2_7, r2_8, i2_9, i2_10, kn => step10_2 r2_0 r2_1 i2_2 r2_3 i2_4 i2_5 b2_6 r2_7 r2_8 i2_9 i2_10 (fun yr2_0 yr2_1 yi2_2 yr2_3 yi2_4 yi2_5 yb2_6 yr2_7 yr2_8 yi2_9 yi2_10 => loop10_2 n yr2_0 yr2_1 yi2_2 yr2_3 yi2_4 yi2_5 yb2_6 yr2_7 yr2_8 yi2_9 yi2_10 kn) kn

def shape10_2 : ST := ⟨[.data [.int .u8], .data [.int .i64, .int .i64], .undef, .undef, .vs 8, .vs 3, .undef, .ptr 12 0 0, .int .i64, .undef, .undef, .undef, .data [.int .i64, .int .i64], .int .i64, .int .i64, .bool, .undef, .undef, .undef, .undef, .undef, .undef, .undef, .undef, .undef, .undef, .undef, .undef, .undef, .undef, .undef, .undef, .undef, .undef, .undef, .undef, .undef, .undef, .undef], [(3, .vec [.int .u8] false), (8, .vec [.int .u8] false), (12, .var [.int .i64, .int .i64] false [.int .i64, .int .i64])], 18⟩

def hook10_2 {R : Type} : LoopF R := fun l kn _ _ => match l with
  | [.r r2_0, .r r2_1, .i i2_2, .r r2_3, .i i2_4, .i i2_5, .b b2_6, .r r2_7, .r r2_8, .i i2_9, .i i2_10] => loop10_2 (fuel10_2 r2_0 r2_1 i2_2 r2_3 i2_4 i2_5 b2_6 r2_7 r2_8 i2_9 i2_10) r2_0 r2_1 i2_2 r2_3 i2_4 i2_5 b2_6 r2_7 r2_8 i2_9 i2_10 (fun yr2_0 yr2_1 yi2_2 yr2_3 yi2_4 yi2_5 yb2_6 yr2_7 yr2_8 yi2_9 yi2_10 => kn [.r yr2_0, .r yr2_1, .i yi2_2, .r yr2_3, .i yi2_4, .i yi2_5, .b yb2_6, .r yr2_7, .r yr2_8, .i yi2_9, .i yi2_10])
  | _ => none

def fuel10_0 (r0_0 : List (List V)) (r0_1 : List (List V)) (r0_2 : List (List V)) (i0_3 : Int) (i0_4 : Int) (r0_5 : List (List V)) (r0_6 : List (List V)) : Nat :=
 Int.toNat (i0_3 - i0_4) + 1

def step10_0 {R : Type} (r0_0 : List (List V)) (r0_1 : List (List V)) (r0_2 : List (List V)) (i0_3 : Int) (i0_4 : Int) (r0_5 : List (List V)) (r0_6 : List (List V)) (again : List (List V) → List (List V) → List (List V) → Int → Int → List (List V) → List (List V) → Option R) (kn : List (List V) → List (List V) → List (List V) → Int → Int → List (List V) → List (List V) → Option R) : Option R :=
 bif (decide (i0_4 < i0_3)) then
 bif (inR i0_4 (List.length r0_2)) then
 let w4 : List V := (List.getD r0_2 (Int.toNat i0_4) [])
 let x5 : Int := (V.toInt (List.getD w4 0 V.undef))
 let x6 : Int := (V.toInt (List.getD w4 1 V.undef))
 let x7 : Int := (bif (decide (x5 > (0 : Int))) then x5 else (0 : Int))
 loop10_2 (fuel10_2 r0_0 r0_1 x7 r0_2 i0_3 i0_4 (decide (i0_4 < i0_3)) r0_5 r0_6 x5 x6) r0_0 r0_1 x7 r0_2 i0_3 i0_4 (decide (i0_4 < i0_3)) r0_5 r0_6 x5 x6 (fun r2_z14 r2_z15 i2_z16 r2_z17 i2_z18 i2_z19 b2_z20 r2_z21 r2_z22 i2_z23 i2_z24 =>
 let x25 : Int := (IntKind.wrap .i64 (i2_z19 + (1 : Int)))
 again r2_z14 r2_z15 r2_z17 i2_z18 x25 r2_z21 r2_z22)
 else none
 else
 kn r0_0 r0_1 r0_2 i0_3 i0_4 r0_5 r0_6

def loop10_0 {R : Type} : Nat → List (List V) → List (List V) → List (List V) → Int → Int → List (List V) → List (List V) → (List (List V) → List (List V) → List (List V) → Int → Int → List (List V) → List (List V) → Option R) → Option R
  | 0, _, _, _, _, _, _, _, _ => none
  | n + 1, r0_0, r0_1, r0_2, i0_3, i0_4, r0_5, r0_6, kn => step10_0 r0_0 r0_1 r0_2 i0_3 i0_4 r0_5 r0_6 (fun yr0_0 yr0_1 yr0_2 yi0_3 yi0_4 yr0_5 yr0_6 => loop10_0 n yr0_0 yr0_1 yr0_2 yi0_3 yi0_4 yr0_5 yr0_6 kn) kn

def shape10_0 : ST := ⟨[.data [.int .u8], .data [.int .i64, .int .i64], .undef, .undef, .vs 8, .vs 3, .undef, .undef, .undef, .undef, .undef, .undef, .data [.int .i64, .int .i64], .int .i64, .int .i64, .undef, .undef, .undef, .undef, .undef, .undef, .undef, .undef, .undef, .undef, .undef, .undef, .undef, .undef, .undef, .undef, .undef, .undef, .undef, .undef, .undef, .undef, .undef, .undef], [(3, .vec [.int .u8] false), (8, .vec [.int .u8] false)], 9⟩

def hook10_0 {R : Type} : LoopF R := fun l kn _ _ => match l with
  | [.r r0_0, .r r0_1, .r r0_2, .i i0_3, .i i0_4, .r r0_5, .r r0_6] => loop10_0 (fuel10_0 r0_0 r0_1 r0_2 i0_3 i0_4 r0_5 r0_6) r0_0 r0_1 r0_2 i0_3 i0_4 r0_5 r0_6 (fun yr0_0 yr0_1 yr0_2 yi0_3 yi0_4 yr0_5 yr0_6 => kn [.r yr0_0, .r yr0_1, .r yr0_2, .i yi0_3, .i yi0_4, .r yr0_5, .r yr0_6])
  | _ => none

noncomputable def env10 {R : Type} : Env R := ⟨Try.prog, callNil, fun id => bif Nat.beq id 2 then loopHook shape10_2 hook10_2 else (fun id => bif Nat.beq id 0 then loopHook shape10_0 hook10_0 else (fun _ _ _ _ _ => none) id) id, Try.f10.results.toList, [true, true, false, false, true, true, false, true, true, false, false, false, true, true, true, true, false, false, false, false, false, false, false, false, false, false, false, true, false, false, false, false, false, false, false, false, false, false, false]⟩

theorem step10_2_eq {R : Type} (sr2_0 : List (List V)) (sr2_1 : List (List V)) (si2_2 : Int) (sr2_3 : List (List V)) (si2_4 : Int) (si2_5 : Int) (sb2_6 : Bool) (sr2_7 : List (List V)) (sr2_8 : List (List V)) (si2_9 : Int) (si2_10 : Int) (kn : St → Option R) (kx : Nat → St → Option R) (kr : V → Option R) (n : Nat) (r2_0 : List (List V)) (r2_1 : List (List V)) (i2_2 : Int) (r2_3 : List (List V)) (i2_4 : Int) (i2_5 : Int) (b2_6 : Bool) (r2_7 : List (List V)) (r2_8 : List (List V)) (i2_9 : Int) (i2_10 : Int) :
    loopN env10 2 (loopAt Try.f10 1) (shape10_2.put [.r sr2_0, .r sr2_1, .i si2_2, .r sr2_3, .i si2_4, .i si2_5, .b sb2_6, .r sr2_7, .r sr2_8, .i si2_9, .i si2_10]) kn kx kr (n + 1) (shape10_2.put [.r r2_0, .r r2_1, .i i2_2, .r r2_3, .i i2_4, .i i2_5, .b b2_6, .r r2_7, .r r2_8, .i i2_9, .i i2_10]) =
    step10_2 r2_0 r2_1 i2_2 r2_3 i2_4 i2_5 b2_6 r2_7 r2_8 i2_9 i2_10 (fun yr2_0 yr2_1 yi2_2 yr2_3 yi2_4 yi2_5 yb2_6 yr2_7 yr2_8 yi2_9 yi2_10 => loopN env10 2 (loopAt Try.f10 1) (shape10_2.put [.r sr2_0, .r sr2_1, .i si2_2, .r sr2_3, .i si2_4, .i si2_5, .b sb2_6, .r sr2_7, .r sr2_8, .i si2_9, .i si2_10]) kn kx kr n (shape10_2.put [.r yr2_0, .r yr2_1, .i yi2_2, .r yr2_3, .i yi2_4, .i yi2_5, .b yb2_6, .r yr2_7, .r yr2_8, .i yi2_9, .i yi2_10])) (fun yr2_0 yr2_1 yi2_2 yr2_3 yi2_4 yi2_5 yb2_6 yr2_7 yr2_8 yi2_9 yi2_10 => kn (shape10_2.put [.r yr2_0, .r yr2_1, .i yi2_2, .r yr2_3, .i yi2_4, .i yi2_5, .b yb2_6, .r yr2_7, .r yr2_8, .i yi2_9, .i yi2_10])) := by kernel_rfl

theorem loop10_2_eq {R : Type} (sr2_0 : List (List V)) (sr2_1 : List (List V)) (si2_2 : Int) (sr2_3 : List (List V)) (si2_4 : Int) (si2_5 : Int) (sb2_6 : Bool) (sr2_7 : List (List V)) (sr2_8 : List (List V)) (si2_9 : Int) (si2_10 : Int) (kn : St → Option R) (kx : Nat → St → Option R) (kr : V → Option R) : ∀ (n : Nat) (r2_0 : List (List V)) (r2_1 : List (List V)) (i2_2 : Int) (r2_3 : List (List V)) (i2_4 : Int) (i2_5 : Int) (b2_6 : Bool) (r2_7 : List (List V)) (r2_8 : List (List V)) (i2_9 : Int) (i2_10 : Int),
    loop10_2 n r2_0 r2_1 i2_2 r2_3 i2_4 i2_5 b2_6 r2_7 r2_8 i2_9 i2_10 (fun yr2_0 yr2_1 yi2_2 yr2_3 yi2_4 yi2_5 yb2_6 yr2_7 yr2_8 yi2_9 yi2_10 => kn (shape10_2.put [.r yr2_0, .r yr2_1, .i yi2_2, .r yr2_3, .i yi2_4, .i yi2_5, .b yb2_6, .r yr2_7, .r yr2_8, .i yi2_9, .i yi2_10])) = loopN env10 2 (loopAt Try.f10 1) (shape10_2.put [.r sr2_0, .r sr2_1, .i si2_2, .r sr2_3, .i si2_4, .i si2_5, .b sb2_6, .r sr2_7, .r sr2_8, .i si2_9, .i si2_10]) kn kx kr n (shape10_2.put [.r r2_0, .r r2_1, .i i2_2, .r r2_3, .i i2_4, .i i2_5, .b b2_6, .r r2_7, .r r2_8, .i i2_9, .i i2_10])
  | 0, _, _, _, _, _, _, _, _, _, _, _ => rfl
  | n + 1, r2_0, r2_1, i2_2, r2_3, i2_4, i2_5, b2_6, r2_7, r2_8, i2_9, i2_10 => by
    rw [step10_2_eq, loop10_2]
    congr 1
    funext yr2_0 yr2_1 yi2_2 yr2_3 yi2_4 yi2_5 yb2_6 yr2_7 yr2_8 yi2_9 yi2_10
    exact loop10_2_eq sr2_0 sr2_1 si2_2 sr2_3 si2_4 si2_5 sb2_6 sr2_7 sr2_8 si2_9 si2_10 kn kx kr n yr2_0 yr2_1 yi2_2 yr2_3 yi2_4 yi2_5 yb2_6 yr2_7 yr2_8 yi2_9 yi2_10

theorem good10_2 {R : Type} : GoodLoop (R := R) env10 2 (loopAt Try.f10 1) := by
  refine goodHook (τ := shape10_2) (f := hook10_2) (fun _ _ _ _ => rfl) fun l kn kx kr r h => ?_
  unfold hook10_2 at h
  split at h
  · rw [loop10_2_eq] at h; exact ⟨_, h⟩
  · cases h

theorem step10_0_eq {R : Type} (sr0_0 : List (List V)) (sr0_1 : List (List V)) (sr0_2 : List (List V)) (si0_3 : Int) (si0_4 : Int) (sr0_5 : List (List V)) (sr0_6 : List (List V)) (kn : St → Option R) (kx : Nat → St → Option R) (kr : V → Option R) (n : Nat) (r0_0 : List (List V)) (r0_1 : List (List V)) (r0_2 : List (List V)) (i0_3 : Int) (i0_4 : Int) (r0_5 : List (List V)) (r0_6 : List (List V)) :
    loopN env10 0 (loopAt Try.f10 0) (shape10_0.put [.r sr0_0, .r sr0_1, .r sr0_2, .i si0_3, .i si0_4, .r sr0_5, .r sr0_6]) kn kx kr (n + 1) (shape10_0.put [.r r0_0, .r r0_1, .r r0_2, .i i0_3, .i i0_4, .r r0_5, .r r0_6]) =
    step10_0 r0_0 r0_1 r0_2 i0_3 i0_4 r0_5 r0_6 (fun yr0_0 yr0_1 yr0_2 yi0_3 yi0_4 yr0_5 yr0_6 => loopN env10 0 (loopAt Try.f10 0) (shape10_0.put [.r sr0_0, .r sr0_1, .r sr0_2, .i si0_3, .i si0_4, .r sr0_5, .r sr0_6]) kn kx kr n (shape10_0.put [.r yr0_0, .r yr0_1, .r yr0_2, .i yi0_3, .i yi0_4, .r yr0_5, .r yr0_6])) (fun yr0_0 yr0_1 yr0_2 yi0_3 yi0_4 yr0_5 yr0_6 => kn (shape10_0.put [.r yr0_0, .r yr0_1, .r yr0_2, .i yi0_3, .i yi0_4, .r yr0_5, .r yr0_6])) := by kernel_rfl

theorem loop10_0_eq {R : Type} (sr0_0 : List (List V)) (sr0_1 : List (List V)) (sr0_2 : List (List V)) (si0_3 : Int) (si0_4 : Int) (sr0_5 : List (List V)) (sr0_6 : List (List V)) (kn : St → Option R) (kx : Nat → St → Option R) (kr : V → Option R) : ∀ (n : Nat) (r0_0 : List (List V)) (r0_1 : List (List V)) (r0_2 : List (List V)) (i0_3 : Int) (i0_4 : Int) (r0_5 : List (List V)) (r0_6 : List (List V)),
    loop10_0 n r0_0 r0_1 r0_2 i0_3 i0_4 r0_5 r0_6 (fun yr0_0 yr0_1 yr0_2 yi0_3 yi0_4 yr0_5 yr0_6 => kn (shape10_0.put [.r yr0_0, .r yr0_1, .r yr0_2, .i yi0_3, .i yi0_4, .r yr0_5, .r yr0_6])) = loopN env10 0 (loopAt Try.f10 0) (shape10_0.put [.r sr0_0, .r sr0_1, .r sr0_2, .i si0_3, .i si0_4, .r sr0_5, .r sr0_6]) kn kx kr n (shape10_0.put [.r r0_0, .r r0_1, .r r0_2, .i i0_3, .i i0_4, .r r0_5, .r r0_6])
  | 0, _, _, _, _, _, _, _ => rfl
  | n + 1, r0_0, r0_1, r0_2, i0_3, i0_4, r0_5, r0_6 => by
    rw [step10_0_eq, loop10_0]
    congr 1
    funext yr0_0 yr0_1 yr0_2 yi0_3 yi0_4 yr0_5 yr0_6
    exact loop10_0_eq sr0_0 sr0_1 sr0_2 si0_3 si0_4 sr0_5 sr0_6 kn kx kr n yr0_0 yr0_1 yr0_2 yi0_3 yi0_4 yr0_5 yr0_6

theorem good10_0 {R : Type} : GoodLoop (R := R) env10 0 (loopAt Try.f10 0) := by
  refine goodHook (τ := shape10_0) (f := hook10_0) (fun _ _ _ _ => rfl) fun l kn kx kr r h => ?_
  unfold hook10_0 at h
  split at h
  · rw [loop10_0_eq] at h; exact ⟨_, h⟩
  · cases h

def spec10 {R : Type} (p0 : List (List V)) (p1 : List (List V)) (k : V → Option R) : Option R :=
 let x1 : Int := (((List.length p0) : Nat) : Int)
 bif (((((decide ((0 : Int) ≤ x1)) && (decide (x1 ≤ x1))) && (decide ((x1 * (1 : Int)) ≤ (140737488355328 : Int)))) && (decide (x1 ≤ (140737488355328 : Int)))) && true) then
 let r2 : List (List V) := (List.replicate (Int.toNat x1) [(V.int .u8 (0 : Int))])
 let x3 : Int := (((List.length p1) : Nat) : Int)
 loop10_0 (fuel10_0 p0 p1 p1 x3 (0 : Int) r2 []) p0 p1 p1 x3 (0 : Int) r2 [] (fun r0_z26 r0_z27 r0_z28 i0_z29 i0_z30 r0_z31 r0_z32 =>
 k (V.data [.int .u8] r0_z31))
 else none

theorem spec10_eq {R : Type} (p0 : List (List V)) (p1 : List (List V)) (k : V → Option R) : fnK env10 Try.f10 [(V.data [.int .u8] p0), (V.data [.int .i64, .int .i64] p1)] k = spec10 p0 p1 k := by kernel_rfl

theorem ok10 (p0 : List (List V)) (p1 : List (List V)) {v : V} (h : Real [(V.data [.int .u8] p0), (V.data [.int .i64, .int .i64] p1)] → spec10 p0 p1 some = some v) : FunOK Try.prog 10 [(V.data [.int .u8] p0), (V.data [.int .i64, .int .i64] p1)] v :=
  fn_ok (fn := Try.f10) (c := bodyOf Try.f10) (E := env10) ⟨by kernel_rfl, goodNil, rfl⟩ rfl (by kernel_rfl) (by kernel_rfl) (by kernel_rfl)
  (loopsOK_of _ (by
    have e : loopsOf (bodyOf Try.f10) = [(0, loopAt Try.f10 0), (2, loopAt Try.f10 1)] := by kernel_rfl
    rw [e]
    simp only [List.forall_mem_cons, List.not_mem_nil, false_implies, implies_true, and_true]
    exact ⟨good10_0, good10_2⟩))
  (fun hr => (spec10_eq p0 p1 some).trans (h hr))

/-! wavelet/index.Keep -/

def fuel9_0 (r0_0 : List (List V)) (r0_1 : List (List V)) (r0_2 : List (List V)) (i0_3 : Int) (i0_4 : Int) (r0_5 : List (List V)) (r0_6 : List (List V)) : Nat :=
 Int.toNat (i0_3 - i0_4) + 1

def step9_0 {R : Type} (r0_0 : List (List V)) (r0_1 : List (List V)) (r0_2 : List (List V)) (i0_3 : Int) (i0_4 : Int) (r0_5 : List (List V)) (r0_6 : List (List V)) (again : List (List V) → List (List V) → List (List V) → Int → Int → List (List V) → List (List V) → Option R) (kn : List (List V) → List (List V) → List (List V) → Int → Int → List (List V) → List (List V) → Option R) : Option R :=
 bif (decide (i0_4 < i0_3)) then
 bif (inR i0_4 (List.length r0_2)) then
 let w4 : List V := (List.getD r0_2 (Int.toNat i0_4) [])
 let x5 : Int := (V.toInt (List.getD w4 0 V.undef))
 let x6 : Int := (V.toInt (List.getD w4 1 V.undef))
 let x7 : Int := (bif (decide ((0 : Int) > x5)) then (0 : Int) else x5)
 let x8 : Int := (((List.length r0_0) : Nat) : Int)
 let x9 : Int := (bif (decide (x8 < x6)) then x8 else x6)
 bif (decide (x7 < x9)) then
 bif ((((decide ((0 : Int) ≤ x7)) && (decide (x7 ≤ x9))) && (decide (x9 ≤ (((List.length r0_5) : Nat) : Int)))) && true) then
 bif (((decide ((0 : Int) ≤ x7)) && (decide (x7 ≤ x9))) && (decide (x9 ≤ (((List.length r0_0) : Nat) : Int)))) then
 let r10 : List (List V) := (List.drop (Int.toNat x7) (List.take (Int.toNat x9) r0_0))
 let x11 : Int := ((min (List.length r10) ((Int.toNat x9) - (Int.toNat x7)) : Nat) : Int)
 let r12 : List (List V) := (putRows r0_5 (Int.toNat x7) (List.take ((Int.toNat x9) - (Int.toNat x7)) r10))
 let x13 : Int := (IntKind.wrap .i64 (i0_4 + (1 : Int)))
 again r0_0 r0_1 r0_2 i0_3 x13 r12 r0_6
 else none
 else none
 else
 let x14 : Int := (IntKind.wrap .i64 (i0_4 + (1 : Int)))
 again r0_0 r0_1 r0_2 i0_3 x14 r0_5 r0_6
 else none
 else
 kn r0_0 r0_1 r0_2 i0_3 i0_4 r0_5 r0_6

def loop9_0 {R : Type} : Nat → List (List V) → List (List V) → List (List V) → Int → Int → List (List V) → List (List V) → (List (List V) → List (List V) → List (List V) → Int → Int → List (List V) → List (List V) → Option R) → Option R
  | 0, _, _, _, _, _, _, _, _ => none
  | n + 1, r0_0, r0_1, r0_2, i0_3, i0_4, r0_5, r0_6, kn => step9_0 r0_0 r0_1 r0_2 i0_3 i0_4 r0_5 r0_6 (fun yr0_0 yr0_1 yr0_2 yi0_3 yi0_4 yr0_5 yr0_6 => loop9_0 n yr0_0 yr0_1 yr0_2 yi0_3 yi0_4 yr0_5 yr0_6 kn) kn

def shape9_0 : ST := ⟨[.data [.int .u8], .data [.int .i64, .int .i64], .undef, .undef, .vs 8, .vs 3, .undef, .undef, .undef, .undef, .undef, .undef, .undef, .data [.int .i64, .int .i64], .int .i64, .int .i64, .undef, .undef, .undef, .undef, .undef, .undef, .undef, .undef, .undef, .undef, .undef, .undef, .undef, .undef, .undef, .undef, .undef, .undef, .undef, .undef, .undef, .undef, .undef, .undef, .undef], [(3, .vec [.int .u8] false), (8, .vec [.int .u8] false)], 9⟩

def hook9_0 {R : Type} : LoopF R := fun l kn _ _ => match l with
  | [.r r0_0, .r r0_1, .r r0_2, .i i0_3, .i i0_4, .r r0_5, .r r0_6] => loop9_0 (fuel9_0 r0_0 r0_1 r0_2 i0_3 i0_4 r0_5 r0_6) r0_0 r0_1 r0_2 i0_3 i0_4 r0_5 r0_6 (fun yr0_0 yr0_1 yr0_2 yi0_3 yi0_4 yr0_5 yr0_6 => kn [.r yr0_0, .r yr0_1, .r yr0_2, .i yi0_3, .i yi0_4, .r yr0_5, .r yr0_6])
  | _ => none

noncomputable def env9 {R : Type} : Env R := ⟨Try.prog, callNil, fun id => bif Nat.beq id 0 then loopHook shape9_0 hook9_0 else (fun _ _ _ _ _ => none) id, Try.f9.results.toList, [true, true, false, false, true, true, false, true, true, true, false, false, false, true, true, true, true, false, false, false, false, false, false, false, false, false, false, false, false, true, false, false, false, false, false, false, false, false, false, false, false]⟩

theorem step9_0_eq {R : Type} (sr0_0 : List (List V)) (sr0_1 : List (List V)) (sr0_2 : List (List V)) (si0_3 : Int) (si0_4 : Int) (sr0_5 : List (List V)) (sr0_6 : List (List V)) (kn : St → Option R) (kx : Nat → St → Option R) (kr : V → Option R) (n : Nat) (r0_0 : List (List V)) (r0_1 : List (List V)) (r0_2 : List (List V)) (i0_3 : Int) (i0_4 : Int) (r0_5 : List (List V)) (r0_6 : List (List V)) :
    loopN env9 0 (loopAt Try.f9 0) (shape9_0.put [.r sr0_0, .r sr0_1, .r sr0_2, .i si0_3, .i si0_4, .r sr0_5, .r sr0_6]) kn kx kr (n + 1) (shape9_0.put [.r r0_0, .r r0_1, .r r0_2, .i i0_3, .i i0_4, .r r0_5, .r r0_6]) =
    step9_0 r0_0 r0_1 r0_2 i0_3 i0_4 r0_5 r0_6 (fun yr0_0 yr0_1 yr0_2 yi0_3 yi0_4 yr0_5 yr0_6 => loopN env9 0 (loopAt Try.f9 0) (shape9_0.put [.r sr0_0, .r sr0_1, .r sr0_2, .i si0_3, .i si0_4, .r sr0_5, .r sr0_6]) kn kx kr n (shape9_0.put [.r yr0_0, .r yr0_1, .r yr0_2, .i yi0_3, .i yi0_4, .r yr0_5, .r yr0_6])) (fun yr0_0 yr0_1 yr0_2 yi0_3 yi0_4 yr0_5 yr0_6 => kn (shape9_0.put [.r yr0_0, .r yr0_1, .r yr0_2, .i yi0_3, .i yi0_4, .r yr0_5, .r yr0_6])) := by kernel_rfl

theorem loop9_0_eq {R : Type} (sr0_0 : List (List V)) (sr0_1 : List (List V)) (sr0_2 : List (List V)) (si0_3 : Int) (si0_4 : Int) (sr0_5 : List (List V)) (sr0_6 : List (List V)) (kn : St → Option R) (kx : Nat → St → Option R) (kr : V → Option R) : ∀ (n : Nat) (r0_0 : List (List V)) (r0_1 : List (List V)) (r0_2 : List (List V)) (i0_3 : Int) (i0_4 : Int) (r0_5 : List (List V)) (r0_6 : List (List V)),
    loop9_0 n r0_0 r0_1 r0_2 i0_3 i0_4 r0_5 r0_6 (fun yr0_0 yr0_1 yr0_2 yi0_3 yi0_4 yr0_5 yr0_6 => kn (shape9_0.put [.r yr0_0, .r yr0_1, .r yr0_2, .i yi0_3, .i yi0_4, .r yr0_5, .r yr0_6])) = loopN env9 0 (loopAt Try.f9 0) (shape9_0.put [.r sr0_0, .r sr0_1, .r sr0_2, .i si0_3, .i si0_4, .r sr0_5, .r sr0_6]) kn kx kr n (shape9_0.put [.r r0_0, .r r0_1, .r r0_2, .i i0_3, .i i0_4, .r r0_5, .r r0_6])
  | 0, _, _, _, _, _, _, _ => rfl
  | n + 1, r0_0, r0_1, r0_2, i0_3, i0_4, r0_5, r0_6 => by
    rw [step9_0_eq, loop9_0]
    congr 1
    funext yr0_0 yr0_1 yr0_2 yi0_3 yi0_4 yr0_5 yr0_6
    exact loop9_0_eq sr0_0 sr0_1 sr0_2 si0_3 si0_4 sr0_5 sr0_6 kn kx kr n yr0_0 yr0_1 yr0_2 yi0_3 yi0_4 yr0_5 yr0_6

theorem good9_0 {R : Type} : GoodLoop (R := R) env9 0 (loopAt Try.f9 0) := by
  refine goodHook (τ := shape9_0) (f := hook9_0) (fun _ _ _ _ => rfl) fun l kn kx kr r h => ?_
  unfold hook9_0 at h
  split at h
  · rw [loop9_0_eq] at h; exact ⟨_, h⟩
  · cases h

def spec9 {R : Type} (p0 : List (List V)) (p1 : List (List V)) (k : V → Option R) : Option R :=
 let x1 : Int := (((List.length p0) : Nat) : Int)
 bif (((((decide ((0 : Int) ≤ x1)) && (decide (x1 ≤ x1))) && (decide ((x1 * (1 : Int)) ≤ (140737488355328 : Int)))) && (decide (x1 ≤ (140737488355328 : Int)))) && true) then
 let r2 : List (List V) := (List.replicate (Int.toNat x1) [(V.int .u8 (0 : Int))])
 let x3 : Int := (((List.length p1) : Nat) : Int)
 loop9_0 (fuel9_0 p0 p1 p1 x3 (0 : Int) r2 []) p0 p1 p1 x3 (0 : Int) r2 [] (fun r0_z15 r0_z16 r0_z17 i0_z18 i0_z19 r0_z20 r0_z21 =>
 k (V.data [.int .u8] r0_z20))
 else none

theorem spec9_eq {R : Type} (p0 : List (List V)) (p1 : List (List V)) (k : V → Option R) : fnK env9 Try.f9 [(V.data [.int .u8] p0), (V.data [.int .i64, .int .i64] p1)] k = spec9 p0 p1 k := by kernel_rfl

theorem ok9 (p0 : List (List V)) (p1 : List (List V)) {v : V} (h : Real [(V.data [.int .u8] p0), (V.data [.int .i64, .int .i64] p1)] → spec9 p0 p1 some = some v) : FunOK Try.prog 9 [(V.data [.int .u8] p0), (V.data [.int .i64, .int .i64] p1)] v :=
  fn_ok (fn := Try.f9) (c := bodyOf Try.f9) (E := env9) ⟨by kernel_rfl, goodNil, rfl⟩ rfl (by kernel_rfl) (by kernel_rfl) (by kernel_rfl)
  (loopsOK_of _ (by
    have e : loopsOf (bodyOf Try.f9) = [(0, loopAt Try.f9 0)] := by kernel_rfl
    rw [e]
    simp only [List.forall_mem_cons, List.not_mem_nil, false_implies, implies_true, and_true]
    exact good9_0))
  (fun hr => (spec9_eq p0 p1 some).trans (h hr))

end Go.Vm
