import Derived.Test.YtjekfokamcfffaaVmKeepM
set_option linter.unusedVariables false
set_option maxRecDepth 100000
namespace Go.Vm
open Go.Proofs

/-- wavelet/waveletlaw38.awake -/
def pre7 (l : List At) : Bool := match l with
  | [] => true
  | _ => false
def res7 (l : List At) : V := match l with
  | [] => (V.bool true)
  | _ => .undef
abbrev args7 : List T := []
def c7 {R : Type} : CallF R := callHook args7 pre7 res7

/-- wavelet/waveletref27.SameBytes -/
def pre8 (l : List At) : Bool := match l with
  | [.r _, .r _] => true
  | _ => false
def res8 (l : List At) : V := match l with
  | [.r x0, .r x1] => (V.bool (ByteArray.toList (bytesOfRows x0) == ByteArray.toList (bytesOfRows x1)))
  | _ => .undef
abbrev args8 : List T := [.data [.int .u8], .data [.int .u8]]
def c8 {R : Type} : CallF R := callHook args8 pre8 res8

/-- wavelet/index.Keep -/
def pre9 (l : List At) : Bool := match l with
  | [.r x0, .r x1] => (decide (List.length x0 ≤ 5000) && decide (List.length x1 ≤ 40))
  | _ => false
def res9 (l : List At) : V := match l with
  | [.r x0, .r x1] => (V.data [.int .u8] (keepM x0 x1))
  | _ => .undef
abbrev args9 : List T := [.data [.int .u8], .data [.int .i64, .int .i64]]
def c9 {R : Type} : CallF R := callHook args9 pre9 res9

/-- wavelet/waveletref38.Keep -/
def pre10 (l : List At) : Bool := match l with
  | [.r x0, .r x1] => (decide (List.length x0 ≤ 5000) && decide (List.length x1 ≤ 40))
  | _ => false
def res10 (l : List At) : V := match l with
  | [.r x0, .r x1] => (V.data [.int .u8] (keepM x0 x1))
  | _ => .undef
abbrev args10 : List T := [.data [.int .u8], .data [.int .i64, .int .i64]]
def c10 {R : Type} : CallF R := callHook args10 pre10 res10

/-! wavelet/waveletlaw38.awake -/

noncomputable def env7 {R : Type} : Env R := ⟨Try.prog, callCons 8 c8 (callCons 9 c9 callNil), fun _ _ _ _ _ => none, Try.f7.results.toList, [true, false, false, false, false, false, false]⟩

def spec7 {R : Type}  (k : V → Option R) : Option R :=
 bif (decide (List.length [[(V.int .u8 (1 : Int))], [(V.int .u8 (2 : Int))], [(V.int .u8 (3 : Int))], [(V.int .u8 (4 : Int))]] ≤ 5000) && decide (List.length [[(V.int .i64 (1 : Int)), (V.int .i64 (3 : Int))]] ≤ 40)) then
 let r1 : List (List V) := (keepM [[(V.int .u8 (1 : Int))], [(V.int .u8 (2 : Int))], [(V.int .u8 (3 : Int))], [(V.int .u8 (4 : Int))]] [[(V.int .i64 (1 : Int)), (V.int .i64 (3 : Int))]])
 let b2 : Bool := (ByteArray.toList (bytesOfRows r1) == ByteArray.toList (bytesOfRows [[(V.int .u8 (0 : Int))], [(V.int .u8 (2 : Int))], [(V.int .u8 (3 : Int))], [(V.int .u8 (0 : Int))]]))
 k (V.bool b2)
 else none

theorem spec7_eq {R : Type}  (k : V → Option R) : fnK env7 Try.f7 [] k = spec7  k := by kernel_rfl

theorem ok7 (h8 : Good1 (R := V) Try.prog 8 c8) (h9 : Good1 (R := V) Try.prog 9 c9)  {v : V} (h : Real [] → spec7  some = some v) : FunOK Try.prog 7 [] v :=
  fn_ok (fn := Try.f7) (c := bodyOf Try.f7) (E := env7) ⟨by kernel_rfl, (goodCons h8 (goodCons h9 goodNil)), rfl⟩ rfl (by kernel_rfl) (by kernel_rfl) (by kernel_rfl)
  (loopsOK_of _ (by
    have e : loopsOf (bodyOf Try.f7) = [] := by kernel_rfl
    rw [e]
    intro p hp; cases hp))
  (fun hr => (spec7_eq  some).trans (h hr))

/-! wavelet/waveletlaw38.IndexKeeps -/

noncomputable def env3 {R : Type} : Env R := ⟨Try.prog, callCons 7 c7 (callCons 8 c8 (callCons 9 c9 (callCons 10 c10 callNil))), fun _ _ _ _ _ => none, Try.f3.results.toList, [true, true, false, false, true, false, false, false, false, true, true, true, true, false, false, false, false, false, false, false, false, false, true, false]⟩

def spec3 {R : Type} (p0 : List (List V)) (p1 : List (List V)) (k : V → Option R) : Option R :=
 let x1 : Int := (((List.length p0) : Nat) : Int)
 let b2 : Bool := (decide (x1 > (5000 : Int)))
 bif (b2 == false) then
 let x3 : Int := (((List.length p1) : Nat) : Int)
 let b4 : Bool := (decide (x3 > (40 : Int)))
 bif b4 then
 k (V.bool true)
 else
 bif (decide (List.length p0 ≤ 5000) && decide (List.length p1 ≤ 40)) then
 bif (decide (List.length p0 ≤ 5000) && decide (List.length p1 ≤ 40)) then
 let b5 : Bool := (ByteArray.toList (bytesOfRows (keepM p0 p1)) == ByteArray.toList (bytesOfRows (keepM p0 p1)))
 bif (b5 == true) then
 k (V.bool true)
 else
 k (V.bool false)
 else none
 else none
 else
 k (V.bool true)

theorem spec3_eq {R : Type} (p0 : List (List V)) (p1 : List (List V)) (k : V → Option R) : fnK env3 Try.f3 [(V.data [.int .u8] p0), (V.data [.int .i64, .int .i64] p1)] k = spec3 p0 p1 k := by kernel_rfl

theorem ok3 (h7 : Good1 (R := V) Try.prog 7 c7) (h8 : Good1 (R := V) Try.prog 8 c8) (h9 : Good1 (R := V) Try.prog 9 c9) (h10 : Good1 (R := V) Try.prog 10 c10) (p0 : List (List V)) (p1 : List (List V)) {v : V} (h : Real [(V.data [.int .u8] p0), (V.data [.int .i64, .int .i64] p1)] → spec3 p0 p1 some = some v) : FunOK Try.prog 3 [(V.data [.int .u8] p0), (V.data [.int .i64, .int .i64] p1)] v :=
  fn_ok (fn := Try.f3) (c := bodyOf Try.f3) (E := env3) ⟨by kernel_rfl, (goodCons h7 (goodCons h8 (goodCons h9 (goodCons h10 goodNil)))), rfl⟩ rfl (by kernel_rfl) (by kernel_rfl) (by kernel_rfl)
  (loopsOK_of _ (by
    have e : loopsOf (bodyOf Try.f3) = [] := by kernel_rfl
    rw [e]
    intro p hp; cases hp))
  (fun hr => (spec3_eq p0 p1 some).trans (h hr))

end Go.Vm
