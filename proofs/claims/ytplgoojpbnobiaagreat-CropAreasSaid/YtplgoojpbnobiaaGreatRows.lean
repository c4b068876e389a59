/-
  No cell of these rows narrows 'for every input' (looked for: loops, veiled, ifaces, maps, wideKeys, modest, calm, conditions, laid).
  DERIVED. THE GIVEN ROWS OF THIS SEAT. 2 by the template 'for every input the law returns true; each argument reads behind the call as it read before'; 0 by the template 'total and deterministic' (their statements: YtplgoojpbnobiaaGreatTotals.lean).
  GIVEN WITH THE SEED: the statements are not yours to turn. If you find one false, say at which input.
  Laid BY PROGRAM, IN A SANDBOX (cutbox-rows.mjs): the forced cells as the released guide's own fill.sh prints them over the translation 864705225e30a2e3… (all of the seat's roots in one cut). By AI agents, Wed Nov 11 2026. No macro, syntax, notation, axiom, sorry.
-/
import Derived.Test.YtplgoojpbnobiaaGreatChecked
import GoSem.Claim
import GoSem.ClaimJoined
import GoSem.ClaimMapViews
import Derived.JoinedTies
import Derived.KernelRfl
namespace Go.Proofs.YtplgoojpbnobiaaGreat
/- THE CELL 'sum', in the pinned program and in every row, IS THE sha256 OF THE DUMP (.gsa) THAT YtplgoojpbnobiaaGreatProg.lean LOADS. Nothing in Lean hashes anything: it is a label: what it is worth is what the hold of that sum in a sandbox is worth. -/
noncomputable def Tryz.pinned : Pinned := { name := "ytplgoojpbnobiaagreat", sum := "864705225e30a2e3542031aaa0e737f4d9f16b67a71769c587ca863b5f33be25", checked := Tryz.checked }
namespace Rows
def none {H : Type} : Left H := { results := [], args := [] }

/-- 'waveletlaw43.TrimHeaders': WHATEVER THE INPUT: true; the input reads as it did. -/
def trimHeadersSpec : ChangeSpec := { name := "trimHeaders", fn := fun _ => fun
  | [d1, d2] => { results := [.lit (.bool true)], args := [d1, d2] }
  | _ => none }
def trimHeadersRow : OpenClaim := { program := "ytplgoojpbnobiaagreat", sum := "864705225e30a2e3542031aaa0e737f4d9f16b67a71769c587ca863b5f33be25", func := "wavelet/waveletlaw43.TrimHeaders", spec := "trimHeaders", unfollowed := true, recurses := true, plainKeys := false, apart := false }
def TrimHeadersSaid : Prop := trimHeadersRow.holds Tryz.pinned (OpenSpec.ofChange trimHeadersSpec)

/-- ITS FALSE NEIGHBOUR: 'it returns false'. Refute it at one input. -/
def trimHeadersWrong : ChangeSpec := { name := "trimHeaders", fn := fun _ => fun
  | [d1, d2] => { results := [.lit (.bool false)], args := [d1, d2] }
  | _ => none }
def TrimHeadersWrongFalsely : Prop := trimHeadersRow.holds Tryz.pinned (OpenSpec.ofChange trimHeadersWrong)

/-- 'waveletlaw44.CropAreas': WHATEVER THE INPUT: true; the input reads as it did. -/
def cropAreasSpec : ChangeSpec := { name := "cropAreas", fn := fun _ => fun
  | [d1, d2] => { results := [.lit (.bool true)], args := [d1, d2] }
  | _ => none }
def cropAreasRow : OpenClaim := { program := "ytplgoojpbnobiaagreat", sum := "864705225e30a2e3542031aaa0e737f4d9f16b67a71769c587ca863b5f33be25", func := "wavelet/waveletlaw44.CropAreas", spec := "cropAreas", unfollowed := true, recurses := true, plainKeys := false, apart := false }
def CropAreasSaid : Prop := cropAreasRow.holds Tryz.pinned (OpenSpec.ofChange cropAreasSpec)

/-- ITS FALSE NEIGHBOUR: 'it returns false'. Refute it at one input. -/
def cropAreasWrong : ChangeSpec := { name := "cropAreas", fn := fun _ => fun
  | [d1, d2] => { results := [.lit (.bool false)], args := [d1, d2] }
  | _ => none }
def CropAreasWrongFalsely : Prop := cropAreasRow.holds Tryz.pinned (OpenSpec.ofChange cropAreasWrong)

/- THE SECOND FORM. 'bulk': how many values and letters a reading holds, each counted each time it is reached (what is shared counts as often as it is met; a slice's spare places count too). A statement '..UptoSaid' is the law's where the arguments, and the package variables that the reading takes, are together of bulk at most 1048576: NARROWER than '..Said'. Prove '..Said' where nothing that the law and all that it calls make is longer than what came in: it says more and counts as full. Else prove '..UptoSaid'. A law counts once. -/
mutual
def uptoBulk {H : Type} : DataW H → Nat
  | .lit (.string bytes) => bytes.length + 1
  | .lit _ => 1
  | .nil => 1
  | .ptr d => uptoBulk d + 1
  | .slice elems spare => uptoBulkAll elems + uptoBulkAll spare + 1
  | .agg parts => uptoBulkAll parts + 1
  | .iface _ d => uptoBulk d + 1
  | .map entries => uptoBulkEntries entries + 1
  | .held _ => 1
def uptoBulkAll {H : Type} : List (DataW H) → Nat
  | [] => 0
  | d :: r => uptoBulk d + uptoBulkAll r
def uptoBulkEntries {H : Type} : List (Lit × DataW H) → Nat
  | [] => 0
  | x :: r => uptoBulkEntry x + uptoBulkEntries r
def uptoBulkEntry {H : Type} : Lit × DataW H → Nat
  | (.string bytes, d) => bytes.length + uptoBulk d + 1
  | (_, d) => uptoBulk d + 1
 end
def uptoSmall : (H : Type) → List (DataW H) → Bool := fun _ ds => decide (uptoBulkAll ds ≤ 1048576)
def OpenSpec.upto (s : _root_.Go.ChangeSpec) : _root_.Go.OpenSpec := { _root_.Go.OpenSpec.ofChange s with cond := some uptoSmall }

/-- 'waveletlaw43.TrimHeaders', WHERE WHAT IT READS IS OF BULK AT MOST 1048576: true; the input reads as it did. -/
def trimHeadersUptoRow : OpenClaim := { program := "ytplgoojpbnobiaagreat", sum := "864705225e30a2e3542031aaa0e737f4d9f16b67a71769c587ca863b5f33be25", func := "wavelet/waveletlaw43.TrimHeaders", spec := "trimHeaders", unfollowed := true, recurses := true, plainKeys := false, apart := false, narrowed := true }
def TrimHeadersUptoSaid : Prop := trimHeadersUptoRow.holds Tryz.pinned (OpenSpec.upto trimHeadersSpec)

/-- 'waveletlaw44.CropAreas', WHERE WHAT IT READS IS OF BULK AT MOST 1048576: true; the input reads as it did. -/
def cropAreasUptoRow : OpenClaim := { program := "ytplgoojpbnobiaagreat", sum := "864705225e30a2e3542031aaa0e737f4d9f16b67a71769c587ca863b5f33be25", func := "wavelet/waveletlaw44.CropAreas", spec := "cropAreas", unfollowed := true, recurses := true, plainKeys := false, apart := false, narrowed := true }
def CropAreasUptoSaid : Prop := cropAreasUptoRow.holds Tryz.pinned (OpenSpec.upto cropAreasSpec)

end Rows
end Go.Proofs.YtplgoojpbnobiaaGreat
