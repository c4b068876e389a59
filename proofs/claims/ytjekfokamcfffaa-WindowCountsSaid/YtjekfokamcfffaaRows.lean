/-
  No cell of these rows narrows 'for every input' (looked for: loops, veiled, ifaces, maps, wideKeys, modest, calm, conditions, laid).
  DERIVED. THE GIVEN ROWS OF THIS SEAT. 4 by the template 'for every input the law returns true; each argument reads behind the call as it read before'; 0 by the template 'total and deterministic' (their statements: YtjekfokamcfffaaTotals.lean).
  GIVEN WITH THE SEED: the statements are not yours to turn. If you find one false, say at which input.
  Laid BY PROGRAM, IN A SANDBOX (cutbox-rows.mjs): the forced cells as the released guide's own fill.sh prints them over the translation e03b95080111f273… (all of the seat's roots in one cut). By AI agents, Wed Nov 11 2026. No macro, syntax, notation, axiom, sorry.
-/
import Derived.Test.YtjekfokamcfffaaChecked
import GoSem.Claim
import GoSem.ClaimJoined
import GoSem.ClaimMapViews
import Derived.JoinedTies
import Derived.KernelRfl
namespace Go.Proofs.Ytjekfokamcfffaa
/- THE CELL 'sum', in the pinned program and in every row, IS THE sha256 OF THE DUMP (.gsa) THAT YtjekfokamcfffaaProg.lean LOADS. Nothing in Lean hashes anything: it is a label: what it is worth is what the hold of that sum in a sandbox is worth. -/
noncomputable def Try.pinned : Pinned := { name := "ytjekfokamcfffaa", sum := "e03b95080111f273717ffc954cae44c638bada6c721df10bcd9689c2e55c61ef", checked := Try.checked }
namespace Rows
def none {H : Type} : Left H := { results := [], args := [] }

/-- 'waveletlaw38.IndexKeeps': WHATEVER THE INPUT: true; the input reads as it did. -/
def indexKeepsSpec : ChangeSpec := { name := "indexKeeps", fn := fun _ => fun
  | [d1, d2] => { results := [.lit (.bool true)], args := [d1, d2] }
  | _ => none }
def indexKeepsRow : OpenClaim := { program := "ytjekfokamcfffaa", sum := "e03b95080111f273717ffc954cae44c638bada6c721df10bcd9689c2e55c61ef", func := "wavelet/waveletlaw38.IndexKeeps", spec := "indexKeeps", plainKeys := false, apart := false }
def IndexKeepsSaid : Prop := indexKeepsRow.holds Try.pinned (OpenSpec.ofChange indexKeepsSpec)

/-- ITS FALSE NEIGHBOUR: 'it returns false'. Refute it at one input. -/
def indexKeepsWrong : ChangeSpec := { name := "indexKeeps", fn := fun _ => fun
  | [d1, d2] => { results := [.lit (.bool false)], args := [d1, d2] }
  | _ => none }
def IndexKeepsWrongFalsely : Prop := indexKeepsRow.holds Try.pinned (OpenSpec.ofChange indexKeepsWrong)

/-- 'waveletlaw39.WindowNeeds': WHATEVER THE INPUT: true; the input reads as it did. -/
def windowNeedsSpec : ChangeSpec := { name := "windowNeeds", fn := fun _ => fun
  | [d1, d2] => { results := [.lit (.bool true)], args := [d1, d2] }
  | _ => none }
def windowNeedsRow : OpenClaim := { program := "ytjekfokamcfffaa", sum := "e03b95080111f273717ffc954cae44c638bada6c721df10bcd9689c2e55c61ef", func := "wavelet/waveletlaw39.WindowNeeds", spec := "windowNeeds", unfollowed := true, recurses := true, plainKeys := false, apart := false }
def WindowNeedsSaid : Prop := windowNeedsRow.holds Try.pinned (OpenSpec.ofChange windowNeedsSpec)

/-- ITS FALSE NEIGHBOUR: 'it returns false'. Refute it at one input. -/
def windowNeedsWrong : ChangeSpec := { name := "windowNeeds", fn := fun _ => fun
  | [d1, d2] => { results := [.lit (.bool false)], args := [d1, d2] }
  | _ => none }
def WindowNeedsWrongFalsely : Prop := windowNeedsRow.holds Try.pinned (OpenSpec.ofChange windowNeedsWrong)

/-- 'waveletlaw39.WindowTiles': WHATEVER THE INPUT: true; the input reads as it did. -/
def windowTilesSpec : ChangeSpec := { name := "windowTiles", fn := fun _ => fun
  | [d1, d2] => { results := [.lit (.bool true)], args := [d1, d2] }
  | _ => none }
def windowTilesRow : OpenClaim := { program := "ytjekfokamcfffaa", sum := "e03b95080111f273717ffc954cae44c638bada6c721df10bcd9689c2e55c61ef", func := "wavelet/waveletlaw39.WindowTiles", spec := "windowTiles", unfollowed := true, recurses := true, plainKeys := false, apart := false }
def WindowTilesSaid : Prop := windowTilesRow.holds Try.pinned (OpenSpec.ofChange windowTilesSpec)

/-- ITS FALSE NEIGHBOUR: 'it returns false'. Refute it at one input. -/
def windowTilesWrong : ChangeSpec := { name := "windowTiles", fn := fun _ => fun
  | [d1, d2] => { results := [.lit (.bool false)], args := [d1, d2] }
  | _ => none }
def WindowTilesWrongFalsely : Prop := windowTilesRow.holds Try.pinned (OpenSpec.ofChange windowTilesWrong)

/-- 'waveletlaw39.WindowCounts': WHATEVER THE INPUT: true; the input reads as it did. -/
def windowCountsSpec : ChangeSpec := { name := "windowCounts", fn := fun _ => fun
  | [d1, d2] => { results := [.lit (.bool true)], args := [d1, d2] }
  | _ => none }
def windowCountsRow : OpenClaim := { program := "ytjekfokamcfffaa", sum := "e03b95080111f273717ffc954cae44c638bada6c721df10bcd9689c2e55c61ef", func := "wavelet/waveletlaw39.WindowCounts", spec := "windowCounts", unfollowed := true, recurses := true, plainKeys := false, apart := false }
def WindowCountsSaid : Prop := windowCountsRow.holds Try.pinned (OpenSpec.ofChange windowCountsSpec)

/-- ITS FALSE NEIGHBOUR: 'it returns false'. Refute it at one input. -/
def windowCountsWrong : ChangeSpec := { name := "windowCounts", fn := fun _ => fun
  | [d1, d2] => { results := [.lit (.bool false)], args := [d1, d2] }
  | _ => none }
def WindowCountsWrongFalsely : Prop := windowCountsRow.holds Try.pinned (OpenSpec.ofChange windowCountsWrong)

/- THE SECOND FORM. 'bulk': how many values and letters a reading holds, each counted each time it is reached (what is shared counts as often as it is met; a slice's spare places count too). A statement '..UptoSaid' is the law's where the arguments, and the package variables that the reading takes, are together of bulk at most 1048576: NARROWER than '..Said'. Prove '..Said' where nothing that the law and all that it calls make is longer than what came in: it says more and counts as full. Else prove '..UptoSaid'. A law counts once. -/
mutual
def uptoBulk {H : Type} : DataW H → Nat
  | .lit (.string bytes) => bytes.length + 1
  | .lit _ => 1
  | .nil => 1
  | .ptr d => uptoBulk d + 1
  | .slice elems spare => uptoBulkAll elems + uptoBulkAll spare + 1
  | .agg parts => uptoBulkAll parts + 1
  | .iface _ d => uptoBulk d + 1
  | .map entries => uptoBulkEntries entries + 1
  | .held _ => 1
def uptoBulkAll {H : Type} : List (DataW H) → Nat
  | [] => 0
  | d :: r => uptoBulk d + uptoBulkAll r
def uptoBulkEntries {H : Type} : List (Lit × DataW H) → Nat
  | [] => 0
  | x :: r => uptoBulkEntry x + uptoBulkEntries r
def uptoBulkEntry {H : Type} : Lit × DataW H → Nat
  | (.string bytes, d) => bytes.length + uptoBulk d + 1
  | (_, d) => uptoBulk d + 1
 end
def uptoSmall : (H : Type) → List (DataW H) → Bool := fun _ ds => decide (uptoBulkAll ds ≤ 1048576)
def OpenSpec.upto (s : _root_.Go.ChangeSpec) : _root_.Go.OpenSpec := { _root_.Go.OpenSpec.ofChange s with cond := some uptoSmall }

/-- 'waveletlaw38.IndexKeeps', WHERE WHAT IT READS IS OF BULK AT MOST 1048576: true; the input reads as it did. -/
def indexKeepsUptoRow : OpenClaim := { program := "ytjekfokamcfffaa", sum := "e03b95080111f273717ffc954cae44c638bada6c721df10bcd9689c2e55c61ef", func := "wavelet/waveletlaw38.IndexKeeps", spec := "indexKeeps", plainKeys := false, apart := false, narrowed := true }
def IndexKeepsUptoSaid : Prop := indexKeepsUptoRow.holds Try.pinned (OpenSpec.upto indexKeepsSpec)

/-- 'waveletlaw39.WindowNeeds', WHERE WHAT IT READS IS OF BULK AT MOST 1048576: true; the input reads as it did. -/
def windowNeedsUptoRow : OpenClaim := { program := "ytjekfokamcfffaa", sum := "e03b95080111f273717ffc954cae44c638bada6c721df10bcd9689c2e55c61ef", func := "wavelet/waveletlaw39.WindowNeeds", spec := "windowNeeds", unfollowed := true, recurses := true, plainKeys := false, apart := false, narrowed := true }
def WindowNeedsUptoSaid : Prop := windowNeedsUptoRow.holds Try.pinned (OpenSpec.upto windowNeedsSpec)

/-- 'waveletlaw39.WindowTiles', WHERE WHAT IT READS IS OF BULK AT MOST 1048576: true; the input reads as it did. -/
def windowTilesUptoRow : OpenClaim := { program := "ytjekfokamcfffaa", sum := "e03b95080111f273717ffc954cae44c638bada6c721df10bcd9689c2e55c61ef", func := "wavelet/waveletlaw39.WindowTiles", spec := "windowTiles", unfollowed := true, recurses := true, plainKeys := false, apart := false, narrowed := true }
def WindowTilesUptoSaid : Prop := windowTilesUptoRow.holds Try.pinned (OpenSpec.upto windowTilesSpec)

/-- 'waveletlaw39.WindowCounts', WHERE WHAT IT READS IS OF BULK AT MOST 1048576: true; the input reads as it did. -/
def windowCountsUptoRow : OpenClaim := { program := "ytjekfokamcfffaa", sum := "e03b95080111f273717ffc954cae44c638bada6c721df10bcd9689c2e55c61ef", func := "wavelet/waveletlaw39.WindowCounts", spec := "windowCounts", unfollowed := true, recurses := true, plainKeys := false, apart := false, narrowed := true }
def WindowCountsUptoSaid : Prop := windowCountsUptoRow.holds Try.pinned (OpenSpec.upto windowCountsSpec)

end Rows
end Go.Proofs.Ytjekfokamcfffaa
