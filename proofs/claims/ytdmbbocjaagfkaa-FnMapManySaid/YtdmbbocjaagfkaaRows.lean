/-
  No cell of these rows narrows 'for every input' (looked for: loops, veiled, ifaces, maps, wideKeys, modest, calm, conditions, laid).
  DERIVED. THE GIVEN ROWS OF THIS SEAT. 8 by the template 'for every input the law returns true; each argument reads behind the call as it read before'; 0 by the template 'total and deterministic' (their statements: YtdmbbocjaagfkaaTotals.lean).
  GIVEN WITH THE SEED: the statements are not yours to turn. If you find one false, say at which input.
  Laid BY PROGRAM, IN A SANDBOX (cutbox-rows.mjs): the forced cells as the released guide's own fill.sh prints them over the translation b746b5e5c50cbcb4… (all of the seat's roots in one cut). By AI agents, Wed Nov 11 2026. No macro, syntax, notation, axiom, sorry.
-/
import Derived.Test.YtdmbbocjaagfkaaChecked
import GoSem.Claim
import GoSem.ClaimJoined
import GoSem.ClaimMapViews
import Derived.JoinedTies
import Derived.KernelRfl
namespace Go.Proofs.Ytdmbbocjaagfkaa
/- THE CELL 'sum', in the pinned program and in every row, IS THE sha256 OF THE DUMP (.gsa) THAT YtdmbbocjaagfkaaProg.lean LOADS. Nothing in Lean hashes anything: it is a label: what it is worth is what the hold of that sum in a sandbox is worth. -/
noncomputable def Try.pinned : Pinned := { name := "ytdmbbocjaagfkaa", sum := "b746b5e5c50cbcb4870dc9f9003e6a388bf9828b3673106281a2cfb2a2ebab48", checked := Try.checked }
namespace Rows
def none {H : Type} : Left H := { results := [], args := [] }

/-- 'laws.FnExactMapOk': WHATEVER THE INPUT: true; the input reads as it did. -/
def fnExactMapOkSpec : ChangeSpec := { name := "fnExactMapOk", fn := fun _ => fun
  | [d] => { results := [.lit (.bool true)], args := [d] }
  | _ => none }
def fnExactMapOkRow : OpenClaim := { program := "ytdmbbocjaagfkaa", sum := "b746b5e5c50cbcb4870dc9f9003e6a388bf9828b3673106281a2cfb2a2ebab48", func := "loop.example/ostiary/laws.FnExactMapOk", spec := "fnExactMapOk", apart := false }
def FnExactMapOkSaid : Prop := fnExactMapOkRow.holds Try.pinned (OpenSpec.ofChange fnExactMapOkSpec)

/-- ITS FALSE NEIGHBOUR: 'it returns false'. Refute it at one input. -/
def fnExactMapOkWrong : ChangeSpec := { name := "fnExactMapOk", fn := fun _ => fun
  | [d] => { results := [.lit (.bool false)], args := [d] }
  | _ => none }
def FnExactMapOkWrongFalsely : Prop := fnExactMapOkRow.holds Try.pinned (OpenSpec.ofChange fnExactMapOkWrong)

/-- 'laws.FnMapLess': WHATEVER THE INPUT: true; the input reads as it did. -/
def fnMapLessSpec : ChangeSpec := { name := "fnMapLess", fn := fun _ => fun
  | [d1, d2] => { results := [.lit (.bool true)], args := [d1, d2] }
  | _ => none }
def fnMapLessRow : OpenClaim := { program := "ytdmbbocjaagfkaa", sum := "b746b5e5c50cbcb4870dc9f9003e6a388bf9828b3673106281a2cfb2a2ebab48", func := "loop.example/ostiary/laws.FnMapLess", spec := "fnMapLess", apart := false }
def FnMapLessSaid : Prop := fnMapLessRow.holds Try.pinned (OpenSpec.ofChange fnMapLessSpec)

/-- ITS FALSE NEIGHBOUR: 'it returns false'. Refute it at one input. -/
def fnMapLessWrong : ChangeSpec := { name := "fnMapLess", fn := fun _ => fun
  | [d1, d2] => { results := [.lit (.bool false)], args := [d1, d2] }
  | _ => none }
def FnMapLessWrongFalsely : Prop := fnMapLessRow.holds Try.pinned (OpenSpec.ofChange fnMapLessWrong)

/-- 'laws.FnExactMapIn': WHATEVER THE INPUT: true; the input reads as it did. -/
def fnExactMapInSpec : ChangeSpec := { name := "fnExactMapIn", fn := fun _ => fun
  | [d1, d2] => { results := [.lit (.bool true)], args := [d1, d2] }
  | _ => none }
def fnExactMapInRow : OpenClaim := { program := "ytdmbbocjaagfkaa", sum := "b746b5e5c50cbcb4870dc9f9003e6a388bf9828b3673106281a2cfb2a2ebab48", func := "loop.example/ostiary/laws.FnExactMapIn", spec := "fnExactMapIn", apart := false }
def FnExactMapInSaid : Prop := fnExactMapInRow.holds Try.pinned (OpenSpec.ofChange fnExactMapInSpec)

/-- ITS FALSE NEIGHBOUR: 'it returns false'. Refute it at one input. -/
def fnExactMapInWrong : ChangeSpec := { name := "fnExactMapIn", fn := fun _ => fun
  | [d1, d2] => { results := [.lit (.bool false)], args := [d1, d2] }
  | _ => none }
def FnExactMapInWrongFalsely : Prop := fnExactMapInRow.holds Try.pinned (OpenSpec.ofChange fnExactMapInWrong)

/-- 'laws.FnMapIn': WHATEVER THE INPUT: true; the input reads as it did. -/
def fnMapInSpec : ChangeSpec := { name := "fnMapIn", fn := fun _ => fun
  | [d] => { results := [.lit (.bool true)], args := [d] }
  | _ => none }
def fnMapInRow : OpenClaim := { program := "ytdmbbocjaagfkaa", sum := "b746b5e5c50cbcb4870dc9f9003e6a388bf9828b3673106281a2cfb2a2ebab48", func := "loop.example/ostiary/laws.FnMapIn", spec := "fnMapIn", apart := false }
def FnMapInSaid : Prop := fnMapInRow.holds Try.pinned (OpenSpec.ofChange fnMapInSpec)

/-- ITS FALSE NEIGHBOUR: 'it returns false'. Refute it at one input. -/
def fnMapInWrong : ChangeSpec := { name := "fnMapIn", fn := fun _ => fun
  | [d] => { results := [.lit (.bool false)], args := [d] }
  | _ => none }
def FnMapInWrongFalsely : Prop := fnMapInRow.holds Try.pinned (OpenSpec.ofChange fnMapInWrong)

/-- 'laws.FnMapMany': WHATEVER THE INPUT: true; the input reads as it did. -/
def fnMapManySpec : ChangeSpec := { name := "fnMapMany", fn := fun _ => fun
  | [d1, d2] => { results := [.lit (.bool true)], args := [d1, d2] }
  | _ => none }
def fnMapManyRow : OpenClaim := { program := "ytdmbbocjaagfkaa", sum := "b746b5e5c50cbcb4870dc9f9003e6a388bf9828b3673106281a2cfb2a2ebab48", func := "loop.example/ostiary/laws.FnMapMany", spec := "fnMapMany", apart := false }
def FnMapManySaid : Prop := fnMapManyRow.holds Try.pinned (OpenSpec.ofChange fnMapManySpec)

/-- ITS FALSE NEIGHBOUR: 'it returns false'. Refute it at one input. -/
def fnMapManyWrong : ChangeSpec := { name := "fnMapMany", fn := fun _ => fun
  | [d1, d2] => { results := [.lit (.bool false)], args := [d1, d2] }
  | _ => none }
def FnMapManyWrongFalsely : Prop := fnMapManyRow.holds Try.pinned (OpenSpec.ofChange fnMapManyWrong)

/-- 'laws.FnMapFull': WHATEVER THE INPUT: true; the input reads as it did. -/
def fnMapFullSpec : ChangeSpec := { name := "fnMapFull", fn := fun _ => fun
  | [d] => { results := [.lit (.bool true)], args := [d] }
  | _ => none }
def fnMapFullRow : OpenClaim := { program := "ytdmbbocjaagfkaa", sum := "b746b5e5c50cbcb4870dc9f9003e6a388bf9828b3673106281a2cfb2a2ebab48", func := "loop.example/ostiary/laws.FnMapFull", spec := "fnMapFull", apart := false }
def FnMapFullSaid : Prop := fnMapFullRow.holds Try.pinned (OpenSpec.ofChange fnMapFullSpec)

/-- ITS FALSE NEIGHBOUR: 'it returns false'. Refute it at one input. -/
def fnMapFullWrong : ChangeSpec := { name := "fnMapFull", fn := fun _ => fun
  | [d] => { results := [.lit (.bool false)], args := [d] }
  | _ => none }
def FnMapFullWrongFalsely : Prop := fnMapFullRow.holds Try.pinned (OpenSpec.ofChange fnMapFullWrong)

/-- 'laws.FnMapOnce': WHATEVER THE INPUT: true; the input reads as it did. -/
def fnMapOnceSpec : ChangeSpec := { name := "fnMapOnce", fn := fun _ => fun
  | [d] => { results := [.lit (.bool true)], args := [d] }
  | _ => none }
def fnMapOnceRow : OpenClaim := { program := "ytdmbbocjaagfkaa", sum := "b746b5e5c50cbcb4870dc9f9003e6a388bf9828b3673106281a2cfb2a2ebab48", func := "loop.example/ostiary/laws.FnMapOnce", spec := "fnMapOnce", apart := false }
def FnMapOnceSaid : Prop := fnMapOnceRow.holds Try.pinned (OpenSpec.ofChange fnMapOnceSpec)

/-- ITS FALSE NEIGHBOUR: 'it returns false'. Refute it at one input. -/
def fnMapOnceWrong : ChangeSpec := { name := "fnMapOnce", fn := fun _ => fun
  | [d] => { results := [.lit (.bool false)], args := [d] }
  | _ => none }
def FnMapOnceWrongFalsely : Prop := fnMapOnceRow.holds Try.pinned (OpenSpec.ofChange fnMapOnceWrong)

/-- 'laws.FnExactMapOut': WHATEVER THE INPUT: true; the input reads as it did. -/
def fnExactMapOutSpec : ChangeSpec := { name := "fnExactMapOut", fn := fun _ => fun
  | [d1, d2] => { results := [.lit (.bool true)], args := [d1, d2] }
  | _ => none }
def fnExactMapOutRow : OpenClaim := { program := "ytdmbbocjaagfkaa", sum := "b746b5e5c50cbcb4870dc9f9003e6a388bf9828b3673106281a2cfb2a2ebab48", func := "loop.example/ostiary/laws.FnExactMapOut", spec := "fnExactMapOut", apart := false }
def FnExactMapOutSaid : Prop := fnExactMapOutRow.holds Try.pinned (OpenSpec.ofChange fnExactMapOutSpec)

/-- ITS FALSE NEIGHBOUR: 'it returns false'. Refute it at one input. -/
def fnExactMapOutWrong : ChangeSpec := { name := "fnExactMapOut", fn := fun _ => fun
  | [d1, d2] => { results := [.lit (.bool false)], args := [d1, d2] }
  | _ => none }
def FnExactMapOutWrongFalsely : Prop := fnExactMapOutRow.holds Try.pinned (OpenSpec.ofChange fnExactMapOutWrong)

/- THE SECOND FORM. 'bulk': how many values and letters a reading holds, each counted each time it is reached (what is shared counts as often as it is met; a slice's spare places count too). A statement '..UptoSaid' is the law's where the arguments, and the package variables that the reading takes, are together of bulk at most 1048576: NARROWER than '..Said'. Prove '..Said' where nothing that the law and all that it calls make is longer than what came in: it says more and counts as full. Else prove '..UptoSaid'. A law counts once. -/
mutual
def uptoBulk {H : Type} : DataW H → Nat
  | .lit (.string bytes) => bytes.length + 1
  | .lit _ => 1
  | .nil => 1
  | .ptr d => uptoBulk d + 1
  | .slice elems spare => uptoBulkAll elems + uptoBulkAll spare + 1
  | .agg parts => uptoBulkAll parts + 1
  | .iface _ d => uptoBulk d + 1
  | .map entries => uptoBulkEntries entries + 1
  | .held _ => 1
def uptoBulkAll {H : Type} : List (DataW H) → Nat
  | [] => 0
  | d :: r => uptoBulk d + uptoBulkAll r
def uptoBulkEntries {H : Type} : List (Lit × DataW H) → Nat
  | [] => 0
  | x :: r => uptoBulkEntry x + uptoBulkEntries r
def uptoBulkEntry {H : Type} : Lit × DataW H → Nat
  | (.string bytes, d) => bytes.length + uptoBulk d + 1
  | (_, d) => uptoBulk d + 1
 end
def uptoSmall : (H : Type) → List (DataW H) → Bool := fun _ ds => decide (uptoBulkAll ds ≤ 1048576)
def OpenSpec.upto (s : _root_.Go.ChangeSpec) : _root_.Go.OpenSpec := { _root_.Go.OpenSpec.ofChange s with cond := some uptoSmall }

/-- 'laws.FnExactMapOk', WHERE WHAT IT READS IS OF BULK AT MOST 1048576: true; the input reads as it did. -/
def fnExactMapOkUptoRow : OpenClaim := { program := "ytdmbbocjaagfkaa", sum := "b746b5e5c50cbcb4870dc9f9003e6a388bf9828b3673106281a2cfb2a2ebab48", func := "loop.example/ostiary/laws.FnExactMapOk", spec := "fnExactMapOk", apart := false, narrowed := true }
def FnExactMapOkUptoSaid : Prop := fnExactMapOkUptoRow.holds Try.pinned (OpenSpec.upto fnExactMapOkSpec)

/-- 'laws.FnMapLess', WHERE WHAT IT READS IS OF BULK AT MOST 1048576: true; the input reads as it did. -/
def fnMapLessUptoRow : OpenClaim := { program := "ytdmbbocjaagfkaa", sum := "b746b5e5c50cbcb4870dc9f9003e6a388bf9828b3673106281a2cfb2a2ebab48", func := "loop.example/ostiary/laws.FnMapLess", spec := "fnMapLess", apart := false, narrowed := true }
def FnMapLessUptoSaid : Prop := fnMapLessUptoRow.holds Try.pinned (OpenSpec.upto fnMapLessSpec)

/-- 'laws.FnExactMapIn', WHERE WHAT IT READS IS OF BULK AT MOST 1048576: true; the input reads as it did. -/
def fnExactMapInUptoRow : OpenClaim := { program := "ytdmbbocjaagfkaa", sum := "b746b5e5c50cbcb4870dc9f9003e6a388bf9828b3673106281a2cfb2a2ebab48", func := "loop.example/ostiary/laws.FnExactMapIn", spec := "fnExactMapIn", apart := false, narrowed := true }
def FnExactMapInUptoSaid : Prop := fnExactMapInUptoRow.holds Try.pinned (OpenSpec.upto fnExactMapInSpec)

/-- 'laws.FnMapIn', WHERE WHAT IT READS IS OF BULK AT MOST 1048576: true; the input reads as it did. -/
def fnMapInUptoRow : OpenClaim := { program := "ytdmbbocjaagfkaa", sum := "b746b5e5c50cbcb4870dc9f9003e6a388bf9828b3673106281a2cfb2a2ebab48", func := "loop.example/ostiary/laws.FnMapIn", spec := "fnMapIn", apart := false, narrowed := true }
def FnMapInUptoSaid : Prop := fnMapInUptoRow.holds Try.pinned (OpenSpec.upto fnMapInSpec)

/-- 'laws.FnMapMany', WHERE WHAT IT READS IS OF BULK AT MOST 1048576: true; the input reads as it did. -/
def fnMapManyUptoRow : OpenClaim := { program := "ytdmbbocjaagfkaa", sum := "b746b5e5c50cbcb4870dc9f9003e6a388bf9828b3673106281a2cfb2a2ebab48", func := "loop.example/ostiary/laws.FnMapMany", spec := "fnMapMany", apart := false, narrowed := true }
def FnMapManyUptoSaid : Prop := fnMapManyUptoRow.holds Try.pinned (OpenSpec.upto fnMapManySpec)

/-- 'laws.FnMapFull', WHERE WHAT IT READS IS OF BULK AT MOST 1048576: true; the input reads as it did. -/
def fnMapFullUptoRow : OpenClaim := { program := "ytdmbbocjaagfkaa", sum := "b746b5e5c50cbcb4870dc9f9003e6a388bf9828b3673106281a2cfb2a2ebab48", func := "loop.example/ostiary/laws.FnMapFull", spec := "fnMapFull", apart := false, narrowed := true }
def FnMapFullUptoSaid : Prop := fnMapFullUptoRow.holds Try.pinned (OpenSpec.upto fnMapFullSpec)

/-- 'laws.FnMapOnce', WHERE WHAT IT READS IS OF BULK AT MOST 1048576: true; the input reads as it did. -/
def fnMapOnceUptoRow : OpenClaim := { program := "ytdmbbocjaagfkaa", sum := "b746b5e5c50cbcb4870dc9f9003e6a388bf9828b3673106281a2cfb2a2ebab48", func := "loop.example/ostiary/laws.FnMapOnce", spec := "fnMapOnce", apart := false, narrowed := true }
def FnMapOnceUptoSaid : Prop := fnMapOnceUptoRow.holds Try.pinned (OpenSpec.upto fnMapOnceSpec)

/-- 'laws.FnExactMapOut', WHERE WHAT IT READS IS OF BULK AT MOST 1048576: true; the input reads as it did. -/
def fnExactMapOutUptoRow : OpenClaim := { program := "ytdmbbocjaagfkaa", sum := "b746b5e5c50cbcb4870dc9f9003e6a388bf9828b3673106281a2cfb2a2ebab48", func := "loop.example/ostiary/laws.FnExactMapOut", spec := "fnExactMapOut", apart := false, narrowed := true }
def FnExactMapOutUptoSaid : Prop := fnExactMapOutUptoRow.holds Try.pinned (OpenSpec.upto fnExactMapOutSpec)

end Rows
end Go.Proofs.Ytdmbbocjaagfkaa
