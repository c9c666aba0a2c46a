/-
  No cell of these rows narrows 'for every input' (looked for: loops, veiled, ifaces, maps, wideKeys, modest, calm, conditions, laid).
  DERIVED. THE GIVEN ROWS OF THIS SEAT. 6 by the template 'for every input the law returns true; each argument reads behind the call as it read before'; 0 by the template 'total and deterministic' (their statements: YtaglpampidlbmaaTotals.lean).
  GIVEN WITH THE SEED: the statements are not yours to turn. If you find one false, say at which input.
  Laid BY PROGRAM, IN A SANDBOX (cutbox-rows.mjs): the forced cells as the released guide's own fill.sh prints them over the translation a12e3a91c9d24622… (all of the seat's roots in one cut). By AI agents, Wed Nov 11 2026. No macro, syntax, notation, axiom, sorry.
-/
import Derived.Test.YtaglpampidlbmaaChecked
import GoSem.Claim
import GoSem.ClaimJoined
import GoSem.ClaimMapViews
import Derived.JoinedTies
import Derived.KernelRfl
namespace Go.Proofs.Ytaglpampidlbmaa
/- THE CELL 'sum', in the pinned program and in every row, IS THE sha256 OF THE DUMP (.gsa) THAT YtaglpampidlbmaaProg.lean LOADS. Nothing in Lean hashes anything: it is a label: what it is worth is what the hold of that sum in a sandbox is worth. -/
noncomputable def Try.pinned : Pinned := { name := "ytaglpampidlbmaa", sum := "a12e3a91c9d24622b220a7be76ab43cfa56740fb0409cc7ec4d86ab45f5c5029", checked := Try.checked }
namespace Rows
def none {H : Type} : Left H := { results := [], args := [] }

/-- 'tracebooklaw17.BoundExact': WHATEVER THE INPUT: true; the input reads as it did. -/
def boundExactSpec : ChangeSpec := { name := "boundExact", fn := fun _ => fun
  | [d1, d2, d3] => { results := [.lit (.bool true)], args := [d1, d2, d3] }
  | _ => none }
def boundExactRow : OpenClaim := { program := "ytaglpampidlbmaa", sum := "a12e3a91c9d24622b220a7be76ab43cfa56740fb0409cc7ec4d86ab45f5c5029", func := "tracebook/tracebooklaw17.BoundExact", spec := "boundExact", unfollowed := true, recurses := true, named := ["math/bits.divideError", "math/bits.overflowError"], plainKeys := false, apart := false }
def BoundExactSaid : Prop := boundExactRow.holds Try.pinned (OpenSpec.ofChange boundExactSpec)

/-- ITS FALSE NEIGHBOUR: 'it returns false'. Refute it at one input. -/
def boundExactWrong : ChangeSpec := { name := "boundExact", fn := fun _ => fun
  | [d1, d2, d3] => { results := [.lit (.bool false)], args := [d1, d2, d3] }
  | _ => none }
def BoundExactWrongFalsely : Prop := boundExactRow.holds Try.pinned (OpenSpec.ofChange boundExactWrong)

/-- 'tracebooklaw17.BoundMany': WHATEVER THE INPUT: true; the input reads as it did. -/
def boundManySpec : ChangeSpec := { name := "boundMany", fn := fun _ => fun
  | [d1, d2, d3] => { results := [.lit (.bool true)], args := [d1, d2, d3] }
  | _ => none }
def boundManyRow : OpenClaim := { program := "ytaglpampidlbmaa", sum := "a12e3a91c9d24622b220a7be76ab43cfa56740fb0409cc7ec4d86ab45f5c5029", func := "tracebook/tracebooklaw17.BoundMany", spec := "boundMany", unfollowed := true, recurses := true, named := ["math/bits.divideError", "math/bits.overflowError"], plainKeys := false, apart := false }
def BoundManySaid : Prop := boundManyRow.holds Try.pinned (OpenSpec.ofChange boundManySpec)

/-- ITS FALSE NEIGHBOUR: 'it returns false'. Refute it at one input. -/
def boundManyWrong : ChangeSpec := { name := "boundMany", fn := fun _ => fun
  | [d1, d2, d3] => { results := [.lit (.bool false)], args := [d1, d2, d3] }
  | _ => none }
def BoundManyWrongFalsely : Prop := boundManyRow.holds Try.pinned (OpenSpec.ofChange boundManyWrong)

/-- 'tracebooklaw17.BoundReached': WHATEVER THE INPUT: true; the input reads as it did. -/
def boundReachedSpec : ChangeSpec := { name := "boundReached", fn := fun _ => fun
  | [d1, d2, d3] => { results := [.lit (.bool true)], args := [d1, d2, d3] }
  | _ => none }
def boundReachedRow : OpenClaim := { program := "ytaglpampidlbmaa", sum := "a12e3a91c9d24622b220a7be76ab43cfa56740fb0409cc7ec4d86ab45f5c5029", func := "tracebook/tracebooklaw17.BoundReached", spec := "boundReached", unfollowed := true, recurses := true, named := ["math/bits.divideError", "math/bits.overflowError"], plainKeys := false, apart := false }
def BoundReachedSaid : Prop := boundReachedRow.holds Try.pinned (OpenSpec.ofChange boundReachedSpec)

/-- ITS FALSE NEIGHBOUR: 'it returns false'. Refute it at one input. -/
def boundReachedWrong : ChangeSpec := { name := "boundReached", fn := fun _ => fun
  | [d1, d2, d3] => { results := [.lit (.bool false)], args := [d1, d2, d3] }
  | _ => none }
def BoundReachedWrongFalsely : Prop := boundReachedRow.holds Try.pinned (OpenSpec.ofChange boundReachedWrong)

/-- 'tracebooklaw17.BoundNarrows': WHATEVER THE INPUT: true; the input reads as it did. -/
def boundNarrowsSpec : ChangeSpec := { name := "boundNarrows", fn := fun _ => fun
  | [d1, d2, d3] => { results := [.lit (.bool true)], args := [d1, d2, d3] }
  | _ => none }
def boundNarrowsRow : OpenClaim := { program := "ytaglpampidlbmaa", sum := "a12e3a91c9d24622b220a7be76ab43cfa56740fb0409cc7ec4d86ab45f5c5029", func := "tracebook/tracebooklaw17.BoundNarrows", spec := "boundNarrows", unfollowed := true, recurses := true, named := ["math/bits.divideError", "math/bits.overflowError"], plainKeys := false, apart := false }
def BoundNarrowsSaid : Prop := boundNarrowsRow.holds Try.pinned (OpenSpec.ofChange boundNarrowsSpec)

/-- ITS FALSE NEIGHBOUR: 'it returns false'. Refute it at one input. -/
def boundNarrowsWrong : ChangeSpec := { name := "boundNarrows", fn := fun _ => fun
  | [d1, d2, d3] => { results := [.lit (.bool false)], args := [d1, d2, d3] }
  | _ => none }
def BoundNarrowsWrongFalsely : Prop := boundNarrowsRow.holds Try.pinned (OpenSpec.ofChange boundNarrowsWrong)

/-- 'tracebooklaw17.BoundSound': WHATEVER THE INPUT: true; the input reads as it did. -/
def boundSoundSpec : ChangeSpec := { name := "boundSound", fn := fun _ => fun
  | [d1, d2, d3] => { results := [.lit (.bool true)], args := [d1, d2, d3] }
  | _ => none }
def boundSoundRow : OpenClaim := { program := "ytaglpampidlbmaa", sum := "a12e3a91c9d24622b220a7be76ab43cfa56740fb0409cc7ec4d86ab45f5c5029", func := "tracebook/tracebooklaw17.BoundSound", spec := "boundSound", unfollowed := true, recurses := true, named := ["math/bits.divideError", "math/bits.overflowError"], plainKeys := false, apart := false }
def BoundSoundSaid : Prop := boundSoundRow.holds Try.pinned (OpenSpec.ofChange boundSoundSpec)

/-- ITS FALSE NEIGHBOUR: 'it returns false'. Refute it at one input. -/
def boundSoundWrong : ChangeSpec := { name := "boundSound", fn := fun _ => fun
  | [d1, d2, d3] => { results := [.lit (.bool false)], args := [d1, d2, d3] }
  | _ => none }
def BoundSoundWrongFalsely : Prop := boundSoundRow.holds Try.pinned (OpenSpec.ofChange boundSoundWrong)

/-- 'tracebooklaw17.BoundSteps': WHATEVER THE INPUT: true; the input reads as it did. -/
def boundStepsSpec : ChangeSpec := { name := "boundSteps", fn := fun _ => fun
  | [d1, d2, d3] => { results := [.lit (.bool true)], args := [d1, d2, d3] }
  | _ => none }
def boundStepsRow : OpenClaim := { program := "ytaglpampidlbmaa", sum := "a12e3a91c9d24622b220a7be76ab43cfa56740fb0409cc7ec4d86ab45f5c5029", func := "tracebook/tracebooklaw17.BoundSteps", spec := "boundSteps", unfollowed := true, recurses := true, named := ["math/bits.divideError", "math/bits.overflowError"], plainKeys := false, apart := false }
def BoundStepsSaid : Prop := boundStepsRow.holds Try.pinned (OpenSpec.ofChange boundStepsSpec)

/-- ITS FALSE NEIGHBOUR: 'it returns false'. Refute it at one input. -/
def boundStepsWrong : ChangeSpec := { name := "boundSteps", fn := fun _ => fun
  | [d1, d2, d3] => { results := [.lit (.bool false)], args := [d1, d2, d3] }
  | _ => none }
def BoundStepsWrongFalsely : Prop := boundStepsRow.holds Try.pinned (OpenSpec.ofChange boundStepsWrong)

/- THE SECOND FORM. 'bulk': how many values and letters a reading holds, each counted each time it is reached (what is shared counts as often as it is met; a slice's spare places count too). A statement '..UptoSaid' is the law's where the arguments, and the package variables that the reading takes, are together of bulk at most 1048576: NARROWER than '..Said'. Prove '..Said' where nothing that the law and all that it calls make is longer than what came in: it says more and counts as full. Else prove '..UptoSaid'. A law counts once. -/
mutual
def uptoBulk {H : Type} : DataW H → Nat
  | .lit (.string bytes) => bytes.length + 1
  | .lit _ => 1
  | .nil => 1
  | .ptr d => uptoBulk d + 1
  | .slice elems spare => uptoBulkAll elems + uptoBulkAll spare + 1
  | .agg parts => uptoBulkAll parts + 1
  | .iface _ d => uptoBulk d + 1
  | .map entries => uptoBulkEntries entries + 1
  | .held _ => 1
def uptoBulkAll {H : Type} : List (DataW H) → Nat
  | [] => 0
  | d :: r => uptoBulk d + uptoBulkAll r
def uptoBulkEntries {H : Type} : List (Lit × DataW H) → Nat
  | [] => 0
  | x :: r => uptoBulkEntry x + uptoBulkEntries r
def uptoBulkEntry {H : Type} : Lit × DataW H → Nat
  | (.string bytes, d) => bytes.length + uptoBulk d + 1
  | (_, d) => uptoBulk d + 1
 end
def uptoSmall : (H : Type) → List (DataW H) → Bool := fun _ ds => decide (uptoBulkAll ds ≤ 1048576)
def OpenSpec.upto (s : _root_.Go.ChangeSpec) : _root_.Go.OpenSpec := { _root_.Go.OpenSpec.ofChange s with cond := some uptoSmall }

/-- 'tracebooklaw17.BoundExact', WHERE WHAT IT READS IS OF BULK AT MOST 1048576: true; the input reads as it did. -/
def boundExactUptoRow : OpenClaim := { program := "ytaglpampidlbmaa", sum := "a12e3a91c9d24622b220a7be76ab43cfa56740fb0409cc7ec4d86ab45f5c5029", func := "tracebook/tracebooklaw17.BoundExact", spec := "boundExact", unfollowed := true, recurses := true, named := ["math/bits.divideError", "math/bits.overflowError"], plainKeys := false, apart := false, narrowed := true }
def BoundExactUptoSaid : Prop := boundExactUptoRow.holds Try.pinned (OpenSpec.upto boundExactSpec)

/-- 'tracebooklaw17.BoundMany', WHERE WHAT IT READS IS OF BULK AT MOST 1048576: true; the input reads as it did. -/
def boundManyUptoRow : OpenClaim := { program := "ytaglpampidlbmaa", sum := "a12e3a91c9d24622b220a7be76ab43cfa56740fb0409cc7ec4d86ab45f5c5029", func := "tracebook/tracebooklaw17.BoundMany", spec := "boundMany", unfollowed := true, recurses := true, named := ["math/bits.divideError", "math/bits.overflowError"], plainKeys := false, apart := false, narrowed := true }
def BoundManyUptoSaid : Prop := boundManyUptoRow.holds Try.pinned (OpenSpec.upto boundManySpec)

/-- 'tracebooklaw17.BoundReached', WHERE WHAT IT READS IS OF BULK AT MOST 1048576: true; the input reads as it did. -/
def boundReachedUptoRow : OpenClaim := { program := "ytaglpampidlbmaa", sum := "a12e3a91c9d24622b220a7be76ab43cfa56740fb0409cc7ec4d86ab45f5c5029", func := "tracebook/tracebooklaw17.BoundReached", spec := "boundReached", unfollowed := true, recurses := true, named := ["math/bits.divideError", "math/bits.overflowError"], plainKeys := false, apart := false, narrowed := true }
def BoundReachedUptoSaid : Prop := boundReachedUptoRow.holds Try.pinned (OpenSpec.upto boundReachedSpec)

/-- 'tracebooklaw17.BoundNarrows', WHERE WHAT IT READS IS OF BULK AT MOST 1048576: true; the input reads as it did. -/
def boundNarrowsUptoRow : OpenClaim := { program := "ytaglpampidlbmaa", sum := "a12e3a91c9d24622b220a7be76ab43cfa56740fb0409cc7ec4d86ab45f5c5029", func := "tracebook/tracebooklaw17.BoundNarrows", spec := "boundNarrows", unfollowed := true, recurses := true, named := ["math/bits.divideError", "math/bits.overflowError"], plainKeys := false, apart := false, narrowed := true }
def BoundNarrowsUptoSaid : Prop := boundNarrowsUptoRow.holds Try.pinned (OpenSpec.upto boundNarrowsSpec)

/-- 'tracebooklaw17.BoundSound', WHERE WHAT IT READS IS OF BULK AT MOST 1048576: true; the input reads as it did. -/
def boundSoundUptoRow : OpenClaim := { program := "ytaglpampidlbmaa", sum := "a12e3a91c9d24622b220a7be76ab43cfa56740fb0409cc7ec4d86ab45f5c5029", func := "tracebook/tracebooklaw17.BoundSound", spec := "boundSound", unfollowed := true, recurses := true, named := ["math/bits.divideError", "math/bits.overflowError"], plainKeys := false, apart := false, narrowed := true }
def BoundSoundUptoSaid : Prop := boundSoundUptoRow.holds Try.pinned (OpenSpec.upto boundSoundSpec)

/-- 'tracebooklaw17.BoundSteps', WHERE WHAT IT READS IS OF BULK AT MOST 1048576: true; the input reads as it did. -/
def boundStepsUptoRow : OpenClaim := { program := "ytaglpampidlbmaa", sum := "a12e3a91c9d24622b220a7be76ab43cfa56740fb0409cc7ec4d86ab45f5c5029", func := "tracebook/tracebooklaw17.BoundSteps", spec := "boundSteps", unfollowed := true, recurses := true, named := ["math/bits.divideError", "math/bits.overflowError"], plainKeys := false, apart := false, narrowed := true }
def BoundStepsUptoSaid : Prop := boundStepsUptoRow.holds Try.pinned (OpenSpec.upto boundStepsSpec)

end Rows
end Go.Proofs.Ytaglpampidlbmaa
