/-
  NARROWER THAN 'FOR EVERY INPUT', by the rows' own cells (each row's printed sentence says how): SyntaxExprs: loops · SyntaxSteps: loops · SyntaxQueries: loops · SyntaxCombines: loops · SyntaxSame: loops.
  DERIVED. THE GIVEN ROWS OF THIS SEAT. 6 by the template 'for every input the law returns true; each argument reads behind the call as it read before'; 0 by the template 'total and deterministic' (their statements: YtklccakoblibmaaTotals.lean).
  GIVEN WITH THE SEED: the statements are not yours to turn. If you find one false, say at which input.
  Laid BY PROGRAM, IN A SANDBOX (cutbox-rows.mjs): the forced cells as the released guide's own fill.sh prints them over the translation a13c65afa196fe52… (all of the seat's roots in one cut). By AI agents, Wed Nov 11 2026. No macro, syntax, notation, axiom, sorry.
-/
import Derived.Test.YtklccakoblibmaaChecked
import GoSem.Claim
import GoSem.ClaimJoined
import GoSem.ClaimMapViews
import Derived.JoinedTies
import Derived.KernelRfl
namespace Go.Proofs.Ytklccakoblibmaa
/- THE CELL 'sum', in the pinned program and in every row, IS THE sha256 OF THE DUMP (.gsa) THAT YtklccakoblibmaaProg.lean LOADS. Nothing in Lean hashes anything: it is a label: what it is worth is what the hold of that sum in a sandbox is worth. -/
noncomputable def Try.pinned : Pinned := { name := "ytklccakoblibmaa", sum := "a13c65afa196fe52b34990b2fe2fd2f536b6793ccf39620a1e022efc25e0f318", checked := Try.checked }
namespace Rows
def none {H : Type} : Left H := { results := [], args := [] }

/-- 'tracebooklaw36.SyntaxExprs': WHATEVER THE INPUT: true; the input reads as it did. -/
def syntaxExprsSpec : ChangeSpec := { name := "syntaxExprs", fn := fun _ => fun
  | [d] => { results := [.lit (.bool true)], args := [d] }
  | _ => none }
def syntaxExprsRow : OpenClaim := { program := "ytklccakoblibmaa", sum := "a13c65afa196fe52b34990b2fe2fd2f536b6793ccf39620a1e022efc25e0f318", func := "tracebook/tracebooklaw36.SyntaxExprs", spec := "syntaxExprs", unfollowed := true, recurses := true, loops := true, apart := false }
def SyntaxExprsSaid : Prop := syntaxExprsRow.holds Try.pinned (OpenSpec.ofChange syntaxExprsSpec)

/-- ITS FALSE NEIGHBOUR: 'it returns false'. Refute it at one input. -/
def syntaxExprsWrong : ChangeSpec := { name := "syntaxExprs", fn := fun _ => fun
  | [d] => { results := [.lit (.bool false)], args := [d] }
  | _ => none }
def SyntaxExprsWrongFalsely : Prop := syntaxExprsRow.holds Try.pinned (OpenSpec.ofChange syntaxExprsWrong)

/-- 'tracebooklaw36.SyntaxSteps': WHATEVER THE INPUT: true; the input reads as it did. -/
def syntaxStepsSpec : ChangeSpec := { name := "syntaxSteps", fn := fun _ => fun
  | [d] => { results := [.lit (.bool true)], args := [d] }
  | _ => none }
def syntaxStepsRow : OpenClaim := { program := "ytklccakoblibmaa", sum := "a13c65afa196fe52b34990b2fe2fd2f536b6793ccf39620a1e022efc25e0f318", func := "tracebook/tracebooklaw36.SyntaxSteps", spec := "syntaxSteps", unfollowed := true, recurses := true, loops := true, apart := false }
def SyntaxStepsSaid : Prop := syntaxStepsRow.holds Try.pinned (OpenSpec.ofChange syntaxStepsSpec)

/-- ITS FALSE NEIGHBOUR: 'it returns false'. Refute it at one input. -/
def syntaxStepsWrong : ChangeSpec := { name := "syntaxSteps", fn := fun _ => fun
  | [d] => { results := [.lit (.bool false)], args := [d] }
  | _ => none }
def SyntaxStepsWrongFalsely : Prop := syntaxStepsRow.holds Try.pinned (OpenSpec.ofChange syntaxStepsWrong)

/-- 'tracebooklaw36.SyntaxQueries': WHATEVER THE INPUT: true; the input reads as it did. -/
def syntaxQueriesSpec : ChangeSpec := { name := "syntaxQueries", fn := fun _ => fun
  | [d1, d2] => { results := [.lit (.bool true)], args := [d1, d2] }
  | _ => none }
def syntaxQueriesRow : OpenClaim := { program := "ytklccakoblibmaa", sum := "a13c65afa196fe52b34990b2fe2fd2f536b6793ccf39620a1e022efc25e0f318", func := "tracebook/tracebooklaw36.SyntaxQueries", spec := "syntaxQueries", unfollowed := true, recurses := true, loops := true, apart := false }
def SyntaxQueriesSaid : Prop := syntaxQueriesRow.holds Try.pinned (OpenSpec.ofChange syntaxQueriesSpec)

/-- ITS FALSE NEIGHBOUR: 'it returns false'. Refute it at one input. -/
def syntaxQueriesWrong : ChangeSpec := { name := "syntaxQueries", fn := fun _ => fun
  | [d1, d2] => { results := [.lit (.bool false)], args := [d1, d2] }
  | _ => none }
def SyntaxQueriesWrongFalsely : Prop := syntaxQueriesRow.holds Try.pinned (OpenSpec.ofChange syntaxQueriesWrong)

/-- 'tracebooklaw36.SyntaxCombines': WHATEVER THE INPUT: true; the input reads as it did. -/
def syntaxCombinesSpec : ChangeSpec := { name := "syntaxCombines", fn := fun _ => fun
  | [d1, d2, d3] => { results := [.lit (.bool true)], args := [d1, d2, d3] }
  | _ => none }
def syntaxCombinesRow : OpenClaim := { program := "ytklccakoblibmaa", sum := "a13c65afa196fe52b34990b2fe2fd2f536b6793ccf39620a1e022efc25e0f318", func := "tracebook/tracebooklaw36.SyntaxCombines", spec := "syntaxCombines", unfollowed := true, recurses := true, loops := true, apart := false }
def SyntaxCombinesSaid : Prop := syntaxCombinesRow.holds Try.pinned (OpenSpec.ofChange syntaxCombinesSpec)

/-- ITS FALSE NEIGHBOUR: 'it returns false'. Refute it at one input. -/
def syntaxCombinesWrong : ChangeSpec := { name := "syntaxCombines", fn := fun _ => fun
  | [d1, d2, d3] => { results := [.lit (.bool false)], args := [d1, d2, d3] }
  | _ => none }
def SyntaxCombinesWrongFalsely : Prop := syntaxCombinesRow.holds Try.pinned (OpenSpec.ofChange syntaxCombinesWrong)

/-- 'tracebooklaw36.SyntaxSame': WHATEVER THE INPUT: true; the input reads as it did. -/
def syntaxSameSpec : ChangeSpec := { name := "syntaxSame", fn := fun _ => fun
  | [d1, d2] => { results := [.lit (.bool true)], args := [d1, d2] }
  | _ => none }
def syntaxSameRow : OpenClaim := { program := "ytklccakoblibmaa", sum := "a13c65afa196fe52b34990b2fe2fd2f536b6793ccf39620a1e022efc25e0f318", func := "tracebook/tracebooklaw36.SyntaxSame", spec := "syntaxSame", unfollowed := true, recurses := true, loops := true, apart := false }
def SyntaxSameSaid : Prop := syntaxSameRow.holds Try.pinned (OpenSpec.ofChange syntaxSameSpec)

/-- ITS FALSE NEIGHBOUR: 'it returns false'. Refute it at one input. -/
def syntaxSameWrong : ChangeSpec := { name := "syntaxSame", fn := fun _ => fun
  | [d1, d2] => { results := [.lit (.bool false)], args := [d1, d2] }
  | _ => none }
def SyntaxSameWrongFalsely : Prop := syntaxSameRow.holds Try.pinned (OpenSpec.ofChange syntaxSameWrong)

/-- 'tracebooklaw36.SyntaxNests': WHATEVER THE INPUT: true; the input reads as it did. -/
def syntaxNestsSpec : ChangeSpec := { name := "syntaxNests", fn := fun _ => fun
  | [d] => { results := [.lit (.bool true)], args := [d] }
  | _ => none }
def syntaxNestsRow : OpenClaim := { program := "ytklccakoblibmaa", sum := "a13c65afa196fe52b34990b2fe2fd2f536b6793ccf39620a1e022efc25e0f318", func := "tracebook/tracebooklaw36.SyntaxNests", spec := "syntaxNests", unfollowed := true, recurses := true, apart := false }
def SyntaxNestsSaid : Prop := syntaxNestsRow.holds Try.pinned (OpenSpec.ofChange syntaxNestsSpec)

/-- ITS FALSE NEIGHBOUR: 'it returns false'. Refute it at one input. -/
def syntaxNestsWrong : ChangeSpec := { name := "syntaxNests", fn := fun _ => fun
  | [d] => { results := [.lit (.bool false)], args := [d] }
  | _ => none }
def SyntaxNestsWrongFalsely : Prop := syntaxNestsRow.holds Try.pinned (OpenSpec.ofChange syntaxNestsWrong)

/- THE SECOND FORM. 'bulk': how many values and letters a reading holds, each counted each time it is reached (what is shared counts as often as it is met; a slice's spare places count too). A statement '..UptoSaid' is the law's where the arguments, and the package variables that the reading takes, are together of bulk at most 1048576: NARROWER than '..Said'. Prove '..Said' where nothing that the law and all that it calls make is longer than what came in: it says more and counts as full. Else prove '..UptoSaid'. A law counts once. -/
mutual
def uptoBulk {H : Type} : DataW H → Nat
  | .lit (.string bytes) => bytes.length + 1
  | .lit _ => 1
  | .nil => 1
  | .ptr d => uptoBulk d + 1
  | .slice elems spare => uptoBulkAll elems + uptoBulkAll spare + 1
  | .agg parts => uptoBulkAll parts + 1
  | .iface _ d => uptoBulk d + 1
  | .map entries => uptoBulkEntries entries + 1
  | .held _ => 1
def uptoBulkAll {H : Type} : List (DataW H) → Nat
  | [] => 0
  | d :: r => uptoBulk d + uptoBulkAll r
def uptoBulkEntries {H : Type} : List (Lit × DataW H) → Nat
  | [] => 0
  | x :: r => uptoBulkEntry x + uptoBulkEntries r
def uptoBulkEntry {H : Type} : Lit × DataW H → Nat
  | (.string bytes, d) => bytes.length + uptoBulk d + 1
  | (_, d) => uptoBulk d + 1
 end
def uptoSmall : (H : Type) → List (DataW H) → Bool := fun _ ds => decide (uptoBulkAll ds ≤ 1048576)
def OpenSpec.upto (s : _root_.Go.ChangeSpec) : _root_.Go.OpenSpec := { _root_.Go.OpenSpec.ofChange s with cond := some uptoSmall }

/-- 'tracebooklaw36.SyntaxExprs', WHERE WHAT IT READS IS OF BULK AT MOST 1048576: true; the input reads as it did. -/
def syntaxExprsUptoRow : OpenClaim := { program := "ytklccakoblibmaa", sum := "a13c65afa196fe52b34990b2fe2fd2f536b6793ccf39620a1e022efc25e0f318", func := "tracebook/tracebooklaw36.SyntaxExprs", spec := "syntaxExprs", unfollowed := true, recurses := true, loops := true, apart := false, narrowed := true }
def SyntaxExprsUptoSaid : Prop := syntaxExprsUptoRow.holds Try.pinned (OpenSpec.upto syntaxExprsSpec)

/-- 'tracebooklaw36.SyntaxSteps', WHERE WHAT IT READS IS OF BULK AT MOST 1048576: true; the input reads as it did. -/
def syntaxStepsUptoRow : OpenClaim := { program := "ytklccakoblibmaa", sum := "a13c65afa196fe52b34990b2fe2fd2f536b6793ccf39620a1e022efc25e0f318", func := "tracebook/tracebooklaw36.SyntaxSteps", spec := "syntaxSteps", unfollowed := true, recurses := true, loops := true, apart := false, narrowed := true }
def SyntaxStepsUptoSaid : Prop := syntaxStepsUptoRow.holds Try.pinned (OpenSpec.upto syntaxStepsSpec)

/-- 'tracebooklaw36.SyntaxQueries', WHERE WHAT IT READS IS OF BULK AT MOST 1048576: true; the input reads as it did. -/
def syntaxQueriesUptoRow : OpenClaim := { program := "ytklccakoblibmaa", sum := "a13c65afa196fe52b34990b2fe2fd2f536b6793ccf39620a1e022efc25e0f318", func := "tracebook/tracebooklaw36.SyntaxQueries", spec := "syntaxQueries", unfollowed := true, recurses := true, loops := true, apart := false, narrowed := true }
def SyntaxQueriesUptoSaid : Prop := syntaxQueriesUptoRow.holds Try.pinned (OpenSpec.upto syntaxQueriesSpec)

/-- 'tracebooklaw36.SyntaxCombines', WHERE WHAT IT READS IS OF BULK AT MOST 1048576: true; the input reads as it did. -/
def syntaxCombinesUptoRow : OpenClaim := { program := "ytklccakoblibmaa", sum := "a13c65afa196fe52b34990b2fe2fd2f536b6793ccf39620a1e022efc25e0f318", func := "tracebook/tracebooklaw36.SyntaxCombines", spec := "syntaxCombines", unfollowed := true, recurses := true, loops := true, apart := false, narrowed := true }
def SyntaxCombinesUptoSaid : Prop := syntaxCombinesUptoRow.holds Try.pinned (OpenSpec.upto syntaxCombinesSpec)

/-- 'tracebooklaw36.SyntaxSame', WHERE WHAT IT READS IS OF BULK AT MOST 1048576: true; the input reads as it did. -/
def syntaxSameUptoRow : OpenClaim := { program := "ytklccakoblibmaa", sum := "a13c65afa196fe52b34990b2fe2fd2f536b6793ccf39620a1e022efc25e0f318", func := "tracebook/tracebooklaw36.SyntaxSame", spec := "syntaxSame", unfollowed := true, recurses := true, loops := true, apart := false, narrowed := true }
def SyntaxSameUptoSaid : Prop := syntaxSameUptoRow.holds Try.pinned (OpenSpec.upto syntaxSameSpec)

/-- 'tracebooklaw36.SyntaxNests', WHERE WHAT IT READS IS OF BULK AT MOST 1048576: true; the input reads as it did. -/
def syntaxNestsUptoRow : OpenClaim := { program := "ytklccakoblibmaa", sum := "a13c65afa196fe52b34990b2fe2fd2f536b6793ccf39620a1e022efc25e0f318", func := "tracebook/tracebooklaw36.SyntaxNests", spec := "syntaxNests", unfollowed := true, recurses := true, apart := false, narrowed := true }
def SyntaxNestsUptoSaid : Prop := syntaxNestsUptoRow.holds Try.pinned (OpenSpec.upto syntaxNestsSpec)

end Rows
end Go.Proofs.Ytklccakoblibmaa
