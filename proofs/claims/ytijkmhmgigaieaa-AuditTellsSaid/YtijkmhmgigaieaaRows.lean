/-
  No cell of these rows narrows 'for every input' (looked for: loops, veiled, ifaces, maps, wideKeys, modest, calm, conditions, laid).
  DERIVED. THE GIVEN ROWS OF THIS SEAT. 4 by the template 'for every input the law returns true; each argument reads behind the call as it read before'; 0 by the template 'total and deterministic' (their statements: YtijkmhmgigaieaaTotals.lean).
  GIVEN WITH THE SEED: the statements are not yours to turn. If you find one false, say at which input.
  Laid BY PROGRAM, IN A SANDBOX (cutbox-rows.mjs): the forced cells as the released guide's own fill.sh prints them over the translation bbb0ed3d5a5ab674… (all of the seat's roots in one cut). By AI agents, Wed Nov 11 2026. No macro, syntax, notation, axiom, sorry.
-/
import Derived.Test.YtijkmhmgigaieaaChecked
import GoSem.Claim
import GoSem.ClaimJoined
import GoSem.ClaimMapViews
import Derived.JoinedTies
import Derived.KernelRfl
namespace Go.Proofs.Ytijkmhmgigaieaa
/- THE CELL 'sum', in the pinned program and in every row, IS THE sha256 OF THE DUMP (.gsa) THAT YtijkmhmgigaieaaProg.lean LOADS. Nothing in Lean hashes anything: it is a label: what it is worth is what the hold of that sum in a sandbox is worth. -/
noncomputable def Try.pinned : Pinned := { name := "ytijkmhmgigaieaa", sum := "bbb0ed3d5a5ab6748fa3f3b6321b8d2ed47eded18f169b37438c21058c0eefa0", checked := Try.checked }
namespace Rows
def none {H : Type} : Left H := { results := [], args := [] }

/-- 'turnoutlaw42.AuditWalks': WHATEVER THE INPUT: true; the input reads as it did. -/
def auditWalksSpec : ChangeSpec := { name := "auditWalks", fn := fun _ => fun
  | [d1, d2, d3, d4, d5, d6] => { results := [.lit (.bool true)], args := [d1, d2, d3, d4, d5, d6] }
  | _ => none }
def auditWalksRow : OpenClaim := { program := "ytijkmhmgigaieaa", sum := "bbb0ed3d5a5ab6748fa3f3b6321b8d2ed47eded18f169b37438c21058c0eefa0", func := "turnout/turnoutlaw42.AuditWalks", spec := "auditWalks", unfollowed := true, recurses := true, plainKeys := false, apart := false }
def AuditWalksSaid : Prop := auditWalksRow.holds Try.pinned (OpenSpec.ofChange auditWalksSpec)

/-- ITS FALSE NEIGHBOUR: 'it returns false'. Refute it at one input. -/
def auditWalksWrong : ChangeSpec := { name := "auditWalks", fn := fun _ => fun
  | [d1, d2, d3, d4, d5, d6] => { results := [.lit (.bool false)], args := [d1, d2, d3, d4, d5, d6] }
  | _ => none }
def AuditWalksWrongFalsely : Prop := auditWalksRow.holds Try.pinned (OpenSpec.ofChange auditWalksWrong)

/-- 'turnoutlaw42.AuditGuards': WHATEVER THE INPUT: true; the input reads as it did. -/
def auditGuardsSpec : ChangeSpec := { name := "auditGuards", fn := fun _ => fun
  | [d1, d2] => { results := [.lit (.bool true)], args := [d1, d2] }
  | _ => none }
def auditGuardsRow : OpenClaim := { program := "ytijkmhmgigaieaa", sum := "bbb0ed3d5a5ab6748fa3f3b6321b8d2ed47eded18f169b37438c21058c0eefa0", func := "turnout/turnoutlaw42.AuditGuards", spec := "auditGuards", unfollowed := true, recurses := true, plainKeys := false, apart := false }
def AuditGuardsSaid : Prop := auditGuardsRow.holds Try.pinned (OpenSpec.ofChange auditGuardsSpec)

/-- ITS FALSE NEIGHBOUR: 'it returns false'. Refute it at one input. -/
def auditGuardsWrong : ChangeSpec := { name := "auditGuards", fn := fun _ => fun
  | [d1, d2] => { results := [.lit (.bool false)], args := [d1, d2] }
  | _ => none }
def AuditGuardsWrongFalsely : Prop := auditGuardsRow.holds Try.pinned (OpenSpec.ofChange auditGuardsWrong)

/-- 'turnoutlaw42.AuditOwn': WHATEVER THE INPUT: true; the input reads as it did. -/
def auditOwnSpec : ChangeSpec := { name := "auditOwn", fn := fun _ => fun
  | [d1, d2, d3, d4, d5, d6, d7] => { results := [.lit (.bool true)], args := [d1, d2, d3, d4, d5, d6, d7] }
  | _ => none }
def auditOwnRow : OpenClaim := { program := "ytijkmhmgigaieaa", sum := "bbb0ed3d5a5ab6748fa3f3b6321b8d2ed47eded18f169b37438c21058c0eefa0", func := "turnout/turnoutlaw42.AuditOwn", spec := "auditOwn", unfollowed := true, recurses := true, plainKeys := false, apart := false }
def AuditOwnSaid : Prop := auditOwnRow.holds Try.pinned (OpenSpec.ofChange auditOwnSpec)

/-- ITS FALSE NEIGHBOUR: 'it returns false'. Refute it at one input. -/
def auditOwnWrong : ChangeSpec := { name := "auditOwn", fn := fun _ => fun
  | [d1, d2, d3, d4, d5, d6, d7] => { results := [.lit (.bool false)], args := [d1, d2, d3, d4, d5, d6, d7] }
  | _ => none }
def AuditOwnWrongFalsely : Prop := auditOwnRow.holds Try.pinned (OpenSpec.ofChange auditOwnWrong)

/-- 'turnoutlaw42.AuditTells': WHATEVER THE INPUT: true; the input reads as it did. -/
def auditTellsSpec : ChangeSpec := { name := "auditTells", fn := fun _ => fun
  | [d1, d2, d3, d4] => { results := [.lit (.bool true)], args := [d1, d2, d3, d4] }
  | _ => none }
def auditTellsRow : OpenClaim := { program := "ytijkmhmgigaieaa", sum := "bbb0ed3d5a5ab6748fa3f3b6321b8d2ed47eded18f169b37438c21058c0eefa0", func := "turnout/turnoutlaw42.AuditTells", spec := "auditTells", unfollowed := true, recurses := true, plainKeys := false, apart := false }
def AuditTellsSaid : Prop := auditTellsRow.holds Try.pinned (OpenSpec.ofChange auditTellsSpec)

/-- ITS FALSE NEIGHBOUR: 'it returns false'. Refute it at one input. -/
def auditTellsWrong : ChangeSpec := { name := "auditTells", fn := fun _ => fun
  | [d1, d2, d3, d4] => { results := [.lit (.bool false)], args := [d1, d2, d3, d4] }
  | _ => none }
def AuditTellsWrongFalsely : Prop := auditTellsRow.holds Try.pinned (OpenSpec.ofChange auditTellsWrong)

/- THE SECOND FORM. 'bulk': how many values and letters a reading holds, each counted each time it is reached (what is shared counts as often as it is met; a slice's spare places count too). A statement '..UptoSaid' is the law's where the arguments, and the package variables that the reading takes, are together of bulk at most 1048576: NARROWER than '..Said'. Prove '..Said' where nothing that the law and all that it calls make is longer than what came in: it says more and counts as full. Else prove '..UptoSaid'. A law counts once. -/
mutual
def uptoBulk {H : Type} : DataW H → Nat
  | .lit (.string bytes) => bytes.length + 1
  | .lit _ => 1
  | .nil => 1
  | .ptr d => uptoBulk d + 1
  | .slice elems spare => uptoBulkAll elems + uptoBulkAll spare + 1
  | .agg parts => uptoBulkAll parts + 1
  | .iface _ d => uptoBulk d + 1
  | .map entries => uptoBulkEntries entries + 1
  | .held _ => 1
def uptoBulkAll {H : Type} : List (DataW H) → Nat
  | [] => 0
  | d :: r => uptoBulk d + uptoBulkAll r
def uptoBulkEntries {H : Type} : List (Lit × DataW H) → Nat
  | [] => 0
  | x :: r => uptoBulkEntry x + uptoBulkEntries r
def uptoBulkEntry {H : Type} : Lit × DataW H → Nat
  | (.string bytes, d) => bytes.length + uptoBulk d + 1
  | (_, d) => uptoBulk d + 1
 end
def uptoSmall : (H : Type) → List (DataW H) → Bool := fun _ ds => decide (uptoBulkAll ds ≤ 1048576)
def OpenSpec.upto (s : _root_.Go.ChangeSpec) : _root_.Go.OpenSpec := { _root_.Go.OpenSpec.ofChange s with cond := some uptoSmall }

/-- 'turnoutlaw42.AuditWalks', WHERE WHAT IT READS IS OF BULK AT MOST 1048576: true; the input reads as it did. -/
def auditWalksUptoRow : OpenClaim := { program := "ytijkmhmgigaieaa", sum := "bbb0ed3d5a5ab6748fa3f3b6321b8d2ed47eded18f169b37438c21058c0eefa0", func := "turnout/turnoutlaw42.AuditWalks", spec := "auditWalks", unfollowed := true, recurses := true, plainKeys := false, apart := false, narrowed := true }
def AuditWalksUptoSaid : Prop := auditWalksUptoRow.holds Try.pinned (OpenSpec.upto auditWalksSpec)

/-- 'turnoutlaw42.AuditGuards', WHERE WHAT IT READS IS OF BULK AT MOST 1048576: true; the input reads as it did. -/
def auditGuardsUptoRow : OpenClaim := { program := "ytijkmhmgigaieaa", sum := "bbb0ed3d5a5ab6748fa3f3b6321b8d2ed47eded18f169b37438c21058c0eefa0", func := "turnout/turnoutlaw42.AuditGuards", spec := "auditGuards", unfollowed := true, recurses := true, plainKeys := false, apart := false, narrowed := true }
def AuditGuardsUptoSaid : Prop := auditGuardsUptoRow.holds Try.pinned (OpenSpec.upto auditGuardsSpec)

/-- 'turnoutlaw42.AuditOwn', WHERE WHAT IT READS IS OF BULK AT MOST 1048576: true; the input reads as it did. -/
def auditOwnUptoRow : OpenClaim := { program := "ytijkmhmgigaieaa", sum := "bbb0ed3d5a5ab6748fa3f3b6321b8d2ed47eded18f169b37438c21058c0eefa0", func := "turnout/turnoutlaw42.AuditOwn", spec := "auditOwn", unfollowed := true, recurses := true, plainKeys := false, apart := false, narrowed := true }
def AuditOwnUptoSaid : Prop := auditOwnUptoRow.holds Try.pinned (OpenSpec.upto auditOwnSpec)

/-- 'turnoutlaw42.AuditTells', WHERE WHAT IT READS IS OF BULK AT MOST 1048576: true; the input reads as it did. -/
def auditTellsUptoRow : OpenClaim := { program := "ytijkmhmgigaieaa", sum := "bbb0ed3d5a5ab6748fa3f3b6321b8d2ed47eded18f169b37438c21058c0eefa0", func := "turnout/turnoutlaw42.AuditTells", spec := "auditTells", unfollowed := true, recurses := true, plainKeys := false, apart := false, narrowed := true }
def AuditTellsUptoSaid : Prop := auditTellsUptoRow.holds Try.pinned (OpenSpec.upto auditTellsSpec)

end Rows
end Go.Proofs.Ytijkmhmgigaieaa
