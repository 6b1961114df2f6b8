/-
  No cell of these rows narrows 'for every input' (looked for: loops, veiled, ifaces, maps, wideKeys, modest, calm, conditions, laid).
  DERIVED. THE GIVEN ROWS OF THIS SEAT. 5 by the template 'for every input the law returns true; each argument reads behind the call as it read before'; 0 by the template 'total and deterministic' (their statements: YtjkanhjapddhnaaTotals.lean).
  GIVEN WITH THE SEED: the statements are not yours to turn. If you find one false, say at which input.
  Laid BY PROGRAM, IN A SANDBOX (cutbox-rows.mjs): the forced cells as the released guide's own fill.sh prints them over the translation 7dd5ea388826a6ac… (all of the seat's roots in one cut). By AI agents, Wed Nov 11 2026. No macro, syntax, notation, axiom, sorry.
-/
import Derived.Test.YtjkanhjapddhnaaChecked
import GoSem.Claim
import GoSem.ClaimJoined
import GoSem.ClaimMapViews
import Derived.JoinedTies
import Derived.KernelRfl
namespace Go.Proofs.Ytjkanhjapddhnaa
/- THE CELL 'sum', in the pinned program and in every row, IS THE sha256 OF THE DUMP (.gsa) THAT YtjkanhjapddhnaaProg.lean LOADS. Nothing in Lean hashes anything: it is a label: what it is worth is what the hold of that sum in a sandbox is worth. -/
noncomputable def Try.pinned : Pinned := { name := "ytjkanhjapddhnaa", sum := "7dd5ea388826a6ac25dad6b07959d6c925eb6c4fb1e0f57f0094b45563635de7", checked := Try.checked }
namespace Rows
def none {H : Type} : Left H := { results := [], args := [] }

/-- 'laws.FnExactTableOK': WHATEVER THE INPUT: true; the input reads as it did. -/
def fnExactTableOKSpec : ChangeSpec := { name := "fnExactTableOK", fn := fun _ => fun
  | [d] => { results := [.lit (.bool true)], args := [d] }
  | _ => none }
def fnExactTableOKRow : OpenClaim := { program := "ytjkanhjapddhnaa", sum := "7dd5ea388826a6ac25dad6b07959d6c925eb6c4fb1e0f57f0094b45563635de7", func := "loop.example/g00292/laws.FnExactTableOK", spec := "fnExactTableOK", unfollowed := true, recurses := true, apart := false }
def FnExactTableOKSaid : Prop := fnExactTableOKRow.holds Try.pinned (OpenSpec.ofChange fnExactTableOKSpec)

/-- ITS FALSE NEIGHBOUR: 'it returns false'. Refute it at one input. -/
def fnExactTableOKWrong : ChangeSpec := { name := "fnExactTableOK", fn := fun _ => fun
  | [d] => { results := [.lit (.bool false)], args := [d] }
  | _ => none }
def FnExactTableOKWrongFalsely : Prop := fnExactTableOKRow.holds Try.pinned (OpenSpec.ofChange fnExactTableOKWrong)

/-- 'laws.FnExactSameTable': WHATEVER THE INPUT: true; the input reads as it did. -/
def fnExactSameTableSpec : ChangeSpec := { name := "fnExactSameTable", fn := fun _ => fun
  | [d1, d2] => { results := [.lit (.bool true)], args := [d1, d2] }
  | _ => none }
def fnExactSameTableRow : OpenClaim := { program := "ytjkanhjapddhnaa", sum := "7dd5ea388826a6ac25dad6b07959d6c925eb6c4fb1e0f57f0094b45563635de7", func := "loop.example/g00292/laws.FnExactSameTable", spec := "fnExactSameTable", unfollowed := true, recurses := true, apart := false }
def FnExactSameTableSaid : Prop := fnExactSameTableRow.holds Try.pinned (OpenSpec.ofChange fnExactSameTableSpec)

/-- ITS FALSE NEIGHBOUR: 'it returns false'. Refute it at one input. -/
def fnExactSameTableWrong : ChangeSpec := { name := "fnExactSameTable", fn := fun _ => fun
  | [d1, d2] => { results := [.lit (.bool false)], args := [d1, d2] }
  | _ => none }
def FnExactSameTableWrongFalsely : Prop := fnExactSameTableRow.holds Try.pinned (OpenSpec.ofChange fnExactSameTableWrong)

/-- 'laws.FnExactTableBytes': WHATEVER THE INPUT: true; the input reads as it did. -/
def fnExactTableBytesSpec : ChangeSpec := { name := "fnExactTableBytes", fn := fun _ => fun
  | [d] => { results := [.lit (.bool true)], args := [d] }
  | _ => none }
def fnExactTableBytesRow : OpenClaim := { program := "ytjkanhjapddhnaa", sum := "7dd5ea388826a6ac25dad6b07959d6c925eb6c4fb1e0f57f0094b45563635de7", func := "loop.example/g00292/laws.FnExactTableBytes", spec := "fnExactTableBytes", unfollowed := true, recurses := true, apart := false }
def FnExactTableBytesSaid : Prop := fnExactTableBytesRow.holds Try.pinned (OpenSpec.ofChange fnExactTableBytesSpec)

/-- ITS FALSE NEIGHBOUR: 'it returns false'. Refute it at one input. -/
def fnExactTableBytesWrong : ChangeSpec := { name := "fnExactTableBytes", fn := fun _ => fun
  | [d] => { results := [.lit (.bool false)], args := [d] }
  | _ => none }
def FnExactTableBytesWrongFalsely : Prop := fnExactTableBytesRow.holds Try.pinned (OpenSpec.ofChange fnExactTableBytesWrong)

/-- 'laws.FnExactGrantsOf': WHATEVER THE INPUT: true; the input reads as it did. -/
def fnExactGrantsOfSpec : ChangeSpec := { name := "fnExactGrantsOf", fn := fun _ => fun
  | [d1, d2] => { results := [.lit (.bool true)], args := [d1, d2] }
  | _ => none }
def fnExactGrantsOfRow : OpenClaim := { program := "ytjkanhjapddhnaa", sum := "7dd5ea388826a6ac25dad6b07959d6c925eb6c4fb1e0f57f0094b45563635de7", func := "loop.example/g00292/laws.FnExactGrantsOf", spec := "fnExactGrantsOf", inPlace := ["internal/bytealg.abigen_runtime_cmpstring", "slices.overlaps[loop.example/g00292/impl.Lock]", "slices.overlaps[loop.example/g00292/impl.Seen]"], unfollowed := true, recurses := true, apart := false }
def FnExactGrantsOfSaid : Prop := fnExactGrantsOfRow.holds Try.pinned (OpenSpec.ofChange fnExactGrantsOfSpec)

/-- ITS FALSE NEIGHBOUR: 'it returns false'. Refute it at one input. -/
def fnExactGrantsOfWrong : ChangeSpec := { name := "fnExactGrantsOf", fn := fun _ => fun
  | [d1, d2] => { results := [.lit (.bool false)], args := [d1, d2] }
  | _ => none }
def FnExactGrantsOfWrongFalsely : Prop := fnExactGrantsOfRow.holds Try.pinned (OpenSpec.ofChange fnExactGrantsOfWrong)

/-- 'laws.FnExactRunRequests': WHATEVER THE INPUT: true; the input reads as it did. -/
def fnExactRunRequestsSpec : ChangeSpec := { name := "fnExactRunRequests", fn := fun _ => fun
  | [d1, d2] => { results := [.lit (.bool true)], args := [d1, d2] }
  | _ => none }
def fnExactRunRequestsRow : OpenClaim := { program := "ytjkanhjapddhnaa", sum := "7dd5ea388826a6ac25dad6b07959d6c925eb6c4fb1e0f57f0094b45563635de7", func := "loop.example/g00292/laws.FnExactRunRequests", spec := "fnExactRunRequests", inPlace := ["internal/bytealg.abigen_runtime_cmpstring", "slices.overlaps[loop.example/g00292/impl.Lock]", "slices.overlaps[loop.example/g00292/impl.Seen]"], unfollowed := true, recurses := true, apart := false }
def FnExactRunRequestsSaid : Prop := fnExactRunRequestsRow.holds Try.pinned (OpenSpec.ofChange fnExactRunRequestsSpec)

/-- ITS FALSE NEIGHBOUR: 'it returns false'. Refute it at one input. -/
def fnExactRunRequestsWrong : ChangeSpec := { name := "fnExactRunRequests", fn := fun _ => fun
  | [d1, d2] => { results := [.lit (.bool false)], args := [d1, d2] }
  | _ => none }
def FnExactRunRequestsWrongFalsely : Prop := fnExactRunRequestsRow.holds Try.pinned (OpenSpec.ofChange fnExactRunRequestsWrong)

/- THE SECOND FORM. 'bulk': how many values and letters a reading holds, each counted each time it is reached (what is shared counts as often as it is met; a slice's spare places count too). A statement '..UptoSaid' is the law's where the arguments, and the package variables that the reading takes, are together of bulk at most 1048576: NARROWER than '..Said'. Prove '..Said' where nothing that the law and all that it calls make is longer than what came in: it says more and counts as full. Else prove '..UptoSaid'. A law counts once. -/
mutual
def uptoBulk {H : Type} : DataW H → Nat
  | .lit (.string bytes) => bytes.length + 1
  | .lit _ => 1
  | .nil => 1
  | .ptr d => uptoBulk d + 1
  | .slice elems spare => uptoBulkAll elems + uptoBulkAll spare + 1
  | .agg parts => uptoBulkAll parts + 1
  | .iface _ d => uptoBulk d + 1
  | .map entries => uptoBulkEntries entries + 1
  | .held _ => 1
def uptoBulkAll {H : Type} : List (DataW H) → Nat
  | [] => 0
  | d :: r => uptoBulk d + uptoBulkAll r
def uptoBulkEntries {H : Type} : List (Lit × DataW H) → Nat
  | [] => 0
  | x :: r => uptoBulkEntry x + uptoBulkEntries r
def uptoBulkEntry {H : Type} : Lit × DataW H → Nat
  | (.string bytes, d) => bytes.length + uptoBulk d + 1
  | (_, d) => uptoBulk d + 1
 end
def uptoSmall : (H : Type) → List (DataW H) → Bool := fun _ ds => decide (uptoBulkAll ds ≤ 1048576)
def OpenSpec.upto (s : _root_.Go.ChangeSpec) : _root_.Go.OpenSpec := { _root_.Go.OpenSpec.ofChange s with cond := some uptoSmall }

/-- 'laws.FnExactTableOK', WHERE WHAT IT READS IS OF BULK AT MOST 1048576: true; the input reads as it did. -/
def fnExactTableOKUptoRow : OpenClaim := { program := "ytjkanhjapddhnaa", sum := "7dd5ea388826a6ac25dad6b07959d6c925eb6c4fb1e0f57f0094b45563635de7", func := "loop.example/g00292/laws.FnExactTableOK", spec := "fnExactTableOK", unfollowed := true, recurses := true, apart := false, narrowed := true }
def FnExactTableOKUptoSaid : Prop := fnExactTableOKUptoRow.holds Try.pinned (OpenSpec.upto fnExactTableOKSpec)

/-- 'laws.FnExactSameTable', WHERE WHAT IT READS IS OF BULK AT MOST 1048576: true; the input reads as it did. -/
def fnExactSameTableUptoRow : OpenClaim := { program := "ytjkanhjapddhnaa", sum := "7dd5ea388826a6ac25dad6b07959d6c925eb6c4fb1e0f57f0094b45563635de7", func := "loop.example/g00292/laws.FnExactSameTable", spec := "fnExactSameTable", unfollowed := true, recurses := true, apart := false, narrowed := true }
def FnExactSameTableUptoSaid : Prop := fnExactSameTableUptoRow.holds Try.pinned (OpenSpec.upto fnExactSameTableSpec)

/-- 'laws.FnExactTableBytes', WHERE WHAT IT READS IS OF BULK AT MOST 1048576: true; the input reads as it did. -/
def fnExactTableBytesUptoRow : OpenClaim := { program := "ytjkanhjapddhnaa", sum := "7dd5ea388826a6ac25dad6b07959d6c925eb6c4fb1e0f57f0094b45563635de7", func := "loop.example/g00292/laws.FnExactTableBytes", spec := "fnExactTableBytes", unfollowed := true, recurses := true, apart := false, narrowed := true }
def FnExactTableBytesUptoSaid : Prop := fnExactTableBytesUptoRow.holds Try.pinned (OpenSpec.upto fnExactTableBytesSpec)

/-- 'laws.FnExactGrantsOf', WHERE WHAT IT READS IS OF BULK AT MOST 1048576: true; the input reads as it did. -/
def fnExactGrantsOfUptoRow : OpenClaim := { program := "ytjkanhjapddhnaa", sum := "7dd5ea388826a6ac25dad6b07959d6c925eb6c4fb1e0f57f0094b45563635de7", func := "loop.example/g00292/laws.FnExactGrantsOf", spec := "fnExactGrantsOf", inPlace := ["internal/bytealg.abigen_runtime_cmpstring", "slices.overlaps[loop.example/g00292/impl.Lock]", "slices.overlaps[loop.example/g00292/impl.Seen]"], unfollowed := true, recurses := true, apart := false, narrowed := true }
def FnExactGrantsOfUptoSaid : Prop := fnExactGrantsOfUptoRow.holds Try.pinned (OpenSpec.upto fnExactGrantsOfSpec)

/-- 'laws.FnExactRunRequests', WHERE WHAT IT READS IS OF BULK AT MOST 1048576: true; the input reads as it did. -/
def fnExactRunRequestsUptoRow : OpenClaim := { program := "ytjkanhjapddhnaa", sum := "7dd5ea388826a6ac25dad6b07959d6c925eb6c4fb1e0f57f0094b45563635de7", func := "loop.example/g00292/laws.FnExactRunRequests", spec := "fnExactRunRequests", inPlace := ["internal/bytealg.abigen_runtime_cmpstring", "slices.overlaps[loop.example/g00292/impl.Lock]", "slices.overlaps[loop.example/g00292/impl.Seen]"], unfollowed := true, recurses := true, apart := false, narrowed := true }
def FnExactRunRequestsUptoSaid : Prop := fnExactRunRequestsUptoRow.holds Try.pinned (OpenSpec.upto fnExactRunRequestsSpec)

end Rows
end Go.Proofs.Ytjkanhjapddhnaa
