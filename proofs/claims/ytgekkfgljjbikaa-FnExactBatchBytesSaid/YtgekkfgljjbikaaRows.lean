/-
  No cell of these rows narrows 'for every input' (looked for: loops, veiled, ifaces, maps, wideKeys, modest, calm, conditions, laid).
  DERIVED. THE GIVEN ROWS OF THIS SEAT. 12 by the template 'for every input the law returns true; each argument reads behind the call as it read before'; 0 by the template 'total and deterministic' (their statements: YtgekkfgljjbikaaTotals.lean).
  GIVEN WITH THE SEED: the statements are not yours to turn. If you find one false, say at which input.
  Laid BY PROGRAM, IN A SANDBOX (cutbox-rows.mjs): the forced cells as the released guide's own fill.sh prints them over the translation e2d24b476b98a7e3… (all of the seat's roots in one cut). By AI agents, Wed Nov 11 2026. No macro, syntax, notation, axiom, sorry.
-/
import Derived.Test.YtgekkfgljjbikaaChecked
import GoSem.Claim
import GoSem.ClaimJoined
import GoSem.ClaimMapViews
import Derived.JoinedTies
import Derived.KernelRfl
namespace Go.Proofs.Ytgekkfgljjbikaa
/- THE CELL 'sum', in the pinned program and in every row, IS THE sha256 OF THE DUMP (.gsa) THAT YtgekkfgljjbikaaProg.lean LOADS. Nothing in Lean hashes anything: it is a label: what it is worth is what the hold of that sum in a sandbox is worth. -/
noncomputable def Try.pinned : Pinned := { name := "ytgekkfgljjbikaa", sum := "e2d24b476b98a7e3ffbe37960bd605cab8af9fbb4225aba93e9643241813d8d7", checked := Try.checked }
namespace Rows
def none {H : Type} : Left H := { results := [], args := [] }

/-- 'laws.FnExactCodeOf': WHATEVER THE INPUT: true; the input reads as it did. -/
def fnExactCodeOfSpec : ChangeSpec := { name := "fnExactCodeOf", fn := fun _ => fun
  | [d] => { results := [.lit (.bool true)], args := [d] }
  | _ => none }
def fnExactCodeOfRow : OpenClaim := { program := "ytgekkfgljjbikaa", sum := "e2d24b476b98a7e3ffbe37960bd605cab8af9fbb4225aba93e9643241813d8d7", func := "loop.example/g00292/laws.FnExactCodeOf", spec := "fnExactCodeOf", apart := false }
def FnExactCodeOfSaid : Prop := fnExactCodeOfRow.holds Try.pinned (OpenSpec.ofChange fnExactCodeOfSpec)

/-- ITS FALSE NEIGHBOUR: 'it returns false'. Refute it at one input. -/
def fnExactCodeOfWrong : ChangeSpec := { name := "fnExactCodeOf", fn := fun _ => fun
  | [d] => { results := [.lit (.bool false)], args := [d] }
  | _ => none }
def FnExactCodeOfWrongFalsely : Prop := fnExactCodeOfRow.holds Try.pinned (OpenSpec.ofChange fnExactCodeOfWrong)

/-- 'laws.FnExactHashText': WHATEVER THE INPUT: true; the input reads as it did. -/
def fnExactHashTextSpec : ChangeSpec := { name := "fnExactHashText", fn := fun _ => fun
  | [d] => { results := [.lit (.bool true)], args := [d] }
  | _ => none }
def fnExactHashTextRow : OpenClaim := { program := "ytgekkfgljjbikaa", sum := "e2d24b476b98a7e3ffbe37960bd605cab8af9fbb4225aba93e9643241813d8d7", func := "loop.example/g00292/laws.FnExactHashText", spec := "fnExactHashText", unfollowed := true, recurses := true, apart := false }
def FnExactHashTextSaid : Prop := fnExactHashTextRow.holds Try.pinned (OpenSpec.ofChange fnExactHashTextSpec)

/-- ITS FALSE NEIGHBOUR: 'it returns false'. Refute it at one input. -/
def fnExactHashTextWrong : ChangeSpec := { name := "fnExactHashText", fn := fun _ => fun
  | [d] => { results := [.lit (.bool false)], args := [d] }
  | _ => none }
def FnExactHashTextWrongFalsely : Prop := fnExactHashTextRow.holds Try.pinned (OpenSpec.ofChange fnExactHashTextWrong)

/-- 'laws.FnExactHashBits': WHATEVER THE INPUT: true; the input reads as it did. -/
def fnExactHashBitsSpec : ChangeSpec := { name := "fnExactHashBits", fn := fun _ => fun
  | [d] => { results := [.lit (.bool true)], args := [d] }
  | _ => none }
def fnExactHashBitsRow : OpenClaim := { program := "ytgekkfgljjbikaa", sum := "e2d24b476b98a7e3ffbe37960bd605cab8af9fbb4225aba93e9643241813d8d7", func := "loop.example/g00292/laws.FnExactHashBits", spec := "fnExactHashBits", unfollowed := true, recurses := true, apart := false }
def FnExactHashBitsSaid : Prop := fnExactHashBitsRow.holds Try.pinned (OpenSpec.ofChange fnExactHashBitsSpec)

/-- ITS FALSE NEIGHBOUR: 'it returns false'. Refute it at one input. -/
def fnExactHashBitsWrong : ChangeSpec := { name := "fnExactHashBits", fn := fun _ => fun
  | [d] => { results := [.lit (.bool false)], args := [d] }
  | _ => none }
def FnExactHashBitsWrongFalsely : Prop := fnExactHashBitsRow.holds Try.pinned (OpenSpec.ofChange fnExactHashBitsWrong)

/-- 'laws.FnExactReadHash': WHATEVER THE INPUT: true; the input reads as it did. -/
def fnExactReadHashSpec : ChangeSpec := { name := "fnExactReadHash", fn := fun _ => fun
  | [d] => { results := [.lit (.bool true)], args := [d] }
  | _ => none }
def fnExactReadHashRow : OpenClaim := { program := "ytgekkfgljjbikaa", sum := "e2d24b476b98a7e3ffbe37960bd605cab8af9fbb4225aba93e9643241813d8d7", func := "loop.example/g00292/laws.FnExactReadHash", spec := "fnExactReadHash", unfollowed := true, recurses := true, apart := false }
def FnExactReadHashSaid : Prop := fnExactReadHashRow.holds Try.pinned (OpenSpec.ofChange fnExactReadHashSpec)

/-- ITS FALSE NEIGHBOUR: 'it returns false'. Refute it at one input. -/
def fnExactReadHashWrong : ChangeSpec := { name := "fnExactReadHash", fn := fun _ => fun
  | [d] => { results := [.lit (.bool false)], args := [d] }
  | _ => none }
def FnExactReadHashWrongFalsely : Prop := fnExactReadHashRow.holds Try.pinned (OpenSpec.ofChange fnExactReadHashWrong)

/-- 'laws.FnExactCheck32': WHATEVER THE INPUT: true; the input reads as it did. -/
def fnExactCheck32Spec : ChangeSpec := { name := "fnExactCheck32", fn := fun _ => fun
  | [d] => { results := [.lit (.bool true)], args := [d] }
  | _ => none }
def fnExactCheck32Row : OpenClaim := { program := "ytgekkfgljjbikaa", sum := "e2d24b476b98a7e3ffbe37960bd605cab8af9fbb4225aba93e9643241813d8d7", func := "loop.example/g00292/laws.FnExactCheck32", spec := "fnExactCheck32", apart := false }
def FnExactCheck32Said : Prop := fnExactCheck32Row.holds Try.pinned (OpenSpec.ofChange fnExactCheck32Spec)

/-- ITS FALSE NEIGHBOUR: 'it returns false'. Refute it at one input. -/
def fnExactCheck32Wrong : ChangeSpec := { name := "fnExactCheck32", fn := fun _ => fun
  | [d] => { results := [.lit (.bool false)], args := [d] }
  | _ => none }
def FnExactCheck32WrongFalsely : Prop := fnExactCheck32Row.holds Try.pinned (OpenSpec.ofChange fnExactCheck32Wrong)

/-- 'laws.FnExactMessageBytes': WHATEVER THE INPUT: true; the input reads as it did. -/
def fnExactMessageBytesSpec : ChangeSpec := { name := "fnExactMessageBytes", fn := fun _ => fun
  | [d] => { results := [.lit (.bool true)], args := [d] }
  | _ => none }
def fnExactMessageBytesRow : OpenClaim := { program := "ytgekkfgljjbikaa", sum := "e2d24b476b98a7e3ffbe37960bd605cab8af9fbb4225aba93e9643241813d8d7", func := "loop.example/g00292/laws.FnExactMessageBytes", spec := "fnExactMessageBytes", apart := false }
def FnExactMessageBytesSaid : Prop := fnExactMessageBytesRow.holds Try.pinned (OpenSpec.ofChange fnExactMessageBytesSpec)

/-- ITS FALSE NEIGHBOUR: 'it returns false'. Refute it at one input. -/
def fnExactMessageBytesWrong : ChangeSpec := { name := "fnExactMessageBytes", fn := fun _ => fun
  | [d] => { results := [.lit (.bool false)], args := [d] }
  | _ => none }
def FnExactMessageBytesWrongFalsely : Prop := fnExactMessageBytesRow.holds Try.pinned (OpenSpec.ofChange fnExactMessageBytesWrong)

/-- 'laws.FnExactRequestBytes': WHATEVER THE INPUT: true; the input reads as it did. -/
def fnExactRequestBytesSpec : ChangeSpec := { name := "fnExactRequestBytes", fn := fun _ => fun
  | [d] => { results := [.lit (.bool true)], args := [d] }
  | _ => none }
def fnExactRequestBytesRow : OpenClaim := { program := "ytgekkfgljjbikaa", sum := "e2d24b476b98a7e3ffbe37960bd605cab8af9fbb4225aba93e9643241813d8d7", func := "loop.example/g00292/laws.FnExactRequestBytes", spec := "fnExactRequestBytes", apart := false }
def FnExactRequestBytesSaid : Prop := fnExactRequestBytesRow.holds Try.pinned (OpenSpec.ofChange fnExactRequestBytesSpec)

/-- ITS FALSE NEIGHBOUR: 'it returns false'. Refute it at one input. -/
def fnExactRequestBytesWrong : ChangeSpec := { name := "fnExactRequestBytes", fn := fun _ => fun
  | [d] => { results := [.lit (.bool false)], args := [d] }
  | _ => none }
def FnExactRequestBytesWrongFalsely : Prop := fnExactRequestBytesRow.holds Try.pinned (OpenSpec.ofChange fnExactRequestBytesWrong)

/-- 'laws.FnExactListBytes': WHATEVER THE INPUT: true; the input reads as it did. -/
def fnExactListBytesSpec : ChangeSpec := { name := "fnExactListBytes", fn := fun _ => fun
  | [d] => { results := [.lit (.bool true)], args := [d] }
  | _ => none }
def fnExactListBytesRow : OpenClaim := { program := "ytgekkfgljjbikaa", sum := "e2d24b476b98a7e3ffbe37960bd605cab8af9fbb4225aba93e9643241813d8d7", func := "loop.example/g00292/laws.FnExactListBytes", spec := "fnExactListBytes", apart := false }
def FnExactListBytesSaid : Prop := fnExactListBytesRow.holds Try.pinned (OpenSpec.ofChange fnExactListBytesSpec)

/-- ITS FALSE NEIGHBOUR: 'it returns false'. Refute it at one input. -/
def fnExactListBytesWrong : ChangeSpec := { name := "fnExactListBytes", fn := fun _ => fun
  | [d] => { results := [.lit (.bool false)], args := [d] }
  | _ => none }
def FnExactListBytesWrongFalsely : Prop := fnExactListBytesRow.holds Try.pinned (OpenSpec.ofChange fnExactListBytesWrong)

/-- 'laws.FnExactBatchBytes': WHATEVER THE INPUT: true; the input reads as it did. -/
def fnExactBatchBytesSpec : ChangeSpec := { name := "fnExactBatchBytes", fn := fun _ => fun
  | [d] => { results := [.lit (.bool true)], args := [d] }
  | _ => none }
def fnExactBatchBytesRow : OpenClaim := { program := "ytgekkfgljjbikaa", sum := "e2d24b476b98a7e3ffbe37960bd605cab8af9fbb4225aba93e9643241813d8d7", func := "loop.example/g00292/laws.FnExactBatchBytes", spec := "fnExactBatchBytes", apart := false }
def FnExactBatchBytesSaid : Prop := fnExactBatchBytesRow.holds Try.pinned (OpenSpec.ofChange fnExactBatchBytesSpec)

/-- ITS FALSE NEIGHBOUR: 'it returns false'. Refute it at one input. -/
def fnExactBatchBytesWrong : ChangeSpec := { name := "fnExactBatchBytes", fn := fun _ => fun
  | [d] => { results := [.lit (.bool false)], args := [d] }
  | _ => none }
def FnExactBatchBytesWrongFalsely : Prop := fnExactBatchBytesRow.holds Try.pinned (OpenSpec.ofChange fnExactBatchBytesWrong)

/-- 'laws.FnExactTableOK': WHATEVER THE INPUT: true; the input reads as it did. -/
def fnExactTableOKSpec : ChangeSpec := { name := "fnExactTableOK", fn := fun _ => fun
  | [d] => { results := [.lit (.bool true)], args := [d] }
  | _ => none }
def fnExactTableOKRow : OpenClaim := { program := "ytgekkfgljjbikaa", sum := "e2d24b476b98a7e3ffbe37960bd605cab8af9fbb4225aba93e9643241813d8d7", func := "loop.example/g00292/laws.FnExactTableOK", spec := "fnExactTableOK", unfollowed := true, recurses := true, apart := false }
def FnExactTableOKSaid : Prop := fnExactTableOKRow.holds Try.pinned (OpenSpec.ofChange fnExactTableOKSpec)

/-- ITS FALSE NEIGHBOUR: 'it returns false'. Refute it at one input. -/
def fnExactTableOKWrong : ChangeSpec := { name := "fnExactTableOK", fn := fun _ => fun
  | [d] => { results := [.lit (.bool false)], args := [d] }
  | _ => none }
def FnExactTableOKWrongFalsely : Prop := fnExactTableOKRow.holds Try.pinned (OpenSpec.ofChange fnExactTableOKWrong)

/-- 'laws.FnExactSameTable': WHATEVER THE INPUT: true; the input reads as it did. -/
def fnExactSameTableSpec : ChangeSpec := { name := "fnExactSameTable", fn := fun _ => fun
  | [d1, d2] => { results := [.lit (.bool true)], args := [d1, d2] }
  | _ => none }
def fnExactSameTableRow : OpenClaim := { program := "ytgekkfgljjbikaa", sum := "e2d24b476b98a7e3ffbe37960bd605cab8af9fbb4225aba93e9643241813d8d7", func := "loop.example/g00292/laws.FnExactSameTable", spec := "fnExactSameTable", unfollowed := true, recurses := true, apart := false }
def FnExactSameTableSaid : Prop := fnExactSameTableRow.holds Try.pinned (OpenSpec.ofChange fnExactSameTableSpec)

/-- ITS FALSE NEIGHBOUR: 'it returns false'. Refute it at one input. -/
def fnExactSameTableWrong : ChangeSpec := { name := "fnExactSameTable", fn := fun _ => fun
  | [d1, d2] => { results := [.lit (.bool false)], args := [d1, d2] }
  | _ => none }
def FnExactSameTableWrongFalsely : Prop := fnExactSameTableRow.holds Try.pinned (OpenSpec.ofChange fnExactSameTableWrong)

/-- 'laws.FnExactTableBytes': WHATEVER THE INPUT: true; the input reads as it did. -/
def fnExactTableBytesSpec : ChangeSpec := { name := "fnExactTableBytes", fn := fun _ => fun
  | [d] => { results := [.lit (.bool true)], args := [d] }
  | _ => none }
def fnExactTableBytesRow : OpenClaim := { program := "ytgekkfgljjbikaa", sum := "e2d24b476b98a7e3ffbe37960bd605cab8af9fbb4225aba93e9643241813d8d7", func := "loop.example/g00292/laws.FnExactTableBytes", spec := "fnExactTableBytes", unfollowed := true, recurses := true, apart := false }
def FnExactTableBytesSaid : Prop := fnExactTableBytesRow.holds Try.pinned (OpenSpec.ofChange fnExactTableBytesSpec)

/-- ITS FALSE NEIGHBOUR: 'it returns false'. Refute it at one input. -/
def fnExactTableBytesWrong : ChangeSpec := { name := "fnExactTableBytes", fn := fun _ => fun
  | [d] => { results := [.lit (.bool false)], args := [d] }
  | _ => none }
def FnExactTableBytesWrongFalsely : Prop := fnExactTableBytesRow.holds Try.pinned (OpenSpec.ofChange fnExactTableBytesWrong)

/- THE SECOND FORM. 'bulk': how many values and letters a reading holds, each counted each time it is reached (what is shared counts as often as it is met; a slice's spare places count too). A statement '..UptoSaid' is the law's where the arguments, and the package variables that the reading takes, are together of bulk at most 1048576: NARROWER than '..Said'. Prove '..Said' where nothing that the law and all that it calls make is longer than what came in: it says more and counts as full. Else prove '..UptoSaid'. A law counts once. -/
mutual
def uptoBulk {H : Type} : DataW H → Nat
  | .lit (.string bytes) => bytes.length + 1
  | .lit _ => 1
  | .nil => 1
  | .ptr d => uptoBulk d + 1
  | .slice elems spare => uptoBulkAll elems + uptoBulkAll spare + 1
  | .agg parts => uptoBulkAll parts + 1
  | .iface _ d => uptoBulk d + 1
  | .map entries => uptoBulkEntries entries + 1
  | .held _ => 1
def uptoBulkAll {H : Type} : List (DataW H) → Nat
  | [] => 0
  | d :: r => uptoBulk d + uptoBulkAll r
def uptoBulkEntries {H : Type} : List (Lit × DataW H) → Nat
  | [] => 0
  | x :: r => uptoBulkEntry x + uptoBulkEntries r
def uptoBulkEntry {H : Type} : Lit × DataW H → Nat
  | (.string bytes, d) => bytes.length + uptoBulk d + 1
  | (_, d) => uptoBulk d + 1
 end
def uptoSmall : (H : Type) → List (DataW H) → Bool := fun _ ds => decide (uptoBulkAll ds ≤ 1048576)
def OpenSpec.upto (s : _root_.Go.ChangeSpec) : _root_.Go.OpenSpec := { _root_.Go.OpenSpec.ofChange s with cond := some uptoSmall }

/-- 'laws.FnExactCodeOf', WHERE WHAT IT READS IS OF BULK AT MOST 1048576: true; the input reads as it did. -/
def fnExactCodeOfUptoRow : OpenClaim := { program := "ytgekkfgljjbikaa", sum := "e2d24b476b98a7e3ffbe37960bd605cab8af9fbb4225aba93e9643241813d8d7", func := "loop.example/g00292/laws.FnExactCodeOf", spec := "fnExactCodeOf", apart := false, narrowed := true }
def FnExactCodeOfUptoSaid : Prop := fnExactCodeOfUptoRow.holds Try.pinned (OpenSpec.upto fnExactCodeOfSpec)

/-- 'laws.FnExactHashText', WHERE WHAT IT READS IS OF BULK AT MOST 1048576: true; the input reads as it did. -/
def fnExactHashTextUptoRow : OpenClaim := { program := "ytgekkfgljjbikaa", sum := "e2d24b476b98a7e3ffbe37960bd605cab8af9fbb4225aba93e9643241813d8d7", func := "loop.example/g00292/laws.FnExactHashText", spec := "fnExactHashText", unfollowed := true, recurses := true, apart := false, narrowed := true }
def FnExactHashTextUptoSaid : Prop := fnExactHashTextUptoRow.holds Try.pinned (OpenSpec.upto fnExactHashTextSpec)

/-- 'laws.FnExactHashBits', WHERE WHAT IT READS IS OF BULK AT MOST 1048576: true; the input reads as it did. -/
def fnExactHashBitsUptoRow : OpenClaim := { program := "ytgekkfgljjbikaa", sum := "e2d24b476b98a7e3ffbe37960bd605cab8af9fbb4225aba93e9643241813d8d7", func := "loop.example/g00292/laws.FnExactHashBits", spec := "fnExactHashBits", unfollowed := true, recurses := true, apart := false, narrowed := true }
def FnExactHashBitsUptoSaid : Prop := fnExactHashBitsUptoRow.holds Try.pinned (OpenSpec.upto fnExactHashBitsSpec)

/-- 'laws.FnExactReadHash', WHERE WHAT IT READS IS OF BULK AT MOST 1048576: true; the input reads as it did. -/
def fnExactReadHashUptoRow : OpenClaim := { program := "ytgekkfgljjbikaa", sum := "e2d24b476b98a7e3ffbe37960bd605cab8af9fbb4225aba93e9643241813d8d7", func := "loop.example/g00292/laws.FnExactReadHash", spec := "fnExactReadHash", unfollowed := true, recurses := true, apart := false, narrowed := true }
def FnExactReadHashUptoSaid : Prop := fnExactReadHashUptoRow.holds Try.pinned (OpenSpec.upto fnExactReadHashSpec)

/-- 'laws.FnExactCheck32', WHERE WHAT IT READS IS OF BULK AT MOST 1048576: true; the input reads as it did. -/
def fnExactCheck32UptoRow : OpenClaim := { program := "ytgekkfgljjbikaa", sum := "e2d24b476b98a7e3ffbe37960bd605cab8af9fbb4225aba93e9643241813d8d7", func := "loop.example/g00292/laws.FnExactCheck32", spec := "fnExactCheck32", apart := false, narrowed := true }
def FnExactCheck32UptoSaid : Prop := fnExactCheck32UptoRow.holds Try.pinned (OpenSpec.upto fnExactCheck32Spec)

/-- 'laws.FnExactMessageBytes', WHERE WHAT IT READS IS OF BULK AT MOST 1048576: true; the input reads as it did. -/
def fnExactMessageBytesUptoRow : OpenClaim := { program := "ytgekkfgljjbikaa", sum := "e2d24b476b98a7e3ffbe37960bd605cab8af9fbb4225aba93e9643241813d8d7", func := "loop.example/g00292/laws.FnExactMessageBytes", spec := "fnExactMessageBytes", apart := false, narrowed := true }
def FnExactMessageBytesUptoSaid : Prop := fnExactMessageBytesUptoRow.holds Try.pinned (OpenSpec.upto fnExactMessageBytesSpec)

/-- 'laws.FnExactRequestBytes', WHERE WHAT IT READS IS OF BULK AT MOST 1048576: true; the input reads as it did. -/
def fnExactRequestBytesUptoRow : OpenClaim := { program := "ytgekkfgljjbikaa", sum := "e2d24b476b98a7e3ffbe37960bd605cab8af9fbb4225aba93e9643241813d8d7", func := "loop.example/g00292/laws.FnExactRequestBytes", spec := "fnExactRequestBytes", apart := false, narrowed := true }
def FnExactRequestBytesUptoSaid : Prop := fnExactRequestBytesUptoRow.holds Try.pinned (OpenSpec.upto fnExactRequestBytesSpec)

/-- 'laws.FnExactListBytes', WHERE WHAT IT READS IS OF BULK AT MOST 1048576: true; the input reads as it did. -/
def fnExactListBytesUptoRow : OpenClaim := { program := "ytgekkfgljjbikaa", sum := "e2d24b476b98a7e3ffbe37960bd605cab8af9fbb4225aba93e9643241813d8d7", func := "loop.example/g00292/laws.FnExactListBytes", spec := "fnExactListBytes", apart := false, narrowed := true }
def FnExactListBytesUptoSaid : Prop := fnExactListBytesUptoRow.holds Try.pinned (OpenSpec.upto fnExactListBytesSpec)

/-- 'laws.FnExactBatchBytes', WHERE WHAT IT READS IS OF BULK AT MOST 1048576: true; the input reads as it did. -/
def fnExactBatchBytesUptoRow : OpenClaim := { program := "ytgekkfgljjbikaa", sum := "e2d24b476b98a7e3ffbe37960bd605cab8af9fbb4225aba93e9643241813d8d7", func := "loop.example/g00292/laws.FnExactBatchBytes", spec := "fnExactBatchBytes", apart := false, narrowed := true }
def FnExactBatchBytesUptoSaid : Prop := fnExactBatchBytesUptoRow.holds Try.pinned (OpenSpec.upto fnExactBatchBytesSpec)

/-- 'laws.FnExactTableOK', WHERE WHAT IT READS IS OF BULK AT MOST 1048576: true; the input reads as it did. -/
def fnExactTableOKUptoRow : OpenClaim := { program := "ytgekkfgljjbikaa", sum := "e2d24b476b98a7e3ffbe37960bd605cab8af9fbb4225aba93e9643241813d8d7", func := "loop.example/g00292/laws.FnExactTableOK", spec := "fnExactTableOK", unfollowed := true, recurses := true, apart := false, narrowed := true }
def FnExactTableOKUptoSaid : Prop := fnExactTableOKUptoRow.holds Try.pinned (OpenSpec.upto fnExactTableOKSpec)

/-- 'laws.FnExactSameTable', WHERE WHAT IT READS IS OF BULK AT MOST 1048576: true; the input reads as it did. -/
def fnExactSameTableUptoRow : OpenClaim := { program := "ytgekkfgljjbikaa", sum := "e2d24b476b98a7e3ffbe37960bd605cab8af9fbb4225aba93e9643241813d8d7", func := "loop.example/g00292/laws.FnExactSameTable", spec := "fnExactSameTable", unfollowed := true, recurses := true, apart := false, narrowed := true }
def FnExactSameTableUptoSaid : Prop := fnExactSameTableUptoRow.holds Try.pinned (OpenSpec.upto fnExactSameTableSpec)

/-- 'laws.FnExactTableBytes', WHERE WHAT IT READS IS OF BULK AT MOST 1048576: true; the input reads as it did. -/
def fnExactTableBytesUptoRow : OpenClaim := { program := "ytgekkfgljjbikaa", sum := "e2d24b476b98a7e3ffbe37960bd605cab8af9fbb4225aba93e9643241813d8d7", func := "loop.example/g00292/laws.FnExactTableBytes", spec := "fnExactTableBytes", unfollowed := true, recurses := true, apart := false, narrowed := true }
def FnExactTableBytesUptoSaid : Prop := fnExactTableBytesUptoRow.holds Try.pinned (OpenSpec.upto fnExactTableBytesSpec)

end Rows
end Go.Proofs.Ytgekkfgljjbikaa
