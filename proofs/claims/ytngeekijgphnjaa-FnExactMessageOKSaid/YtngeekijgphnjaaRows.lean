/-
  No cell of these rows narrows 'for every input' (looked for: loops, veiled, ifaces, maps, wideKeys, modest, calm, conditions, laid).
  DERIVED. THE GIVEN ROWS OF THIS SEAT. 12 by the template 'for every input the law returns true; each argument reads behind the call as it read before'; 0 by the template 'total and deterministic' (their statements: YtngeekijgphnjaaTotals.lean).
  GIVEN WITH THE SEED: the statements are not yours to turn. If you find one false, say at which input.
  Laid BY PROGRAM, IN A SANDBOX (cutbox-rows.mjs): the forced cells as the released guide's own fill.sh prints them over the translation f89da371cf2382e8… (all of the seat's roots in one cut). By AI agents, Wed Nov 11 2026. No macro, syntax, notation, axiom, sorry.
-/
import Derived.Test.YtngeekijgphnjaaChecked
import GoSem.Claim
import GoSem.ClaimJoined
import GoSem.ClaimMapViews
import Derived.JoinedTies
import Derived.KernelRfl
namespace Go.Proofs.Ytngeekijgphnjaa
/- THE CELL 'sum', in the pinned program and in every row, IS THE sha256 OF THE DUMP (.gsa) THAT YtngeekijgphnjaaProg.lean LOADS. Nothing in Lean hashes anything: it is a label: what it is worth is what the hold of that sum in a sandbox is worth. -/
noncomputable def Try.pinned : Pinned := { name := "ytngeekijgphnjaa", sum := "f89da371cf2382e8b28d54f70e4b4d9f235bd2ab25ca1d2ac787572e68749e19", checked := Try.checked }
namespace Rows
def none {H : Type} : Left H := { results := [], args := [] }

/-- 'laws.FnExactConstants': WHATEVER THE INPUT: true; the input reads as it did. -/
def fnExactConstantsSpec : ChangeSpec := { name := "fnExactConstants", fn := fun _ => fun
  | [] => { results := [.lit (.bool true)], args := [] }
  | _ => none }
def fnExactConstantsRow : OpenClaim := { program := "ytngeekijgphnjaa", sum := "f89da371cf2382e8b28d54f70e4b4d9f235bd2ab25ca1d2ac787572e68749e19", func := "loop.example/g00292/laws.FnExactConstants", spec := "fnExactConstants", apart := false }
def FnExactConstantsSaid : Prop := fnExactConstantsRow.holds Try.pinned (OpenSpec.ofChange fnExactConstantsSpec)

/-- ITS FALSE NEIGHBOUR: 'it returns false'. Refute it at one input. -/
def fnExactConstantsWrong : ChangeSpec := { name := "fnExactConstants", fn := fun _ => fun
  | [] => { results := [.lit (.bool false)], args := [] }
  | _ => none }
def FnExactConstantsWrongFalsely : Prop := fnExactConstantsRow.holds Try.pinned (OpenSpec.ofChange fnExactConstantsWrong)

/-- 'laws.FnExactFaultsOf': WHATEVER THE INPUT: true; the input reads as it did. -/
def fnExactFaultsOfSpec : ChangeSpec := { name := "fnExactFaultsOf", fn := fun _ => fun
  | [d] => { results := [.lit (.bool true)], args := [d] }
  | _ => none }
def fnExactFaultsOfRow : OpenClaim := { program := "ytngeekijgphnjaa", sum := "f89da371cf2382e8b28d54f70e4b4d9f235bd2ab25ca1d2ac787572e68749e19", func := "loop.example/g00292/laws.FnExactFaultsOf", spec := "fnExactFaultsOf", apart := false }
def FnExactFaultsOfSaid : Prop := fnExactFaultsOfRow.holds Try.pinned (OpenSpec.ofChange fnExactFaultsOfSpec)

/-- ITS FALSE NEIGHBOUR: 'it returns false'. Refute it at one input. -/
def fnExactFaultsOfWrong : ChangeSpec := { name := "fnExactFaultsOf", fn := fun _ => fun
  | [d] => { results := [.lit (.bool false)], args := [d] }
  | _ => none }
def FnExactFaultsOfWrongFalsely : Prop := fnExactFaultsOfRow.holds Try.pinned (OpenSpec.ofChange fnExactFaultsOfWrong)

/-- 'laws.FnExactAddTime': WHATEVER THE INPUT: true; the input reads as it did. -/
def fnExactAddTimeSpec : ChangeSpec := { name := "fnExactAddTime", fn := fun _ => fun
  | [d1, d2] => { results := [.lit (.bool true)], args := [d1, d2] }
  | _ => none }
def fnExactAddTimeRow : OpenClaim := { program := "ytngeekijgphnjaa", sum := "f89da371cf2382e8b28d54f70e4b4d9f235bd2ab25ca1d2ac787572e68749e19", func := "loop.example/g00292/laws.FnExactAddTime", spec := "fnExactAddTime", apart := false }
def FnExactAddTimeSaid : Prop := fnExactAddTimeRow.holds Try.pinned (OpenSpec.ofChange fnExactAddTimeSpec)

/-- ITS FALSE NEIGHBOUR: 'it returns false'. Refute it at one input. -/
def fnExactAddTimeWrong : ChangeSpec := { name := "fnExactAddTime", fn := fun _ => fun
  | [d1, d2] => { results := [.lit (.bool false)], args := [d1, d2] }
  | _ => none }
def FnExactAddTimeWrongFalsely : Prop := fnExactAddTimeRow.holds Try.pinned (OpenSpec.ofChange fnExactAddTimeWrong)

/-- 'laws.FnAddTime': WHATEVER THE INPUT: true; the input reads as it did. -/
def fnAddTimeSpec : ChangeSpec := { name := "fnAddTime", fn := fun _ => fun
  | [d1, d2] => { results := [.lit (.bool true)], args := [d1, d2] }
  | _ => none }
def fnAddTimeRow : OpenClaim := { program := "ytngeekijgphnjaa", sum := "f89da371cf2382e8b28d54f70e4b4d9f235bd2ab25ca1d2ac787572e68749e19", func := "loop.example/g00292/laws.FnAddTime", spec := "fnAddTime", apart := false }
def FnAddTimeSaid : Prop := fnAddTimeRow.holds Try.pinned (OpenSpec.ofChange fnAddTimeSpec)

/-- ITS FALSE NEIGHBOUR: 'it returns false'. Refute it at one input. -/
def fnAddTimeWrong : ChangeSpec := { name := "fnAddTime", fn := fun _ => fun
  | [d1, d2] => { results := [.lit (.bool false)], args := [d1, d2] }
  | _ => none }
def FnAddTimeWrongFalsely : Prop := fnAddTimeRow.holds Try.pinned (OpenSpec.ofChange fnAddTimeWrong)

/-- 'laws.FnExactCodeWord': WHATEVER THE INPUT: true; the input reads as it did. -/
def fnExactCodeWordSpec : ChangeSpec := { name := "fnExactCodeWord", fn := fun _ => fun
  | [d] => { results := [.lit (.bool true)], args := [d] }
  | _ => none }
def fnExactCodeWordRow : OpenClaim := { program := "ytngeekijgphnjaa", sum := "f89da371cf2382e8b28d54f70e4b4d9f235bd2ab25ca1d2ac787572e68749e19", func := "loop.example/g00292/laws.FnExactCodeWord", spec := "fnExactCodeWord", apart := false }
def FnExactCodeWordSaid : Prop := fnExactCodeWordRow.holds Try.pinned (OpenSpec.ofChange fnExactCodeWordSpec)

/-- ITS FALSE NEIGHBOUR: 'it returns false'. Refute it at one input. -/
def fnExactCodeWordWrong : ChangeSpec := { name := "fnExactCodeWord", fn := fun _ => fun
  | [d] => { results := [.lit (.bool false)], args := [d] }
  | _ => none }
def FnExactCodeWordWrongFalsely : Prop := fnExactCodeWordRow.holds Try.pinned (OpenSpec.ofChange fnExactCodeWordWrong)

/-- 'laws.FnExactKeyChainOK': WHATEVER THE INPUT: true; the input reads as it did. -/
def fnExactKeyChainOKSpec : ChangeSpec := { name := "fnExactKeyChainOK", fn := fun _ => fun
  | [d] => { results := [.lit (.bool true)], args := [d] }
  | _ => none }
def fnExactKeyChainOKRow : OpenClaim := { program := "ytngeekijgphnjaa", sum := "f89da371cf2382e8b28d54f70e4b4d9f235bd2ab25ca1d2ac787572e68749e19", func := "loop.example/g00292/laws.FnExactKeyChainOK", spec := "fnExactKeyChainOK", apart := false }
def FnExactKeyChainOKSaid : Prop := fnExactKeyChainOKRow.holds Try.pinned (OpenSpec.ofChange fnExactKeyChainOKSpec)

/-- ITS FALSE NEIGHBOUR: 'it returns false'. Refute it at one input. -/
def fnExactKeyChainOKWrong : ChangeSpec := { name := "fnExactKeyChainOK", fn := fun _ => fun
  | [d] => { results := [.lit (.bool false)], args := [d] }
  | _ => none }
def FnExactKeyChainOKWrongFalsely : Prop := fnExactKeyChainOKRow.holds Try.pinned (OpenSpec.ofChange fnExactKeyChainOKWrong)

/-- 'laws.FnExactPrimaryOf': WHATEVER THE INPUT: true; the input reads as it did. -/
def fnExactPrimaryOfSpec : ChangeSpec := { name := "fnExactPrimaryOf", fn := fun _ => fun
  | [d1, d2] => { results := [.lit (.bool true)], args := [d1, d2] }
  | _ => none }
def fnExactPrimaryOfRow : OpenClaim := { program := "ytngeekijgphnjaa", sum := "f89da371cf2382e8b28d54f70e4b4d9f235bd2ab25ca1d2ac787572e68749e19", func := "loop.example/g00292/laws.FnExactPrimaryOf", spec := "fnExactPrimaryOf", apart := false }
def FnExactPrimaryOfSaid : Prop := fnExactPrimaryOfRow.holds Try.pinned (OpenSpec.ofChange fnExactPrimaryOfSpec)

/-- ITS FALSE NEIGHBOUR: 'it returns false'. Refute it at one input. -/
def fnExactPrimaryOfWrong : ChangeSpec := { name := "fnExactPrimaryOf", fn := fun _ => fun
  | [d1, d2] => { results := [.lit (.bool false)], args := [d1, d2] }
  | _ => none }
def FnExactPrimaryOfWrongFalsely : Prop := fnExactPrimaryOfRow.holds Try.pinned (OpenSpec.ofChange fnExactPrimaryOfWrong)

/-- 'laws.FnExactQuorumOf': WHATEVER THE INPUT: true; the input reads as it did. -/
def fnExactQuorumOfSpec : ChangeSpec := { name := "fnExactQuorumOf", fn := fun _ => fun
  | [d] => { results := [.lit (.bool true)], args := [d] }
  | _ => none }
def fnExactQuorumOfRow : OpenClaim := { program := "ytngeekijgphnjaa", sum := "f89da371cf2382e8b28d54f70e4b4d9f235bd2ab25ca1d2ac787572e68749e19", func := "loop.example/g00292/laws.FnExactQuorumOf", spec := "fnExactQuorumOf", apart := false }
def FnExactQuorumOfSaid : Prop := fnExactQuorumOfRow.holds Try.pinned (OpenSpec.ofChange fnExactQuorumOfSpec)

/-- ITS FALSE NEIGHBOUR: 'it returns false'. Refute it at one input. -/
def fnExactQuorumOfWrong : ChangeSpec := { name := "fnExactQuorumOf", fn := fun _ => fun
  | [d] => { results := [.lit (.bool false)], args := [d] }
  | _ => none }
def FnExactQuorumOfWrongFalsely : Prop := fnExactQuorumOfRow.holds Try.pinned (OpenSpec.ofChange fnExactQuorumOfWrong)

/-- 'laws.FnExactNameOK': WHATEVER THE INPUT: true; the input reads as it did. -/
def fnExactNameOKSpec : ChangeSpec := { name := "fnExactNameOK", fn := fun _ => fun
  | [d] => { results := [.lit (.bool true)], args := [d] }
  | _ => none }
def fnExactNameOKRow : OpenClaim := { program := "ytngeekijgphnjaa", sum := "f89da371cf2382e8b28d54f70e4b4d9f235bd2ab25ca1d2ac787572e68749e19", func := "loop.example/g00292/laws.FnExactNameOK", spec := "fnExactNameOK", apart := false }
def FnExactNameOKSaid : Prop := fnExactNameOKRow.holds Try.pinned (OpenSpec.ofChange fnExactNameOKSpec)

/-- ITS FALSE NEIGHBOUR: 'it returns false'. Refute it at one input. -/
def fnExactNameOKWrong : ChangeSpec := { name := "fnExactNameOK", fn := fun _ => fun
  | [d] => { results := [.lit (.bool false)], args := [d] }
  | _ => none }
def FnExactNameOKWrongFalsely : Prop := fnExactNameOKRow.holds Try.pinned (OpenSpec.ofChange fnExactNameOKWrong)

/-- 'laws.FnQuorums': WHATEVER THE INPUT: true; the input reads as it did. -/
def fnQuorumsSpec : ChangeSpec := { name := "fnQuorums", fn := fun _ => fun
  | [d1, d2] => { results := [.lit (.bool true)], args := [d1, d2] }
  | _ => none }
def fnQuorumsRow : OpenClaim := { program := "ytngeekijgphnjaa", sum := "f89da371cf2382e8b28d54f70e4b4d9f235bd2ab25ca1d2ac787572e68749e19", func := "loop.example/g00292/laws.FnQuorums", spec := "fnQuorums", apart := false }
def FnQuorumsSaid : Prop := fnQuorumsRow.holds Try.pinned (OpenSpec.ofChange fnQuorumsSpec)

/-- ITS FALSE NEIGHBOUR: 'it returns false'. Refute it at one input. -/
def fnQuorumsWrong : ChangeSpec := { name := "fnQuorums", fn := fun _ => fun
  | [d1, d2] => { results := [.lit (.bool false)], args := [d1, d2] }
  | _ => none }
def FnQuorumsWrongFalsely : Prop := fnQuorumsRow.holds Try.pinned (OpenSpec.ofChange fnQuorumsWrong)

/-- 'laws.FnExactMessageOK': WHATEVER THE INPUT: true; the input reads as it did. -/
def fnExactMessageOKSpec : ChangeSpec := { name := "fnExactMessageOK", fn := fun _ => fun
  | [d] => { results := [.lit (.bool true)], args := [d] }
  | _ => none }
def fnExactMessageOKRow : OpenClaim := { program := "ytngeekijgphnjaa", sum := "f89da371cf2382e8b28d54f70e4b4d9f235bd2ab25ca1d2ac787572e68749e19", func := "loop.example/g00292/laws.FnExactMessageOK", spec := "fnExactMessageOK", apart := false }
def FnExactMessageOKSaid : Prop := fnExactMessageOKRow.holds Try.pinned (OpenSpec.ofChange fnExactMessageOKSpec)

/-- ITS FALSE NEIGHBOUR: 'it returns false'. Refute it at one input. -/
def fnExactMessageOKWrong : ChangeSpec := { name := "fnExactMessageOK", fn := fun _ => fun
  | [d] => { results := [.lit (.bool false)], args := [d] }
  | _ => none }
def FnExactMessageOKWrongFalsely : Prop := fnExactMessageOKRow.holds Try.pinned (OpenSpec.ofChange fnExactMessageOKWrong)

/-- 'laws.FnExactRequestOK': WHATEVER THE INPUT: true; the input reads as it did. -/
def fnExactRequestOKSpec : ChangeSpec := { name := "fnExactRequestOK", fn := fun _ => fun
  | [d] => { results := [.lit (.bool true)], args := [d] }
  | _ => none }
def fnExactRequestOKRow : OpenClaim := { program := "ytngeekijgphnjaa", sum := "f89da371cf2382e8b28d54f70e4b4d9f235bd2ab25ca1d2ac787572e68749e19", func := "loop.example/g00292/laws.FnExactRequestOK", spec := "fnExactRequestOK", apart := false }
def FnExactRequestOKSaid : Prop := fnExactRequestOKRow.holds Try.pinned (OpenSpec.ofChange fnExactRequestOKSpec)

/-- ITS FALSE NEIGHBOUR: 'it returns false'. Refute it at one input. -/
def fnExactRequestOKWrong : ChangeSpec := { name := "fnExactRequestOK", fn := fun _ => fun
  | [d] => { results := [.lit (.bool false)], args := [d] }
  | _ => none }
def FnExactRequestOKWrongFalsely : Prop := fnExactRequestOKRow.holds Try.pinned (OpenSpec.ofChange fnExactRequestOKWrong)

/- THE SECOND FORM. 'bulk': how many values and letters a reading holds, each counted each time it is reached (what is shared counts as often as it is met; a slice's spare places count too). A statement '..UptoSaid' is the law's where the arguments, and the package variables that the reading takes, are together of bulk at most 1048576: NARROWER than '..Said'. Prove '..Said' where nothing that the law and all that it calls make is longer than what came in: it says more and counts as full. Else prove '..UptoSaid'. A law counts once. -/
mutual
def uptoBulk {H : Type} : DataW H → Nat
  | .lit (.string bytes) => bytes.length + 1
  | .lit _ => 1
  | .nil => 1
  | .ptr d => uptoBulk d + 1
  | .slice elems spare => uptoBulkAll elems + uptoBulkAll spare + 1
  | .agg parts => uptoBulkAll parts + 1
  | .iface _ d => uptoBulk d + 1
  | .map entries => uptoBulkEntries entries + 1
  | .held _ => 1
def uptoBulkAll {H : Type} : List (DataW H) → Nat
  | [] => 0
  | d :: r => uptoBulk d + uptoBulkAll r
def uptoBulkEntries {H : Type} : List (Lit × DataW H) → Nat
  | [] => 0
  | x :: r => uptoBulkEntry x + uptoBulkEntries r
def uptoBulkEntry {H : Type} : Lit × DataW H → Nat
  | (.string bytes, d) => bytes.length + uptoBulk d + 1
  | (_, d) => uptoBulk d + 1
 end
def uptoSmall : (H : Type) → List (DataW H) → Bool := fun _ ds => decide (uptoBulkAll ds ≤ 1048576)
def OpenSpec.upto (s : _root_.Go.ChangeSpec) : _root_.Go.OpenSpec := { _root_.Go.OpenSpec.ofChange s with cond := some uptoSmall }

/-- 'laws.FnExactConstants', WHERE WHAT IT READS IS OF BULK AT MOST 1048576: true; the input reads as it did. -/
def fnExactConstantsUptoRow : OpenClaim := { program := "ytngeekijgphnjaa", sum := "f89da371cf2382e8b28d54f70e4b4d9f235bd2ab25ca1d2ac787572e68749e19", func := "loop.example/g00292/laws.FnExactConstants", spec := "fnExactConstants", apart := false, narrowed := true }
def FnExactConstantsUptoSaid : Prop := fnExactConstantsUptoRow.holds Try.pinned (OpenSpec.upto fnExactConstantsSpec)

/-- 'laws.FnExactFaultsOf', WHERE WHAT IT READS IS OF BULK AT MOST 1048576: true; the input reads as it did. -/
def fnExactFaultsOfUptoRow : OpenClaim := { program := "ytngeekijgphnjaa", sum := "f89da371cf2382e8b28d54f70e4b4d9f235bd2ab25ca1d2ac787572e68749e19", func := "loop.example/g00292/laws.FnExactFaultsOf", spec := "fnExactFaultsOf", apart := false, narrowed := true }
def FnExactFaultsOfUptoSaid : Prop := fnExactFaultsOfUptoRow.holds Try.pinned (OpenSpec.upto fnExactFaultsOfSpec)

/-- 'laws.FnExactAddTime', WHERE WHAT IT READS IS OF BULK AT MOST 1048576: true; the input reads as it did. -/
def fnExactAddTimeUptoRow : OpenClaim := { program := "ytngeekijgphnjaa", sum := "f89da371cf2382e8b28d54f70e4b4d9f235bd2ab25ca1d2ac787572e68749e19", func := "loop.example/g00292/laws.FnExactAddTime", spec := "fnExactAddTime", apart := false, narrowed := true }
def FnExactAddTimeUptoSaid : Prop := fnExactAddTimeUptoRow.holds Try.pinned (OpenSpec.upto fnExactAddTimeSpec)

/-- 'laws.FnAddTime', WHERE WHAT IT READS IS OF BULK AT MOST 1048576: true; the input reads as it did. -/
def fnAddTimeUptoRow : OpenClaim := { program := "ytngeekijgphnjaa", sum := "f89da371cf2382e8b28d54f70e4b4d9f235bd2ab25ca1d2ac787572e68749e19", func := "loop.example/g00292/laws.FnAddTime", spec := "fnAddTime", apart := false, narrowed := true }
def FnAddTimeUptoSaid : Prop := fnAddTimeUptoRow.holds Try.pinned (OpenSpec.upto fnAddTimeSpec)

/-- 'laws.FnExactCodeWord', WHERE WHAT IT READS IS OF BULK AT MOST 1048576: true; the input reads as it did. -/
def fnExactCodeWordUptoRow : OpenClaim := { program := "ytngeekijgphnjaa", sum := "f89da371cf2382e8b28d54f70e4b4d9f235bd2ab25ca1d2ac787572e68749e19", func := "loop.example/g00292/laws.FnExactCodeWord", spec := "fnExactCodeWord", apart := false, narrowed := true }
def FnExactCodeWordUptoSaid : Prop := fnExactCodeWordUptoRow.holds Try.pinned (OpenSpec.upto fnExactCodeWordSpec)

/-- 'laws.FnExactKeyChainOK', WHERE WHAT IT READS IS OF BULK AT MOST 1048576: true; the input reads as it did. -/
def fnExactKeyChainOKUptoRow : OpenClaim := { program := "ytngeekijgphnjaa", sum := "f89da371cf2382e8b28d54f70e4b4d9f235bd2ab25ca1d2ac787572e68749e19", func := "loop.example/g00292/laws.FnExactKeyChainOK", spec := "fnExactKeyChainOK", apart := false, narrowed := true }
def FnExactKeyChainOKUptoSaid : Prop := fnExactKeyChainOKUptoRow.holds Try.pinned (OpenSpec.upto fnExactKeyChainOKSpec)

/-- 'laws.FnExactPrimaryOf', WHERE WHAT IT READS IS OF BULK AT MOST 1048576: true; the input reads as it did. -/
def fnExactPrimaryOfUptoRow : OpenClaim := { program := "ytngeekijgphnjaa", sum := "f89da371cf2382e8b28d54f70e4b4d9f235bd2ab25ca1d2ac787572e68749e19", func := "loop.example/g00292/laws.FnExactPrimaryOf", spec := "fnExactPrimaryOf", apart := false, narrowed := true }
def FnExactPrimaryOfUptoSaid : Prop := fnExactPrimaryOfUptoRow.holds Try.pinned (OpenSpec.upto fnExactPrimaryOfSpec)

/-- 'laws.FnExactQuorumOf', WHERE WHAT IT READS IS OF BULK AT MOST 1048576: true; the input reads as it did. -/
def fnExactQuorumOfUptoRow : OpenClaim := { program := "ytngeekijgphnjaa", sum := "f89da371cf2382e8b28d54f70e4b4d9f235bd2ab25ca1d2ac787572e68749e19", func := "loop.example/g00292/laws.FnExactQuorumOf", spec := "fnExactQuorumOf", apart := false, narrowed := true }
def FnExactQuorumOfUptoSaid : Prop := fnExactQuorumOfUptoRow.holds Try.pinned (OpenSpec.upto fnExactQuorumOfSpec)

/-- 'laws.FnExactNameOK', WHERE WHAT IT READS IS OF BULK AT MOST 1048576: true; the input reads as it did. -/
def fnExactNameOKUptoRow : OpenClaim := { program := "ytngeekijgphnjaa", sum := "f89da371cf2382e8b28d54f70e4b4d9f235bd2ab25ca1d2ac787572e68749e19", func := "loop.example/g00292/laws.FnExactNameOK", spec := "fnExactNameOK", apart := false, narrowed := true }
def FnExactNameOKUptoSaid : Prop := fnExactNameOKUptoRow.holds Try.pinned (OpenSpec.upto fnExactNameOKSpec)

/-- 'laws.FnQuorums', WHERE WHAT IT READS IS OF BULK AT MOST 1048576: true; the input reads as it did. -/
def fnQuorumsUptoRow : OpenClaim := { program := "ytngeekijgphnjaa", sum := "f89da371cf2382e8b28d54f70e4b4d9f235bd2ab25ca1d2ac787572e68749e19", func := "loop.example/g00292/laws.FnQuorums", spec := "fnQuorums", apart := false, narrowed := true }
def FnQuorumsUptoSaid : Prop := fnQuorumsUptoRow.holds Try.pinned (OpenSpec.upto fnQuorumsSpec)

/-- 'laws.FnExactMessageOK', WHERE WHAT IT READS IS OF BULK AT MOST 1048576: true; the input reads as it did. -/
def fnExactMessageOKUptoRow : OpenClaim := { program := "ytngeekijgphnjaa", sum := "f89da371cf2382e8b28d54f70e4b4d9f235bd2ab25ca1d2ac787572e68749e19", func := "loop.example/g00292/laws.FnExactMessageOK", spec := "fnExactMessageOK", apart := false, narrowed := true }
def FnExactMessageOKUptoSaid : Prop := fnExactMessageOKUptoRow.holds Try.pinned (OpenSpec.upto fnExactMessageOKSpec)

/-- 'laws.FnExactRequestOK', WHERE WHAT IT READS IS OF BULK AT MOST 1048576: true; the input reads as it did. -/
def fnExactRequestOKUptoRow : OpenClaim := { program := "ytngeekijgphnjaa", sum := "f89da371cf2382e8b28d54f70e4b4d9f235bd2ab25ca1d2ac787572e68749e19", func := "loop.example/g00292/laws.FnExactRequestOK", spec := "fnExactRequestOK", apart := false, narrowed := true }
def FnExactRequestOKUptoSaid : Prop := fnExactRequestOKUptoRow.holds Try.pinned (OpenSpec.upto fnExactRequestOKSpec)

end Rows
end Go.Proofs.Ytngeekijgphnjaa
