/-
  NARROWER THAN 'FOR EVERY INPUT', by the rows' own cells (each row's printed sentence says how): FnExactHash: laid · FnExactBodyDigest: laid · FnExactMessageBits: laid · FnExactReadingMac: laid · FnExactSecretAt: laid · FnExactOneTimeKey: laid · FnExactMessageSigned: laid · FnExactSignMessage: laid · FnExactChainRoot: laid · FnExactCheckSignature: laid · FnExactSignAt: laid · FnExactSignNext: laid.
  DERIVED. THE GIVEN ROWS OF THIS SEAT. 12 by the template 'for every input the law returns true; each argument reads behind the call as it read before'; 0 by the template 'total and deterministic' (their statements: YtgknilganicofaaDoorTotals.lean).
  GIVEN WITH THE SEED: the statements are not yours to turn. If you find one false, say at which input.
  Laid BY PROGRAM, IN A SANDBOX (cutbox-rows.mjs): the forced cells as the released guide's own fill.sh prints them over the translation 5d5dd601d97e9bd1… (all of the seat's roots in one cut). By AI agents, Wed Nov 11 2026. No macro, syntax, notation, axiom, sorry.
-/
import Derived.Test.YtgknilganicofaaDoorChecked
import GoSem.Claim
import GoSem.ClaimJoined
import GoSem.ClaimMapViews
import Derived.JoinedTies
import Derived.KernelRfl
namespace Go.Proofs.YtgknilganicofaaDoor
/- THE CELL 'sum', in the pinned program and in every row, IS THE sha256 OF THE DUMP (.gsa) THAT YtgknilganicofaaDoorProg.lean LOADS. Nothing in Lean hashes anything: it is a label: what it is worth is what the hold of that sum in a sandbox is worth. -/
noncomputable def Tryd.pinned : Pinned := { name := "ytgknilganicofaadoor", sum := "5d5dd601d97e9bd1199dec76e14bb0bfb9717633a25c68372d1b9d20303e017a", checked := Tryd.checked }
namespace Rows
def none {H : Type} : Left H := { results := [], args := [] }

/- WHAT THE LISTED PACKAGE-LEVEL VARIABLES READ AS WHEN THE CALL BEGINS. Each datum BY PROGRAM (the guide's laid-datum.mjs) off the statement by which the dump's own 'gosem.cut.vars' lays the variable. In a bare row this is a premise. The card (YtgknilganicofaaDoorCards.lean) ties it to the program's text. -/
def laid_loop_example_g00292_impl_roundWords {H : Type} : DataW H := .agg [.lit (.int .u32 1116352408), .lit (.int .u32 1899447441), .lit (.int .u32 3049323471), .lit (.int .u32 3921009573), .lit (.int .u32 961987163), .lit (.int .u32 1508970993), .lit (.int .u32 2453635748), .lit (.int .u32 2870763221), .lit (.int .u32 3624381080), .lit (.int .u32 310598401), .lit (.int .u32 607225278), .lit (.int .u32 1426881987), .lit (.int .u32 1925078388), .lit (.int .u32 2162078206), .lit (.int .u32 2614888103), .lit (.int .u32 3248222580), .lit (.int .u32 3835390401), .lit (.int .u32 4022224774), .lit (.int .u32 264347078), .lit (.int .u32 604807628), .lit (.int .u32 770255983), .lit (.int .u32 1249150122), .lit (.int .u32 1555081692), .lit (.int .u32 1996064986), .lit (.int .u32 2554220882), .lit (.int .u32 2821834349), .lit (.int .u32 2952996808), .lit (.int .u32 3210313671), .lit (.int .u32 3336571891), .lit (.int .u32 3584528711), .lit (.int .u32 113926993), .lit (.int .u32 338241895), .lit (.int .u32 666307205), .lit (.int .u32 773529912), .lit (.int .u32 1294757372), .lit (.int .u32 1396182291), .lit (.int .u32 1695183700), .lit (.int .u32 1986661051), .lit (.int .u32 2177026350), .lit (.int .u32 2456956037), .lit (.int .u32 2730485921), .lit (.int .u32 2820302411), .lit (.int .u32 3259730800), .lit (.int .u32 3345764771), .lit (.int .u32 3516065817), .lit (.int .u32 3600352804), .lit (.int .u32 4094571909), .lit (.int .u32 275423344), .lit (.int .u32 430227734), .lit (.int .u32 506948616), .lit (.int .u32 659060556), .lit (.int .u32 883997877), .lit (.int .u32 958139571), .lit (.int .u32 1322822218), .lit (.int .u32 1537002063), .lit (.int .u32 1747873779), .lit (.int .u32 1955562222), .lit (.int .u32 2024104815), .lit (.int .u32 2227730452), .lit (.int .u32 2361852424), .lit (.int .u32 2428436474), .lit (.int .u32 2756734187), .lit (.int .u32 3204031479), .lit (.int .u32 3329325298)]

/-- 'laws.FnExactHash': WHATEVER THE INPUT: true; the input reads as it did. -/
def fnExactHashSpec : ChangeSpec := { name := "fnExactHash", vars := ["loop.example/g00292/impl.roundWords"], fn := fun _ => fun
  | [d, g1] => { results := [.lit (.bool true)], args := [d], vars := [g1] }
  | _ => none }
def fnExactHashRow : OpenClaim := { program := "ytgknilganicofaadoor", sum := "5d5dd601d97e9bd1199dec76e14bb0bfb9717633a25c68372d1b9d20303e017a", func := "loop.example/g00292/laws.FnExactHash", spec := "fnExactHash", named := ["loop.example/g00292/impl.roundWords"], apart := false, laid := [("loop.example/g00292/impl.roundWords", laid_loop_example_g00292_impl_roundWords)] }
def FnExactHashSaid : Prop := fnExactHashRow.holds Tryd.pinned (OpenSpec.ofChange fnExactHashSpec)

/-- ITS FALSE NEIGHBOUR: 'it returns false'. Refute it at one input. -/
def fnExactHashWrong : ChangeSpec := { name := "fnExactHash", vars := ["loop.example/g00292/impl.roundWords"], fn := fun _ => fun
  | [d, g1] => { results := [.lit (.bool false)], args := [d], vars := [g1] }
  | _ => none }
def FnExactHashWrongFalsely : Prop := fnExactHashRow.holds Tryd.pinned (OpenSpec.ofChange fnExactHashWrong)

/-- 'laws.FnExactBodyDigest': WHATEVER THE INPUT: true; the input reads as it did. -/
def fnExactBodyDigestSpec : ChangeSpec := { name := "fnExactBodyDigest", vars := ["loop.example/g00292/impl.roundWords"], fn := fun _ => fun
  | [d, g1] => { results := [.lit (.bool true)], args := [d], vars := [g1] }
  | _ => none }
def fnExactBodyDigestRow : OpenClaim := { program := "ytgknilganicofaadoor", sum := "5d5dd601d97e9bd1199dec76e14bb0bfb9717633a25c68372d1b9d20303e017a", func := "loop.example/g00292/laws.FnExactBodyDigest", spec := "fnExactBodyDigest", named := ["loop.example/g00292/impl.roundWords"], apart := false, laid := [("loop.example/g00292/impl.roundWords", laid_loop_example_g00292_impl_roundWords)] }
def FnExactBodyDigestSaid : Prop := fnExactBodyDigestRow.holds Tryd.pinned (OpenSpec.ofChange fnExactBodyDigestSpec)

/-- ITS FALSE NEIGHBOUR: 'it returns false'. Refute it at one input. -/
def fnExactBodyDigestWrong : ChangeSpec := { name := "fnExactBodyDigest", vars := ["loop.example/g00292/impl.roundWords"], fn := fun _ => fun
  | [d, g1] => { results := [.lit (.bool false)], args := [d], vars := [g1] }
  | _ => none }
def FnExactBodyDigestWrongFalsely : Prop := fnExactBodyDigestRow.holds Tryd.pinned (OpenSpec.ofChange fnExactBodyDigestWrong)

/-- 'laws.FnExactMessageBits': WHATEVER THE INPUT: true; the input reads as it did. -/
def fnExactMessageBitsSpec : ChangeSpec := { name := "fnExactMessageBits", vars := ["loop.example/g00292/impl.roundWords"], fn := fun _ => fun
  | [d, g1] => { results := [.lit (.bool true)], args := [d], vars := [g1] }
  | _ => none }
def fnExactMessageBitsRow : OpenClaim := { program := "ytgknilganicofaadoor", sum := "5d5dd601d97e9bd1199dec76e14bb0bfb9717633a25c68372d1b9d20303e017a", func := "loop.example/g00292/laws.FnExactMessageBits", spec := "fnExactMessageBits", named := ["loop.example/g00292/impl.roundWords"], apart := false, laid := [("loop.example/g00292/impl.roundWords", laid_loop_example_g00292_impl_roundWords)] }
def FnExactMessageBitsSaid : Prop := fnExactMessageBitsRow.holds Tryd.pinned (OpenSpec.ofChange fnExactMessageBitsSpec)

/-- ITS FALSE NEIGHBOUR: 'it returns false'. Refute it at one input. -/
def fnExactMessageBitsWrong : ChangeSpec := { name := "fnExactMessageBits", vars := ["loop.example/g00292/impl.roundWords"], fn := fun _ => fun
  | [d, g1] => { results := [.lit (.bool false)], args := [d], vars := [g1] }
  | _ => none }
def FnExactMessageBitsWrongFalsely : Prop := fnExactMessageBitsRow.holds Tryd.pinned (OpenSpec.ofChange fnExactMessageBitsWrong)

/-- 'laws.FnExactReadingMac': WHATEVER THE INPUT: true; the input reads as it did. -/
def fnExactReadingMacSpec : ChangeSpec := { name := "fnExactReadingMac", vars := ["loop.example/g00292/impl.roundWords"], fn := fun _ => fun
  | [d1, d2, g1] => { results := [.lit (.bool true)], args := [d1, d2], vars := [g1] }
  | _ => none }
def fnExactReadingMacRow : OpenClaim := { program := "ytgknilganicofaadoor", sum := "5d5dd601d97e9bd1199dec76e14bb0bfb9717633a25c68372d1b9d20303e017a", func := "loop.example/g00292/laws.FnExactReadingMac", spec := "fnExactReadingMac", named := ["loop.example/g00292/impl.roundWords"], apart := false, laid := [("loop.example/g00292/impl.roundWords", laid_loop_example_g00292_impl_roundWords)] }
def FnExactReadingMacSaid : Prop := fnExactReadingMacRow.holds Tryd.pinned (OpenSpec.ofChange fnExactReadingMacSpec)

/-- ITS FALSE NEIGHBOUR: 'it returns false'. Refute it at one input. -/
def fnExactReadingMacWrong : ChangeSpec := { name := "fnExactReadingMac", vars := ["loop.example/g00292/impl.roundWords"], fn := fun _ => fun
  | [d1, d2, g1] => { results := [.lit (.bool false)], args := [d1, d2], vars := [g1] }
  | _ => none }
def FnExactReadingMacWrongFalsely : Prop := fnExactReadingMacRow.holds Tryd.pinned (OpenSpec.ofChange fnExactReadingMacWrong)

/-- 'laws.FnExactSecretAt': WHATEVER THE INPUT: true; the input reads as it did. -/
def fnExactSecretAtSpec : ChangeSpec := { name := "fnExactSecretAt", vars := ["loop.example/g00292/impl.roundWords"], fn := fun _ => fun
  | [d1, d2, d3, d4, g1] => { results := [.lit (.bool true)], args := [d1, d2, d3, d4], vars := [g1] }
  | _ => none }
def fnExactSecretAtRow : OpenClaim := { program := "ytgknilganicofaadoor", sum := "5d5dd601d97e9bd1199dec76e14bb0bfb9717633a25c68372d1b9d20303e017a", func := "loop.example/g00292/laws.FnExactSecretAt", spec := "fnExactSecretAt", unfollowed := true, recurses := true, named := ["loop.example/g00292/impl.roundWords"], apart := false, laid := [("loop.example/g00292/impl.roundWords", laid_loop_example_g00292_impl_roundWords)] }
def FnExactSecretAtSaid : Prop := fnExactSecretAtRow.holds Tryd.pinned (OpenSpec.ofChange fnExactSecretAtSpec)

/-- ITS FALSE NEIGHBOUR: 'it returns false'. Refute it at one input. -/
def fnExactSecretAtWrong : ChangeSpec := { name := "fnExactSecretAt", vars := ["loop.example/g00292/impl.roundWords"], fn := fun _ => fun
  | [d1, d2, d3, d4, g1] => { results := [.lit (.bool false)], args := [d1, d2, d3, d4], vars := [g1] }
  | _ => none }
def FnExactSecretAtWrongFalsely : Prop := fnExactSecretAtRow.holds Tryd.pinned (OpenSpec.ofChange fnExactSecretAtWrong)

/-- 'laws.FnExactOneTimeKey': WHATEVER THE INPUT: true; the input reads as it did. -/
def fnExactOneTimeKeySpec : ChangeSpec := { name := "fnExactOneTimeKey", vars := ["loop.example/g00292/impl.roundWords"], fn := fun _ => fun
  | [d1, d2, g1] => { results := [.lit (.bool true)], args := [d1, d2], vars := [g1] }
  | _ => none }
def fnExactOneTimeKeyRow : OpenClaim := { program := "ytgknilganicofaadoor", sum := "5d5dd601d97e9bd1199dec76e14bb0bfb9717633a25c68372d1b9d20303e017a", func := "loop.example/g00292/laws.FnExactOneTimeKey", spec := "fnExactOneTimeKey", unfollowed := true, recurses := true, named := ["loop.example/g00292/impl.roundWords"], apart := false, laid := [("loop.example/g00292/impl.roundWords", laid_loop_example_g00292_impl_roundWords)] }
def FnExactOneTimeKeySaid : Prop := fnExactOneTimeKeyRow.holds Tryd.pinned (OpenSpec.ofChange fnExactOneTimeKeySpec)

/-- ITS FALSE NEIGHBOUR: 'it returns false'. Refute it at one input. -/
def fnExactOneTimeKeyWrong : ChangeSpec := { name := "fnExactOneTimeKey", vars := ["loop.example/g00292/impl.roundWords"], fn := fun _ => fun
  | [d1, d2, g1] => { results := [.lit (.bool false)], args := [d1, d2], vars := [g1] }
  | _ => none }
def FnExactOneTimeKeyWrongFalsely : Prop := fnExactOneTimeKeyRow.holds Tryd.pinned (OpenSpec.ofChange fnExactOneTimeKeyWrong)

/-- 'laws.FnExactMessageSigned': WHATEVER THE INPUT: true; the input reads as it did. -/
def fnExactMessageSignedSpec : ChangeSpec := { name := "fnExactMessageSigned", vars := ["loop.example/g00292/impl.roundWords"], fn := fun _ => fun
  | [d1, d2, g1] => { results := [.lit (.bool true)], args := [d1, d2], vars := [g1] }
  | _ => none }
def fnExactMessageSignedRow : OpenClaim := { program := "ytgknilganicofaadoor", sum := "5d5dd601d97e9bd1199dec76e14bb0bfb9717633a25c68372d1b9d20303e017a", func := "loop.example/g00292/laws.FnExactMessageSigned", spec := "fnExactMessageSigned", named := ["loop.example/g00292/impl.roundWords"], apart := false, laid := [("loop.example/g00292/impl.roundWords", laid_loop_example_g00292_impl_roundWords)] }
def FnExactMessageSignedSaid : Prop := fnExactMessageSignedRow.holds Tryd.pinned (OpenSpec.ofChange fnExactMessageSignedSpec)

/-- ITS FALSE NEIGHBOUR: 'it returns false'. Refute it at one input. -/
def fnExactMessageSignedWrong : ChangeSpec := { name := "fnExactMessageSigned", vars := ["loop.example/g00292/impl.roundWords"], fn := fun _ => fun
  | [d1, d2, g1] => { results := [.lit (.bool false)], args := [d1, d2], vars := [g1] }
  | _ => none }
def FnExactMessageSignedWrongFalsely : Prop := fnExactMessageSignedRow.holds Tryd.pinned (OpenSpec.ofChange fnExactMessageSignedWrong)

/-- 'laws.FnExactSignMessage': WHATEVER THE INPUT: true; the input reads as it did. -/
def fnExactSignMessageSpec : ChangeSpec := { name := "fnExactSignMessage", vars := ["loop.example/g00292/impl.roundWords"], fn := fun _ => fun
  | [d1, d2, g1] => { results := [.lit (.bool true)], args := [d1, d2], vars := [g1] }
  | _ => none }
def fnExactSignMessageRow : OpenClaim := { program := "ytgknilganicofaadoor", sum := "5d5dd601d97e9bd1199dec76e14bb0bfb9717633a25c68372d1b9d20303e017a", func := "loop.example/g00292/laws.FnExactSignMessage", spec := "fnExactSignMessage", named := ["loop.example/g00292/impl.roundWords"], apart := false, laid := [("loop.example/g00292/impl.roundWords", laid_loop_example_g00292_impl_roundWords)] }
def FnExactSignMessageSaid : Prop := fnExactSignMessageRow.holds Tryd.pinned (OpenSpec.ofChange fnExactSignMessageSpec)

/-- ITS FALSE NEIGHBOUR: 'it returns false'. Refute it at one input. -/
def fnExactSignMessageWrong : ChangeSpec := { name := "fnExactSignMessage", vars := ["loop.example/g00292/impl.roundWords"], fn := fun _ => fun
  | [d1, d2, g1] => { results := [.lit (.bool false)], args := [d1, d2], vars := [g1] }
  | _ => none }
def FnExactSignMessageWrongFalsely : Prop := fnExactSignMessageRow.holds Tryd.pinned (OpenSpec.ofChange fnExactSignMessageWrong)

/-- 'laws.FnExactChainRoot': WHATEVER THE INPUT: true; the input reads as it did. -/
def fnExactChainRootSpec : ChangeSpec := { name := "fnExactChainRoot", vars := ["loop.example/g00292/impl.roundWords"], fn := fun _ => fun
  | [d, g1] => { results := [.lit (.bool true)], args := [d], vars := [g1] }
  | _ => none }
def fnExactChainRootRow : OpenClaim := { program := "ytgknilganicofaadoor", sum := "5d5dd601d97e9bd1199dec76e14bb0bfb9717633a25c68372d1b9d20303e017a", func := "loop.example/g00292/laws.FnExactChainRoot", spec := "fnExactChainRoot", unfollowed := true, recurses := true, named := ["loop.example/g00292/impl.roundWords"], apart := false, laid := [("loop.example/g00292/impl.roundWords", laid_loop_example_g00292_impl_roundWords)] }
def FnExactChainRootSaid : Prop := fnExactChainRootRow.holds Tryd.pinned (OpenSpec.ofChange fnExactChainRootSpec)

/-- ITS FALSE NEIGHBOUR: 'it returns false'. Refute it at one input. -/
def fnExactChainRootWrong : ChangeSpec := { name := "fnExactChainRoot", vars := ["loop.example/g00292/impl.roundWords"], fn := fun _ => fun
  | [d, g1] => { results := [.lit (.bool false)], args := [d], vars := [g1] }
  | _ => none }
def FnExactChainRootWrongFalsely : Prop := fnExactChainRootRow.holds Tryd.pinned (OpenSpec.ofChange fnExactChainRootWrong)

/-- 'laws.FnExactCheckSignature': WHATEVER THE INPUT: true; the input reads as it did. -/
def fnExactCheckSignatureSpec : ChangeSpec := { name := "fnExactCheckSignature", vars := ["loop.example/g00292/impl.roundWords"], fn := fun _ => fun
  | [d1, d2, d3, g1] => { results := [.lit (.bool true)], args := [d1, d2, d3], vars := [g1] }
  | _ => none }
def fnExactCheckSignatureRow : OpenClaim := { program := "ytgknilganicofaadoor", sum := "5d5dd601d97e9bd1199dec76e14bb0bfb9717633a25c68372d1b9d20303e017a", func := "loop.example/g00292/laws.FnExactCheckSignature", spec := "fnExactCheckSignature", unfollowed := true, recurses := true, named := ["loop.example/g00292/impl.roundWords"], apart := false, laid := [("loop.example/g00292/impl.roundWords", laid_loop_example_g00292_impl_roundWords)] }
def FnExactCheckSignatureSaid : Prop := fnExactCheckSignatureRow.holds Tryd.pinned (OpenSpec.ofChange fnExactCheckSignatureSpec)

/-- ITS FALSE NEIGHBOUR: 'it returns false'. Refute it at one input. -/
def fnExactCheckSignatureWrong : ChangeSpec := { name := "fnExactCheckSignature", vars := ["loop.example/g00292/impl.roundWords"], fn := fun _ => fun
  | [d1, d2, d3, g1] => { results := [.lit (.bool false)], args := [d1, d2, d3], vars := [g1] }
  | _ => none }
def FnExactCheckSignatureWrongFalsely : Prop := fnExactCheckSignatureRow.holds Tryd.pinned (OpenSpec.ofChange fnExactCheckSignatureWrong)

/-- 'laws.FnExactSignAt': WHATEVER THE INPUT: true; the input reads as it did. -/
def fnExactSignAtSpec : ChangeSpec := { name := "fnExactSignAt", vars := ["loop.example/g00292/impl.roundWords"], fn := fun _ => fun
  | [d1, d2, d3, g1] => { results := [.lit (.bool true)], args := [d1, d2, d3], vars := [g1] }
  | _ => none }
def fnExactSignAtRow : OpenClaim := { program := "ytgknilganicofaadoor", sum := "5d5dd601d97e9bd1199dec76e14bb0bfb9717633a25c68372d1b9d20303e017a", func := "loop.example/g00292/laws.FnExactSignAt", spec := "fnExactSignAt", unfollowed := true, recurses := true, named := ["loop.example/g00292/impl.roundWords"], apart := false, laid := [("loop.example/g00292/impl.roundWords", laid_loop_example_g00292_impl_roundWords)] }
def FnExactSignAtSaid : Prop := fnExactSignAtRow.holds Tryd.pinned (OpenSpec.ofChange fnExactSignAtSpec)

/-- ITS FALSE NEIGHBOUR: 'it returns false'. Refute it at one input. -/
def fnExactSignAtWrong : ChangeSpec := { name := "fnExactSignAt", vars := ["loop.example/g00292/impl.roundWords"], fn := fun _ => fun
  | [d1, d2, d3, g1] => { results := [.lit (.bool false)], args := [d1, d2, d3], vars := [g1] }
  | _ => none }
def FnExactSignAtWrongFalsely : Prop := fnExactSignAtRow.holds Tryd.pinned (OpenSpec.ofChange fnExactSignAtWrong)

/-- 'laws.FnExactSignNext': WHATEVER THE INPUT: true; the input reads as it did. -/
def fnExactSignNextSpec : ChangeSpec := { name := "fnExactSignNext", vars := ["loop.example/g00292/impl.roundWords"], fn := fun _ => fun
  | [d1, d2, g1] => { results := [.lit (.bool true)], args := [d1, d2], vars := [g1] }
  | _ => none }
def fnExactSignNextRow : OpenClaim := { program := "ytgknilganicofaadoor", sum := "5d5dd601d97e9bd1199dec76e14bb0bfb9717633a25c68372d1b9d20303e017a", func := "loop.example/g00292/laws.FnExactSignNext", spec := "fnExactSignNext", named := ["loop.example/g00292/impl.roundWords"], apart := false, laid := [("loop.example/g00292/impl.roundWords", laid_loop_example_g00292_impl_roundWords)] }
def FnExactSignNextSaid : Prop := fnExactSignNextRow.holds Tryd.pinned (OpenSpec.ofChange fnExactSignNextSpec)

/-- ITS FALSE NEIGHBOUR: 'it returns false'. Refute it at one input. -/
def fnExactSignNextWrong : ChangeSpec := { name := "fnExactSignNext", vars := ["loop.example/g00292/impl.roundWords"], fn := fun _ => fun
  | [d1, d2, g1] => { results := [.lit (.bool false)], args := [d1, d2], vars := [g1] }
  | _ => none }
def FnExactSignNextWrongFalsely : Prop := fnExactSignNextRow.holds Tryd.pinned (OpenSpec.ofChange fnExactSignNextWrong)

/- THE SECOND FORM. 'bulk': how many values and letters a reading holds, each counted each time it is reached (what is shared counts as often as it is met; a slice's spare places count too). A statement '..UptoSaid' is the law's where the arguments, and the package variables that the reading takes, are together of bulk at most 1048576: NARROWER than '..Said'. Prove '..Said' where nothing that the law and all that it calls make is longer than what came in: it says more and counts as full. Else prove '..UptoSaid'. A law counts once. -/
mutual
def uptoBulk {H : Type} : DataW H → Nat
  | .lit (.string bytes) => bytes.length + 1
  | .lit _ => 1
  | .nil => 1
  | .ptr d => uptoBulk d + 1
  | .slice elems spare => uptoBulkAll elems + uptoBulkAll spare + 1
  | .agg parts => uptoBulkAll parts + 1
  | .iface _ d => uptoBulk d + 1
  | .map entries => uptoBulkEntries entries + 1
  | .held _ => 1
def uptoBulkAll {H : Type} : List (DataW H) → Nat
  | [] => 0
  | d :: r => uptoBulk d + uptoBulkAll r
def uptoBulkEntries {H : Type} : List (Lit × DataW H) → Nat
  | [] => 0
  | x :: r => uptoBulkEntry x + uptoBulkEntries r
def uptoBulkEntry {H : Type} : Lit × DataW H → Nat
  | (.string bytes, d) => bytes.length + uptoBulk d + 1
  | (_, d) => uptoBulk d + 1
 end
def uptoSmall : (H : Type) → List (DataW H) → Bool := fun _ ds => decide (uptoBulkAll ds ≤ 1048576)
def OpenSpec.upto (s : _root_.Go.ChangeSpec) : _root_.Go.OpenSpec := { _root_.Go.OpenSpec.ofChange s with cond := some uptoSmall }

/-- 'laws.FnExactHash', WHERE WHAT IT READS IS OF BULK AT MOST 1048576: true; the input reads as it did. -/
def fnExactHashUptoRow : OpenClaim := { program := "ytgknilganicofaadoor", sum := "5d5dd601d97e9bd1199dec76e14bb0bfb9717633a25c68372d1b9d20303e017a", func := "loop.example/g00292/laws.FnExactHash", spec := "fnExactHash", named := ["loop.example/g00292/impl.roundWords"], apart := false, laid := [("loop.example/g00292/impl.roundWords", laid_loop_example_g00292_impl_roundWords)], narrowed := true }
def FnExactHashUptoSaid : Prop := fnExactHashUptoRow.holds Tryd.pinned (OpenSpec.upto fnExactHashSpec)

/-- 'laws.FnExactBodyDigest', WHERE WHAT IT READS IS OF BULK AT MOST 1048576: true; the input reads as it did. -/
def fnExactBodyDigestUptoRow : OpenClaim := { program := "ytgknilganicofaadoor", sum := "5d5dd601d97e9bd1199dec76e14bb0bfb9717633a25c68372d1b9d20303e017a", func := "loop.example/g00292/laws.FnExactBodyDigest", spec := "fnExactBodyDigest", named := ["loop.example/g00292/impl.roundWords"], apart := false, laid := [("loop.example/g00292/impl.roundWords", laid_loop_example_g00292_impl_roundWords)], narrowed := true }
def FnExactBodyDigestUptoSaid : Prop := fnExactBodyDigestUptoRow.holds Tryd.pinned (OpenSpec.upto fnExactBodyDigestSpec)

/-- 'laws.FnExactMessageBits', WHERE WHAT IT READS IS OF BULK AT MOST 1048576: true; the input reads as it did. -/
def fnExactMessageBitsUptoRow : OpenClaim := { program := "ytgknilganicofaadoor", sum := "5d5dd601d97e9bd1199dec76e14bb0bfb9717633a25c68372d1b9d20303e017a", func := "loop.example/g00292/laws.FnExactMessageBits", spec := "fnExactMessageBits", named := ["loop.example/g00292/impl.roundWords"], apart := false, laid := [("loop.example/g00292/impl.roundWords", laid_loop_example_g00292_impl_roundWords)], narrowed := true }
def FnExactMessageBitsUptoSaid : Prop := fnExactMessageBitsUptoRow.holds Tryd.pinned (OpenSpec.upto fnExactMessageBitsSpec)

/-- 'laws.FnExactReadingMac', WHERE WHAT IT READS IS OF BULK AT MOST 1048576: true; the input reads as it did. -/
def fnExactReadingMacUptoRow : OpenClaim := { program := "ytgknilganicofaadoor", sum := "5d5dd601d97e9bd1199dec76e14bb0bfb9717633a25c68372d1b9d20303e017a", func := "loop.example/g00292/laws.FnExactReadingMac", spec := "fnExactReadingMac", named := ["loop.example/g00292/impl.roundWords"], apart := false, laid := [("loop.example/g00292/impl.roundWords", laid_loop_example_g00292_impl_roundWords)], narrowed := true }
def FnExactReadingMacUptoSaid : Prop := fnExactReadingMacUptoRow.holds Tryd.pinned (OpenSpec.upto fnExactReadingMacSpec)

/-- 'laws.FnExactSecretAt', WHERE WHAT IT READS IS OF BULK AT MOST 1048576: true; the input reads as it did. -/
def fnExactSecretAtUptoRow : OpenClaim := { program := "ytgknilganicofaadoor", sum := "5d5dd601d97e9bd1199dec76e14bb0bfb9717633a25c68372d1b9d20303e017a", func := "loop.example/g00292/laws.FnExactSecretAt", spec := "fnExactSecretAt", unfollowed := true, recurses := true, named := ["loop.example/g00292/impl.roundWords"], apart := false, laid := [("loop.example/g00292/impl.roundWords", laid_loop_example_g00292_impl_roundWords)], narrowed := true }
def FnExactSecretAtUptoSaid : Prop := fnExactSecretAtUptoRow.holds Tryd.pinned (OpenSpec.upto fnExactSecretAtSpec)

/-- 'laws.FnExactOneTimeKey', WHERE WHAT IT READS IS OF BULK AT MOST 1048576: true; the input reads as it did. -/
def fnExactOneTimeKeyUptoRow : OpenClaim := { program := "ytgknilganicofaadoor", sum := "5d5dd601d97e9bd1199dec76e14bb0bfb9717633a25c68372d1b9d20303e017a", func := "loop.example/g00292/laws.FnExactOneTimeKey", spec := "fnExactOneTimeKey", unfollowed := true, recurses := true, named := ["loop.example/g00292/impl.roundWords"], apart := false, laid := [("loop.example/g00292/impl.roundWords", laid_loop_example_g00292_impl_roundWords)], narrowed := true }
def FnExactOneTimeKeyUptoSaid : Prop := fnExactOneTimeKeyUptoRow.holds Tryd.pinned (OpenSpec.upto fnExactOneTimeKeySpec)

/-- 'laws.FnExactMessageSigned', WHERE WHAT IT READS IS OF BULK AT MOST 1048576: true; the input reads as it did. -/
def fnExactMessageSignedUptoRow : OpenClaim := { program := "ytgknilganicofaadoor", sum := "5d5dd601d97e9bd1199dec76e14bb0bfb9717633a25c68372d1b9d20303e017a", func := "loop.example/g00292/laws.FnExactMessageSigned", spec := "fnExactMessageSigned", named := ["loop.example/g00292/impl.roundWords"], apart := false, laid := [("loop.example/g00292/impl.roundWords", laid_loop_example_g00292_impl_roundWords)], narrowed := true }
def FnExactMessageSignedUptoSaid : Prop := fnExactMessageSignedUptoRow.holds Tryd.pinned (OpenSpec.upto fnExactMessageSignedSpec)

/-- 'laws.FnExactSignMessage', WHERE WHAT IT READS IS OF BULK AT MOST 1048576: true; the input reads as it did. -/
def fnExactSignMessageUptoRow : OpenClaim := { program := "ytgknilganicofaadoor", sum := "5d5dd601d97e9bd1199dec76e14bb0bfb9717633a25c68372d1b9d20303e017a", func := "loop.example/g00292/laws.FnExactSignMessage", spec := "fnExactSignMessage", named := ["loop.example/g00292/impl.roundWords"], apart := false, laid := [("loop.example/g00292/impl.roundWords", laid_loop_example_g00292_impl_roundWords)], narrowed := true }
def FnExactSignMessageUptoSaid : Prop := fnExactSignMessageUptoRow.holds Tryd.pinned (OpenSpec.upto fnExactSignMessageSpec)

/-- 'laws.FnExactChainRoot', WHERE WHAT IT READS IS OF BULK AT MOST 1048576: true; the input reads as it did. -/
def fnExactChainRootUptoRow : OpenClaim := { program := "ytgknilganicofaadoor", sum := "5d5dd601d97e9bd1199dec76e14bb0bfb9717633a25c68372d1b9d20303e017a", func := "loop.example/g00292/laws.FnExactChainRoot", spec := "fnExactChainRoot", unfollowed := true, recurses := true, named := ["loop.example/g00292/impl.roundWords"], apart := false, laid := [("loop.example/g00292/impl.roundWords", laid_loop_example_g00292_impl_roundWords)], narrowed := true }
def FnExactChainRootUptoSaid : Prop := fnExactChainRootUptoRow.holds Tryd.pinned (OpenSpec.upto fnExactChainRootSpec)

/-- 'laws.FnExactCheckSignature', WHERE WHAT IT READS IS OF BULK AT MOST 1048576: true; the input reads as it did. -/
def fnExactCheckSignatureUptoRow : OpenClaim := { program := "ytgknilganicofaadoor", sum := "5d5dd601d97e9bd1199dec76e14bb0bfb9717633a25c68372d1b9d20303e017a", func := "loop.example/g00292/laws.FnExactCheckSignature", spec := "fnExactCheckSignature", unfollowed := true, recurses := true, named := ["loop.example/g00292/impl.roundWords"], apart := false, laid := [("loop.example/g00292/impl.roundWords", laid_loop_example_g00292_impl_roundWords)], narrowed := true }
def FnExactCheckSignatureUptoSaid : Prop := fnExactCheckSignatureUptoRow.holds Tryd.pinned (OpenSpec.upto fnExactCheckSignatureSpec)

/-- 'laws.FnExactSignAt', WHERE WHAT IT READS IS OF BULK AT MOST 1048576: true; the input reads as it did. -/
def fnExactSignAtUptoRow : OpenClaim := { program := "ytgknilganicofaadoor", sum := "5d5dd601d97e9bd1199dec76e14bb0bfb9717633a25c68372d1b9d20303e017a", func := "loop.example/g00292/laws.FnExactSignAt", spec := "fnExactSignAt", unfollowed := true, recurses := true, named := ["loop.example/g00292/impl.roundWords"], apart := false, laid := [("loop.example/g00292/impl.roundWords", laid_loop_example_g00292_impl_roundWords)], narrowed := true }
def FnExactSignAtUptoSaid : Prop := fnExactSignAtUptoRow.holds Tryd.pinned (OpenSpec.upto fnExactSignAtSpec)

/-- 'laws.FnExactSignNext', WHERE WHAT IT READS IS OF BULK AT MOST 1048576: true; the input reads as it did. -/
def fnExactSignNextUptoRow : OpenClaim := { program := "ytgknilganicofaadoor", sum := "5d5dd601d97e9bd1199dec76e14bb0bfb9717633a25c68372d1b9d20303e017a", func := "loop.example/g00292/laws.FnExactSignNext", spec := "fnExactSignNext", named := ["loop.example/g00292/impl.roundWords"], apart := false, laid := [("loop.example/g00292/impl.roundWords", laid_loop_example_g00292_impl_roundWords)], narrowed := true }
def FnExactSignNextUptoSaid : Prop := fnExactSignNextUptoRow.holds Tryd.pinned (OpenSpec.upto fnExactSignNextSpec)

end Rows
end Go.Proofs.YtgknilganicofaaDoor
