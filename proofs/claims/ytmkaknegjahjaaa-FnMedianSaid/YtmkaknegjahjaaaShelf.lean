/-
  DERIVED: THE SHELF's CONTRACTS AT THIS DUMP, IN PLAIN WORDS (tools/lay-plain.mjs out of 'YtmkaknegjahjaaaShelf.lean', which tools/lay-shelf.mjs wrote): THE SAME DECLARATIONS UNDER THE SAME NAMES: 'import', 'namespace', 'open', 'def', 'theorem' AND NOTHING ELSE: no command of the shelf's: FOR A HAND-IN. Each laying: the table of numbers ('.._ren') and one theorem, a field a fact of the dump's own or the kernel's comparison; each contract: ONE APPLICATION.
-/
import Derived.Test.YtmkaknegjahjaaaProg
import Derived.Shelf.SlIterI.Nil
import Derived.Shelf.SortM.Plain
import Derived.Shelf.SortM.SortNone
import Derived.Ground.GgzProg
import Derived.Ground.SlgmProg
import Derived.Test.YtmkaknegjahjaaaProg
namespace Go.Proofs
open Go.Shelf
def Try.sortedA_ren : Go.Shelf.Ren := ⟨fun | 6 => 14 | 8 => 16 | 9 => 17 | 11 => 19 | 13 => 21 | 12 => 20 | 23 => 31 | 24 => 32 | 14 => 22 | 15 => 23 | 16 => 24 | 17 => 25 | 18 => 26 | 19 => 27 | 20 => 28 | 21 => 29 | 22 => 30 | 25 => 33 | 26 => 34 | 27 => 35 | 28 => 36 | 29 => 37 | 30 => 38 | 31 => 39 | n => n, fun | 26 => 3 | 28 => 35 | 24 => 22 | 0 => 0 | 3 => 3 | 37 => 42 | 48 => 53 | 50 => 55 | 4 => 4 | 40 => 45 | 39 => 44 | 45 => 50 | 5 => 5 | 9 => 9 | 51 => 56 | 55 => 60 | 57 => 62 | 58 => 23 | 33 => 38 | n => n, fun | n => n⟩
theorem Try.sortedA : Go.Proofs.SlLaysZI.n6 Try.prog Try.sortedA_ren := {
  mixed := by kernel_rfl
  f6 := ⟨Try.f14.name, by decide, Try.func14.trans (congrArg some (by kernel_rfl))⟩
  f8 := ⟨Try.f16.name, by decide, Try.func16.trans (congrArg some (by kernel_rfl))⟩
  f11 := ⟨Try.f19.name, by decide, Try.func19.trans (congrArg some (by kernel_rfl))⟩
  t0 := Try.underlying0
  a0 := Try.isAgg0
  z0 := Try.sizeOf0
  v0 := Try.zeroValue0
  t24 := Try.underlying22
  a24 := Try.isAgg22
  z24 := Try.sizeOf22
  v24 := Try.zeroValue22
  t26 := Try.underlying3
  a26 := Try.isAgg3
  z26 := Try.sizeOf3
  v26 := Try.zeroValue3
  t28 := Try.underlying35
  a28 := Try.isAgg35
  z28 := Try.sizeOf35
  v28 := Try.zeroValue35
  i26 := by kernel_rfl }
def Try.sortA_ren : Go.Shelf.Ren := ⟨fun | 5 => 17 | 8 => 21 | 7 => 20 | 19 => 31 | 20 => 32 | 10 => 22 | 11 => 23 | 12 => 24 | 13 => 25 | 14 => 26 | 15 => 27 | 16 => 28 | 17 => 29 | 18 => 30 | 30 => 33 | 31 => 34 | 32 => 35 | 33 => 36 | 34 => 37 | 35 => 38 | 40 => 39 | n => n, fun | 23 => 22 | 25 => 3 | 3 => 3 | 32 => 42 | 22 => 22 | 0 => 0 | 44 => 53 | 46 => 55 | 4 => 4 | 36 => 45 | 35 => 44 | 41 => 50 | 5 => 5 | 9 => 9 | 53 => 56 | 57 => 60 | 63 => 62 | 64 => 23 | n => n, fun | n => n⟩
theorem Try.sortA : Go.Proofs.SlLaysM.n5 Try.prog Try.sortA_ren := {
  mixed := by kernel_rfl
  f5 := ⟨Try.f17.name, by decide, Try.func17.trans (congrArg some (by kernel_rfl))⟩
  f7 := ⟨Try.f20.name, by decide, Try.func20.trans (congrArg some (by kernel_rfl))⟩
  f8 := Try.func21.trans (congrArg some (by kernel_rfl))
  f10 := ⟨Try.f22.name, by decide, Try.func22.trans (congrArg some (by kernel_rfl))⟩
  f11 := ⟨Try.f23.name, by decide, Try.func23.trans (congrArg some (by kernel_rfl))⟩
  f12 := ⟨Try.f24.name, by decide, Try.func24.trans (congrArg some (by kernel_rfl))⟩
  f13 := ⟨Try.f25.name, by decide, Try.func25.trans (congrArg some (by kernel_rfl))⟩
  f14 := ⟨Try.f26.name, by decide, Try.func26.trans (congrArg some (by kernel_rfl))⟩
  f15 := ⟨Try.f27.name, by decide, Try.func27.trans (congrArg some (by kernel_rfl))⟩
  f16 := ⟨Try.f28.name, by decide, Try.func28.trans (congrArg some (by kernel_rfl))⟩
  f17 := ⟨Try.f29.name, by decide, Try.func29.trans (congrArg some (by kernel_rfl))⟩
  f18 := ⟨Try.f30.name, by decide, Try.func30.trans (congrArg some (by kernel_rfl))⟩
  f19 := Try.func31.trans (congrArg some (by kernel_rfl))
  f20 := Try.func32.trans (congrArg some (by kernel_rfl))
  f30 := ⟨Try.f33.name, by decide, Try.func33.trans (congrArg some (by kernel_rfl))⟩
  f31 := Try.func34.trans (congrArg some (by kernel_rfl))
  f32 := Try.func35.trans (congrArg some (by kernel_rfl))
  f33 := ⟨Try.f36.name, by decide, Try.func36.trans (congrArg some (by kernel_rfl))⟩
  f34 := ⟨Try.f37.name, by decide, Try.func37.trans (congrArg some (by kernel_rfl))⟩
  f35 := ⟨Try.f38.name, by decide, Try.func38.trans (congrArg some (by kernel_rfl))⟩
  f40 := ⟨Try.f39.name, by decide, Try.func39.trans (congrArg some (by kernel_rfl))⟩
  t0 := Try.underlying0
  a0 := Try.isAgg0
  z0 := Try.sizeOf0
  v0 := Try.zeroValue0
  t3 := Try.underlying3
  a3 := Try.isAgg3
  z3 := Try.sizeOf3
  v3 := Try.zeroValue3
  t4 := Try.underlying4
  a4 := Try.isAgg4
  z4 := Try.sizeOf4
  v4 := Try.zeroValue4
  t5 := Try.underlying5
  a5 := Try.isAgg5
  z5 := Try.sizeOf5
  v5 := Try.zeroValue5
  t9 := Try.underlying9
  a9 := Try.isAgg9
  z9 := Try.sizeOf9
  v9 := Try.zeroValue9
  t22 := Try.underlying22
  a22 := Try.isAgg22
  z22 := Try.sizeOf22
  v22 := Try.zeroValue22
  t23 := Try.underlying22
  a23 := Try.isAgg22
  z23 := Try.sizeOf22
  v23 := Try.zeroValue22
  t25 := Try.underlying3
  a25 := Try.isAgg3
  z25 := Try.sizeOf3
  v25 := Try.zeroValue3
  t32 := Try.underlying42
  a32 := Try.isAgg42
  z32 := Try.sizeOf42
  v32 := Try.zeroValue42
  t35 := Try.underlying44
  a35 := Try.isAgg44
  z35 := Try.sizeOf44
  v35 := Try.zeroValue44
  t36 := Try.underlying45
  a36 := Try.isAgg45
  z36 := Try.sizeOf45
  v36 := Try.zeroValue45
  t41 := Try.underlying50
  a41 := Try.isAgg50
  z41 := Try.sizeOf50
  v41 := Try.zeroValue50
  t44 := Try.underlying53
  a44 := Try.isAgg53
  z44 := Try.sizeOf53
  v44 := Try.zeroValue53
  t46 := Try.underlying55
  a46 := Try.isAgg55
  z46 := Try.sizeOf55
  v46 := Try.zeroValue55
  t53 := Try.underlying56
  a53 := Try.isAgg56
  z53 := Try.sizeOf56
  v53 := Try.zeroValue56
  t57 := Try.underlying60
  a57 := Try.isAgg60
  z57 := Try.sizeOf60
  v57 := Try.zeroValue60
  t63 := Try.underlying62
  a63 := Try.isAgg62
  z63 := Try.sizeOf62
  v63 := Try.zeroValue62
  t64 := Try.underlying23
  a64 := Try.isAgg23
  z64 := Try.sizeOf23
  v64 := Try.zeroValue23 }
end Go.Proofs
