import Derived.Shelf.SlSortCmp.WholeK
import Derived.Ground.SlsfProg
import Derived.Test.YtohhlkabejangaaProg
-- halved
/-
 DERIVED: THE SHELF's CONTRACTS AT THIS DUMP, IN PLAIN WORDS (tools/lay-plain.mjs out of 'YtohhlkabejangaaSf0.lean', which tools/lay-shelf.mjs wrote): THE SAME DECLARATIONS UNDER THE SAME NAMES: 'import', 'namespace', 'open', 'def', 'theorem' AND NOTHING ELSE: no command of the shelf's: FOR A HAND-IN. Each laying: the table of numbers ('.._ren') and one theorem, a field a fact of the dump's own or the kernel's comparison; each contract: ONE APPLICATION.
-/
namespace Go.Proofs
open Go.Shelf
def Try.sortK_ren : Go.Shelf.Ren := ⟨fun | 6 => 132 | 15 => 148 | 14 => 152 | 28 => 166 | 29 => 167 | 20 => 168 | 21 => 169 | 22 => 170 | 23 => 171 | 24 => 172 | 25 => 173 | 26 => 174 | 27 => 175 | 46 => 181 | 47 => 177 | 48 => 178 | 49 => 182 | 50 => 183 | 57 => 185 | n => n, fun | 22 => 85 | 24 => 74 | 25 => 161 | 3 => 3 | 39 => 225 | 0 => 0 | 53 => 242 | 55 => 214 | 4 => 4 | 46 => 236 | 45 => 235 | 50 => 162 | 5 => 5 | 9 => 9 | 66 => 249 | 70 => 253 | 76 => 257 | 77 => 258 | n => n, fun | n => n⟩
theorem Try.sortK : Go.Proofs.SlLaysF0.n6 Try.prog Try.sortK_ren := {
 mixed := by kernel_rfl
 f6 := ⟨Try.f132.name, by decide, Try.func132.trans (congrArg some (by kernel_rfl))⟩
 f14 := ⟨Try.f152.name, by decide, Try.func152.trans (congrArg some (by kernel_rfl))⟩
 f15 := Try.func148.trans (congrArg some (by kernel_rfl))
 f20 := ⟨Try.f168.name, by decide, Try.func168.trans (congrArg some (by kernel_rfl))⟩
 f21 := ⟨Try.f169.name, by decide, Try.func169.trans (congrArg some (by kernel_rfl))⟩
 f22 := ⟨Try.f170.name, by decide, Try.func170.trans (congrArg some (by kernel_rfl))⟩
 f23 := ⟨Try.f171.name, by decide, Try.func171.trans (congrArg some (by kernel_rfl))⟩
 f24 := ⟨Try.f172.name, by decide, Try.func172.trans (congrArg some (by kernel_rfl))⟩
 f25 := ⟨Try.f173.name, by decide, Try.func173.trans (congrArg some (by kernel_rfl))⟩
 f26 := ⟨Try.f174.name, by decide, Try.func174.trans (congrArg some (by kernel_rfl))⟩
 f27 := ⟨Try.f175.name, by decide, Try.func175.trans (congrArg some (by kernel_rfl))⟩
 f28 := Try.func166.trans (congrArg some (by kernel_rfl))
 f29 := Try.func167.trans (congrArg some (by kernel_rfl))
 f46 := ⟨Try.f181.name, by decide, Try.func181.trans (congrArg some (by kernel_rfl))⟩
 f47 := Try.func177.trans (congrArg some (by kernel_rfl))
 f48 := Try.func178.trans (congrArg some (by kernel_rfl))
 f49 := ⟨Try.f182.name, by decide, Try.func182.trans (congrArg some (by kernel_rfl))⟩
 f50 := ⟨Try.f183.name, by decide, Try.func183.trans (congrArg some (by kernel_rfl))⟩
 f57 := ⟨Try.f185.name, by decide, Try.func185.trans (congrArg some (by kernel_rfl))⟩
 t0 := Try.underlying0
 a0 := Try.isAgg0
 z0 := Try.sizeOf0
 v0 := Try.zeroValue0
 t3 := Try.underlying3
 a3 := Try.isAgg3
 z3 := Try.sizeOf3
 v3 := Try.zeroValue3
 t4 := Try.underlying4
 a4 := Try.isAgg4
 z4 := Try.sizeOf4
 v4 := Try.zeroValue4
 t5 := Try.underlying5
 a5 := Try.isAgg5
 z5 := Try.sizeOf5
 v5 := Try.zeroValue5
 t9 := Try.underlying9
 a9 := Try.isAgg9
 z9 := Try.sizeOf9
 v9 := Try.zeroValue9
 t22 := Try.underlying85
 a22 := Try.isAgg85
 z22 := Try.sizeOf85
 v22 := Try.zeroValue85
 t25 := Try.underlying161
 a25 := Try.isAgg161
 z25 := Try.sizeOf161
 v25 := Try.zeroValue161
 t39 := Try.underlying225
 a39 := Try.isAgg225
 z39 := Try.sizeOf225
 v39 := Try.zeroValue225
 t45 := Try.underlying235
 a45 := Try.isAgg235
 z45 := Try.sizeOf235
 v45 := Try.zeroValue235
 t46 := Try.underlying236
 a46 := Try.isAgg236
 z46 := Try.sizeOf236
 v46 := Try.zeroValue236
 t50 := Try.underlying162
 a50 := Try.isAgg162
 z50 := Try.sizeOf162
 v50 := Try.zeroValue162
 t53 := Try.underlying242
 a53 := Try.isAgg242
 z53 := Try.sizeOf242
 v53 := Try.zeroValue242
 t55 := Try.underlying214
 a55 := Try.isAgg214
 z55 := Try.sizeOf214
 v55 := Try.zeroValue214
 t66 := Try.underlying249
 a66 := Try.isAgg249
 z66 := Try.sizeOf249
 v66 := Try.zeroValue249
 t70 := Try.underlying253
 a70 := Try.isAgg253
 z70 := Try.sizeOf253
 v70 := Try.zeroValue253
 t76 := Try.underlying257
 a76 := Try.isAgg257
 z76 := Try.sizeOf257
 v76 := Try.zeroValue257
 t77 := Try.underlying258
 a77 := Try.isAgg258
 z77 := Try.sizeOf258
 v77 := Try.zeroValue258 }
end Go.Proofs
