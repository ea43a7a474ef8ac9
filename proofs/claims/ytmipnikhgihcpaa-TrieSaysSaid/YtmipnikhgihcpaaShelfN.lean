/- The library's contract for slices.SortFunc, laid at this dump (the numbers are those of the seat Ytmipnikhgihcpaa). -/
import Derived.Shelf.SlSortCmp.NoneTotal
import Derived.Test.YtmipnikhgihcpaaRows
import Derived.Test.YtmipnikhgihcpaaBase
namespace Go.Proofs.Ytmipnikhgihcpaa
open Go.Shelf
def sortN_ren : Go.Shelf.Ren := ⟨fun | 6 => 131 | 15 => 174 | 14 => 173 | 28 => 217 | 29 => 218 | 20 => 209 | 21 => 210 | 22 => 211 | 23 => 212 | 24 => 213 | 25 => 214 | 26 => 215 | 27 => 216 | 46 => 243 | 47 => 244 | 48 => 245 | 49 => 246 | 50 => 247 | 57 => 265 | n => n, fun | 22 => 111 | 24 => 116 | 25 => 210 | 3 => 3 | 39 => 149 | 0 => 0 | 53 => 289 | 55 => 291 | 4 => 4 | 46 => 283 | 45 => 282 | 50 => 201 | 5 => 5 | 9 => 9 | 66 => 314 | 70 => 256 | 76 => 340 | 77 => 147 | n => n, fun | n => n⟩
theorem sortN : Go.Proofs.SlLaysF0.n6 Try.prog sortN_ren := {
  mixed := by kernel_rfl
  f6 := ⟨Try.f131.name, by decide, Try.func131.trans (congrArg some (by kernel_rfl))⟩
  f14 := ⟨Try.f173.name, by decide, Try.func173.trans (congrArg some (by kernel_rfl))⟩
  f15 := Try.func174.trans (congrArg some (by kernel_rfl))
  f20 := ⟨Try.f209.name, by decide, Try.func209.trans (congrArg some (by kernel_rfl))⟩
  f21 := ⟨Try.f210.name, by decide, Try.func210.trans (congrArg some (by kernel_rfl))⟩
  f22 := ⟨Try.f211.name, by decide, Try.func211.trans (congrArg some (by kernel_rfl))⟩
  f23 := ⟨Try.f212.name, by decide, Try.func212.trans (congrArg some (by kernel_rfl))⟩
  f24 := ⟨Try.f213.name, by decide, Try.func213.trans (congrArg some (by kernel_rfl))⟩
  f25 := ⟨Try.f214.name, by decide, Try.func214.trans (congrArg some (by kernel_rfl))⟩
  f26 := ⟨Try.f215.name, by decide, Try.func215.trans (congrArg some (by kernel_rfl))⟩
  f27 := ⟨Try.f216.name, by decide, Try.func216.trans (congrArg some (by kernel_rfl))⟩
  f28 := Try.func217.trans (congrArg some (by kernel_rfl))
  f29 := Try.func218.trans (congrArg some (by kernel_rfl))
  f46 := ⟨Try.f243.name, by decide, Try.func243.trans (congrArg some (by kernel_rfl))⟩
  f47 := Try.func244.trans (congrArg some (by kernel_rfl))
  f48 := Try.func245.trans (congrArg some (by kernel_rfl))
  f49 := ⟨Try.f246.name, by decide, Try.func246.trans (congrArg some (by kernel_rfl))⟩
  f50 := ⟨Try.f247.name, by decide, Try.func247.trans (congrArg some (by kernel_rfl))⟩
  f57 := ⟨Try.f265.name, by decide, Try.func265.trans (congrArg some (by kernel_rfl))⟩
  t0 := Try.underlying0
  a0 := Try.isAgg0
  z0 := Try.sizeOf0
  v0 := Try.zeroValue0
  t3 := Try.underlying3
  a3 := Try.isAgg3
  z3 := Try.sizeOf3
  v3 := Try.zeroValue3
  t4 := Try.underlying4
  a4 := Try.isAgg4
  z4 := Try.sizeOf4
  v4 := Try.zeroValue4
  t5 := Try.underlying5
  a5 := Try.isAgg5
  z5 := Try.sizeOf5
  v5 := Try.zeroValue5
  t9 := Try.underlying9
  a9 := Try.isAgg9
  z9 := Try.sizeOf9
  v9 := Try.zeroValue9
  t22 := Try.underlying111
  a22 := Try.isAgg111
  z22 := Try.sizeOf111
  v22 := Try.zeroValue111
  t25 := Try.underlying210
  a25 := Try.isAgg210
  z25 := Try.sizeOf210
  v25 := Try.zeroValue210
  t39 := Try.underlying149
  a39 := Try.isAgg149
  z39 := Try.sizeOf149
  v39 := Try.zeroValue149
  t45 := Try.underlying282
  a45 := Try.isAgg282
  z45 := Try.sizeOf282
  v45 := Try.zeroValue282
  t46 := Try.underlying283
  a46 := Try.isAgg283
  z46 := Try.sizeOf283
  v46 := Try.zeroValue283
  t50 := Try.underlying201
  a50 := Try.isAgg201
  z50 := Try.sizeOf201
  v50 := Try.zeroValue201
  t53 := Try.underlying289
  a53 := Try.isAgg289
  z53 := Try.sizeOf289
  v53 := Try.zeroValue289
  t55 := Try.underlying291
  a55 := Try.isAgg291
  z55 := Try.sizeOf291
  v55 := Try.zeroValue291
  t66 := Try.underlying314
  a66 := Try.isAgg314
  z66 := Try.sizeOf314
  v66 := Try.zeroValue314
  t70 := Try.underlying256
  a70 := Try.isAgg256
  z70 := Try.sizeOf256
  v70 := Try.zeroValue256
  t76 := Try.underlying340
  a76 := Try.isAgg340
  z76 := Try.sizeOf340
  v76 := Try.zeroValue340
  t77 := Try.underlying147
  a77 := Try.isAgg147
  z77 := Try.sizeOf147
  v77 := Try.zeroValue147 }

end Go.Proofs.Ytmipnikhgihcpaa
