/- The library's contract for slices.Sort at []int, laid at this dump (the numbers are those of the seat Ytmipnikhgihcpaa). -/
import Derived.Shelf.SortM.Plain
import Derived.Shelf.SortM.SortNone
import Derived.Test.YtmipnikhgihcpaaRows
import Derived.Test.YtmipnikhgihcpaaBase
namespace Go.Proofs.Ytmipnikhgihcpaa
open Go.Shelf
def sortT_ren : Go.Shelf.Ren := ⟨fun | 5 => 249 | 8 => 174 | 7 => 266 | 19 => 217 | 20 => 218 | 10 => 278 | 11 => 279 | 12 => 280 | 13 => 281 | 14 => 282 | 15 => 283 | 16 => 284 | 17 => 285 | 18 => 286 | 30 => 293 | 31 => 244 | 32 => 245 | 33 => 294 | 34 => 295 | 35 => 172 | 40 => 296 | n => n, fun | 23 => 22 | 25 => 3 | 3 => 3 | 32 => 149 | 22 => 22 | 0 => 0 | 44 => 289 | 46 => 291 | 4 => 4 | 36 => 283 | 35 => 282 | 41 => 201 | 5 => 5 | 9 => 9 | 53 => 314 | 57 => 256 | 63 => 340 | 64 => 147 | n => n, fun | n => n⟩
theorem sortT : Go.Proofs.SlLaysM.n5 Try.prog sortT_ren := {
  mixed := by kernel_rfl
  f5 := ⟨Try.f249.name, by decide, Try.func249.trans (congrArg some (by kernel_rfl))⟩
  f7 := ⟨Try.f266.name, by decide, Try.func266.trans (congrArg some (by kernel_rfl))⟩
  f8 := Try.func174.trans (congrArg some (by kernel_rfl))
  f10 := ⟨Try.f278.name, by decide, Try.func278.trans (congrArg some (by kernel_rfl))⟩
  f11 := ⟨Try.f279.name, by decide, Try.func279.trans (congrArg some (by kernel_rfl))⟩
  f12 := ⟨Try.f280.name, by decide, Try.func280.trans (congrArg some (by kernel_rfl))⟩
  f13 := ⟨Try.f281.name, by decide, Try.func281.trans (congrArg some (by kernel_rfl))⟩
  f14 := ⟨Try.f282.name, by decide, Try.func282.trans (congrArg some (by kernel_rfl))⟩
  f15 := ⟨Try.f283.name, by decide, Try.func283.trans (congrArg some (by kernel_rfl))⟩
  f16 := ⟨Try.f284.name, by decide, Try.func284.trans (congrArg some (by kernel_rfl))⟩
  f17 := ⟨Try.f285.name, by decide, Try.func285.trans (congrArg some (by kernel_rfl))⟩
  f18 := ⟨Try.f286.name, by decide, Try.func286.trans (congrArg some (by kernel_rfl))⟩
  f19 := Try.func217.trans (congrArg some (by kernel_rfl))
  f20 := Try.func218.trans (congrArg some (by kernel_rfl))
  f30 := ⟨Try.f293.name, by decide, Try.func293.trans (congrArg some (by kernel_rfl))⟩
  f31 := Try.func244.trans (congrArg some (by kernel_rfl))
  f32 := Try.func245.trans (congrArg some (by kernel_rfl))
  f33 := ⟨Try.f294.name, by decide, Try.func294.trans (congrArg some (by kernel_rfl))⟩
  f34 := ⟨Try.f295.name, by decide, Try.func295.trans (congrArg some (by kernel_rfl))⟩
  f35 := ⟨Try.f172.name, by decide, Try.func172.trans (congrArg some (by kernel_rfl))⟩
  f40 := ⟨Try.f296.name, by decide, Try.func296.trans (congrArg some (by kernel_rfl))⟩
  t0 := Try.underlying0
  a0 := Try.isAgg0
  z0 := Try.sizeOf0
  v0 := Try.zeroValue0
  t3 := Try.underlying3
  a3 := Try.isAgg3
  z3 := Try.sizeOf3
  v3 := Try.zeroValue3
  t4 := Try.underlying4
  a4 := Try.isAgg4
  z4 := Try.sizeOf4
  v4 := Try.zeroValue4
  t5 := Try.underlying5
  a5 := Try.isAgg5
  z5 := Try.sizeOf5
  v5 := Try.zeroValue5
  t9 := Try.underlying9
  a9 := Try.isAgg9
  z9 := Try.sizeOf9
  v9 := Try.zeroValue9
  t22 := Try.underlying22
  a22 := Try.isAgg22
  z22 := Try.sizeOf22
  v22 := Try.zeroValue22
  t23 := Try.underlying22
  a23 := Try.isAgg22
  z23 := Try.sizeOf22
  v23 := Try.zeroValue22
  t25 := Try.underlying3
  a25 := Try.isAgg3
  z25 := Try.sizeOf3
  v25 := Try.zeroValue3
  t32 := Try.underlying149
  a32 := Try.isAgg149
  z32 := Try.sizeOf149
  v32 := Try.zeroValue149
  t35 := Try.underlying282
  a35 := Try.isAgg282
  z35 := Try.sizeOf282
  v35 := Try.zeroValue282
  t36 := Try.underlying283
  a36 := Try.isAgg283
  z36 := Try.sizeOf283
  v36 := Try.zeroValue283
  t41 := Try.underlying201
  a41 := Try.isAgg201
  z41 := Try.sizeOf201
  v41 := Try.zeroValue201
  t44 := Try.underlying289
  a44 := Try.isAgg289
  z44 := Try.sizeOf289
  v44 := Try.zeroValue289
  t46 := Try.underlying291
  a46 := Try.isAgg291
  z46 := Try.sizeOf291
  v46 := Try.zeroValue291
  t53 := Try.underlying314
  a53 := Try.isAgg314
  z53 := Try.sizeOf314
  v53 := Try.zeroValue314
  t57 := Try.underlying256
  a57 := Try.isAgg256
  z57 := Try.sizeOf256
  v57 := Try.zeroValue256
  t63 := Try.underlying340
  a63 := Try.isAgg340
  z63 := Try.sizeOf340
  v63 := Try.zeroValue340
  t64 := Try.underlying147
  a64 := Try.isAgg147
  z64 := Try.sizeOf147
  v64 := Try.zeroValue147 }

end Go.Proofs.Ytmipnikhgihcpaa
