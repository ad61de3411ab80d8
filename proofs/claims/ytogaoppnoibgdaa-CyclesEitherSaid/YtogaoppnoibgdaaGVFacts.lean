/- Closed facts on the translation of this seat: sizes, zero values, fields; printed by program. -/
import Derived.Test.YtogaoppnoibgdaaGVBuild
import Derived.Test.YtogaoppnoibgdaaProg
import Derived.KernelRfl
namespace Go.Proofs.Ytogaoppnoibgdaa
open Go.GV
theorem ag_2 : aggB Try.prog 2 = some false := by kernel_rfl
theorem ag_22 : aggB Try.prog 22 = some false := by kernel_rfl
theorem ag_23 : aggB Try.prog 23 = some false := by kernel_rfl
theorem ag_3 : aggB Try.prog 3 = some false := by kernel_rfl
theorem ag_4 : aggB Try.prog 4 = some false := by kernel_rfl
theorem ag_41 : aggB Try.prog 41 = some true := by kernel_rfl
theorem ag_48 : aggB Try.prog 48 = some false := by kernel_rfl
theorem ar_47 : arrT Try.prog 47 = some (16, 4) := by kernel_rfl
theorem by_2 : tbytes Try.prog 2 = some 8 := by kernel_rfl
theorem by_3 : tbytes Try.prog 3 = some 8 := by kernel_rfl
theorem by_4 : tbytes Try.prog 4 = some 1 := by kernel_rfl
theorem by_41 : tbytes Try.prog 41 = some 56 := by kernel_rfl
theorem ca_10 : callable Try.prog 10 = true := by kernel_rfl
theorem ca_11 : callable Try.prog 11 = true := by kernel_rfl
theorem ca_12 : callable Try.prog 12 = true := by kernel_rfl
theorem ca_13 : callable Try.prog 13 = true := by kernel_rfl
theorem ca_14 : callable Try.prog 14 = true := by kernel_rfl
theorem ca_15 : callable Try.prog 15 = true := by kernel_rfl
theorem ca_16 : callable Try.prog 16 = true := by kernel_rfl
theorem ca_17 : callable Try.prog 17 = true := by kernel_rfl
theorem ca_18 : callable Try.prog 18 = true := by kernel_rfl
theorem ca_19 : callable Try.prog 19 = true := by kernel_rfl
theorem ca_20 : callable Try.prog 20 = true := by kernel_rfl
theorem ca_21 : callable Try.prog 21 = true := by kernel_rfl
theorem ca_22 : callable Try.prog 22 = true := by kernel_rfl
theorem ca_23 : callable Try.prog 23 = true := by kernel_rfl
theorem ca_24 : callable Try.prog 24 = true := by kernel_rfl
theorem ca_25 : callable Try.prog 25 = true := by kernel_rfl
theorem ca_26 : callable Try.prog 26 = true := by kernel_rfl
theorem ca_27 : callable Try.prog 27 = true := by kernel_rfl
theorem ca_28 : callable Try.prog 28 = true := by kernel_rfl
theorem ca_29 : callable Try.prog 29 = true := by kernel_rfl
theorem ca_30 : callable Try.prog 30 = true := by kernel_rfl
theorem ca_31 : callable Try.prog 31 = true := by kernel_rfl
theorem ca_32 : callable Try.prog 32 = true := by kernel_rfl
theorem ca_6 : callable Try.prog 6 = true := by kernel_rfl
theorem ca_7 : callable Try.prog 7 = true := by kernel_rfl
theorem ca_8 : callable Try.prog 8 = true := by kernel_rfl
theorem ca_9 : callable Try.prog 9 = true := by kernel_rfl
theorem el_22 : elemT Try.prog 22 = some 41 := by kernel_rfl
theorem el_23 : elemT Try.prog 23 = some 3 := by kernel_rfl
theorem el_29 : elemT Try.prog 29 = some 2 := by kernel_rfl
theorem el_45 : elemT Try.prog 45 = some 4 := by kernel_rfl
theorem fo_41_1 : fieldO Try.prog 41 1 = some 1 := by kernel_rfl
theorem fo_41_2 : fieldO Try.prog 41 2 = some 2 := by kernel_rfl
theorem fo_41_3 : fieldO Try.prog 41 3 = some 3 := by kernel_rfl
theorem fo_41_4 : fieldO Try.prog 41 4 = some 4 := by kernel_rfl
theorem fo_41_5 : fieldO Try.prog 41 5 = some 5 := by kernel_rfl
theorem fo_41_6 : fieldO Try.prog 41 6 = some 6 := by kernel_rfl
theorem mixed : Try.prog.follows .mixedOrders = true := by kernel_rfl
theorem mt_51 : mapT Try.prog 51 = some (3, 3) := by kernel_rfl
theorem pl_41 : placesB Try.prog 41 = some [(0, 1), (1, 1), (2, 1), (3, 1), (4, 1), (5, 1), (6, 1)] := by kernel_rfl
theorem sz_2 : tsize Try.prog 2 = some 1 := by kernel_rfl
theorem sz_23 : tsize Try.prog 23 = some 1 := by kernel_rfl
theorem sz_3 : tsize Try.prog 3 = some 1 := by kernel_rfl
theorem sz_4 : tsize Try.prog 4 = some 1 := by kernel_rfl
theorem sz_41 : tsize Try.prog 41 = some 7 := by kernel_rfl
theorem sz_48 : tsize Try.prog 48 = some 1 := by kernel_rfl
theorem un_3 : Try.prog.underlying 3 = some (.int .i64) := by kernel_rfl
theorem un_4 : Try.prog.underlying 4 = some (.bool) := by kernel_rfl
theorem un_5 : Try.prog.underlying 5 = some (.int .u8) := by kernel_rfl
theorem zc_2 : zcells Try.prog 2 = some ([.int .i64 0]) := by kernel_rfl
theorem zc_23 : zcells Try.prog 23 = some ([.slice none 0 0]) := by kernel_rfl
theorem zc_3 : zcells Try.prog 3 = some ([.int .i64 0]) := by kernel_rfl
theorem zc_4 : zcells Try.prog 4 = some ([.bool false]) := by kernel_rfl
theorem zc_41 : zcells Try.prog 41 = some ([.int .u64 0, .int .i64 0, .int .i64 0, .int .i64 0, .int .i64 0, .int .i64 0, .bool false]) := by kernel_rfl
theorem zc_47 : zcells Try.prog 47 = some (List.replicate 16 (.bool false : Value)) := by kernel_rfl
theorem zc_48 : zcells Try.prog 48 = some ([.nilFunc]) := by kernel_rfl
theorem zv_3 : (Try.prog.info? 3).bind (·.zero) = some (.int .i64 0) := by kernel_rfl
end Go.Proofs.Ytogaoppnoibgdaa
