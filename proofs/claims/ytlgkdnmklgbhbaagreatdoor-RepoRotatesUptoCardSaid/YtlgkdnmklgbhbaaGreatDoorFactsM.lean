/- Closed facts on the program's types and functions. -/
import Derived.Test.YtlgkdnmklgbhbaaGreatDoorRows
import Derived.Test.YtlgkdnmklgbhbaaGreatDoorMA
namespace Go.Proofs.YtlgkdnmklgbhbaaGreatDoor
open Go Go.Fw
set_option maxRecDepth 100000
theorem mo : Tryz.prog.follows .mixedOrders = true := by kernel_rfl
theorem cell_3 : isCellT Tryz.prog 3 = true := by kernel_rfl
theorem sz_3 : (Tryz.prog.info? 3).map (·.size) = some 1 := by kernel_rfl
theorem zero_3 : zeroT Tryz.prog 3 = some (.int .i64 0) := by kernel_rfl
theorem cell_4 : isCellT Tryz.prog 4 = true := by kernel_rfl
theorem sz_4 : (Tryz.prog.info? 4).map (·.size) = some 1 := by kernel_rfl
theorem cell_5 : isCellT Tryz.prog 5 = true := by kernel_rfl
theorem sz_5 : (Tryz.prog.info? 5).map (·.size) = some 1 := by kernel_rfl
theorem zero_5 : zeroT Tryz.prog 5 = some (.int .u8 0) := by kernel_rfl
theorem cell_9 : isCellT Tryz.prog 9 = true := by kernel_rfl
theorem sz_9 : (Tryz.prog.info? 9).map (·.size) = some 1 := by kernel_rfl
theorem str_9 : isStringT Tryz.prog 9 = true := by kernel_rfl
theorem eg_25 : Tryz.prog.eqGuardType Tryz.prog.depth 25 = false := by kernel_rfl
theorem agg_25 : aggT Tryz.prog 25 = some 32 := by kernel_rfl
theorem sz_25 : (Tryz.prog.info? 25).map (·.size) = some 32 := by kernel_rfl
theorem arr_25 : arrT Tryz.prog 25 = some (32, 5, 1) := by kernel_rfl
theorem ps_25 : placesT Tryz.prog 25 = some ((List.range 32).map fun k => (k * 1, 1)) := by kernel_rfl
theorem zero_25 : zeroT Tryz.prog 25 = some (.agg ⟨[.int .u8 0, .int .u8 0, .int .u8 0, .int .u8 0, .int .u8 0, .int .u8 0, .int .u8 0, .int .u8 0, .int .u8 0, .int .u8 0, .int .u8 0, .int .u8 0, .int .u8 0, .int .u8 0, .int .u8 0, .int .u8 0, .int .u8 0, .int .u8 0, .int .u8 0, .int .u8 0, .int .u8 0, .int .u8 0, .int .u8 0, .int .u8 0, .int .u8 0, .int .u8 0, .int .u8 0, .int .u8 0, .int .u8 0, .int .u8 0, .int .u8 0, .int .u8 0]⟩) := by kernel_rfl
theorem cell_28 : isCellT Tryz.prog 28 = true := by kernel_rfl
theorem sz_28 : (Tryz.prog.info? 28).map (·.size) = some 1 := by kernel_rfl
theorem el_28 : elemT Tryz.prog 28 = some (32, 2) := by kernel_rfl
theorem ef_28 : elemF Tryz.prog 28 32 2 48 = true := by kernel_rfl
theorem sl_28 : isSliceT Tryz.prog 28 = true := by kernel_rfl
theorem cell_29 : isCellT Tryz.prog 29 = true := by kernel_rfl
theorem sz_29 : (Tryz.prog.info? 29).map (·.size) = some 1 := by kernel_rfl
theorem el_29 : elemT Tryz.prog 29 = some (5, 1) := by kernel_rfl
theorem ef_29 : elemF Tryz.prog 29 5 1 1 = true := by kernel_rfl
theorem sl_29 : isSliceT Tryz.prog 29 = true := by kernel_rfl
theorem zero_29 : zeroT Tryz.prog 29 = some (.slice none 0 0) := by kernel_rfl
theorem cell_30 : isCellT Tryz.prog 30 = true := by kernel_rfl
theorem sz_30 : (Tryz.prog.info? 30).map (·.size) = some 1 := by kernel_rfl
theorem el_30 : elemT Tryz.prog 30 = some (203, 35) := by kernel_rfl
theorem ef_30 : elemF Tryz.prog 30 203 35 88 = true := by kernel_rfl
theorem sl_30 : isSliceT Tryz.prog 30 = true := by kernel_rfl
theorem agg_32 : aggT Tryz.prog 32 = some 2 := by kernel_rfl
theorem sz_32 : (Tryz.prog.info? 32).map (·.size) = some 2 := by kernel_rfl
theorem fld_32_0 : fldOff Tryz.prog 32 0 = some 0 := by kernel_rfl
theorem fld_32_1 : fldOff Tryz.prog 32 1 = some 1 := by kernel_rfl
theorem ps_32 : placesT Tryz.prog 32 = some [(0, 1), (1, 1)] := by kernel_rfl
theorem zero_32 : zeroT Tryz.prog 32 = some (.agg ⟨[.slice none 0 0, .slice none 0 0]⟩) := by kernel_rfl
theorem agg_34 : aggT Tryz.prog 34 = some 6 := by kernel_rfl
theorem sz_34 : (Tryz.prog.info? 34).map (·.size) = some 6 := by kernel_rfl
theorem fld_34_0 : fldOff Tryz.prog 34 0 = some 0 := by kernel_rfl
theorem fld_34_1 : fldOff Tryz.prog 34 1 = some 1 := by kernel_rfl
theorem fld_34_2 : fldOff Tryz.prog 34 2 = some 3 := by kernel_rfl
theorem fld_34_3 : fldOff Tryz.prog 34 3 = some 5 := by kernel_rfl
theorem ps_34 : placesT Tryz.prog 34 = some [(0, 1), (1, 2), (3, 2), (5, 1)] := by kernel_rfl
theorem zero_34 : zeroT Tryz.prog 34 = some (.agg ⟨[.slice none 0 0, .slice none 0 0, .slice none 0 0, .slice none 0 0, .slice none 0 0, .slice none 0 0]⟩) := by kernel_rfl
theorem agg_37 : aggT Tryz.prog 37 = some 35 := by kernel_rfl
theorem sz_37 : (Tryz.prog.info? 37).map (·.size) = some 35 := by kernel_rfl
theorem fld_37_0 : fldOff Tryz.prog 37 0 = some 0 := by kernel_rfl
theorem fld_37_1 : fldOff Tryz.prog 37 1 = some 1 := by kernel_rfl
theorem fld_37_2 : fldOff Tryz.prog 37 2 = some 2 := by kernel_rfl
theorem fld_37_3 : fldOff Tryz.prog 37 3 = some 3 := by kernel_rfl
theorem ps_37 : placesT Tryz.prog 37 = some [(0, 1), (1, 1), (2, 1), (3, 32)] := by kernel_rfl
theorem zero_37 : zeroT Tryz.prog 37 = some (.agg ⟨[.int .i64 0, .int .i64 0, .int .i64 0, .int .u8 0, .int .u8 0, .int .u8 0, .int .u8 0, .int .u8 0, .int .u8 0, .int .u8 0, .int .u8 0, .int .u8 0, .int .u8 0, .int .u8 0, .int .u8 0, .int .u8 0, .int .u8 0, .int .u8 0, .int .u8 0, .int .u8 0, .int .u8 0, .int .u8 0, .int .u8 0, .int .u8 0, .int .u8 0, .int .u8 0, .int .u8 0, .int .u8 0, .int .u8 0, .int .u8 0, .int .u8 0, .int .u8 0, .int .u8 0, .int .u8 0, .int .u8 0]⟩) := by kernel_rfl
theorem cell_40 : isCellT Tryz.prog 40 = true := by kernel_rfl
theorem sz_40 : (Tryz.prog.info? 40).map (·.size) = some 1 := by kernel_rfl
theorem el_40 : elemT Tryz.prog 40 = some (52, 2) := by kernel_rfl
theorem ef_40 : elemF Tryz.prog 40 52 2 24 = true := by kernel_rfl
theorem sl_40 : isSliceT Tryz.prog 40 = true := by kernel_rfl
theorem agg_42 : aggT Tryz.prog 42 = some 3 := by kernel_rfl
theorem sz_42 : (Tryz.prog.info? 42).map (·.size) = some 3 := by kernel_rfl
theorem fld_42_0 : fldOff Tryz.prog 42 0 = some 0 := by kernel_rfl
theorem fld_42_1 : fldOff Tryz.prog 42 1 = some 1 := by kernel_rfl
theorem fld_42_2 : fldOff Tryz.prog 42 2 = some 2 := by kernel_rfl
theorem ps_42 : placesT Tryz.prog 42 = some [(0, 1), (1, 1), (2, 1)] := by kernel_rfl
theorem zero_42 : zeroT Tryz.prog 42 = some (.agg ⟨[.int .i64 0, .int .i64 0, .slice none 0 0]⟩) := by kernel_rfl
theorem cell_45 : isCellT Tryz.prog 45 = true := by kernel_rfl
theorem sz_45 : (Tryz.prog.info? 45).map (·.size) = some 1 := by kernel_rfl
theorem el_45 : elemT Tryz.prog 45 = some (82, 37) := by kernel_rfl
theorem ef_45 : elemF Tryz.prog 45 82 37 96 = true := by kernel_rfl
theorem sl_45 : isSliceT Tryz.prog 45 = true := by kernel_rfl
theorem cell_46 : isCellT Tryz.prog 46 = true := by kernel_rfl
theorem sl_46 : isSliceT Tryz.prog 46 = true := by kernel_rfl
theorem agg_48 : aggT Tryz.prog 48 = some 5 := by kernel_rfl
theorem sz_48 : (Tryz.prog.info? 48).map (·.size) = some 5 := by kernel_rfl
theorem fld_48_0 : fldOff Tryz.prog 48 0 = some 0 := by kernel_rfl
theorem fld_48_1 : fldOff Tryz.prog 48 1 = some 1 := by kernel_rfl
theorem fld_48_2 : fldOff Tryz.prog 48 2 = some 2 := by kernel_rfl
theorem fld_48_3 : fldOff Tryz.prog 48 3 = some 3 := by kernel_rfl
theorem fld_48_4 : fldOff Tryz.prog 48 4 = some 4 := by kernel_rfl
theorem ps_48 : placesT Tryz.prog 48 = some [(0, 1), (1, 1), (2, 1), (3, 1), (4, 1)] := by kernel_rfl
theorem zero_48 : zeroT Tryz.prog 48 = some (.agg ⟨[.string ⟨#[]⟩, .int .i64 0, .int .i64 0, .slice none 0 0, .slice none 0 0]⟩) := by kernel_rfl
theorem agg_52 : aggT Tryz.prog 52 = some 2 := by kernel_rfl
theorem sz_52 : (Tryz.prog.info? 52).map (·.size) = some 2 := by kernel_rfl
theorem fld_52_0 : fldOff Tryz.prog 52 0 = some 0 := by kernel_rfl
theorem fld_52_1 : fldOff Tryz.prog 52 1 = some 1 := by kernel_rfl
theorem ps_52 : placesT Tryz.prog 52 = some [(0, 1), (1, 1)] := by kernel_rfl
theorem zero_52 : zeroT Tryz.prog 52 = some (.agg ⟨[.string ⟨#[]⟩, .int .i64 0]⟩) := by kernel_rfl
theorem cell_60 : isCellT Tryz.prog 60 = true := by kernel_rfl
theorem sz_60 : (Tryz.prog.info? 60).map (·.size) = some 1 := by kernel_rfl
theorem el_60 : elemT Tryz.prog 60 = some (25, 32) := by kernel_rfl
theorem ef_60 : elemF Tryz.prog 60 25 32 32 = true := by kernel_rfl
theorem sl_60 : isSliceT Tryz.prog 60 = true := by kernel_rfl
theorem fld_62_0 : fldOff Tryz.prog 62 0 = some 0 := by kernel_rfl
theorem fld_62_1 : fldOff Tryz.prog 62 1 = some 32 := by kernel_rfl
theorem fld_62_2 : fldOff Tryz.prog 62 2 = some 33 := by kernel_rfl
theorem fld_62_3 : fldOff Tryz.prog 62 3 = some 65 := by kernel_rfl
theorem ps_62 : placesT Tryz.prog 62 = some [(0, 32), (32, 1), (33, 32), (65, 1)] := by kernel_rfl
theorem zero_62 : zeroT Tryz.prog 62 = some (.agg ⟨[.int .u8 0, .int .u8 0, .int .u8 0, .int .u8 0, .int .u8 0, .int .u8 0, .int .u8 0, .int .u8 0, .int .u8 0, .int .u8 0, .int .u8 0, .int .u8 0, .int .u8 0, .int .u8 0, .int .u8 0, .int .u8 0, .int .u8 0, .int .u8 0, .int .u8 0, .int .u8 0, .int .u8 0, .int .u8 0, .int .u8 0, .int .u8 0, .int .u8 0, .int .u8 0, .int .u8 0, .int .u8 0, .int .u8 0, .int .u8 0, .int .u8 0, .int .u8 0, .slice none 0 0, .int .u8 0, .int .u8 0, .int .u8 0, .int .u8 0, .int .u8 0, .int .u8 0, .int .u8 0, .int .u8 0, .int .u8 0, .int .u8 0, .int .u8 0, .int .u8 0, .int .u8 0, .int .u8 0, .int .u8 0, .int .u8 0, .int .u8 0, .int .u8 0, .int .u8 0, .int .u8 0, .int .u8 0, .int .u8 0, .int .u8 0, .int .u8 0, .int .u8 0, .int .u8 0, .int .u8 0, .int .u8 0, .int .u8 0, .int .u8 0, .int .u8 0, .int .u8 0, .int .i64 0]⟩) := by kernel_rfl
theorem cell_63 : isCellT Tryz.prog 63 = true := by kernel_rfl
theorem sz_63 : (Tryz.prog.info? 63).map (·.size) = some 1 := by kernel_rfl
theorem agg_65 : aggT Tryz.prog 65 = some 2 := by kernel_rfl
theorem sz_65 : (Tryz.prog.info? 65).map (·.size) = some 2 := by kernel_rfl
theorem fld_65_0 : fldOff Tryz.prog 65 0 = some 0 := by kernel_rfl
theorem fld_65_1 : fldOff Tryz.prog 65 1 = some 1 := by kernel_rfl
theorem ps_65 : placesT Tryz.prog 65 = some [(0, 1), (1, 1)] := by kernel_rfl
theorem zero_65 : zeroT Tryz.prog 65 = some (.agg ⟨[.slice none 0 0, .int .i64 0]⟩) := by kernel_rfl
theorem agg_66 : aggT Tryz.prog 66 = some 8 := by kernel_rfl
theorem arr_66 : arrT Tryz.prog 66 = some (4, 65, 2) := by kernel_rfl
theorem agg_68 : aggT Tryz.prog 68 = some 10 := by kernel_rfl
theorem sz_68 : (Tryz.prog.info? 68).map (·.size) = some 10 := by kernel_rfl
theorem fld_68_0 : fldOff Tryz.prog 68 0 = some 0 := by kernel_rfl
theorem fld_68_1 : fldOff Tryz.prog 68 1 = some 1 := by kernel_rfl
theorem fld_68_2 : fldOff Tryz.prog 68 2 = some 2 := by kernel_rfl
theorem ps_68 : placesT Tryz.prog 68 = some [(0, 1), (1, 1), (2, 8)] := by kernel_rfl
theorem zero_68 : zeroT Tryz.prog 68 = some (.agg ⟨[.int .i64 0, .int .i64 0, .slice none 0 0, .int .i64 0, .slice none 0 0, .int .i64 0, .slice none 0 0, .int .i64 0, .slice none 0 0, .int .i64 0]⟩) := by kernel_rfl
theorem fld_70_0 : fldOff Tryz.prog 70 0 = some 0 := by kernel_rfl
theorem fld_70_1 : fldOff Tryz.prog 70 1 = some 32 := by kernel_rfl
theorem fld_70_2 : fldOff Tryz.prog 70 2 = some 33 := by kernel_rfl
theorem fld_70_3 : fldOff Tryz.prog 70 3 = some 34 := by kernel_rfl
theorem fld_70_4 : fldOff Tryz.prog 70 4 = some 35 := by kernel_rfl
theorem fld_70_5 : fldOff Tryz.prog 70 5 = some 45 := by kernel_rfl
theorem fld_70_8 : fldOff Tryz.prog 70 8 = some 57 := by kernel_rfl
theorem ps_70 : placesT Tryz.prog 70 = some [(0, 32), (32, 1), (33, 1), (34, 1), (35, 10), (45, 10), (55, 1), (56, 1), (57, 6), (63, 1)] := by kernel_rfl
theorem zero_70 : zeroT Tryz.prog 70 = some (.agg ⟨[.int .u8 0, .int .u8 0, .int .u8 0, .int .u8 0, .int .u8 0, .int .u8 0, .int .u8 0, .int .u8 0, .int .u8 0, .int .u8 0, .int .u8 0, .int .u8 0, .int .u8 0, .int .u8 0, .int .u8 0, .int .u8 0, .int .u8 0, .int .u8 0, .int .u8 0, .int .u8 0, .int .u8 0, .int .u8 0, .int .u8 0, .int .u8 0, .int .u8 0, .int .u8 0, .int .u8 0, .int .u8 0, .int .u8 0, .int .u8 0, .int .u8 0, .int .u8 0, .pointer none, .pointer none, .int .i64 0, .int .i64 0, .int .i64 0, .slice none 0 0, .int .i64 0, .slice none 0 0, .int .i64 0, .slice none 0 0, .int .i64 0, .slice none 0 0, .int .i64 0, .int .i64 0, .int .i64 0, .slice none 0 0, .int .i64 0, .slice none 0 0, .int .i64 0, .slice none 0 0, .int .i64 0, .slice none 0 0, .int .i64 0, .slice none 0 0, .int .i64 0, .slice none 0 0, .slice none 0 0, .slice none 0 0, .slice none 0 0, .slice none 0 0, .slice none 0 0, .slice none 0 0]⟩) := by kernel_rfl
theorem ef_73 : elemF Tryz.prog 73 48 5 80 = true := by kernel_rfl
theorem sl_73 : isSliceT Tryz.prog 73 = true := by kernel_rfl
theorem agg_75 : aggT Tryz.prog 75 = some 50 := by kernel_rfl
theorem sz_75 : (Tryz.prog.info? 75).map (·.size) = some 50 := by kernel_rfl
theorem fld_75_0 : fldOff Tryz.prog 75 0 = some 0 := by kernel_rfl
theorem fld_75_1 : fldOff Tryz.prog 75 1 = some 10 := by kernel_rfl
theorem fld_75_2 : fldOff Tryz.prog 75 2 = some 11 := by kernel_rfl
theorem fld_75_3 : fldOff Tryz.prog 75 3 = some 46 := by kernel_rfl
theorem ps_75 : placesT Tryz.prog 75 = some [(0, 10), (10, 1), (11, 35), (46, 3), (49, 1)] := by kernel_rfl
theorem zero_75 : zeroT Tryz.prog 75 = some (.agg ⟨[.int .i64 0, .int .i64 0, .slice none 0 0, .int .i64 0, .slice none 0 0, .int .i64 0, .slice none 0 0, .int .i64 0, .slice none 0 0, .int .i64 0, .bool false, .int .i64 0, .int .i64 0, .int .i64 0, .int .u8 0, .int .u8 0, .int .u8 0, .int .u8 0, .int .u8 0, .int .u8 0, .int .u8 0, .int .u8 0, .int .u8 0, .int .u8 0, .int .u8 0, .int .u8 0, .int .u8 0, .int .u8 0, .int .u8 0, .int .u8 0, .int .u8 0, .int .u8 0, .int .u8 0, .int .u8 0, .int .u8 0, .int .u8 0, .int .u8 0, .int .u8 0, .int .u8 0, .int .u8 0, .int .u8 0, .int .u8 0, .int .u8 0, .int .u8 0, .int .u8 0, .int .u8 0, .int .i64 0, .int .i64 0, .slice none 0 0, .slice none 0 0]⟩) := by kernel_rfl
theorem agg_82 : aggT Tryz.prog 82 = some 37 := by kernel_rfl
theorem sz_82 : (Tryz.prog.info? 82).map (·.size) = some 37 := by kernel_rfl
theorem fld_82_0 : fldOff Tryz.prog 82 0 = some 0 := by kernel_rfl
theorem fld_82_1 : fldOff Tryz.prog 82 1 = some 1 := by kernel_rfl
theorem fld_82_2 : fldOff Tryz.prog 82 2 = some 2 := by kernel_rfl
theorem fld_82_3 : fldOff Tryz.prog 82 3 = some 34 := by kernel_rfl
theorem fld_82_4 : fldOff Tryz.prog 82 4 = some 35 := by kernel_rfl
theorem fld_82_5 : fldOff Tryz.prog 82 5 = some 36 := by kernel_rfl
theorem ps_82 : placesT Tryz.prog 82 = some [(0, 1), (1, 1), (2, 32), (34, 1), (35, 1), (36, 1)] := by kernel_rfl
theorem zero_82 : zeroT Tryz.prog 82 = some (.agg ⟨[.string ⟨#[]⟩, .int .i64 0, .int .u8 0, .int .u8 0, .int .u8 0, .int .u8 0, .int .u8 0, .int .u8 0, .int .u8 0, .int .u8 0, .int .u8 0, .int .u8 0, .int .u8 0, .int .u8 0, .int .u8 0, .int .u8 0, .int .u8 0, .int .u8 0, .int .u8 0, .int .u8 0, .int .u8 0, .int .u8 0, .int .u8 0, .int .u8 0, .int .u8 0, .int .u8 0, .int .u8 0, .int .u8 0, .int .u8 0, .int .u8 0, .int .u8 0, .int .u8 0, .int .u8 0, .int .u8 0, .string ⟨#[]⟩, .int .i64 0, .string ⟨#[]⟩]⟩) := by kernel_rfl
theorem cell_105 : isCellT Tryz.prog 105 = true := by kernel_rfl
theorem sz_105 : (Tryz.prog.info? 105).map (·.size) = some 1 := by kernel_rfl
theorem sz_106 : (Tryz.prog.info? 106).map (·.size) = some 2 := by kernel_rfl
theorem arr_106 : arrT Tryz.prog 106 = some (2, 105, 1) := by kernel_rfl
theorem ps_106 : placesT Tryz.prog 106 = some ((List.range 2).map fun k => (k * 1, 1)) := by kernel_rfl
theorem zero_106 : zeroT Tryz.prog 106 = some (.agg ⟨[.pointer none, .pointer none]⟩) := by kernel_rfl
theorem fld_108_0 : fldOff Tryz.prog 108 0 = some 0 := by kernel_rfl
theorem fld_108_1 : fldOff Tryz.prog 108 1 = some 32 := by kernel_rfl
theorem fld_108_2 : fldOff Tryz.prog 108 2 = some 34 := by kernel_rfl
theorem fld_108_3 : fldOff Tryz.prog 108 3 = some 35 := by kernel_rfl
theorem fld_108_4 : fldOff Tryz.prog 108 4 = some 45 := by kernel_rfl
theorem fld_108_5 : fldOff Tryz.prog 108 5 = some 55 := by kernel_rfl
theorem fld_108_6 : fldOff Tryz.prog 108 6 = some 56 := by kernel_rfl
theorem fld_108_7 : fldOff Tryz.prog 108 7 = some 57 := by kernel_rfl
theorem fld_108_8 : fldOff Tryz.prog 108 8 = some 63 := by kernel_rfl
theorem ps_108 : placesT Tryz.prog 108 = some [(0, 32), (32, 2), (34, 1), (35, 10), (45, 10), (55, 1), (56, 1), (57, 6), (63, 1)] := by kernel_rfl
theorem zero_108 : zeroT Tryz.prog 108 = some (.agg ⟨[.int .u8 0, .int .u8 0, .int .u8 0, .int .u8 0, .int .u8 0, .int .u8 0, .int .u8 0, .int .u8 0, .int .u8 0, .int .u8 0, .int .u8 0, .int .u8 0, .int .u8 0, .int .u8 0, .int .u8 0, .int .u8 0, .int .u8 0, .int .u8 0, .int .u8 0, .int .u8 0, .int .u8 0, .int .u8 0, .int .u8 0, .int .u8 0, .int .u8 0, .int .u8 0, .int .u8 0, .int .u8 0, .int .u8 0, .int .u8 0, .int .u8 0, .int .u8 0, .pointer none, .pointer none, .int .i64 0, .int .i64 0, .int .i64 0, .slice none 0 0, .int .i64 0, .slice none 0 0, .int .i64 0, .slice none 0 0, .int .i64 0, .slice none 0 0, .int .i64 0, .int .i64 0, .int .i64 0, .slice none 0 0, .int .i64 0, .slice none 0 0, .int .i64 0, .slice none 0 0, .int .i64 0, .slice none 0 0, .int .i64 0, .slice none 0 0, .int .i64 0, .slice none 0 0, .slice none 0 0, .slice none 0 0, .slice none 0 0, .slice none 0 0, .slice none 0 0, .slice none 0 0]⟩) := by kernel_rfl
theorem fld_129_0 : fldOff Tryz.prog 129 0 = some 0 := by kernel_rfl
theorem fld_129_1 : fldOff Tryz.prog 129 1 = some 1 := by kernel_rfl
theorem ps_129 : placesT Tryz.prog 129 = some [(0, 1), (1, 1)] := by kernel_rfl
theorem zero_129 : zeroT Tryz.prog 129 = some (.agg ⟨[.slice none 0 0, .bool false]⟩) := by kernel_rfl
theorem fld_166_0 : fldOff Tryz.prog 166 0 = some 0 := by kernel_rfl
theorem fld_166_1 : fldOff Tryz.prog 166 1 = some 32 := by kernel_rfl
theorem fld_166_2 : fldOff Tryz.prog 166 2 = some 33 := by kernel_rfl
theorem ps_166 : placesT Tryz.prog 166 = some [(0, 32), (32, 1), (33, 1)] := by kernel_rfl
theorem zero_166 : zeroT Tryz.prog 166 = some (.agg ⟨[.int .u8 0, .int .u8 0, .int .u8 0, .int .u8 0, .int .u8 0, .int .u8 0, .int .u8 0, .int .u8 0, .int .u8 0, .int .u8 0, .int .u8 0, .int .u8 0, .int .u8 0, .int .u8 0, .int .u8 0, .int .u8 0, .int .u8 0, .int .u8 0, .int .u8 0, .int .u8 0, .int .u8 0, .int .u8 0, .int .u8 0, .int .u8 0, .int .u8 0, .int .u8 0, .int .u8 0, .int .u8 0, .int .u8 0, .int .u8 0, .int .u8 0, .int .u8 0, .slice none 0 0, .int .i64 0]⟩) := by kernel_rfl
theorem fld_173_0 : fldOff Tryz.prog 173 0 = some 0 := by kernel_rfl
theorem fld_175_0 : fldOff Tryz.prog 175 0 = some 0 := by kernel_rfl
theorem ps_175 : placesT Tryz.prog 175 = some [(0, 1)] := by kernel_rfl
theorem zero_175 : zeroT Tryz.prog 175 = some (.agg ⟨[.slice none 0 0]⟩) := by kernel_rfl
theorem cell_189 : isCellT Tryz.prog 189 = true := by kernel_rfl
theorem sz_189 : (Tryz.prog.info? 189).map (·.size) = some 1 := by kernel_rfl
theorem agg_190 : aggT Tryz.prog 190 = some 8 := by kernel_rfl
theorem sz_190 : (Tryz.prog.info? 190).map (·.size) = some 8 := by kernel_rfl
theorem arr_190 : arrT Tryz.prog 190 = some (8, 189, 1) := by kernel_rfl
theorem ps_190 : placesT Tryz.prog 190 = some ((List.range 8).map fun k => (k * 1, 1)) := by kernel_rfl
theorem zero_190 : zeroT Tryz.prog 190 = some (.agg ⟨[.int .u32 0, .int .u32 0, .int .u32 0, .int .u32 0, .int .u32 0, .int .u32 0, .int .u32 0, .int .u32 0]⟩) := by kernel_rfl
theorem agg_191 : aggT Tryz.prog 191 = some 8 := by kernel_rfl
theorem sz_191 : (Tryz.prog.info? 191).map (·.size) = some 8 := by kernel_rfl
theorem arr_191 : arrT Tryz.prog 191 = some (8, 189, 1) := by kernel_rfl
theorem ps_191 : placesT Tryz.prog 191 = some ((List.range 8).map fun k => (k * 1, 1)) := by kernel_rfl
theorem zero_191 : zeroT Tryz.prog 191 = some (.agg ⟨[.int .u32 0, .int .u32 0, .int .u32 0, .int .u32 0, .int .u32 0, .int .u32 0, .int .u32 0, .int .u32 0]⟩) := by kernel_rfl
theorem agg_192 : aggT Tryz.prog 192 = some 64 := by kernel_rfl
theorem sz_192 : (Tryz.prog.info? 192).map (·.size) = some 64 := by kernel_rfl
theorem arr_192 : arrT Tryz.prog 192 = some (64, 189, 1) := by kernel_rfl
theorem ps_192 : placesT Tryz.prog 192 = some ((List.range 64).map fun k => (k * 1, 1)) := by kernel_rfl
theorem zero_192 : zeroT Tryz.prog 192 = some (.agg ⟨List.replicate 64 (.int .u32 0)⟩) := by kernel_rfl
theorem arr_196 : arrT Tryz.prog 196 = some (128, 5, 1) := by kernel_rfl
theorem zero_196 : zeroT Tryz.prog 196 = some (.agg ⟨List.replicate 128 (.int .u8 0)⟩) := by kernel_rfl
theorem agg_200 : aggT Tryz.prog 200 = some 3 := by kernel_rfl
theorem sz_200 : (Tryz.prog.info? 200).map (·.size) = some 3 := by kernel_rfl
theorem fld_200_0 : fldOff Tryz.prog 200 0 = some 0 := by kernel_rfl
theorem fld_200_1 : fldOff Tryz.prog 200 1 = some 1 := by kernel_rfl
theorem fld_200_2 : fldOff Tryz.prog 200 2 = some 2 := by kernel_rfl
theorem ps_200 : placesT Tryz.prog 200 = some [(0, 1), (1, 1), (2, 1)] := by kernel_rfl
theorem zero_200 : zeroT Tryz.prog 200 = some (.agg ⟨[.int .i64 0, .slice none 0 0, .slice none 0 0]⟩) := by kernel_rfl
theorem agg_203 : aggT Tryz.prog 203 = some 35 := by kernel_rfl
theorem sz_203 : (Tryz.prog.info? 203).map (·.size) = some 35 := by kernel_rfl
theorem fld_203_0 : fldOff Tryz.prog 203 0 = some 0 := by kernel_rfl
theorem fld_203_1 : fldOff Tryz.prog 203 1 = some 32 := by kernel_rfl
theorem ps_203 : placesT Tryz.prog 203 = some [(0, 32), (32, 3)] := by kernel_rfl
theorem zero_203 : zeroT Tryz.prog 203 = some (.agg ⟨[.int .u8 0, .int .u8 0, .int .u8 0, .int .u8 0, .int .u8 0, .int .u8 0, .int .u8 0, .int .u8 0, .int .u8 0, .int .u8 0, .int .u8 0, .int .u8 0, .int .u8 0, .int .u8 0, .int .u8 0, .int .u8 0, .int .u8 0, .int .u8 0, .int .u8 0, .int .u8 0, .int .u8 0, .int .u8 0, .int .u8 0, .int .u8 0, .int .u8 0, .int .u8 0, .int .u8 0, .int .u8 0, .int .u8 0, .int .u8 0, .int .u8 0, .int .u8 0, .int .i64 0, .slice none 0 0, .slice none 0 0]⟩) := by kernel_rfl
theorem fld_243_0 : fldOff Tryz.prog 243 0 = some 0 := by kernel_rfl
theorem fld_243_1 : fldOff Tryz.prog 243 1 = some 32 := by kernel_rfl
theorem ps_243 : placesT Tryz.prog 243 = some [(0, 32), (32, 1)] := by kernel_rfl
theorem zero_243 : zeroT Tryz.prog 243 = some (.agg ⟨[.int .u8 0, .int .u8 0, .int .u8 0, .int .u8 0, .int .u8 0, .int .u8 0, .int .u8 0, .int .u8 0, .int .u8 0, .int .u8 0, .int .u8 0, .int .u8 0, .int .u8 0, .int .u8 0, .int .u8 0, .int .u8 0, .int .u8 0, .int .u8 0, .int .u8 0, .int .u8 0, .int .u8 0, .int .u8 0, .int .u8 0, .int .u8 0, .int .u8 0, .int .u8 0, .int .u8 0, .int .u8 0, .int .u8 0, .int .u8 0, .int .u8 0, .int .u8 0, .int .i64 0]⟩) := by kernel_rfl
theorem el_248 : elemT Tryz.prog 248 = some (3, 1) := by kernel_rfl
theorem sl_248 : isSliceT Tryz.prog 248 = true := by kernel_rfl
theorem agg_255 : aggT Tryz.prog 255 = some 36 := by kernel_rfl
theorem sz_255 : (Tryz.prog.info? 255).map (·.size) = some 36 := by kernel_rfl
theorem arr_255 : arrT Tryz.prog 255 = some (36, 3, 1) := by kernel_rfl
theorem zero_255 : zeroT Tryz.prog 255 = some (.agg ⟨[.int .i64 0, .int .i64 0, .int .i64 0, .int .i64 0, .int .i64 0, .int .i64 0, .int .i64 0, .int .i64 0, .int .i64 0, .int .i64 0, .int .i64 0, .int .i64 0, .int .i64 0, .int .i64 0, .int .i64 0, .int .i64 0, .int .i64 0, .int .i64 0, .int .i64 0, .int .i64 0, .int .i64 0, .int .i64 0, .int .i64 0, .int .i64 0, .int .i64 0, .int .i64 0, .int .i64 0, .int .i64 0, .int .i64 0, .int .i64 0, .int .i64 0, .int .i64 0, .int .i64 0, .int .i64 0, .int .i64 0, .int .i64 0]⟩) := by kernel_rfl
theorem agg_268 : aggT Tryz.prog 268 = some 256 := by kernel_rfl
theorem sz_268 : (Tryz.prog.info? 268).map (·.size) = some 256 := by kernel_rfl
theorem arr_268 : arrT Tryz.prog 268 = some (256, 4, 1) := by kernel_rfl
theorem zero_268 : zeroT Tryz.prog 268 = some (.agg ⟨List.replicate 256 (.bool false)⟩) := by kernel_rfl
theorem el_274 : elemT Tryz.prog 274 = some (29, 1) := by kernel_rfl
theorem sl_274 : isSliceT Tryz.prog 274 = true := by kernel_rfl
theorem call_12 : callable Tryz.prog 12 = true := by kernel_rfl
theorem call_13 : callable Tryz.prog 13 = true := by kernel_rfl
theorem call_14 : callable Tryz.prog 14 = true := by kernel_rfl
theorem call_15 : callable Tryz.prog 15 = true := by kernel_rfl
theorem call_16 : callable Tryz.prog 16 = true := by kernel_rfl
theorem call_17 : callable Tryz.prog 17 = true := by kernel_rfl
theorem call_18 : callable Tryz.prog 18 = true := by kernel_rfl
theorem call_20 : callable Tryz.prog 20 = true := by kernel_rfl
theorem call_21 : callable Tryz.prog 21 = true := by kernel_rfl
theorem call_22 : callable Tryz.prog 22 = true := by kernel_rfl
theorem call_23 : callable Tryz.prog 23 = true := by kernel_rfl
theorem call_24 : callable Tryz.prog 24 = true := by kernel_rfl
theorem call_25 : callable Tryz.prog 25 = true := by kernel_rfl
theorem call_35 : callable Tryz.prog 35 = true := by kernel_rfl
theorem call_40 : callable Tryz.prog 40 = true := by kernel_rfl
theorem call_41 : callable Tryz.prog 41 = true := by kernel_rfl
theorem call_42 : callable Tryz.prog 42 = true := by kernel_rfl
theorem call_43 : callable Tryz.prog 43 = true := by kernel_rfl
theorem call_44 : callable Tryz.prog 44 = true := by kernel_rfl
theorem call_45 : callable Tryz.prog 45 = true := by kernel_rfl
theorem call_46 : callable Tryz.prog 46 = true := by kernel_rfl
theorem call_47 : callable Tryz.prog 47 = true := by kernel_rfl
theorem call_48 : callable Tryz.prog 48 = true := by kernel_rfl
theorem call_49 : callable Tryz.prog 49 = true := by kernel_rfl
theorem call_50 : callable Tryz.prog 50 = true := by kernel_rfl
theorem call_51 : callable Tryz.prog 51 = true := by kernel_rfl
theorem call_52 : callable Tryz.prog 52 = true := by kernel_rfl
theorem call_53 : callable Tryz.prog 53 = true := by kernel_rfl
theorem call_54 : callable Tryz.prog 54 = true := by kernel_rfl
theorem call_55 : callable Tryz.prog 55 = true := by kernel_rfl
theorem call_56 : callable Tryz.prog 56 = true := by kernel_rfl
theorem call_57 : callable Tryz.prog 57 = true := by kernel_rfl
theorem call_58 : callable Tryz.prog 58 = true := by kernel_rfl
theorem call_59 : callable Tryz.prog 59 = true := by kernel_rfl
theorem call_60 : callable Tryz.prog 60 = true := by kernel_rfl
theorem call_62 : callable Tryz.prog 62 = true := by kernel_rfl
theorem call_64 : callable Tryz.prog 64 = true := by kernel_rfl
theorem call_65 : callable Tryz.prog 65 = true := by kernel_rfl
theorem call_66 : callable Tryz.prog 66 = true := by kernel_rfl
theorem call_67 : callable Tryz.prog 67 = true := by kernel_rfl
theorem call_68 : callable Tryz.prog 68 = true := by kernel_rfl
theorem call_69 : callable Tryz.prog 69 = true := by kernel_rfl
theorem call_70 : callable Tryz.prog 70 = true := by kernel_rfl
theorem call_71 : callable Tryz.prog 71 = true := by kernel_rfl
theorem call_72 : callable Tryz.prog 72 = true := by kernel_rfl
theorem call_73 : callable Tryz.prog 73 = true := by kernel_rfl
theorem call_74 : callable Tryz.prog 74 = true := by kernel_rfl
theorem call_75 : callable Tryz.prog 75 = true := by kernel_rfl
theorem call_87 : callable Tryz.prog 87 = true := by kernel_rfl
theorem call_88 : callable Tryz.prog 88 = true := by kernel_rfl
theorem call_89 : callable Tryz.prog 89 = true := by kernel_rfl
theorem call_90 : callable Tryz.prog 90 = true := by kernel_rfl
theorem call_91 : callable Tryz.prog 91 = true := by kernel_rfl
theorem call_92 : callable Tryz.prog 92 = true := by kernel_rfl
theorem call_93 : callable Tryz.prog 93 = true := by kernel_rfl
theorem call_94 : callable Tryz.prog 94 = true := by kernel_rfl
theorem call_95 : callable Tryz.prog 95 = true := by kernel_rfl
theorem call_97 : callable Tryz.prog 97 = true := by kernel_rfl
theorem call_98 : callable Tryz.prog 98 = true := by kernel_rfl
theorem call_99 : callable Tryz.prog 99 = true := by kernel_rfl
theorem call_100 : callable Tryz.prog 100 = true := by kernel_rfl
theorem call_101 : callable Tryz.prog 101 = true := by kernel_rfl
theorem call_102 : callable Tryz.prog 102 = true := by kernel_rfl
theorem call_103 : callable Tryz.prog 103 = true := by kernel_rfl
theorem call_104 : callable Tryz.prog 104 = true := by kernel_rfl
theorem call_105 : callable Tryz.prog 105 = true := by kernel_rfl
theorem call_106 : callable Tryz.prog 106 = true := by kernel_rfl
theorem call_107 : callable Tryz.prog 107 = true := by kernel_rfl
theorem call_108 : callable Tryz.prog 108 = true := by kernel_rfl
theorem call_109 : callable Tryz.prog 109 = true := by kernel_rfl
theorem call_110 : callable Tryz.prog 110 = true := by kernel_rfl
theorem call_111 : callable Tryz.prog 111 = true := by kernel_rfl
theorem call_112 : callable Tryz.prog 112 = true := by kernel_rfl
theorem call_113 : callable Tryz.prog 113 = true := by kernel_rfl
theorem call_114 : callable Tryz.prog 114 = true := by kernel_rfl
theorem call_115 : callable Tryz.prog 115 = true := by kernel_rfl
theorem call_116 : callable Tryz.prog 116 = true := by kernel_rfl
theorem call_117 : callable Tryz.prog 117 = true := by kernel_rfl
theorem call_118 : callable Tryz.prog 118 = true := by kernel_rfl
theorem call_119 : callable Tryz.prog 119 = true := by kernel_rfl
theorem call_120 : callable Tryz.prog 120 = true := by kernel_rfl
theorem call_121 : callable Tryz.prog 121 = true := by kernel_rfl
theorem call_122 : callable Tryz.prog 122 = true := by kernel_rfl
theorem call_123 : callable Tryz.prog 123 = true := by kernel_rfl
theorem call_124 : callable Tryz.prog 124 = true := by kernel_rfl
theorem call_127 : callable Tryz.prog 127 = true := by kernel_rfl
theorem call_128 : callable Tryz.prog 128 = true := by kernel_rfl
theorem call_129 : callable Tryz.prog 129 = true := by kernel_rfl
theorem call_130 : callable Tryz.prog 130 = true := by kernel_rfl
theorem call_131 : callable Tryz.prog 131 = true := by kernel_rfl
theorem call_132 : callable Tryz.prog 132 = true := by kernel_rfl
theorem call_133 : callable Tryz.prog 133 = true := by kernel_rfl
theorem call_134 : callable Tryz.prog 134 = true := by kernel_rfl
theorem call_135 : callable Tryz.prog 135 = true := by kernel_rfl
theorem call_136 : callable Tryz.prog 136 = true := by kernel_rfl
theorem call_137 : callable Tryz.prog 137 = true := by kernel_rfl
theorem call_138 : callable Tryz.prog 138 = true := by kernel_rfl
theorem call_139 : callable Tryz.prog 139 = true := by kernel_rfl
theorem call_140 : callable Tryz.prog 140 = true := by kernel_rfl
theorem call_141 : callable Tryz.prog 141 = true := by kernel_rfl
theorem call_142 : callable Tryz.prog 142 = true := by kernel_rfl
theorem call_144 : callable Tryz.prog 144 = true := by kernel_rfl
theorem call_153 : callable Tryz.prog 153 = true := by kernel_rfl
theorem call_154 : callable Tryz.prog 154 = true := by kernel_rfl
theorem call_155 : callable Tryz.prog 155 = true := by kernel_rfl
theorem call_156 : callable Tryz.prog 156 = true := by kernel_rfl
theorem call_157 : callable Tryz.prog 157 = true := by kernel_rfl
theorem call_158 : callable Tryz.prog 158 = true := by kernel_rfl
theorem call_159 : callable Tryz.prog 159 = true := by kernel_rfl
theorem call_163 : callable Tryz.prog 163 = true := by kernel_rfl
theorem call_164 : callable Tryz.prog 164 = true := by kernel_rfl
theorem call_165 : callable Tryz.prog 165 = true := by kernel_rfl
theorem call_166 : callable Tryz.prog 166 = true := by kernel_rfl
theorem call_167 : callable Tryz.prog 167 = true := by kernel_rfl
theorem call_168 : callable Tryz.prog 168 = true := by kernel_rfl
theorem call_169 : callable Tryz.prog 169 = true := by kernel_rfl
theorem call_170 : callable Tryz.prog 170 = true := by kernel_rfl
theorem call_171 : callable Tryz.prog 171 = true := by kernel_rfl
theorem call_172 : callable Tryz.prog 172 = true := by kernel_rfl
theorem call_173 : callable Tryz.prog 173 = true := by kernel_rfl
theorem call_174 : callable Tryz.prog 174 = true := by kernel_rfl
theorem call_175 : callable Tryz.prog 175 = true := by kernel_rfl
theorem call_176 : callable Tryz.prog 176 = true := by kernel_rfl
theorem call_177 : callable Tryz.prog 177 = true := by kernel_rfl
theorem call_178 : callable Tryz.prog 178 = true := by kernel_rfl
theorem call_179 : callable Tryz.prog 179 = true := by kernel_rfl
theorem call_180 : callable Tryz.prog 180 = true := by kernel_rfl
theorem call_181 : callable Tryz.prog 181 = true := by kernel_rfl
theorem call_183 : callable Tryz.prog 183 = true := by kernel_rfl
theorem call_184 : callable Tryz.prog 184 = true := by kernel_rfl
theorem call_185 : callable Tryz.prog 185 = true := by kernel_rfl
theorem call_186 : callable Tryz.prog 186 = true := by kernel_rfl
theorem call_187 : callable Tryz.prog 187 = true := by kernel_rfl
theorem call_188 : callable Tryz.prog 188 = true := by kernel_rfl
theorem call_189 : callable Tryz.prog 189 = true := by kernel_rfl
theorem call_190 : callable Tryz.prog 190 = true := by kernel_rfl
theorem call_191 : callable Tryz.prog 191 = true := by kernel_rfl
theorem call_192 : callable Tryz.prog 192 = true := by kernel_rfl
theorem call_193 : callable Tryz.prog 193 = true := by kernel_rfl
theorem call_194 : callable Tryz.prog 194 = true := by kernel_rfl
theorem call_197 : callable Tryz.prog 197 = true := by kernel_rfl
theorem call_198 : callable Tryz.prog 198 = true := by kernel_rfl
theorem call_199 : callable Tryz.prog 199 = true := by kernel_rfl
theorem call_206 : callable Tryz.prog 206 = true := by kernel_rfl
theorem call_207 : callable Tryz.prog 207 = true := by kernel_rfl
theorem call_208 : callable Tryz.prog 208 = true := by kernel_rfl
theorem call_209 : callable Tryz.prog 209 = true := by kernel_rfl
theorem call_210 : callable Tryz.prog 210 = true := by kernel_rfl
theorem call_211 : callable Tryz.prog 211 = true := by kernel_rfl
theorem call_212 : callable Tryz.prog 212 = true := by kernel_rfl
theorem call_220 : callable Tryz.prog 220 = true := by kernel_rfl
theorem call_221 : callable Tryz.prog 221 = true := by kernel_rfl
theorem call_222 : callable Tryz.prog 222 = true := by kernel_rfl
theorem call_223 : callable Tryz.prog 223 = true := by kernel_rfl
theorem call_224 : callable Tryz.prog 224 = true := by kernel_rfl
end Go.Proofs.YtlgkdnmklgbhbaaGreatDoor
