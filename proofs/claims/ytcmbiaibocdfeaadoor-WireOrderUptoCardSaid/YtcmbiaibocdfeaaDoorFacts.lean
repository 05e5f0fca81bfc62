/- Closed facts on the program's types and functions. -/
import Derived.Test.YtcmbiaibocdfeaaDoorRows
import Derived.Test.YtcmbiaibocdfeaaDoorFwF
namespace Go.Proofs.YtcmbiaibocdfeaaDoor
open Go Go.Fw
set_option maxRecDepth 100000
theorem mo : Tryd.prog.follows .mixedOrders = true := by kernel_rfl
theorem cell_1 : isCellT Tryd.prog 1 = true := by kernel_rfl
theorem sz_1 : (Tryd.prog.info? 1).map (·.size) = some 1 := by kernel_rfl
theorem zero_1 : zeroT Tryd.prog 1 = some (.nilFunc) := by kernel_rfl
theorem cell_2 : isCellT Tryd.prog 2 = true := by kernel_rfl
theorem sz_2 : (Tryd.prog.info? 2).map (·.size) = some 1 := by kernel_rfl
theorem zero_2 : zeroT Tryd.prog 2 = some (.int .i64 0) := by kernel_rfl
theorem cell_3 : isCellT Tryd.prog 3 = true := by kernel_rfl
theorem sz_3 : (Tryd.prog.info? 3).map (·.size) = some 1 := by kernel_rfl
theorem zero_3 : zeroT Tryd.prog 3 = some (.int .i64 0) := by kernel_rfl
theorem cell_4 : isCellT Tryd.prog 4 = true := by kernel_rfl
theorem sz_4 : (Tryd.prog.info? 4).map (·.size) = some 1 := by kernel_rfl
theorem zero_4 : zeroT Tryd.prog 4 = some (.bool false) := by kernel_rfl
theorem cell_5 : isCellT Tryd.prog 5 = true := by kernel_rfl
theorem sz_5 : (Tryd.prog.info? 5).map (·.size) = some 1 := by kernel_rfl
theorem zero_5 : zeroT Tryd.prog 5 = some (.int .u8 0) := by kernel_rfl
theorem cell_9 : isCellT Tryd.prog 9 = true := by kernel_rfl
theorem sz_9 : (Tryd.prog.info? 9).map (·.size) = some 1 := by kernel_rfl
theorem str_9 : isStringT Tryd.prog 9 = true := by kernel_rfl
theorem zero_9 : zeroT Tryd.prog 9 = some (.string ⟨#[]⟩) := by kernel_rfl
theorem cell_21 : isCellT Tryd.prog 21 = true := by kernel_rfl
theorem sz_21 : (Tryd.prog.info? 21).map (·.size) = some 1 := by kernel_rfl
theorem zero_21 : zeroT Tryd.prog 21 = some (.int .i32 0) := by kernel_rfl
theorem cell_24 : isCellT Tryd.prog 24 = true := by kernel_rfl
theorem sz_24 : (Tryd.prog.info? 24).map (·.size) = some 1 := by kernel_rfl
theorem el_24 : elemT Tryd.prog 24 = some (5, 1) := by kernel_rfl
theorem ef_24 : elemF Tryd.prog 24 5 1 1 = true := by kernel_rfl
theorem sl_24 : isSliceT Tryd.prog 24 = true := by kernel_rfl
theorem zero_24 : zeroT Tryd.prog 24 = some (.slice none 0 0) := by kernel_rfl
theorem cell_25 : isCellT Tryd.prog 25 = true := by kernel_rfl
theorem sz_25 : (Tryd.prog.info? 25).map (·.size) = some 1 := by kernel_rfl
theorem zero_25 : zeroT Tryd.prog 25 = some (.int .i64 0) := by kernel_rfl
theorem eg_29 : Tryd.prog.eqGuardType Tryd.prog.depth 29 = false := by kernel_rfl
theorem agg_29 : aggT Tryd.prog 29 = some 32 := by kernel_rfl
theorem sz_29 : (Tryd.prog.info? 29).map (·.size) = some 32 := by kernel_rfl
theorem arr_29 : arrT Tryd.prog 29 = some (32, 5, 1) := by kernel_rfl
theorem ps_29 : placesT Tryd.prog 29 = some ((List.range 32).map fun k => (k * 1, 1)) := by kernel_rfl
theorem zero_29 : zeroT Tryd.prog 29 = some (.agg ⟨[.int .u8 0, .int .u8 0, .int .u8 0, .int .u8 0, .int .u8 0, .int .u8 0, .int .u8 0, .int .u8 0, .int .u8 0, .int .u8 0, .int .u8 0, .int .u8 0, .int .u8 0, .int .u8 0, .int .u8 0, .int .u8 0, .int .u8 0, .int .u8 0, .int .u8 0, .int .u8 0, .int .u8 0, .int .u8 0, .int .u8 0, .int .u8 0, .int .u8 0, .int .u8 0, .int .u8 0, .int .u8 0, .int .u8 0, .int .u8 0, .int .u8 0, .int .u8 0]⟩) := by kernel_rfl
theorem eg_31 : Tryd.prog.eqGuardType Tryd.prog.depth 31 = false := by kernel_rfl
theorem agg_31 : aggT Tryd.prog 31 = some 35 := by kernel_rfl
theorem sz_31 : (Tryd.prog.info? 31).map (·.size) = some 35 := by kernel_rfl
theorem fld_31_0 : fldOff Tryd.prog 31 0 = some 0 := by kernel_rfl
theorem fld_31_1 : fldOff Tryd.prog 31 1 = some 1 := by kernel_rfl
theorem fld_31_2 : fldOff Tryd.prog 31 2 = some 2 := by kernel_rfl
theorem fld_31_3 : fldOff Tryd.prog 31 3 = some 3 := by kernel_rfl
theorem ps_31 : placesT Tryd.prog 31 = some [(0, 1), (1, 1), (2, 1), (3, 32)] := by kernel_rfl
theorem st_31 : Tryd.prog.stoodInHeld 31 = false := by kernel_rfl
theorem zero_31 : zeroT Tryd.prog 31 = some (.agg ⟨[.int .i64 0, .int .i64 0, .int .i64 0, .int .u8 0, .int .u8 0, .int .u8 0, .int .u8 0, .int .u8 0, .int .u8 0, .int .u8 0, .int .u8 0, .int .u8 0, .int .u8 0, .int .u8 0, .int .u8 0, .int .u8 0, .int .u8 0, .int .u8 0, .int .u8 0, .int .u8 0, .int .u8 0, .int .u8 0, .int .u8 0, .int .u8 0, .int .u8 0, .int .u8 0, .int .u8 0, .int .u8 0, .int .u8 0, .int .u8 0, .int .u8 0, .int .u8 0, .int .u8 0, .int .u8 0, .int .u8 0]⟩) := by kernel_rfl
theorem cell_33 : isCellT Tryd.prog 33 = true := by kernel_rfl
theorem sz_33 : (Tryd.prog.info? 33).map (·.size) = some 1 := by kernel_rfl
theorem el_33 : elemT Tryd.prog 33 = some (38, 2) := by kernel_rfl
theorem ef_33 : elemF Tryd.prog 33 38 2 24 = true := by kernel_rfl
theorem sl_33 : isSliceT Tryd.prog 33 = true := by kernel_rfl
theorem zero_33 : zeroT Tryd.prog 33 = some (.slice none 0 0) := by kernel_rfl
theorem eg_35 : Tryd.prog.eqGuardType Tryd.prog.depth 35 = false := by kernel_rfl
theorem agg_35 : aggT Tryd.prog 35 = some 3 := by kernel_rfl
theorem sz_35 : (Tryd.prog.info? 35).map (·.size) = some 3 := by kernel_rfl
theorem fld_35_0 : fldOff Tryd.prog 35 0 = some 0 := by kernel_rfl
theorem fld_35_1 : fldOff Tryd.prog 35 1 = some 1 := by kernel_rfl
theorem fld_35_2 : fldOff Tryd.prog 35 2 = some 2 := by kernel_rfl
theorem ps_35 : placesT Tryd.prog 35 = some [(0, 1), (1, 1), (2, 1)] := by kernel_rfl
theorem st_35 : Tryd.prog.stoodInHeld 35 = false := by kernel_rfl
theorem zero_35 : zeroT Tryd.prog 35 = some (.agg ⟨[.int .i64 0, .int .i64 0, .slice none 0 0]⟩) := by kernel_rfl
theorem eg_38 : Tryd.prog.eqGuardType Tryd.prog.depth 38 = false := by kernel_rfl
theorem agg_38 : aggT Tryd.prog 38 = some 2 := by kernel_rfl
theorem sz_38 : (Tryd.prog.info? 38).map (·.size) = some 2 := by kernel_rfl
theorem fld_38_0 : fldOff Tryd.prog 38 0 = some 0 := by kernel_rfl
theorem fld_38_1 : fldOff Tryd.prog 38 1 = some 1 := by kernel_rfl
theorem ps_38 : placesT Tryd.prog 38 = some [(0, 1), (1, 1)] := by kernel_rfl
theorem st_38 : Tryd.prog.stoodInHeld 38 = false := by kernel_rfl
theorem zero_38 : zeroT Tryd.prog 38 = some (.agg ⟨[.string ⟨#[]⟩, .int .i64 0]⟩) := by kernel_rfl
theorem eg_48 : Tryd.prog.eqGuardType Tryd.prog.depth 48 = false := by kernel_rfl
theorem agg_48 : aggT Tryd.prog 48 = some 37 := by kernel_rfl
theorem sz_48 : (Tryd.prog.info? 48).map (·.size) = some 37 := by kernel_rfl
theorem fld_48_0 : fldOff Tryd.prog 48 0 = some 0 := by kernel_rfl
theorem fld_48_1 : fldOff Tryd.prog 48 1 = some 1 := by kernel_rfl
theorem fld_48_2 : fldOff Tryd.prog 48 2 = some 2 := by kernel_rfl
theorem fld_48_3 : fldOff Tryd.prog 48 3 = some 34 := by kernel_rfl
theorem fld_48_4 : fldOff Tryd.prog 48 4 = some 35 := by kernel_rfl
theorem fld_48_5 : fldOff Tryd.prog 48 5 = some 36 := by kernel_rfl
theorem ps_48 : placesT Tryd.prog 48 = some [(0, 1), (1, 1), (2, 32), (34, 1), (35, 1), (36, 1)] := by kernel_rfl
theorem st_48 : Tryd.prog.stoodInHeld 48 = false := by kernel_rfl
theorem zero_48 : zeroT Tryd.prog 48 = some (.agg ⟨[.string ⟨#[]⟩, .int .i64 0, .int .u8 0, .int .u8 0, .int .u8 0, .int .u8 0, .int .u8 0, .int .u8 0, .int .u8 0, .int .u8 0, .int .u8 0, .int .u8 0, .int .u8 0, .int .u8 0, .int .u8 0, .int .u8 0, .int .u8 0, .int .u8 0, .int .u8 0, .int .u8 0, .int .u8 0, .int .u8 0, .int .u8 0, .int .u8 0, .int .u8 0, .int .u8 0, .int .u8 0, .int .u8 0, .int .u8 0, .int .u8 0, .int .u8 0, .int .u8 0, .int .u8 0, .int .u8 0, .string ⟨#[]⟩, .int .i64 0, .string ⟨#[]⟩]⟩) := by kernel_rfl
theorem cell_51 : isCellT Tryd.prog 51 = true := by kernel_rfl
theorem sz_51 : (Tryd.prog.info? 51).map (·.size) = some 1 := by kernel_rfl
theorem el_51 : elemT Tryd.prog 51 = some (48, 37) := by kernel_rfl
theorem ef_51 : elemF Tryd.prog 51 48 37 96 = true := by kernel_rfl
theorem sl_51 : isSliceT Tryd.prog 51 = true := by kernel_rfl
theorem zero_51 : zeroT Tryd.prog 51 = some (.slice none 0 0) := by kernel_rfl
theorem cell_52 : isCellT Tryd.prog 52 = true := by kernel_rfl
theorem sz_52 : (Tryd.prog.info? 52).map (·.size) = some 1 := by kernel_rfl
theorem el_52 : elemT Tryd.prog 52 = some (98, 5) := by kernel_rfl
theorem ef_52 : elemF Tryd.prog 52 98 5 72 = true := by kernel_rfl
theorem sl_52 : isSliceT Tryd.prog 52 = true := by kernel_rfl
theorem zero_52 : zeroT Tryd.prog 52 = some (.slice none 0 0) := by kernel_rfl
theorem eg_54 : Tryd.prog.eqGuardType Tryd.prog.depth 54 = false := by kernel_rfl
theorem agg_54 : aggT Tryd.prog 54 = some 5 := by kernel_rfl
theorem sz_54 : (Tryd.prog.info? 54).map (·.size) = some 5 := by kernel_rfl
theorem fld_54_0 : fldOff Tryd.prog 54 0 = some 0 := by kernel_rfl
theorem fld_54_1 : fldOff Tryd.prog 54 1 = some 1 := by kernel_rfl
theorem fld_54_2 : fldOff Tryd.prog 54 2 = some 2 := by kernel_rfl
theorem fld_54_3 : fldOff Tryd.prog 54 3 = some 3 := by kernel_rfl
theorem fld_54_4 : fldOff Tryd.prog 54 4 = some 4 := by kernel_rfl
theorem ps_54 : placesT Tryd.prog 54 = some [(0, 1), (1, 1), (2, 1), (3, 1), (4, 1)] := by kernel_rfl
theorem st_54 : Tryd.prog.stoodInHeld 54 = false := by kernel_rfl
theorem zero_54 : zeroT Tryd.prog 54 = some (.agg ⟨[.string ⟨#[]⟩, .int .i64 0, .int .i64 0, .slice none 0 0, .slice none 0 0]⟩) := by kernel_rfl
theorem cell_59 : isCellT Tryd.prog 59 = true := by kernel_rfl
theorem sz_59 : (Tryd.prog.info? 59).map (·.size) = some 1 := by kernel_rfl
theorem zero_59 : zeroT Tryd.prog 59 = some (.pointer none) := by kernel_rfl
theorem eg_62 : Tryd.prog.eqGuardType Tryd.prog.depth 62 = false := by kernel_rfl
theorem agg_62 : aggT Tryd.prog 62 = some 1 := by kernel_rfl
theorem sz_62 : (Tryd.prog.info? 62).map (·.size) = some 1 := by kernel_rfl
theorem fld_62_0 : fldOff Tryd.prog 62 0 = some 0 := by kernel_rfl
theorem ps_62 : placesT Tryd.prog 62 = some [(0, 1)] := by kernel_rfl
theorem st_62 : Tryd.prog.stoodInHeld 62 = false := by kernel_rfl
theorem zero_62 : zeroT Tryd.prog 62 = some (.agg ⟨[.slice none 0 0]⟩) := by kernel_rfl
theorem eg_64 : Tryd.prog.eqGuardType Tryd.prog.depth 64 = false := by kernel_rfl
theorem agg_64 : aggT Tryd.prog 64 = some 1 := by kernel_rfl
theorem sz_64 : (Tryd.prog.info? 64).map (·.size) = some 1 := by kernel_rfl
theorem fld_64_0 : fldOff Tryd.prog 64 0 = some 0 := by kernel_rfl
theorem ps_64 : placesT Tryd.prog 64 = some [(0, 1)] := by kernel_rfl
theorem st_64 : Tryd.prog.stoodInHeld 64 = false := by kernel_rfl
theorem zero_64 : zeroT Tryd.prog 64 = some (.agg ⟨[.slice none 0 0]⟩) := by kernel_rfl
theorem cell_66 : isCellT Tryd.prog 66 = true := by kernel_rfl
theorem sz_66 : (Tryd.prog.info? 66).map (·.size) = some 1 := by kernel_rfl
theorem zero_66 : zeroT Tryd.prog 66 = some (.nilFunc) := by kernel_rfl
theorem cell_67 : isCellT Tryd.prog 67 = true := by kernel_rfl
theorem sz_67 : (Tryd.prog.info? 67).map (·.size) = some 1 := by kernel_rfl
theorem zero_67 : zeroT Tryd.prog 67 = some (.nilFunc) := by kernel_rfl
theorem cell_69 : isCellT Tryd.prog 69 = true := by kernel_rfl
theorem sz_69 : (Tryd.prog.info? 69).map (·.size) = some 1 := by kernel_rfl
theorem zero_69 : zeroT Tryd.prog 69 = some (.nilFunc) := by kernel_rfl
theorem cell_75 : isCellT Tryd.prog 75 = true := by kernel_rfl
theorem sz_75 : (Tryd.prog.info? 75).map (·.size) = some 1 := by kernel_rfl
theorem zero_75 : zeroT Tryd.prog 75 = some (.nilFunc) := by kernel_rfl
theorem cell_77 : isCellT Tryd.prog 77 = true := by kernel_rfl
theorem sz_77 : (Tryd.prog.info? 77).map (·.size) = some 1 := by kernel_rfl
theorem zero_77 : zeroT Tryd.prog 77 = some (.pointer none) := by kernel_rfl
theorem eg_79 : Tryd.prog.eqGuardType Tryd.prog.depth 79 = false := by kernel_rfl
theorem agg_79 : aggT Tryd.prog 79 = some 1 := by kernel_rfl
theorem sz_79 : (Tryd.prog.info? 79).map (·.size) = some 1 := by kernel_rfl
theorem fld_79_0 : fldOff Tryd.prog 79 0 = some 0 := by kernel_rfl
theorem ps_79 : placesT Tryd.prog 79 = some [(0, 1)] := by kernel_rfl
theorem st_79 : Tryd.prog.stoodInHeld 79 = false := by kernel_rfl
theorem zero_79 : zeroT Tryd.prog 79 = some (.agg ⟨[.pointer none]⟩) := by kernel_rfl
theorem cell_80 : isCellT Tryd.prog 80 = true := by kernel_rfl
theorem sz_80 : (Tryd.prog.info? 80).map (·.size) = some 1 := by kernel_rfl
theorem zero_80 : zeroT Tryd.prog 80 = some (.pointer none) := by kernel_rfl
theorem eg_84 : Tryd.prog.eqGuardType Tryd.prog.depth 84 = false := by kernel_rfl
theorem agg_84 : aggT Tryd.prog 84 = some 2 := by kernel_rfl
theorem sz_84 : (Tryd.prog.info? 84).map (·.size) = some 2 := by kernel_rfl
theorem fld_84_0 : fldOff Tryd.prog 84 0 = some 0 := by kernel_rfl
theorem fld_84_1 : fldOff Tryd.prog 84 1 = some 1 := by kernel_rfl
theorem ps_84 : placesT Tryd.prog 84 = some [(0, 1), (1, 1)] := by kernel_rfl
theorem st_84 : Tryd.prog.stoodInHeld 84 = false := by kernel_rfl
theorem zero_84 : zeroT Tryd.prog 84 = some (.agg ⟨[.slice none 0 0, .bool false]⟩) := by kernel_rfl
theorem cell_91 : isCellT Tryd.prog 91 = true := by kernel_rfl
theorem sz_91 : (Tryd.prog.info? 91).map (·.size) = some 1 := by kernel_rfl
theorem zero_91 : zeroT Tryd.prog 91 = some (.nilFunc) := by kernel_rfl
theorem cell_94 : isCellT Tryd.prog 94 = true := by kernel_rfl
theorem sz_94 : (Tryd.prog.info? 94).map (·.size) = some 1 := by kernel_rfl
theorem el_94 : elemT Tryd.prog 94 = some (29, 32) := by kernel_rfl
theorem ef_94 : elemF Tryd.prog 94 29 32 32 = true := by kernel_rfl
theorem sl_94 : isSliceT Tryd.prog 94 = true := by kernel_rfl
theorem zero_94 : zeroT Tryd.prog 94 = some (.slice none 0 0) := by kernel_rfl
theorem eg_96 : Tryd.prog.eqGuardType Tryd.prog.depth 96 = false := by kernel_rfl
theorem agg_96 : aggT Tryd.prog 96 = some 2 := by kernel_rfl
theorem sz_96 : (Tryd.prog.info? 96).map (·.size) = some 2 := by kernel_rfl
theorem fld_96_0 : fldOff Tryd.prog 96 0 = some 0 := by kernel_rfl
theorem fld_96_1 : fldOff Tryd.prog 96 1 = some 1 := by kernel_rfl
theorem ps_96 : placesT Tryd.prog 96 = some [(0, 1), (1, 1)] := by kernel_rfl
theorem st_96 : Tryd.prog.stoodInHeld 96 = false := by kernel_rfl
theorem zero_96 : zeroT Tryd.prog 96 = some (.agg ⟨[.slice none 0 0, .int .i64 0]⟩) := by kernel_rfl
theorem eg_98 : Tryd.prog.eqGuardType Tryd.prog.depth 98 = false := by kernel_rfl
theorem agg_98 : aggT Tryd.prog 98 = some 5 := by kernel_rfl
theorem sz_98 : (Tryd.prog.info? 98).map (·.size) = some 5 := by kernel_rfl
theorem fld_98_0 : fldOff Tryd.prog 98 0 = some 0 := by kernel_rfl
theorem fld_98_1 : fldOff Tryd.prog 98 1 = some 1 := by kernel_rfl
theorem fld_98_2 : fldOff Tryd.prog 98 2 = some 3 := by kernel_rfl
theorem fld_98_3 : fldOff Tryd.prog 98 3 = some 4 := by kernel_rfl
theorem ps_98 : placesT Tryd.prog 98 = some [(0, 1), (1, 2), (3, 1), (4, 1)] := by kernel_rfl
theorem st_98 : Tryd.prog.stoodInHeld 98 = false := by kernel_rfl
theorem zero_98 : zeroT Tryd.prog 98 = some (.agg ⟨[.string ⟨#[]⟩, .slice none 0 0, .int .i64 0, .string ⟨#[]⟩, .bool false]⟩) := by kernel_rfl
theorem cell_99 : isCellT Tryd.prog 99 = true := by kernel_rfl
theorem sz_99 : (Tryd.prog.info? 99).map (·.size) = some 1 := by kernel_rfl
theorem zero_99 : zeroT Tryd.prog 99 = some (.nilFunc) := by kernel_rfl
theorem eg_103 : Tryd.prog.eqGuardType Tryd.prog.depth 103 = false := by kernel_rfl
theorem agg_103 : aggT Tryd.prog 103 = some 256 := by kernel_rfl
theorem sz_103 : (Tryd.prog.info? 103).map (·.size) = some 256 := by kernel_rfl
theorem arr_103 : arrT Tryd.prog 103 = some (256, 4, 1) := by kernel_rfl
theorem ps_103 : placesT Tryd.prog 103 = some ((List.range 256).map fun k => (k * 1, 1)) := by kernel_rfl
theorem zero_103 : zeroT Tryd.prog 103 = some (.agg ⟨List.replicate 256 (.bool false)⟩) := by kernel_rfl
theorem cell_107 : isCellT Tryd.prog 107 = true := by kernel_rfl
theorem sz_107 : (Tryd.prog.info? 107).map (·.size) = some 1 := by kernel_rfl
theorem zero_107 : zeroT Tryd.prog 107 = some (.pointer none) := by kernel_rfl
theorem cell_110 : isCellT Tryd.prog 110 = true := by kernel_rfl
theorem sz_110 : (Tryd.prog.info? 110).map (·.size) = some 1 := by kernel_rfl
theorem zero_110 : zeroT Tryd.prog 110 = some (.pointer none) := by kernel_rfl
theorem cell_111 : isCellT Tryd.prog 111 = true := by kernel_rfl
theorem sz_111 : (Tryd.prog.info? 111).map (·.size) = some 1 := by kernel_rfl
theorem el_111 : elemT Tryd.prog 111 = some (3, 1) := by kernel_rfl
theorem ef_111 : elemF Tryd.prog 111 3 1 8 = true := by kernel_rfl
theorem sl_111 : isSliceT Tryd.prog 111 = true := by kernel_rfl
theorem zero_111 : zeroT Tryd.prog 111 = some (.slice none 0 0) := by kernel_rfl
theorem cell_112 : isCellT Tryd.prog 112 = true := by kernel_rfl
theorem sz_112 : (Tryd.prog.info? 112).map (·.size) = some 1 := by kernel_rfl
theorem zero_112 : zeroT Tryd.prog 112 = some (.int .u64 0) := by kernel_rfl
theorem cell_113 : isCellT Tryd.prog 113 = true := by kernel_rfl
theorem sz_113 : (Tryd.prog.info? 113).map (·.size) = some 1 := by kernel_rfl
theorem zero_113 : zeroT Tryd.prog 113 = some (.int .u64 0) := by kernel_rfl
theorem cell_118 : isCellT Tryd.prog 118 = true := by kernel_rfl
theorem sz_118 : (Tryd.prog.info? 118).map (·.size) = some 1 := by kernel_rfl
theorem zero_118 : zeroT Tryd.prog 118 = some (.nilFunc) := by kernel_rfl
theorem cell_121 : isCellT Tryd.prog 121 = true := by kernel_rfl
theorem sz_121 : (Tryd.prog.info? 121).map (·.size) = some 1 := by kernel_rfl
theorem zero_121 : zeroT Tryd.prog 121 = some (.nilFunc) := by kernel_rfl
theorem eg_130 : Tryd.prog.eqGuardType Tryd.prog.depth 130 = false := by kernel_rfl
theorem agg_130 : aggT Tryd.prog 130 = some 2 := by kernel_rfl
theorem sz_130 : (Tryd.prog.info? 130).map (·.size) = some 2 := by kernel_rfl
theorem fld_130_0 : fldOff Tryd.prog 130 0 = some 0 := by kernel_rfl
theorem fld_130_1 : fldOff Tryd.prog 130 1 = some 1 := by kernel_rfl
theorem ps_130 : placesT Tryd.prog 130 = some [(0, 1), (1, 1)] := by kernel_rfl
theorem st_130 : Tryd.prog.stoodInHeld 130 = false := by kernel_rfl
theorem zero_130 : zeroT Tryd.prog 130 = some (.agg ⟨[.slice none 0 0, .bool false]⟩) := by kernel_rfl
theorem cell_134 : isCellT Tryd.prog 134 = true := by kernel_rfl
theorem sz_134 : (Tryd.prog.info? 134).map (·.size) = some 1 := by kernel_rfl
theorem el_134 : elemT Tryd.prog 134 = some (24, 1) := by kernel_rfl
theorem ef_134 : elemF Tryd.prog 134 24 1 24 = true := by kernel_rfl
theorem sl_134 : isSliceT Tryd.prog 134 = true := by kernel_rfl
theorem zero_134 : zeroT Tryd.prog 134 = some (.slice none 0 0) := by kernel_rfl
theorem cell_136 : isCellT Tryd.prog 136 = true := by kernel_rfl
theorem sz_136 : (Tryd.prog.info? 136).map (·.size) = some 1 := by kernel_rfl
theorem zero_136 : zeroT Tryd.prog 136 = some (.nilFunc) := by kernel_rfl
theorem eg_139 : Tryd.prog.eqGuardType Tryd.prog.depth 139 = false := by kernel_rfl
theorem agg_139 : aggT Tryd.prog 139 = some 256 := by kernel_rfl
theorem sz_139 : (Tryd.prog.info? 139).map (·.size) = some 256 := by kernel_rfl
theorem arr_139 : arrT Tryd.prog 139 = some (256, 5, 1) := by kernel_rfl
theorem ps_139 : placesT Tryd.prog 139 = some ((List.range 256).map fun k => (k * 1, 1)) := by kernel_rfl
theorem zero_139 : zeroT Tryd.prog 139 = some (.agg ⟨List.replicate 256 (.int .u8 0)⟩) := by kernel_rfl
theorem eg_141 : Tryd.prog.eqGuardType Tryd.prog.depth 141 = false := by kernel_rfl
theorem agg_141 : aggT Tryd.prog 141 = some 2 := by kernel_rfl
theorem sz_141 : (Tryd.prog.info? 141).map (·.size) = some 2 := by kernel_rfl
theorem fld_141_0 : fldOff Tryd.prog 141 0 = some 0 := by kernel_rfl
theorem fld_141_1 : fldOff Tryd.prog 141 1 = some 1 := by kernel_rfl
theorem ps_141 : placesT Tryd.prog 141 = some [(0, 1), (1, 1)] := by kernel_rfl
theorem st_141 : Tryd.prog.stoodInHeld 141 = false := by kernel_rfl
theorem zero_141 : zeroT Tryd.prog 141 = some (.agg ⟨[.int .u8 0, .int .u8 0]⟩) := by kernel_rfl
theorem eg_142 : Tryd.prog.eqGuardType Tryd.prog.depth 142 = false := by kernel_rfl
theorem agg_142 : aggT Tryd.prog 142 = some 32 := by kernel_rfl
theorem sz_142 : (Tryd.prog.info? 142).map (·.size) = some 32 := by kernel_rfl
theorem arr_142 : arrT Tryd.prog 142 = some (16, 141, 2) := by kernel_rfl
theorem ps_142 : placesT Tryd.prog 142 = some ((List.range 16).map fun k => (k * 2, 2)) := by kernel_rfl
theorem zero_142 : zeroT Tryd.prog 142 = some (.agg ⟨[.int .u8 0, .int .u8 0, .int .u8 0, .int .u8 0, .int .u8 0, .int .u8 0, .int .u8 0, .int .u8 0, .int .u8 0, .int .u8 0, .int .u8 0, .int .u8 0, .int .u8 0, .int .u8 0, .int .u8 0, .int .u8 0, .int .u8 0, .int .u8 0, .int .u8 0, .int .u8 0, .int .u8 0, .int .u8 0, .int .u8 0, .int .u8 0, .int .u8 0, .int .u8 0, .int .u8 0, .int .u8 0, .int .u8 0, .int .u8 0, .int .u8 0, .int .u8 0]⟩) := by kernel_rfl
theorem call_3 : callable Tryd.prog 3 = true := by kernel_rfl
theorem call_4 : callable Tryd.prog 4 = true := by kernel_rfl
theorem call_5 : callable Tryd.prog 5 = true := by kernel_rfl
theorem call_6 : callable Tryd.prog 6 = true := by kernel_rfl
theorem call_7 : callable Tryd.prog 7 = true := by kernel_rfl
theorem call_8 : callable Tryd.prog 8 = true := by kernel_rfl
theorem call_9 : callable Tryd.prog 9 = true := by kernel_rfl
theorem call_10 : callable Tryd.prog 10 = true := by kernel_rfl
theorem call_11 : callable Tryd.prog 11 = true := by kernel_rfl
theorem call_12 : callable Tryd.prog 12 = true := by kernel_rfl
theorem call_13 : callable Tryd.prog 13 = true := by kernel_rfl
theorem call_14 : callable Tryd.prog 14 = true := by kernel_rfl
theorem call_15 : callable Tryd.prog 15 = true := by kernel_rfl
theorem call_16 : callable Tryd.prog 16 = true := by kernel_rfl
theorem call_17 : callable Tryd.prog 17 = true := by kernel_rfl
theorem call_18 : callable Tryd.prog 18 = true := by kernel_rfl
theorem call_19 : callable Tryd.prog 19 = true := by kernel_rfl
theorem call_20 : callable Tryd.prog 20 = true := by kernel_rfl
theorem call_21 : callable Tryd.prog 21 = true := by kernel_rfl
theorem call_22 : callable Tryd.prog 22 = true := by kernel_rfl
theorem call_23 : callable Tryd.prog 23 = true := by kernel_rfl
theorem call_24 : callable Tryd.prog 24 = true := by kernel_rfl
theorem call_25 : callable Tryd.prog 25 = true := by kernel_rfl
theorem call_26 : callable Tryd.prog 26 = true := by kernel_rfl
theorem call_27 : callable Tryd.prog 27 = true := by kernel_rfl
theorem call_28 : callable Tryd.prog 28 = true := by kernel_rfl
theorem call_29 : callable Tryd.prog 29 = true := by kernel_rfl
theorem call_30 : callable Tryd.prog 30 = true := by kernel_rfl
theorem call_31 : callable Tryd.prog 31 = true := by kernel_rfl
theorem call_32 : callable Tryd.prog 32 = true := by kernel_rfl
theorem call_33 : callable Tryd.prog 33 = true := by kernel_rfl
theorem call_34 : callable Tryd.prog 34 = true := by kernel_rfl
theorem call_35 : callable Tryd.prog 35 = true := by kernel_rfl
theorem call_36 : callable Tryd.prog 36 = true := by kernel_rfl
theorem call_37 : callable Tryd.prog 37 = true := by kernel_rfl
theorem call_38 : callable Tryd.prog 38 = true := by kernel_rfl
theorem call_39 : callable Tryd.prog 39 = true := by kernel_rfl
theorem call_40 : callable Tryd.prog 40 = true := by kernel_rfl
theorem call_41 : callable Tryd.prog 41 = true := by kernel_rfl
theorem call_42 : callable Tryd.prog 42 = true := by kernel_rfl
theorem call_43 : callable Tryd.prog 43 = true := by kernel_rfl
theorem call_44 : callable Tryd.prog 44 = true := by kernel_rfl
theorem call_45 : callable Tryd.prog 45 = true := by kernel_rfl
theorem call_46 : callable Tryd.prog 46 = true := by kernel_rfl
theorem call_47 : callable Tryd.prog 47 = true := by kernel_rfl
theorem call_48 : callable Tryd.prog 48 = true := by kernel_rfl
theorem call_49 : callable Tryd.prog 49 = true := by kernel_rfl
theorem call_50 : callable Tryd.prog 50 = true := by kernel_rfl
theorem call_51 : callable Tryd.prog 51 = true := by kernel_rfl
theorem call_52 : callable Tryd.prog 52 = true := by kernel_rfl
theorem call_53 : callable Tryd.prog 53 = true := by kernel_rfl
theorem call_54 : callable Tryd.prog 54 = true := by kernel_rfl
theorem call_55 : callable Tryd.prog 55 = true := by kernel_rfl
theorem call_56 : callable Tryd.prog 56 = true := by kernel_rfl
theorem call_57 : callable Tryd.prog 57 = true := by kernel_rfl
theorem call_58 : callable Tryd.prog 58 = true := by kernel_rfl
theorem call_59 : callable Tryd.prog 59 = true := by kernel_rfl
theorem call_60 : callable Tryd.prog 60 = true := by kernel_rfl
theorem call_61 : callable Tryd.prog 61 = true := by kernel_rfl
theorem call_62 : callable Tryd.prog 62 = true := by kernel_rfl
theorem call_63 : callable Tryd.prog 63 = true := by kernel_rfl
theorem call_64 : callable Tryd.prog 64 = true := by kernel_rfl
theorem call_65 : callable Tryd.prog 65 = true := by kernel_rfl
theorem call_66 : callable Tryd.prog 66 = true := by kernel_rfl
theorem call_67 : callable Tryd.prog 67 = true := by kernel_rfl
theorem call_68 : callable Tryd.prog 68 = true := by kernel_rfl
theorem call_69 : callable Tryd.prog 69 = true := by kernel_rfl
theorem call_70 : callable Tryd.prog 70 = true := by kernel_rfl
theorem call_71 : callable Tryd.prog 71 = true := by kernel_rfl
theorem call_72 : callable Tryd.prog 72 = true := by kernel_rfl
theorem call_73 : callable Tryd.prog 73 = true := by kernel_rfl
theorem call_74 : callable Tryd.prog 74 = true := by kernel_rfl
theorem call_75 : callable Tryd.prog 75 = true := by kernel_rfl
theorem call_76 : callable Tryd.prog 76 = true := by kernel_rfl
theorem call_77 : callable Tryd.prog 77 = true := by kernel_rfl
theorem call_78 : callable Tryd.prog 78 = true := by kernel_rfl
theorem call_79 : callable Tryd.prog 79 = true := by kernel_rfl
theorem call_80 : callable Tryd.prog 80 = true := by kernel_rfl
theorem call_81 : callable Tryd.prog 81 = true := by kernel_rfl
theorem call_82 : callable Tryd.prog 82 = true := by kernel_rfl
theorem call_83 : callable Tryd.prog 83 = true := by kernel_rfl
theorem call_84 : callable Tryd.prog 84 = true := by kernel_rfl
theorem call_85 : callable Tryd.prog 85 = true := by kernel_rfl
theorem call_86 : callable Tryd.prog 86 = true := by kernel_rfl
theorem call_87 : callable Tryd.prog 87 = true := by kernel_rfl
theorem call_88 : callable Tryd.prog 88 = true := by kernel_rfl
theorem call_89 : callable Tryd.prog 89 = true := by kernel_rfl
theorem call_90 : callable Tryd.prog 90 = true := by kernel_rfl
theorem call_91 : callable Tryd.prog 91 = true := by kernel_rfl
theorem call_92 : callable Tryd.prog 92 = true := by kernel_rfl
theorem call_93 : callable Tryd.prog 93 = true := by kernel_rfl
theorem call_95 : callable Tryd.prog 95 = true := by kernel_rfl
theorem call_96 : callable Tryd.prog 96 = true := by kernel_rfl
theorem call_97 : callable Tryd.prog 97 = true := by kernel_rfl
end Go.Proofs.YtcmbiaibocdfeaaDoor
