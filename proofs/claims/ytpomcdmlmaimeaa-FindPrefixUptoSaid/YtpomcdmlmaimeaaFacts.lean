/- Closed facts on the program's types and functions. -/
import Derived.Test.YtpomcdmlmaimeaaRows
import Derived.Test.YtpomcdmlmaimeaaFwF
namespace Go.Proofs.Ytpomcdmlmaimeaa
open Go Go.Fw
set_option maxRecDepth 100000
theorem mo : Try.prog.follows .mixedOrders = true := by kernel_rfl
theorem cell_1 : isCellT Try.prog 1 = true := by kernel_rfl
theorem sz_1 : (Try.prog.info? 1).map (·.size) = some 1 := by kernel_rfl
theorem zero_1 : zeroT Try.prog 1 = some (.nilFunc) := by kernel_rfl
theorem cell_2 : isCellT Try.prog 2 = true := by kernel_rfl
theorem sz_2 : (Try.prog.info? 2).map (·.size) = some 1 := by kernel_rfl
theorem zero_2 : zeroT Try.prog 2 = some (.int .i64 0) := by kernel_rfl
theorem cell_3 : isCellT Try.prog 3 = true := by kernel_rfl
theorem sz_3 : (Try.prog.info? 3).map (·.size) = some 1 := by kernel_rfl
theorem zero_3 : zeroT Try.prog 3 = some (.int .i64 0) := by kernel_rfl
theorem cell_4 : isCellT Try.prog 4 = true := by kernel_rfl
theorem sz_4 : (Try.prog.info? 4).map (·.size) = some 1 := by kernel_rfl
theorem zero_4 : zeroT Try.prog 4 = some (.bool false) := by kernel_rfl
theorem cell_5 : isCellT Try.prog 5 = true := by kernel_rfl
theorem sz_5 : (Try.prog.info? 5).map (·.size) = some 1 := by kernel_rfl
theorem zero_5 : zeroT Try.prog 5 = some (.int .u8 0) := by kernel_rfl
theorem cell_9 : isCellT Try.prog 9 = true := by kernel_rfl
theorem sz_9 : (Try.prog.info? 9).map (·.size) = some 1 := by kernel_rfl
theorem str_9 : isStringT Try.prog 9 = true := by kernel_rfl
theorem zero_9 : zeroT Try.prog 9 = some (.string ⟨#[]⟩) := by kernel_rfl
theorem cell_22 : isCellT Try.prog 22 = true := by kernel_rfl
theorem sz_22 : (Try.prog.info? 22).map (·.size) = some 1 := by kernel_rfl
theorem el_22 : elemT Try.prog 22 = some (33, 5) := by kernel_rfl
theorem ef_22 : elemF Try.prog 22 33 5 80 = true := by kernel_rfl
theorem sl_22 : isSliceT Try.prog 22 = true := by kernel_rfl
theorem zero_22 : zeroT Try.prog 22 = some (.slice none 0 0) := by kernel_rfl
theorem eg_25 : Try.prog.eqGuardType Try.prog.depth 25 = false := by kernel_rfl
theorem agg_25 : aggT Try.prog 25 = some 32 := by kernel_rfl
theorem sz_25 : (Try.prog.info? 25).map (·.size) = some 32 := by kernel_rfl
theorem arr_25 : arrT Try.prog 25 = some (32, 5, 1) := by kernel_rfl
theorem ps_25 : placesT Try.prog 25 = some ((List.range 32).map fun k => (k * 1, 1)) := by kernel_rfl
theorem zero_25 : zeroT Try.prog 25 = some (.agg ⟨[.int .u8 0, .int .u8 0, .int .u8 0, .int .u8 0, .int .u8 0, .int .u8 0, .int .u8 0, .int .u8 0, .int .u8 0, .int .u8 0, .int .u8 0, .int .u8 0, .int .u8 0, .int .u8 0, .int .u8 0, .int .u8 0, .int .u8 0, .int .u8 0, .int .u8 0, .int .u8 0, .int .u8 0, .int .u8 0, .int .u8 0, .int .u8 0, .int .u8 0, .int .u8 0, .int .u8 0, .int .u8 0, .int .u8 0, .int .u8 0, .int .u8 0, .int .u8 0]⟩) := by kernel_rfl
theorem eg_27 : Try.prog.eqGuardType Try.prog.depth 27 = false := by kernel_rfl
theorem agg_27 : aggT Try.prog 27 = some 37 := by kernel_rfl
theorem sz_27 : (Try.prog.info? 27).map (·.size) = some 37 := by kernel_rfl
theorem fld_27_0 : fldOff Try.prog 27 0 = some 0 := by kernel_rfl
theorem fld_27_1 : fldOff Try.prog 27 1 = some 1 := by kernel_rfl
theorem fld_27_2 : fldOff Try.prog 27 2 = some 2 := by kernel_rfl
theorem fld_27_3 : fldOff Try.prog 27 3 = some 34 := by kernel_rfl
theorem fld_27_4 : fldOff Try.prog 27 4 = some 35 := by kernel_rfl
theorem fld_27_5 : fldOff Try.prog 27 5 = some 36 := by kernel_rfl
theorem ps_27 : placesT Try.prog 27 = some [(0, 1), (1, 1), (2, 32), (34, 1), (35, 1), (36, 1)] := by kernel_rfl
theorem st_27 : Try.prog.stoodInHeld 27 = false := by kernel_rfl
theorem zero_27 : zeroT Try.prog 27 = some (.agg ⟨[.string ⟨#[]⟩, .int .i64 0, .int .u8 0, .int .u8 0, .int .u8 0, .int .u8 0, .int .u8 0, .int .u8 0, .int .u8 0, .int .u8 0, .int .u8 0, .int .u8 0, .int .u8 0, .int .u8 0, .int .u8 0, .int .u8 0, .int .u8 0, .int .u8 0, .int .u8 0, .int .u8 0, .int .u8 0, .int .u8 0, .int .u8 0, .int .u8 0, .int .u8 0, .int .u8 0, .int .u8 0, .int .u8 0, .int .u8 0, .int .u8 0, .int .u8 0, .int .u8 0, .int .u8 0, .int .u8 0, .string ⟨#[]⟩, .int .i64 0, .string ⟨#[]⟩]⟩) := by kernel_rfl
theorem cell_30 : isCellT Try.prog 30 = true := by kernel_rfl
theorem sz_30 : (Try.prog.info? 30).map (·.size) = some 1 := by kernel_rfl
theorem el_30 : elemT Try.prog 30 = some (27, 37) := by kernel_rfl
theorem ef_30 : elemF Try.prog 30 27 37 96 = true := by kernel_rfl
theorem sl_30 : isSliceT Try.prog 30 = true := by kernel_rfl
theorem zero_30 : zeroT Try.prog 30 = some (.slice none 0 0) := by kernel_rfl
theorem cell_31 : isCellT Try.prog 31 = true := by kernel_rfl
theorem sz_31 : (Try.prog.info? 31).map (·.size) = some 1 := by kernel_rfl
theorem el_31 : elemT Try.prog 31 = some (40, 5) := by kernel_rfl
theorem ef_31 : elemF Try.prog 31 40 5 72 = true := by kernel_rfl
theorem sl_31 : isSliceT Try.prog 31 = true := by kernel_rfl
theorem zero_31 : zeroT Try.prog 31 = some (.slice none 0 0) := by kernel_rfl
theorem eg_33 : Try.prog.eqGuardType Try.prog.depth 33 = false := by kernel_rfl
theorem agg_33 : aggT Try.prog 33 = some 5 := by kernel_rfl
theorem sz_33 : (Try.prog.info? 33).map (·.size) = some 5 := by kernel_rfl
theorem fld_33_0 : fldOff Try.prog 33 0 = some 0 := by kernel_rfl
theorem fld_33_1 : fldOff Try.prog 33 1 = some 1 := by kernel_rfl
theorem fld_33_2 : fldOff Try.prog 33 2 = some 2 := by kernel_rfl
theorem fld_33_3 : fldOff Try.prog 33 3 = some 3 := by kernel_rfl
theorem fld_33_4 : fldOff Try.prog 33 4 = some 4 := by kernel_rfl
theorem ps_33 : placesT Try.prog 33 = some [(0, 1), (1, 1), (2, 1), (3, 1), (4, 1)] := by kernel_rfl
theorem st_33 : Try.prog.stoodInHeld 33 = false := by kernel_rfl
theorem zero_33 : zeroT Try.prog 33 = some (.agg ⟨[.string ⟨#[]⟩, .int .i64 0, .int .i64 0, .slice none 0 0, .slice none 0 0]⟩) := by kernel_rfl
theorem cell_36 : isCellT Try.prog 36 = true := by kernel_rfl
theorem sz_36 : (Try.prog.info? 36).map (·.size) = some 1 := by kernel_rfl
theorem el_36 : elemT Try.prog 36 = some (25, 32) := by kernel_rfl
theorem ef_36 : elemF Try.prog 36 25 32 32 = true := by kernel_rfl
theorem sl_36 : isSliceT Try.prog 36 = true := by kernel_rfl
theorem zero_36 : zeroT Try.prog 36 = some (.slice none 0 0) := by kernel_rfl
theorem eg_38 : Try.prog.eqGuardType Try.prog.depth 38 = false := by kernel_rfl
theorem agg_38 : aggT Try.prog 38 = some 2 := by kernel_rfl
theorem sz_38 : (Try.prog.info? 38).map (·.size) = some 2 := by kernel_rfl
theorem fld_38_0 : fldOff Try.prog 38 0 = some 0 := by kernel_rfl
theorem fld_38_1 : fldOff Try.prog 38 1 = some 1 := by kernel_rfl
theorem ps_38 : placesT Try.prog 38 = some [(0, 1), (1, 1)] := by kernel_rfl
theorem st_38 : Try.prog.stoodInHeld 38 = false := by kernel_rfl
theorem zero_38 : zeroT Try.prog 38 = some (.agg ⟨[.slice none 0 0, .int .i64 0]⟩) := by kernel_rfl
theorem eg_40 : Try.prog.eqGuardType Try.prog.depth 40 = false := by kernel_rfl
theorem agg_40 : aggT Try.prog 40 = some 5 := by kernel_rfl
theorem sz_40 : (Try.prog.info? 40).map (·.size) = some 5 := by kernel_rfl
theorem fld_40_0 : fldOff Try.prog 40 0 = some 0 := by kernel_rfl
theorem fld_40_1 : fldOff Try.prog 40 1 = some 1 := by kernel_rfl
theorem fld_40_2 : fldOff Try.prog 40 2 = some 3 := by kernel_rfl
theorem fld_40_3 : fldOff Try.prog 40 3 = some 4 := by kernel_rfl
theorem ps_40 : placesT Try.prog 40 = some [(0, 1), (1, 2), (3, 1), (4, 1)] := by kernel_rfl
theorem st_40 : Try.prog.stoodInHeld 40 = false := by kernel_rfl
theorem zero_40 : zeroT Try.prog 40 = some (.agg ⟨[.string ⟨#[]⟩, .slice none 0 0, .int .i64 0, .string ⟨#[]⟩, .bool false]⟩) := by kernel_rfl
theorem cell_41 : isCellT Try.prog 41 = true := by kernel_rfl
theorem sz_41 : (Try.prog.info? 41).map (·.size) = some 1 := by kernel_rfl
theorem el_41 : elemT Try.prog 41 = some (5, 1) := by kernel_rfl
theorem ef_41 : elemF Try.prog 41 5 1 1 = true := by kernel_rfl
theorem sl_41 : isSliceT Try.prog 41 = true := by kernel_rfl
theorem zero_41 : zeroT Try.prog 41 = some (.slice none 0 0) := by kernel_rfl
theorem cell_49 : isCellT Try.prog 49 = true := by kernel_rfl
theorem sz_49 : (Try.prog.info? 49).map (·.size) = some 1 := by kernel_rfl
theorem zero_49 : zeroT Try.prog 49 = some (.pointer none) := by kernel_rfl
theorem cell_50 : isCellT Try.prog 50 = true := by kernel_rfl
theorem sz_50 : (Try.prog.info? 50).map (·.size) = some 1 := by kernel_rfl
theorem el_50 : elemT Try.prog 50 = some (3, 1) := by kernel_rfl
theorem ef_50 : elemF Try.prog 50 3 1 8 = true := by kernel_rfl
theorem sl_50 : isSliceT Try.prog 50 = true := by kernel_rfl
theorem zero_50 : zeroT Try.prog 50 = some (.slice none 0 0) := by kernel_rfl
theorem eg_52 : Try.prog.eqGuardType Try.prog.depth 52 = false := by kernel_rfl
theorem agg_52 : aggT Try.prog 52 = some 4 := by kernel_rfl
theorem sz_52 : (Try.prog.info? 52).map (·.size) = some 4 := by kernel_rfl
theorem fld_52_0 : fldOff Try.prog 52 0 = some 0 := by kernel_rfl
theorem fld_52_1 : fldOff Try.prog 52 1 = some 1 := by kernel_rfl
theorem fld_52_2 : fldOff Try.prog 52 2 = some 2 := by kernel_rfl
theorem fld_52_3 : fldOff Try.prog 52 3 = some 3 := by kernel_rfl
theorem ps_52 : placesT Try.prog 52 = some [(0, 1), (1, 1), (2, 1), (3, 1)] := by kernel_rfl
theorem st_52 : Try.prog.stoodInHeld 52 = false := by kernel_rfl
theorem zero_52 : zeroT Try.prog 52 = some (.agg ⟨[.slice none 0 0, .string ⟨#[]⟩, .slice none 0 0, .bool false]⟩) := by kernel_rfl
theorem cell_54 : isCellT Try.prog 54 = true := by kernel_rfl
theorem sz_54 : (Try.prog.info? 54).map (·.size) = some 1 := by kernel_rfl
theorem zero_54 : zeroT Try.prog 54 = some (.pointer none) := by kernel_rfl
theorem cell_55 : isCellT Try.prog 55 = true := by kernel_rfl
theorem sz_55 : (Try.prog.info? 55).map (·.size) = some 1 := by kernel_rfl
theorem el_55 : elemT Try.prog 55 = some (4, 1) := by kernel_rfl
theorem ef_55 : elemF Try.prog 55 4 1 1 = true := by kernel_rfl
theorem sl_55 : isSliceT Try.prog 55 = true := by kernel_rfl
theorem zero_55 : zeroT Try.prog 55 = some (.slice none 0 0) := by kernel_rfl
theorem eg_57 : Try.prog.eqGuardType Try.prog.depth 57 = false := by kernel_rfl
theorem agg_57 : aggT Try.prog 57 = some 4 := by kernel_rfl
theorem sz_57 : (Try.prog.info? 57).map (·.size) = some 4 := by kernel_rfl
theorem fld_57_0 : fldOff Try.prog 57 0 = some 0 := by kernel_rfl
theorem fld_57_1 : fldOff Try.prog 57 1 = some 1 := by kernel_rfl
theorem fld_57_2 : fldOff Try.prog 57 2 = some 2 := by kernel_rfl
theorem fld_57_3 : fldOff Try.prog 57 3 = some 3 := by kernel_rfl
theorem ps_57 : placesT Try.prog 57 = some [(0, 1), (1, 1), (2, 1), (3, 1)] := by kernel_rfl
theorem st_57 : Try.prog.stoodInHeld 57 = false := by kernel_rfl
theorem zero_57 : zeroT Try.prog 57 = some (.agg ⟨[.slice none 0 0, .string ⟨#[]⟩, .slice none 0 0, .bool false]⟩) := by kernel_rfl
theorem cell_59 : isCellT Try.prog 59 = true := by kernel_rfl
theorem sz_59 : (Try.prog.info? 59).map (·.size) = some 1 := by kernel_rfl
theorem zero_59 : zeroT Try.prog 59 = some (.nilFunc) := by kernel_rfl
theorem cell_62 : isCellT Try.prog 62 = true := by kernel_rfl
theorem sz_62 : (Try.prog.info? 62).map (·.size) = some 1 := by kernel_rfl
theorem zero_62 : zeroT Try.prog 62 = some (.nilFunc) := by kernel_rfl
theorem call_3 : callable Try.prog 3 = true := by kernel_rfl
theorem call_4 : callable Try.prog 4 = true := by kernel_rfl
theorem call_5 : callable Try.prog 5 = true := by kernel_rfl
theorem call_6 : callable Try.prog 6 = true := by kernel_rfl
theorem call_7 : callable Try.prog 7 = true := by kernel_rfl
theorem call_8 : callable Try.prog 8 = true := by kernel_rfl
theorem call_9 : callable Try.prog 9 = true := by kernel_rfl
theorem call_10 : callable Try.prog 10 = true := by kernel_rfl
theorem call_11 : callable Try.prog 11 = true := by kernel_rfl
theorem call_12 : callable Try.prog 12 = true := by kernel_rfl
theorem call_13 : callable Try.prog 13 = true := by kernel_rfl
theorem call_14 : callable Try.prog 14 = true := by kernel_rfl
theorem call_15 : callable Try.prog 15 = true := by kernel_rfl
theorem call_16 : callable Try.prog 16 = true := by kernel_rfl
theorem call_17 : callable Try.prog 17 = true := by kernel_rfl
theorem call_18 : callable Try.prog 18 = true := by kernel_rfl
theorem call_19 : callable Try.prog 19 = true := by kernel_rfl
theorem call_20 : callable Try.prog 20 = true := by kernel_rfl
theorem call_21 : callable Try.prog 21 = true := by kernel_rfl
theorem call_22 : callable Try.prog 22 = true := by kernel_rfl
theorem call_23 : callable Try.prog 23 = true := by kernel_rfl
theorem call_24 : callable Try.prog 24 = true := by kernel_rfl
theorem call_25 : callable Try.prog 25 = true := by kernel_rfl
theorem call_26 : callable Try.prog 26 = true := by kernel_rfl
theorem call_27 : callable Try.prog 27 = true := by kernel_rfl
theorem call_28 : callable Try.prog 28 = true := by kernel_rfl
end Go.Proofs.Ytpomcdmlmaimeaa
