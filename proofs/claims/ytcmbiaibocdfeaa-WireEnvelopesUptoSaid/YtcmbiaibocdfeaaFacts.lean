/- Closed facts on the program's types and functions. -/
import Derived.Test.YtcmbiaibocdfeaaRows
import Derived.Test.YtcmbiaibocdfeaaFwF
namespace Go.Proofs.Ytcmbiaibocdfeaa
open Go Go.Fw
set_option maxRecDepth 100000
theorem mo : Try.prog.follows .mixedOrders = true := by kernel_rfl
theorem cell_1 : isCellT Try.prog 1 = true := by kernel_rfl
theorem sz_1 : (Try.prog.info? 1).map (·.size) = some 1 := by kernel_rfl
theorem zero_1 : zeroT Try.prog 1 = some (.nilFunc) := by kernel_rfl
theorem cell_2 : isCellT Try.prog 2 = true := by kernel_rfl
theorem sz_2 : (Try.prog.info? 2).map (·.size) = some 1 := by kernel_rfl
theorem zero_2 : zeroT Try.prog 2 = some (.int .i64 0) := by kernel_rfl
theorem cell_3 : isCellT Try.prog 3 = true := by kernel_rfl
theorem sz_3 : (Try.prog.info? 3).map (·.size) = some 1 := by kernel_rfl
theorem zero_3 : zeroT Try.prog 3 = some (.int .i64 0) := by kernel_rfl
theorem cell_4 : isCellT Try.prog 4 = true := by kernel_rfl
theorem sz_4 : (Try.prog.info? 4).map (·.size) = some 1 := by kernel_rfl
theorem zero_4 : zeroT Try.prog 4 = some (.bool false) := by kernel_rfl
theorem cell_5 : isCellT Try.prog 5 = true := by kernel_rfl
theorem sz_5 : (Try.prog.info? 5).map (·.size) = some 1 := by kernel_rfl
theorem zero_5 : zeroT Try.prog 5 = some (.int .u8 0) := by kernel_rfl
theorem cell_9 : isCellT Try.prog 9 = true := by kernel_rfl
theorem sz_9 : (Try.prog.info? 9).map (·.size) = some 1 := by kernel_rfl
theorem str_9 : isStringT Try.prog 9 = true := by kernel_rfl
theorem zero_9 : zeroT Try.prog 9 = some (.string ⟨#[]⟩) := by kernel_rfl
theorem cell_22 : isCellT Try.prog 22 = true := by kernel_rfl
theorem sz_22 : (Try.prog.info? 22).map (·.size) = some 1 := by kernel_rfl
theorem el_22 : elemT Try.prog 22 = some (81, 32) := by kernel_rfl
theorem ef_22 : elemF Try.prog 22 81 32 32 = true := by kernel_rfl
theorem sl_22 : isSliceT Try.prog 22 = true := by kernel_rfl
theorem zero_22 : zeroT Try.prog 22 = some (.slice none 0 0) := by kernel_rfl
theorem eg_24 : Try.prog.eqGuardType Try.prog.depth 24 = false := by kernel_rfl
theorem agg_24 : aggT Try.prog 24 = some 2 := by kernel_rfl
theorem sz_24 : (Try.prog.info? 24).map (·.size) = some 2 := by kernel_rfl
theorem fld_24_0 : fldOff Try.prog 24 0 = some 0 := by kernel_rfl
theorem fld_24_1 : fldOff Try.prog 24 1 = some 1 := by kernel_rfl
theorem ps_24 : placesT Try.prog 24 = some [(0, 1), (1, 1)] := by kernel_rfl
theorem st_24 : Try.prog.stoodInHeld 24 = false := by kernel_rfl
theorem zero_24 : zeroT Try.prog 24 = some (.agg ⟨[.slice none 0 0, .int .i64 0]⟩) := by kernel_rfl
theorem eg_25 : Try.prog.eqGuardType Try.prog.depth 25 = false := by kernel_rfl
theorem agg_25 : aggT Try.prog 25 = some 8 := by kernel_rfl
theorem sz_25 : (Try.prog.info? 25).map (·.size) = some 8 := by kernel_rfl
theorem arr_25 : arrT Try.prog 25 = some (4, 24, 2) := by kernel_rfl
theorem ps_25 : placesT Try.prog 25 = some ((List.range 4).map fun k => (k * 2, 2)) := by kernel_rfl
theorem zero_25 : zeroT Try.prog 25 = some (.agg ⟨[.slice none 0 0, .int .i64 0, .slice none 0 0, .int .i64 0, .slice none 0 0, .int .i64 0, .slice none 0 0, .int .i64 0]⟩) := by kernel_rfl
theorem eg_27 : Try.prog.eqGuardType Try.prog.depth 27 = false := by kernel_rfl
theorem agg_27 : aggT Try.prog 27 = some 10 := by kernel_rfl
theorem sz_27 : (Try.prog.info? 27).map (·.size) = some 10 := by kernel_rfl
theorem fld_27_0 : fldOff Try.prog 27 0 = some 0 := by kernel_rfl
theorem fld_27_1 : fldOff Try.prog 27 1 = some 1 := by kernel_rfl
theorem fld_27_2 : fldOff Try.prog 27 2 = some 2 := by kernel_rfl
theorem ps_27 : placesT Try.prog 27 = some [(0, 1), (1, 1), (2, 8)] := by kernel_rfl
theorem st_27 : Try.prog.stoodInHeld 27 = false := by kernel_rfl
theorem zero_27 : zeroT Try.prog 27 = some (.agg ⟨[.int .i64 0, .int .i64 0, .slice none 0 0, .int .i64 0, .slice none 0 0, .int .i64 0, .slice none 0 0, .int .i64 0, .slice none 0 0, .int .i64 0]⟩) := by kernel_rfl
theorem cell_28 : isCellT Try.prog 28 = true := by kernel_rfl
theorem sz_28 : (Try.prog.info? 28).map (·.size) = some 1 := by kernel_rfl
theorem el_28 : elemT Try.prog 28 = some (5, 1) := by kernel_rfl
theorem ef_28 : elemF Try.prog 28 5 1 1 = true := by kernel_rfl
theorem sl_28 : isSliceT Try.prog 28 = true := by kernel_rfl
theorem zero_28 : zeroT Try.prog 28 = some (.slice none 0 0) := by kernel_rfl
theorem cell_30 : isCellT Try.prog 30 = true := by kernel_rfl
theorem sz_30 : (Try.prog.info? 30).map (·.size) = some 1 := by kernel_rfl
theorem zero_30 : zeroT Try.prog 30 = some (.int .i64 0) := by kernel_rfl
theorem cell_42 : isCellT Try.prog 42 = true := by kernel_rfl
theorem sz_42 : (Try.prog.info? 42).map (·.size) = some 1 := by kernel_rfl
theorem el_42 : elemT Try.prog 42 = some (87, 35) := by kernel_rfl
theorem ef_42 : elemF Try.prog 42 87 35 88 = true := by kernel_rfl
theorem sl_42 : isSliceT Try.prog 42 = true := by kernel_rfl
theorem zero_42 : zeroT Try.prog 42 = some (.slice none 0 0) := by kernel_rfl
theorem eg_44 : Try.prog.eqGuardType Try.prog.depth 44 = false := by kernel_rfl
theorem agg_44 : aggT Try.prog 44 = some 2 := by kernel_rfl
theorem sz_44 : (Try.prog.info? 44).map (·.size) = some 2 := by kernel_rfl
theorem fld_44_0 : fldOff Try.prog 44 0 = some 0 := by kernel_rfl
theorem fld_44_1 : fldOff Try.prog 44 1 = some 1 := by kernel_rfl
theorem ps_44 : placesT Try.prog 44 = some [(0, 1), (1, 1)] := by kernel_rfl
theorem st_44 : Try.prog.stoodInHeld 44 = false := by kernel_rfl
theorem zero_44 : zeroT Try.prog 44 = some (.agg ⟨[.slice none 0 0, .slice none 0 0]⟩) := by kernel_rfl
theorem cell_45 : isCellT Try.prog 45 = true := by kernel_rfl
theorem sz_45 : (Try.prog.info? 45).map (·.size) = some 1 := by kernel_rfl
theorem zero_45 : zeroT Try.prog 45 = some (.nilFunc) := by kernel_rfl
theorem cell_54 : isCellT Try.prog 54 = true := by kernel_rfl
theorem sz_54 : (Try.prog.info? 54).map (·.size) = some 1 := by kernel_rfl
theorem el_54 : elemT Try.prog 54 = some (24, 2) := by kernel_rfl
theorem ef_54 : elemF Try.prog 54 24 2 32 = true := by kernel_rfl
theorem sl_54 : isSliceT Try.prog 54 = true := by kernel_rfl
theorem zero_54 : zeroT Try.prog 54 = some (.slice none 0 0) := by kernel_rfl
theorem cell_56 : isCellT Try.prog 56 = true := by kernel_rfl
theorem sz_56 : (Try.prog.info? 56).map (·.size) = some 1 := by kernel_rfl
theorem zero_56 : zeroT Try.prog 56 = some (.nilFunc) := by kernel_rfl
theorem cell_57 : isCellT Try.prog 57 = true := by kernel_rfl
theorem sz_57 : (Try.prog.info? 57).map (·.size) = some 1 := by kernel_rfl
theorem zero_57 : zeroT Try.prog 57 = some (.pointer none) := by kernel_rfl
theorem eg_60 : Try.prog.eqGuardType Try.prog.depth 60 = false := by kernel_rfl
theorem agg_60 : aggT Try.prog 60 = some 1 := by kernel_rfl
theorem sz_60 : (Try.prog.info? 60).map (·.size) = some 1 := by kernel_rfl
theorem fld_60_0 : fldOff Try.prog 60 0 = some 0 := by kernel_rfl
theorem ps_60 : placesT Try.prog 60 = some [(0, 1)] := by kernel_rfl
theorem st_60 : Try.prog.stoodInHeld 60 = false := by kernel_rfl
theorem zero_60 : zeroT Try.prog 60 = some (.agg ⟨[.slice none 0 0]⟩) := by kernel_rfl
theorem eg_62 : Try.prog.eqGuardType Try.prog.depth 62 = false := by kernel_rfl
theorem agg_62 : aggT Try.prog 62 = some 1 := by kernel_rfl
theorem sz_62 : (Try.prog.info? 62).map (·.size) = some 1 := by kernel_rfl
theorem fld_62_0 : fldOff Try.prog 62 0 = some 0 := by kernel_rfl
theorem ps_62 : placesT Try.prog 62 = some [(0, 1)] := by kernel_rfl
theorem st_62 : Try.prog.stoodInHeld 62 = false := by kernel_rfl
theorem zero_62 : zeroT Try.prog 62 = some (.agg ⟨[.slice none 0 0]⟩) := by kernel_rfl
theorem cell_64 : isCellT Try.prog 64 = true := by kernel_rfl
theorem sz_64 : (Try.prog.info? 64).map (·.size) = some 1 := by kernel_rfl
theorem zero_64 : zeroT Try.prog 64 = some (.nilFunc) := by kernel_rfl
theorem cell_68 : isCellT Try.prog 68 = true := by kernel_rfl
theorem sz_68 : (Try.prog.info? 68).map (·.size) = some 1 := by kernel_rfl
theorem zero_68 : zeroT Try.prog 68 = some (.nilFunc) := by kernel_rfl
theorem cell_70 : isCellT Try.prog 70 = true := by kernel_rfl
theorem sz_70 : (Try.prog.info? 70).map (·.size) = some 1 := by kernel_rfl
theorem zero_70 : zeroT Try.prog 70 = some (.pointer none) := by kernel_rfl
theorem eg_72 : Try.prog.eqGuardType Try.prog.depth 72 = false := by kernel_rfl
theorem agg_72 : aggT Try.prog 72 = some 1 := by kernel_rfl
theorem sz_72 : (Try.prog.info? 72).map (·.size) = some 1 := by kernel_rfl
theorem fld_72_0 : fldOff Try.prog 72 0 = some 0 := by kernel_rfl
theorem ps_72 : placesT Try.prog 72 = some [(0, 1)] := by kernel_rfl
theorem st_72 : Try.prog.stoodInHeld 72 = false := by kernel_rfl
theorem zero_72 : zeroT Try.prog 72 = some (.agg ⟨[.pointer none]⟩) := by kernel_rfl
theorem cell_73 : isCellT Try.prog 73 = true := by kernel_rfl
theorem sz_73 : (Try.prog.info? 73).map (·.size) = some 1 := by kernel_rfl
theorem zero_73 : zeroT Try.prog 73 = some (.pointer none) := by kernel_rfl
theorem eg_81 : Try.prog.eqGuardType Try.prog.depth 81 = false := by kernel_rfl
theorem agg_81 : aggT Try.prog 81 = some 32 := by kernel_rfl
theorem sz_81 : (Try.prog.info? 81).map (·.size) = some 32 := by kernel_rfl
theorem arr_81 : arrT Try.prog 81 = some (32, 5, 1) := by kernel_rfl
theorem ps_81 : placesT Try.prog 81 = some ((List.range 32).map fun k => (k * 1, 1)) := by kernel_rfl
theorem zero_81 : zeroT Try.prog 81 = some (.agg ⟨[.int .u8 0, .int .u8 0, .int .u8 0, .int .u8 0, .int .u8 0, .int .u8 0, .int .u8 0, .int .u8 0, .int .u8 0, .int .u8 0, .int .u8 0, .int .u8 0, .int .u8 0, .int .u8 0, .int .u8 0, .int .u8 0, .int .u8 0, .int .u8 0, .int .u8 0, .int .u8 0, .int .u8 0, .int .u8 0, .int .u8 0, .int .u8 0, .int .u8 0, .int .u8 0, .int .u8 0, .int .u8 0, .int .u8 0, .int .u8 0, .int .u8 0, .int .u8 0]⟩) := by kernel_rfl
theorem eg_83 : Try.prog.eqGuardType Try.prog.depth 83 = false := by kernel_rfl
theorem agg_83 : aggT Try.prog 83 = some 35 := by kernel_rfl
theorem sz_83 : (Try.prog.info? 83).map (·.size) = some 35 := by kernel_rfl
theorem fld_83_0 : fldOff Try.prog 83 0 = some 0 := by kernel_rfl
theorem fld_83_1 : fldOff Try.prog 83 1 = some 1 := by kernel_rfl
theorem fld_83_2 : fldOff Try.prog 83 2 = some 2 := by kernel_rfl
theorem fld_83_3 : fldOff Try.prog 83 3 = some 3 := by kernel_rfl
theorem ps_83 : placesT Try.prog 83 = some [(0, 1), (1, 1), (2, 1), (3, 32)] := by kernel_rfl
theorem st_83 : Try.prog.stoodInHeld 83 = false := by kernel_rfl
theorem zero_83 : zeroT Try.prog 83 = some (.agg ⟨[.int .i64 0, .int .i64 0, .int .i64 0, .int .u8 0, .int .u8 0, .int .u8 0, .int .u8 0, .int .u8 0, .int .u8 0, .int .u8 0, .int .u8 0, .int .u8 0, .int .u8 0, .int .u8 0, .int .u8 0, .int .u8 0, .int .u8 0, .int .u8 0, .int .u8 0, .int .u8 0, .int .u8 0, .int .u8 0, .int .u8 0, .int .u8 0, .int .u8 0, .int .u8 0, .int .u8 0, .int .u8 0, .int .u8 0, .int .u8 0, .int .u8 0, .int .u8 0, .int .u8 0, .int .u8 0, .int .u8 0]⟩) := by kernel_rfl
theorem eg_85 : Try.prog.eqGuardType Try.prog.depth 85 = false := by kernel_rfl
theorem agg_85 : aggT Try.prog 85 = some 3 := by kernel_rfl
theorem sz_85 : (Try.prog.info? 85).map (·.size) = some 3 := by kernel_rfl
theorem fld_85_0 : fldOff Try.prog 85 0 = some 0 := by kernel_rfl
theorem fld_85_1 : fldOff Try.prog 85 1 = some 1 := by kernel_rfl
theorem fld_85_2 : fldOff Try.prog 85 2 = some 2 := by kernel_rfl
theorem ps_85 : placesT Try.prog 85 = some [(0, 1), (1, 1), (2, 1)] := by kernel_rfl
theorem st_85 : Try.prog.stoodInHeld 85 = false := by kernel_rfl
theorem zero_85 : zeroT Try.prog 85 = some (.agg ⟨[.int .i64 0, .slice none 0 0, .slice none 0 0]⟩) := by kernel_rfl
theorem eg_87 : Try.prog.eqGuardType Try.prog.depth 87 = false := by kernel_rfl
theorem agg_87 : aggT Try.prog 87 = some 35 := by kernel_rfl
theorem sz_87 : (Try.prog.info? 87).map (·.size) = some 35 := by kernel_rfl
theorem fld_87_0 : fldOff Try.prog 87 0 = some 0 := by kernel_rfl
theorem fld_87_1 : fldOff Try.prog 87 1 = some 32 := by kernel_rfl
theorem ps_87 : placesT Try.prog 87 = some [(0, 32), (32, 3)] := by kernel_rfl
theorem st_87 : Try.prog.stoodInHeld 87 = false := by kernel_rfl
theorem zero_87 : zeroT Try.prog 87 = some (.agg ⟨[.int .u8 0, .int .u8 0, .int .u8 0, .int .u8 0, .int .u8 0, .int .u8 0, .int .u8 0, .int .u8 0, .int .u8 0, .int .u8 0, .int .u8 0, .int .u8 0, .int .u8 0, .int .u8 0, .int .u8 0, .int .u8 0, .int .u8 0, .int .u8 0, .int .u8 0, .int .u8 0, .int .u8 0, .int .u8 0, .int .u8 0, .int .u8 0, .int .u8 0, .int .u8 0, .int .u8 0, .int .u8 0, .int .u8 0, .int .u8 0, .int .u8 0, .int .u8 0, .int .i64 0, .slice none 0 0, .slice none 0 0]⟩) := by kernel_rfl
theorem cell_90 : isCellT Try.prog 90 = true := by kernel_rfl
theorem sz_90 : (Try.prog.info? 90).map (·.size) = some 1 := by kernel_rfl
theorem zero_90 : zeroT Try.prog 90 = some (.nilFunc) := by kernel_rfl
theorem cell_96 : isCellT Try.prog 96 = true := by kernel_rfl
theorem sz_96 : (Try.prog.info? 96).map (·.size) = some 1 := by kernel_rfl
theorem zero_96 : zeroT Try.prog 96 = some (.nilFunc) := by kernel_rfl
theorem eg_100 : Try.prog.eqGuardType Try.prog.depth 100 = false := by kernel_rfl
theorem agg_100 : aggT Try.prog 100 = some 2 := by kernel_rfl
theorem sz_100 : (Try.prog.info? 100).map (·.size) = some 2 := by kernel_rfl
theorem fld_100_0 : fldOff Try.prog 100 0 = some 0 := by kernel_rfl
theorem fld_100_1 : fldOff Try.prog 100 1 = some 1 := by kernel_rfl
theorem ps_100 : placesT Try.prog 100 = some [(0, 1), (1, 1)] := by kernel_rfl
theorem st_100 : Try.prog.stoodInHeld 100 = false := by kernel_rfl
theorem zero_100 : zeroT Try.prog 100 = some (.agg ⟨[.slice none 0 0, .bool false]⟩) := by kernel_rfl
theorem cell_107 : isCellT Try.prog 107 = true := by kernel_rfl
theorem sz_107 : (Try.prog.info? 107).map (·.size) = some 1 := by kernel_rfl
theorem zero_107 : zeroT Try.prog 107 = some (.pointer none) := by kernel_rfl
theorem cell_108 : isCellT Try.prog 108 = true := by kernel_rfl
theorem sz_108 : (Try.prog.info? 108).map (·.size) = some 1 := by kernel_rfl
theorem el_108 : elemT Try.prog 108 = some (3, 1) := by kernel_rfl
theorem ef_108 : elemF Try.prog 108 3 1 8 = true := by kernel_rfl
theorem sl_108 : isSliceT Try.prog 108 = true := by kernel_rfl
theorem zero_108 : zeroT Try.prog 108 = some (.slice none 0 0) := by kernel_rfl
theorem cell_109 : isCellT Try.prog 109 = true := by kernel_rfl
theorem sz_109 : (Try.prog.info? 109).map (·.size) = some 1 := by kernel_rfl
theorem zero_109 : zeroT Try.prog 109 = some (.int .u64 0) := by kernel_rfl
theorem cell_110 : isCellT Try.prog 110 = true := by kernel_rfl
theorem sz_110 : (Try.prog.info? 110).map (·.size) = some 1 := by kernel_rfl
theorem zero_110 : zeroT Try.prog 110 = some (.int .u64 0) := by kernel_rfl
theorem cell_112 : isCellT Try.prog 112 = true := by kernel_rfl
theorem sz_112 : (Try.prog.info? 112).map (·.size) = some 1 := by kernel_rfl
theorem zero_112 : zeroT Try.prog 112 = some (.nilFunc) := by kernel_rfl
theorem cell_121 : isCellT Try.prog 121 = true := by kernel_rfl
theorem sz_121 : (Try.prog.info? 121).map (·.size) = some 1 := by kernel_rfl
theorem zero_121 : zeroT Try.prog 121 = some (.nilFunc) := by kernel_rfl
theorem cell_122 : isCellT Try.prog 122 = true := by kernel_rfl
theorem sz_122 : (Try.prog.info? 122).map (·.size) = some 1 := by kernel_rfl
theorem el_122 : elemT Try.prog 122 = some (28, 1) := by kernel_rfl
theorem ef_122 : elemF Try.prog 122 28 1 24 = true := by kernel_rfl
theorem sl_122 : isSliceT Try.prog 122 = true := by kernel_rfl
theorem zero_122 : zeroT Try.prog 122 = some (.slice none 0 0) := by kernel_rfl
theorem cell_126 : isCellT Try.prog 126 = true := by kernel_rfl
theorem sz_126 : (Try.prog.info? 126).map (·.size) = some 1 := by kernel_rfl
theorem zero_126 : zeroT Try.prog 126 = some (.nilFunc) := by kernel_rfl
theorem eg_130 : Try.prog.eqGuardType Try.prog.depth 130 = false := by kernel_rfl
theorem agg_130 : aggT Try.prog 130 = some 2 := by kernel_rfl
theorem sz_130 : (Try.prog.info? 130).map (·.size) = some 2 := by kernel_rfl
theorem fld_130_0 : fldOff Try.prog 130 0 = some 0 := by kernel_rfl
theorem fld_130_1 : fldOff Try.prog 130 1 = some 1 := by kernel_rfl
theorem ps_130 : placesT Try.prog 130 = some [(0, 1), (1, 1)] := by kernel_rfl
theorem st_130 : Try.prog.stoodInHeld 130 = false := by kernel_rfl
theorem zero_130 : zeroT Try.prog 130 = some (.agg ⟨[.slice none 0 0, .bool false]⟩) := by kernel_rfl
theorem cell_132 : isCellT Try.prog 132 = true := by kernel_rfl
theorem sz_132 : (Try.prog.info? 132).map (·.size) = some 1 := by kernel_rfl
theorem zero_132 : zeroT Try.prog 132 = some (.nilFunc) := by kernel_rfl
theorem cell_139 : isCellT Try.prog 139 = true := by kernel_rfl
theorem sz_139 : (Try.prog.info? 139).map (·.size) = some 1 := by kernel_rfl
theorem el_139 : elemT Try.prog 139 = some (22, 1) := by kernel_rfl
theorem ef_139 : elemF Try.prog 139 22 1 24 = true := by kernel_rfl
theorem sl_139 : isSliceT Try.prog 139 = true := by kernel_rfl
theorem zero_139 : zeroT Try.prog 139 = some (.slice none 0 0) := by kernel_rfl
theorem call_3 : callable Try.prog 3 = true := by kernel_rfl
theorem call_4 : callable Try.prog 4 = true := by kernel_rfl
theorem call_5 : callable Try.prog 5 = true := by kernel_rfl
theorem call_6 : callable Try.prog 6 = true := by kernel_rfl
theorem call_7 : callable Try.prog 7 = true := by kernel_rfl
theorem call_8 : callable Try.prog 8 = true := by kernel_rfl
theorem call_9 : callable Try.prog 9 = true := by kernel_rfl
theorem call_10 : callable Try.prog 10 = true := by kernel_rfl
theorem call_11 : callable Try.prog 11 = true := by kernel_rfl
theorem call_12 : callable Try.prog 12 = true := by kernel_rfl
theorem call_13 : callable Try.prog 13 = true := by kernel_rfl
theorem call_14 : callable Try.prog 14 = true := by kernel_rfl
theorem call_15 : callable Try.prog 15 = true := by kernel_rfl
theorem call_16 : callable Try.prog 16 = true := by kernel_rfl
theorem call_17 : callable Try.prog 17 = true := by kernel_rfl
theorem call_18 : callable Try.prog 18 = true := by kernel_rfl
theorem call_19 : callable Try.prog 19 = true := by kernel_rfl
theorem call_20 : callable Try.prog 20 = true := by kernel_rfl
theorem call_21 : callable Try.prog 21 = true := by kernel_rfl
theorem call_22 : callable Try.prog 22 = true := by kernel_rfl
theorem call_23 : callable Try.prog 23 = true := by kernel_rfl
theorem call_24 : callable Try.prog 24 = true := by kernel_rfl
theorem call_25 : callable Try.prog 25 = true := by kernel_rfl
theorem call_26 : callable Try.prog 26 = true := by kernel_rfl
theorem call_27 : callable Try.prog 27 = true := by kernel_rfl
theorem call_28 : callable Try.prog 28 = true := by kernel_rfl
theorem call_29 : callable Try.prog 29 = true := by kernel_rfl
theorem call_30 : callable Try.prog 30 = true := by kernel_rfl
theorem call_31 : callable Try.prog 31 = true := by kernel_rfl
theorem call_32 : callable Try.prog 32 = true := by kernel_rfl
theorem call_33 : callable Try.prog 33 = true := by kernel_rfl
theorem call_34 : callable Try.prog 34 = true := by kernel_rfl
theorem call_35 : callable Try.prog 35 = true := by kernel_rfl
theorem call_36 : callable Try.prog 36 = true := by kernel_rfl
theorem call_37 : callable Try.prog 37 = true := by kernel_rfl
theorem call_38 : callable Try.prog 38 = true := by kernel_rfl
theorem call_39 : callable Try.prog 39 = true := by kernel_rfl
theorem call_40 : callable Try.prog 40 = true := by kernel_rfl
theorem call_41 : callable Try.prog 41 = true := by kernel_rfl
theorem call_42 : callable Try.prog 42 = true := by kernel_rfl
theorem call_43 : callable Try.prog 43 = true := by kernel_rfl
theorem call_44 : callable Try.prog 44 = true := by kernel_rfl
theorem call_45 : callable Try.prog 45 = true := by kernel_rfl
theorem call_46 : callable Try.prog 46 = true := by kernel_rfl
theorem call_47 : callable Try.prog 47 = true := by kernel_rfl
theorem call_48 : callable Try.prog 48 = true := by kernel_rfl
theorem call_49 : callable Try.prog 49 = true := by kernel_rfl
theorem call_50 : callable Try.prog 50 = true := by kernel_rfl
theorem call_51 : callable Try.prog 51 = true := by kernel_rfl
theorem call_52 : callable Try.prog 52 = true := by kernel_rfl
theorem call_53 : callable Try.prog 53 = true := by kernel_rfl
theorem call_54 : callable Try.prog 54 = true := by kernel_rfl
theorem call_55 : callable Try.prog 55 = true := by kernel_rfl
theorem call_56 : callable Try.prog 56 = true := by kernel_rfl
theorem call_57 : callable Try.prog 57 = true := by kernel_rfl
theorem call_58 : callable Try.prog 58 = true := by kernel_rfl
theorem call_59 : callable Try.prog 59 = true := by kernel_rfl
theorem call_60 : callable Try.prog 60 = true := by kernel_rfl
theorem call_61 : callable Try.prog 61 = true := by kernel_rfl
theorem call_62 : callable Try.prog 62 = true := by kernel_rfl
theorem call_63 : callable Try.prog 63 = true := by kernel_rfl
theorem call_64 : callable Try.prog 64 = true := by kernel_rfl
theorem call_65 : callable Try.prog 65 = true := by kernel_rfl
theorem call_66 : callable Try.prog 66 = true := by kernel_rfl
theorem call_67 : callable Try.prog 67 = true := by kernel_rfl
theorem call_68 : callable Try.prog 68 = true := by kernel_rfl
theorem call_69 : callable Try.prog 69 = true := by kernel_rfl
theorem call_70 : callable Try.prog 70 = true := by kernel_rfl
theorem call_71 : callable Try.prog 71 = true := by kernel_rfl
theorem call_72 : callable Try.prog 72 = true := by kernel_rfl
theorem call_73 : callable Try.prog 73 = true := by kernel_rfl
theorem call_74 : callable Try.prog 74 = true := by kernel_rfl
theorem call_75 : callable Try.prog 75 = true := by kernel_rfl
theorem call_76 : callable Try.prog 76 = true := by kernel_rfl
theorem call_77 : callable Try.prog 77 = true := by kernel_rfl
theorem call_78 : callable Try.prog 78 = true := by kernel_rfl
theorem call_79 : callable Try.prog 79 = true := by kernel_rfl
theorem call_80 : callable Try.prog 80 = true := by kernel_rfl
theorem call_81 : callable Try.prog 81 = true := by kernel_rfl
theorem call_82 : callable Try.prog 82 = true := by kernel_rfl
theorem call_83 : callable Try.prog 83 = true := by kernel_rfl
theorem call_84 : callable Try.prog 84 = true := by kernel_rfl
theorem call_85 : callable Try.prog 85 = true := by kernel_rfl
theorem call_86 : callable Try.prog 86 = true := by kernel_rfl
theorem call_87 : callable Try.prog 87 = true := by kernel_rfl
theorem call_88 : callable Try.prog 88 = true := by kernel_rfl
theorem call_89 : callable Try.prog 89 = true := by kernel_rfl
end Go.Proofs.Ytcmbiaibocdfeaa
