/- The walks of the laws FindFirst and FindRound on what find's calls come to. -/
import Derived.Test.YtpomcdmlmaimeaaFind4
import Derived.Test.YtpomcdmlmaimeaaFind6M
namespace Go.Proofs.Ytpomcdmlmaimeaa
open Go Go.Fw
set_option maxRecDepth 100000

theorem lawFirst_any (name : ByteArray) (turn last : Bool) (w : World) (hn : name.size ≤ 1099511627776) :
    Ret Try.prog 7 [.string name, .bool turn, .bool last] w fun r w' => r = .bool true ∧ Ext w w' := by
  have e := ExtB.refl (fun _ => False) w
  refine ret_of_run Try.func7 rfl Try.ntmps7 rfl ?_
  refine run_seq ?_
  refine run_region rfl ?_
  refine runl_ev (ev_assign rfl) ?_
  refine runl_nil ?_
  refine run_seq ?_
  refine run_seq ?_
  refine run_region rfl ?_
  refine runl_ev (ev_move rfl) ?_
  refine runl_ev (ev_lenS str_9 rfl) ?_
  refine runl_ev (ev_gtr rfl rfl) ?_
  refine runl_nil ?_
  refine run_dcond rfl (fun h0 => ?_) (fun h0 => ?_)
  · refine run_seq ?_
    refine run_region rfl ?_
    refine runl_ev (ev_assign rfl) ?_
    refine runl_nil ?_
    refine run_ret_any Try.func7 (res1 Try.results7 rfl) ?_
    exact ⟨rfl, e⟩
  · refine run_skip ?_
    refine run_seq ?_
    refine run_region rfl ?_
    refine runl_ev (ev_move rfl) ?_
    refine runl_ev (ev_build (out := (fstT name 48).cells) ps_27 zero_27 rfl rfl (rfl)) ?_
    refine runl_op (t_buildSlice (out := (fstT name 48).cells) Try.underlying30 sz_27 zero_27 rfl rfl (by decide) (by decide) rfl (rfl)) ?_
    rintro _ w19 ⟨b19, rfl, hb19, e19, n19, l19⟩
    have z19 := e19.size
    replace e := e.trans e19
    refine runl_ev (ev_build (out := [.string ⟨#[97]⟩, .int .i64 0, .int .i64 0, .slice (some ⟨b19, 0, none⟩) 1 1, .slice none 0 0]) ps_33 zero_33 rfl rfl (rfl)) ?_
    refine runl_op (t_alloc zero_33 rfl) ?_
    rintro _ w7 ⟨b7, rfl, hb7, e7, n7, l7⟩
    have z7 := e7.size
    replace e := e.trans e7
    replace hb19 := e7.at hb19
    refine runl_do (t_storeW sz_33 rfl rfl rfl rfl hb7 (by simp)) ?_
    rintro _ v3_5 ⟨hq3_5, e3_5, z3_5⟩
    replace e := e.new1 e3_5 (by omega)
    replace hb19 := e3_5.at1 hb19 (by omega)
    replace hb7 := hq3_5
    clear hq3_5
    refine runl_nil ?_
    refine run_seq ?_
    refine run_region rfl ?_
    refine runl_ev (ev_move rfl) ?_
    refine runl_ev (ev_build (out := (fstT name 49).cells) ps_27 zero_27 rfl rfl (rfl)) ?_
    refine runl_op (t_buildSlice (out := (fstT name 49).cells) Try.underlying30 sz_27 zero_27 rfl rfl (by decide) (by decide) rfl (rfl)) ?_
    rintro _ w23 ⟨b23, rfl, hb23, e23, n23, l23⟩
    have z23 := e23.size
    replace e := e.trans e23
    replace hb19 := e23.at hb19
    replace hb7 := e23.at hb7
    refine runl_ev (ev_build (out := [.string ⟨#[98]⟩, .int .i64 0, .int .i64 0, .slice (some ⟨b23, 0, none⟩) 1 1, .slice none 0 0]) ps_33 zero_33 rfl rfl (rfl)) ?_
    refine runl_op (t_alloc zero_33 rfl) ?_
    rintro _ w8 ⟨b8, rfl, hb8, e8, n8, l8⟩
    have z8 := e8.size
    replace e := e.trans e8
    replace hb19 := e8.at hb19
    replace hb7 := e8.at hb7
    replace hb23 := e8.at hb23
    refine runl_do (t_storeW sz_33 rfl rfl rfl rfl hb8 (by simp)) ?_
    rintro _ v4_5 ⟨hq4_5, e4_5, z4_5⟩
    replace e := e.new1 e4_5 (by omega)
    replace hb19 := e4_5.at1 hb19 (by omega)
    replace hb7 := e4_5.at1 hb7 (by omega)
    replace hb23 := e4_5.at1 hb23 (by omega)
    replace hb8 := hq4_5
    clear hq4_5
    refine runl_nil ?_
    refine run_seq ?_
    refine run_region rfl ?_
    refine runl_ev (ev_move rfl) ?_
    refine runl_ev (ev_build (out := [.string ⟨#[97]⟩, .slice none 0 0, .int .i64 0, .string ⟨#[]⟩, .bool last]) ps_40 zero_40 rfl rfl (rfl)) ?_
    refine runl_ev (ev_build (out := [.string ⟨#[98]⟩, .slice none 0 0, .int .i64 0, .string ⟨#[]⟩, .bool false]) ps_40 zero_40 rfl rfl (rfl)) ?_
    refine runl_op (t_buildSlice (out := [.string ⟨#[97]⟩, .slice none 0 0, .int .i64 0, .string ⟨#[]⟩, .bool last, .string ⟨#[98]⟩, .slice none 0 0, .int .i64 0, .string ⟨#[]⟩, .bool false]) Try.underlying31 sz_40 zero_40 rfl rfl (by decide) (by decide) rfl (rfl)) ?_
    rintro _ w28 ⟨b28, rfl, hb28, e28, n28, l28⟩
    have z28 := e28.size
    replace e := e.trans e28
    replace hb19 := e28.at hb19
    replace hb7 := e28.at hb7
    replace hb23 := e28.at hb23
    replace hb8 := e28.at hb8
    refine runl_ev (ev_assign rfl) ?_
    refine runl_nil ?_
    refine run_seq ?_
    refine run_seq ?_
    cases turn
    · refine run_region rfl ?_
      refine runl_ev (ev_move rfl) ?_
      refine runl_nil ?_
      refine run_cond_false rfl (rfl) ?_
      refine run_skip ?_
      refine run_seq ?_
      refine run_region rfl ?_
      refine runl_ev (ev_move rfl) ?_
      refine runl_ev (ev_build (out := [.string ⟨#[116, 111, 112]⟩, .int .i64 0, .int .i64 0, .slice none 0 0, .slice (some ⟨b28, 0, none⟩) 2 2]) ps_33 zero_33 rfl rfl (rfl)) ?_
      refine runl_ev (ev_loadA agg_33 rfl rfl (eqw (cells_all hb7))) ?_
      refine runl_ev (ev_loadA agg_33 rfl rfl (eqw (cells_all hb8))) ?_
      refine runl_op (t_buildSlice (out := [.string ⟨#[116, 111, 112]⟩, .int .i64 0, .int .i64 0, .slice none 0 0, .slice (some ⟨b28, 0, none⟩) 2 2, .string ⟨#[97]⟩, .int .i64 0, .int .i64 0, .slice (some ⟨b19, 0, none⟩) 1 1, .slice none 0 0, .string ⟨#[98]⟩, .int .i64 0, .int .i64 0, .slice (some ⟨b23, 0, none⟩) 1 1, .slice none 0 0]) Try.underlying22 sz_33 zero_33 rfl rfl (by decide) (by decide) rfl (rfl)) ?_
      rintro _ w45 ⟨b45, rfl, hb45, e45, n45, l45⟩
      have z45 := e45.size
      replace e := e.trans e45
      replace hb19 := e45.at hb19
      replace hb7 := e45.at hb7
      replace hb23 := e45.at hb23
      replace hb8 := e45.at hb8
      replace hb28 := e45.at hb28
      have hk : SlAt 5 RTgs w45 (.slice (some ⟨b45, 0, none⟩) 3 3) (fstL name [⟨⟨#[97]⟩, ⟨#[]⟩, last⟩, ⟨⟨#[98]⟩, ⟨#[]⟩, false⟩]) := by
        have hd : SlAt 5 RDel w45 (.slice (some ⟨b28, 0, none⟩) 2 2) [⟨⟨#[97]⟩, ⟨#[]⟩, last⟩, ⟨⟨#[98]⟩, ⟨#[]⟩, false⟩] := sl_lit (α := Del) (l := [⟨⟨#[97]⟩, ⟨#[]⟩, last⟩, ⟨⟨#[98]⟩, ⟨#[]⟩, false⟩]) hb28 (pc rdel (pc rdel pn))
        have ha : SlAt 37 RTgt w45 (.slice (some ⟨b19, 0, none⟩) 1 1) [fstT name 48] := sl_lit (l := [fstT name 48]) hb19 (pc (rtgt rfl) pn)
        have hb : SlAt 37 RTgt w45 (.slice (some ⟨b23, 0, none⟩) 1 1) [fstT name 49] := sl_lit (l := [fstT name 49]) hb23 (pc (rtgt rfl) pn)
        exact sl_lit (l := fstL name [⟨⟨#[97]⟩, ⟨#[]⟩, last⟩, ⟨⟨#[98]⟩, ⟨#[]⟩, false⟩]) hb45 (pc (rtgs sl_nil hd) (pc (rtgs ha sl_nil) (pc (rtgs hb sl_nil) pn)))
      have hf : findF (fstL name [⟨⟨#[97]⟩, ⟨#[]⟩, last⟩, ⟨⟨#[98]⟩, ⟨#[]⟩, false⟩]) name = some (fstT name 48, ⟨#[97]⟩) := fst_find name _ _ _ _ (by simp)
      refine runl_ev (ev_move rfl) ?_
      refine runl_op (t_call call_12 rfl (find_any (fstL name [⟨⟨#[97]⟩, ⟨#[]⟩, last⟩, ⟨⟨#[98]⟩, ⟨#[]⟩, false⟩]) _ _ _ _ hk (fst_bnd name _ _ rfl rfl) name (by omega))) ?_
      rintro _ w47 ⟨rfl, -, e47⟩
      rw [hf]
      clear hk
      have z47 := e47.size
      replace e := e.trans e47
      replace hb19 := e47.at hb19
      replace hb7 := e47.at hb7
      replace hb23 := e47.at hb23
      replace hb8 := e47.at hb8
      replace hb28 := e47.at hb28
      replace hb45 := e47.at hb45
      refine runl_ev (ev_move rfl) ?_
      refine runl_ev (ev_extract rfl rfl) ?_
      refine runl_ev (ev_extract rfl rfl) ?_
      refine runl_ev (ev_extract rfl rfl) ?_
      refine runl_op (t_alloc zero_27 rfl) ?_
      rintro _ w10 ⟨b10, rfl, hb10, e10, n10, l10⟩
      have z10 := e10.size
      replace e := e.trans e10
      replace hb19 := e10.at hb19
      replace hb7 := e10.at hb7
      replace hb23 := e10.at hb23
      replace hb8 := e10.at hb8
      replace hb28 := e10.at hb28
      replace hb45 := e10.at hb45
      refine runl_do (t_storeW sz_27 rfl rfl rfl rfl hb10 (Tgt.one (fstT name 48))) ?_
      rintro _ v8_12 ⟨hq8_12, e8_12, z8_12⟩
      replace e := e.new1 e8_12 (by omega)
      replace hb19 := e8_12.at1 hb19 (by omega)
      replace hb7 := e8_12.at1 hb7 (by omega)
      replace hb23 := e8_12.at1 hb23 (by omega)
      replace hb8 := e8_12.at1 hb8 (by omega)
      replace hb28 := e8_12.at1 hb28 (by omega)
      replace hb45 := e8_12.at1 hb45 (by omega)
      replace hb10 := hq8_12
      clear hq8_12
      refine runl_ev (ev_assign rfl) ?_
      refine runl_ev (ev_assign rfl) ?_
      refine runl_nil ?_
      refine run_seq ?_
      refine run_region rfl ?_
      refine runl_ev (ev_assign rfl) ?_
      refine runl_nil ?_
      refine run_seq ?_
      refine run_seq ?_
      refine run_region rfl ?_
      refine runl_ev (ev_move rfl) ?_
      refine runl_nil ?_
      refine run_cond_false rfl (rfl) ?_
      refine run_skip ?_
      refine run_seq ?_
      refine run_region rfl ?_
      refine runl_ev (ev_move rfl) ?_
      refine runl_ev (ev_move rfl) ?_
      refine runl_ev_g rfl rfl (rfl) (ev_move rfl) ?_
      refine runl_ev_g rfl rfl (rfl) (ev_move rfl) ?_
      refine runl_ev_g rfl rfl (rfl) (ev_eqlS rfl rfl) ?_
      refine runl_ev (ev_pick rfl rfl rfl rfl) ?_
      refine runl_ev (ev_move rfl) ?_
      refine runl_ev_g rfl rfl (rfl) (ev_fieldAddr fld_27_0 rfl) ?_
      refine runl_ev_g rfl rfl (rfl) (ev_load1 cell_9 rfl (eqw (cell_blk hb10 rfl))) ?_
      refine runl_ev_g rfl rfl (rfl) (ev_move rfl) ?_
      refine runl_ev_g rfl rfl (rfl) (ev_eqlS rfl rfl) ?_
      refine runl_ev (ev_pick rfl rfl rfl rfl) ?_
      refine runl_ev (ev_move rfl) ?_
      refine runl_op_g rfl rfl (decide_eq_true rfl) (t_call call_13 rfl (known_any _)) ?_
      rintro _ w65 ⟨rfl, e65⟩
      have z65 := e65.size
      replace e := e.trans e65
      replace hb19 := e65.at hb19
      replace hb7 := e65.at hb7
      replace hb23 := e65.at hb23
      replace hb8 := e65.at hb8
      replace hb28 := e65.at hb28
      replace hb45 := e65.at hb45
      replace hb10 := e65.at hb10
      refine runl_ev (ev_pick rfl rfl rfl rfl) ?_
      refine runl_ev (ev_assign rfl) ?_
      refine runl_nil ?_
      refine run_ret_any Try.func7 (res1 Try.results7 rfl) ?_
      exact ⟨by simp [Ans.tgt, fstT], e⟩
    · refine run_region rfl ?_
      refine runl_ev (ev_move rfl) ?_
      refine runl_nil ?_
      refine run_cond_true rfl (rfl) ?_
      refine run_draw mo (fun w' => Ext w28 w') [9, 10, 11] [(true, 0), (true, 1), (true, 2), (true, 3), (true, 4), (true, 5), (true, 6), (true, 7), (true, 8), (false, 9), (false, 10), (false, 11)] (by kernel_rfl) ?_
      intro wr7 er7
      have zr7 := er7.size
      have hsr7 := er7
      have ep := e.trans er7
      have hb19p := er7.at hb19
      have hb7p := er7.at hb7
      have hb23p := er7.at hb23
      have hb8p := er7.at hb8
      have hb28p := er7.at hb28
      refine rund_ev hsr7 rfl (ev_move rfl) ?_
      refine rund_ev hsr7 rfl (ev_move rfl) ?_
      refine rund_ev hsr7 rfl (ev_move rfl) ?_
      refine rund_ev hsr7 rfl (ev_indexAddr el_31 rfl rfl (by simp)) ?_
      refine rund_ev hsr7 rfl (ev_loadA agg_40 rfl rfl (fun wz hz => (cells_all (hz.at hb28)).seg ([.string ⟨#[98]⟩, .slice none 0 0, .int .i64 0, .string ⟨#[]⟩, .bool false]) 5 rfl rfl)) ?_
      refine rund_ev hsr7 rfl (ev_move rfl) ?_
      refine rund_ev hsr7 rfl (ev_indexAddr el_31 rfl rfl (by simp)) ?_
      refine rund_ev hsr7 rfl (ev_loadA agg_40 rfl rfl (fun wz hz => (cells_all (hz.at hb28)).seg ([.string ⟨#[97]⟩, .slice none 0 0, .int .i64 0, .string ⟨#[]⟩, .bool last]) 0 rfl rfl)) ?_
      refine rund_ev hsr7 rfl (ev_indexAddr el_31 rfl rfl (by simp)) ?_
      refine rund_doT rfl rfl (t_store sz_40 rfl rfl rfl rfl hb28p (by simp) (by simp)) ?_
      rintro _ v7_9 ⟨hq7_9, e7_9, z7_9⟩
      replace ep := ep.new1 e7_9 (by omega)
      replace hb19p := e7_9.at1 hb19p (by omega)
      replace hb7p := e7_9.at1 hb7p (by omega)
      replace hb23p := e7_9.at1 hb23p (by omega)
      replace hb8p := e7_9.at1 hb8p (by omega)
      replace hb28p := hq7_9
      clear hq7_9
      refine rund_opT rfl rfl (opT_ev (ev_indexAddr el_31 rfl rfl (by simp))) ?_
      rintro _ _ ⟨rfl, rfl⟩
      refine rund_doT rfl rfl (t_store sz_40 rfl rfl rfl rfl hb28p (by simp [splice]) (by simp)) ?_
      rintro _ v7_11 ⟨hq7_11, e7_11, z7_11⟩
      replace ep := ep.new1 e7_11 (by omega)
      replace hb19p := e7_11.at1 hb19p (by omega)
      replace hb7p := e7_11.at1 hb7p (by omega)
      replace hb23p := e7_11.at1 hb23p (by omega)
      replace hb8p := e7_11.at1 hb8p (by omega)
      replace hb28p := hq7_11
      clear hq7_11
      refine rund_nil ?_
      replace e := ep
      clear ep
      replace hb19 := hb19p
      clear hb19p
      replace hb7 := hb7p
      clear hb7p
      replace hb23 := hb23p
      clear hb23p
      replace hb8 := hb8p
      clear hb8p
      replace hb28 := hb28p
      clear hb28p
      replace hb28 : v7_11.heap[b28]? = some (.cells ⟨[.string ⟨#[98]⟩, .slice none 0 0, .int .i64 0, .string ⟨#[]⟩, .bool false, .string ⟨#[97]⟩, .slice none 0 0, .int .i64 0, .string ⟨#[]⟩, .bool last]⟩ _ _) := hb28
      refine run_seq ?_
      refine run_region rfl ?_
      refine runl_ev (ev_move rfl) ?_
      refine runl_ev (ev_build (out := [.string ⟨#[116, 111, 112]⟩, .int .i64 0, .int .i64 0, .slice none 0 0, .slice (some ⟨b28, 0, none⟩) 2 2]) ps_33 zero_33 rfl rfl (rfl)) ?_
      refine runl_ev (ev_loadA agg_33 rfl rfl (eqw (cells_all hb7))) ?_
      refine runl_ev (ev_loadA agg_33 rfl rfl (eqw (cells_all hb8))) ?_
      refine runl_op (t_buildSlice (out := [.string ⟨#[116, 111, 112]⟩, .int .i64 0, .int .i64 0, .slice none 0 0, .slice (some ⟨b28, 0, none⟩) 2 2, .string ⟨#[97]⟩, .int .i64 0, .int .i64 0, .slice (some ⟨b19, 0, none⟩) 1 1, .slice none 0 0, .string ⟨#[98]⟩, .int .i64 0, .int .i64 0, .slice (some ⟨b23, 0, none⟩) 1 1, .slice none 0 0]) Try.underlying22 sz_33 zero_33 rfl rfl (by decide) (by decide) rfl (rfl)) ?_
      rintro _ w45x1 ⟨b45x1, rfl, hb45x1, e45x1, n45x1, l45x1⟩
      have z45x1 := e45x1.size
      replace e := e.trans e45x1
      replace hb19 := e45x1.at hb19
      replace hb7 := e45x1.at hb7
      replace hb23 := e45x1.at hb23
      replace hb8 := e45x1.at hb8
      replace hb28 := e45x1.at hb28
      have hk : SlAt 5 RTgs w45x1 (.slice (some ⟨b45x1, 0, none⟩) 3 3) (fstL name [⟨⟨#[98]⟩, ⟨#[]⟩, false⟩, ⟨⟨#[97]⟩, ⟨#[]⟩, last⟩]) := by
        have hd : SlAt 5 RDel w45x1 (.slice (some ⟨b28, 0, none⟩) 2 2) [⟨⟨#[98]⟩, ⟨#[]⟩, false⟩, ⟨⟨#[97]⟩, ⟨#[]⟩, last⟩] := sl_lit (α := Del) (l := [⟨⟨#[98]⟩, ⟨#[]⟩, false⟩, ⟨⟨#[97]⟩, ⟨#[]⟩, last⟩]) hb28 (pc rdel (pc rdel pn))
        have ha : SlAt 37 RTgt w45x1 (.slice (some ⟨b19, 0, none⟩) 1 1) [fstT name 48] := sl_lit (l := [fstT name 48]) hb19 (pc (rtgt rfl) pn)
        have hb : SlAt 37 RTgt w45x1 (.slice (some ⟨b23, 0, none⟩) 1 1) [fstT name 49] := sl_lit (l := [fstT name 49]) hb23 (pc (rtgt rfl) pn)
        exact sl_lit (l := fstL name [⟨⟨#[98]⟩, ⟨#[]⟩, false⟩, ⟨⟨#[97]⟩, ⟨#[]⟩, last⟩]) hb45x1 (pc (rtgs sl_nil hd) (pc (rtgs ha sl_nil) (pc (rtgs hb sl_nil) pn)))
      have hf : findF (fstL name [⟨⟨#[98]⟩, ⟨#[]⟩, false⟩, ⟨⟨#[97]⟩, ⟨#[]⟩, last⟩]) name = some (fstT name 49, ⟨#[98]⟩) := fst_find name _ _ _ _ (by simp)
      refine runl_ev (ev_move rfl) ?_
      refine runl_op (t_call call_12 rfl (find_any (fstL name [⟨⟨#[98]⟩, ⟨#[]⟩, false⟩, ⟨⟨#[97]⟩, ⟨#[]⟩, last⟩]) _ _ _ _ hk (fst_bnd name _ _ rfl rfl) name (by omega))) ?_
      rintro _ w47x1 ⟨rfl, -, e47x1⟩
      rw [hf]
      clear hk
      have z47x1 := e47x1.size
      replace e := e.trans e47x1
      replace hb19 := e47x1.at hb19
      replace hb7 := e47x1.at hb7
      replace hb23 := e47x1.at hb23
      replace hb8 := e47x1.at hb8
      replace hb28 := e47x1.at hb28
      replace hb45x1 := e47x1.at hb45x1
      refine runl_ev (ev_move rfl) ?_
      refine runl_ev (ev_extract rfl rfl) ?_
      refine runl_ev (ev_extract rfl rfl) ?_
      refine runl_ev (ev_extract rfl rfl) ?_
      refine runl_op (t_alloc zero_27 rfl) ?_
      rintro _ w10x1 ⟨b10x1, rfl, hb10x1, e10x1, n10x1, l10x1⟩
      have z10x1 := e10x1.size
      replace e := e.trans e10x1
      replace hb19 := e10x1.at hb19
      replace hb7 := e10x1.at hb7
      replace hb23 := e10x1.at hb23
      replace hb8 := e10x1.at hb8
      replace hb28 := e10x1.at hb28
      replace hb45x1 := e10x1.at hb45x1
      refine runl_do (t_storeW sz_27 rfl rfl rfl rfl hb10x1 (Tgt.one (fstT name 49))) ?_
      rintro _ v8_12x1 ⟨hq8_12x1, e8_12x1, z8_12x1⟩
      replace e := e.new1 e8_12x1 (by omega)
      replace hb19 := e8_12x1.at1 hb19 (by omega)
      replace hb7 := e8_12x1.at1 hb7 (by omega)
      replace hb23 := e8_12x1.at1 hb23 (by omega)
      replace hb8 := e8_12x1.at1 hb8 (by omega)
      replace hb28 := e8_12x1.at1 hb28 (by omega)
      replace hb45x1 := e8_12x1.at1 hb45x1 (by omega)
      replace hb10x1 := hq8_12x1
      clear hq8_12x1
      refine runl_ev (ev_assign rfl) ?_
      refine runl_ev (ev_assign rfl) ?_
      refine runl_nil ?_
      refine run_seq ?_
      refine run_region rfl ?_
      refine runl_ev (ev_assign rfl) ?_
      refine runl_nil ?_
      refine run_seq ?_
      refine run_seq ?_
      refine run_region rfl ?_
      refine runl_ev (ev_move rfl) ?_
      refine runl_nil ?_
      refine run_cond_true rfl (rfl) ?_
      refine run_region rfl ?_
      refine runl_ev (ev_assign rfl) ?_
      refine runl_nil ?_
      refine run_seq ?_
      refine run_region rfl ?_
      refine runl_ev (ev_move rfl) ?_
      refine runl_ev (ev_move rfl) ?_
      refine runl_ev_g rfl rfl (rfl) (ev_move rfl) ?_
      refine runl_ev_g rfl rfl (rfl) (ev_move rfl) ?_
      refine runl_ev_g rfl rfl (rfl) (ev_eqlS rfl rfl) ?_
      refine runl_ev (ev_pick rfl rfl rfl rfl) ?_
      refine runl_ev (ev_move rfl) ?_
      refine runl_ev_g rfl rfl (rfl) (ev_fieldAddr fld_27_0 rfl) ?_
      refine runl_ev_g rfl rfl (rfl) (ev_load1 cell_9 rfl (eqw (cell_blk hb10x1 rfl))) ?_
      refine runl_ev_g rfl rfl (rfl) (ev_move rfl) ?_
      refine runl_ev_g rfl rfl (rfl) (ev_eqlS rfl rfl) ?_
      refine runl_ev (ev_pick rfl rfl rfl rfl) ?_
      refine runl_ev (ev_move rfl) ?_
      refine runl_op_g rfl rfl (decide_eq_true rfl) (t_call call_13 rfl (known_any _)) ?_
      rintro _ w65x1 ⟨rfl, e65x1⟩
      have z65x1 := e65x1.size
      replace e := e.trans e65x1
      replace hb19 := e65x1.at hb19
      replace hb7 := e65x1.at hb7
      replace hb23 := e65x1.at hb23
      replace hb8 := e65x1.at hb8
      replace hb28 := e65x1.at hb28
      replace hb45x1 := e65x1.at hb45x1
      replace hb10x1 := e65x1.at hb10x1
      refine runl_ev (ev_pick rfl rfl rfl rfl) ?_
      refine runl_ev (ev_assign rfl) ?_
      refine runl_nil ?_
      refine run_ret_any Try.func7 (res1 Try.results7 rfl) ?_
      exact ⟨by simp [Ans.tgt, fstT], e⟩
theorem lawRound_any (pfx : ByteArray) (last : Bool) (w : World) (hn : pfx.size ≤ 1048576) :
    Ret Try.prog 6 [.string pfx, .bool last] w fun r w' => r = .bool true ∧ Ext w w' := by
  have e := ExtB.refl (fun _ => False) w
  have hx : (⟨#[120]⟩ : ByteArray).size = 1 := rfl
  refine ret_of_run Try.func6 rfl Try.ntmps6 rfl ?_
  refine run_seq ?_
  refine run_region rfl ?_
  refine runl_ev (ev_assign rfl) ?_
  refine runl_nil ?_
  refine run_seq ?_
  refine run_seq ?_
  refine run_region rfl ?_
  refine runl_ev (ev_move rfl) ?_
  refine runl_ev (ev_lenS str_9 rfl) ?_
  refine runl_ev (ev_gtr rfl rfl) ?_
  refine runl_nil ?_
  refine run_dcond rfl (fun h0 => ?_) (fun h0 => ?_)
  · refine run_seq ?_
    refine run_region rfl ?_
    refine runl_ev (ev_assign rfl) ?_
    refine runl_nil ?_
    refine run_ret_any Try.func6 (res1 Try.results6 rfl) ?_
    exact ⟨rfl, e⟩
  · refine run_skip ?_
    refine run_seq ?_
    refine run_region rfl ?_
    refine runl_ev (ev_move rfl) ?_
    refine runl_ev (ev_addS rfl rfl (by omega)) ?_
    refine runl_ev (ev_build (out := (rndT (pfx ++ (⟨#[120]⟩ : ByteArray))).cells) ps_27 zero_27 rfl rfl (rfl)) ?_
    refine runl_op (t_alloc zero_27 rfl) ?_
    rintro _ w5 ⟨b5, rfl, hb5, e5, n5, l5⟩
    have z5 := e5.size
    replace e := e.trans e5
    refine runl_do (t_storeW sz_27 rfl rfl rfl rfl hb5 (Tgt.one (rndT (pfx ++ (⟨#[120]⟩ : ByteArray))))) ?_
    rintro _ v3_4 ⟨hq3_4, e3_4, z3_4⟩
    replace e := e.new1 e3_4 (by omega)
    replace hb5 := hq3_4
    clear hq3_4
    refine runl_nil ?_
    refine run_seq ?_
    refine run_region rfl ?_
    refine runl_ev (ev_move rfl) ?_
    refine runl_ev (ev_move rfl) ?_
    refine runl_ev (ev_build (out := [.string ⟨#[98]⟩, .slice none 0 0, .int .i64 0, .string pfx, .bool last]) ps_40 zero_40 rfl rfl (rfl)) ?_
    refine runl_ev (ev_build (out := [.string ⟨#[99]⟩, .slice none 0 0, .int .i64 0, .string ⟨#[]⟩, .bool false]) ps_40 zero_40 rfl rfl (rfl)) ?_
    refine runl_op (t_buildSlice (out := [.string ⟨#[98]⟩, .slice none 0 0, .int .i64 0, .string pfx, .bool last, .string ⟨#[99]⟩, .slice none 0 0, .int .i64 0, .string ⟨#[]⟩, .bool false]) Try.underlying31 sz_40 zero_40 rfl rfl (by decide) (by decide) rfl (rfl)) ?_
    rintro _ w20 ⟨b20, rfl, hb20, e20, n20, l20⟩
    have z20 := e20.size
    replace e := e.trans e20
    replace hb5 := e20.at hb5
    refine runl_ev (ev_build (out := [.string ⟨#[97]⟩, .int .i64 0, .int .i64 0, .slice none 0 0, .slice (some ⟨b20, 0, none⟩) 2 2]) ps_33 zero_33 rfl rfl (rfl)) ?_
    refine runl_ev (ev_build (out := [.string ⟨#[97]⟩, .slice none 0 0, .int .i64 0, .string ⟨#[]⟩, .bool false]) ps_40 zero_40 rfl rfl (rfl)) ?_
    refine runl_ev (ev_build (out := [.string ⟨#[98]⟩, .slice none 0 0, .int .i64 0, .string ⟨#[]⟩, .bool false]) ps_40 zero_40 rfl rfl (rfl)) ?_
    refine runl_op (t_buildSlice (out := [.string ⟨#[97]⟩, .slice none 0 0, .int .i64 0, .string ⟨#[]⟩, .bool false, .string ⟨#[98]⟩, .slice none 0 0, .int .i64 0, .string ⟨#[]⟩, .bool false]) Try.underlying31 sz_40 zero_40 rfl rfl (by decide) (by decide) rfl (rfl)) ?_
    rintro _ w24 ⟨b24, rfl, hb24, e24, n24, l24⟩
    have z24 := e24.size
    replace e := e.trans e24
    replace hb5 := e24.at hb5
    replace hb20 := e24.at hb20
    refine runl_ev (ev_build (out := [.string ⟨#[98]⟩, .int .i64 0, .int .i64 0, .slice none 0 0, .slice (some ⟨b24, 0, none⟩) 2 2]) ps_33 zero_33 rfl rfl (rfl)) ?_
    refine runl_ev (ev_loadA agg_27 rfl rfl (eqw (cells_all hb5))) ?_
    refine runl_op (t_buildSlice (out := (rndT (pfx ++ (⟨#[120]⟩ : ByteArray))).cells) Try.underlying30 sz_27 zero_27 rfl rfl (by decide) (by decide) rfl (rfl)) ?_
    rintro _ w27 ⟨b27, rfl, hb27, e27, n27, l27⟩
    have z27 := e27.size
    replace e := e.trans e27
    replace hb5 := e27.at hb5
    replace hb20 := e27.at hb20
    replace hb24 := e27.at hb24
    refine runl_ev (ev_build (out := [.string ⟨#[99]⟩, .int .i64 0, .int .i64 0, .slice (some ⟨b27, 0, none⟩) 1 1, .slice none 0 0]) ps_33 zero_33 rfl rfl (rfl)) ?_
    refine runl_op (t_buildSlice (out := [.string ⟨#[97]⟩, .int .i64 0, .int .i64 0, .slice none 0 0, .slice (some ⟨b20, 0, none⟩) 2 2, .string ⟨#[98]⟩, .int .i64 0, .int .i64 0, .slice none 0 0, .slice (some ⟨b24, 0, none⟩) 2 2, .string ⟨#[99]⟩, .int .i64 0, .int .i64 0, .slice (some ⟨b27, 0, none⟩) 1 1, .slice none 0 0]) Try.underlying22 sz_33 zero_33 rfl rfl (by decide) (by decide) rfl (rfl)) ?_
    rintro _ w29 ⟨b29, rfl, hb29, e29, n29, l29⟩
    have z29 := e29.size
    replace e := e.trans e29
    replace hb5 := e29.at hb5
    replace hb20 := e29.at hb20
    replace hb24 := e29.at hb24
    replace hb27 := e29.at hb27
    have hk : SlAt 5 RTgs w29 (.slice (some ⟨b29, 0, none⟩) 3 3) (rndL pfx (pfx ++ (⟨#[120]⟩ : ByteArray)) last) := by
      have h1 : SlAt 5 RDel w29 (.slice (some ⟨b20, 0, none⟩) 2 2) [⟨⟨#[98]⟩, pfx, last⟩, ⟨⟨#[99]⟩, ⟨#[]⟩, false⟩] := sl_lit (α := Del) (l := [⟨⟨#[98]⟩, pfx, last⟩, ⟨⟨#[99]⟩, ⟨#[]⟩, false⟩]) hb20 (pc rdel (pc rdel pn))
      have h2 : SlAt 5 RDel w29 (.slice (some ⟨b24, 0, none⟩) 2 2) [⟨⟨#[97]⟩, ⟨#[]⟩, false⟩, ⟨⟨#[98]⟩, ⟨#[]⟩, false⟩] := sl_lit (α := Del) (l := [⟨⟨#[97]⟩, ⟨#[]⟩, false⟩, ⟨⟨#[98]⟩, ⟨#[]⟩, false⟩]) hb24 (pc rdel (pc rdel pn))
      have ha : SlAt 37 RTgt w29 (.slice (some ⟨b27, 0, none⟩) 1 1) [rndT (pfx ++ (⟨#[120]⟩ : ByteArray))] := sl_lit (l := [rndT (pfx ++ (⟨#[120]⟩ : ByteArray))]) hb27 (pc (rtgt rfl) pn)
      exact sl_lit (l := rndL pfx (pfx ++ (⟨#[120]⟩ : ByteArray)) last) hb29 (pc (rtgs sl_nil h1) (pc (rtgs sl_nil h2) (pc (rtgs ha sl_nil) pn)))
    have hf : findF (rndL pfx (pfx ++ (⟨#[120]⟩ : ByteArray)) last) (pfx ++ (⟨#[120]⟩ : ByteArray)) = if last = true then none else some (rndT (pfx ++ (⟨#[120]⟩ : ByteArray)), ⟨#[99]⟩) := rnd_find pfx _ last (hasPfx_app _ _)
    refine runl_ev (ev_assign rfl) ?_
    refine runl_nil ?_
    refine run_seq ?_
    refine run_region rfl ?_
    refine runl_ev (ev_move rfl) ?_
    refine runl_ev (ev_move rfl) ?_
    refine runl_ev (ev_addS rfl rfl (by omega)) ?_
    refine runl_op (t_call call_12 rfl (find_any (rndL pfx (pfx ++ (⟨#[120]⟩ : ByteArray)) last) _ _ _ _ hk (rnd_bnd _ _ _ (by omega)) (pfx ++ (⟨#[120]⟩ : ByteArray)) (by rw [ByteArray.size_append]; omega))) ?_
    rintro _ w34 ⟨rfl, -, e34⟩
    rw [hf]
    clear hk
    have z34 := e34.size
    replace e := e.trans e34
    replace hb5 := e34.at hb5
    replace hb20 := e34.at hb20
    replace hb24 := e34.at hb24
    replace hb27 := e34.at hb27
    replace hb29 := e34.at hb29
    cases last
    · rw [if_neg Bool.false_ne_true]
      refine runl_ev (ev_move rfl) ?_
      refine runl_ev (ev_extract rfl rfl) ?_
      refine runl_ev (ev_extract rfl rfl) ?_
      refine runl_ev (ev_extract rfl rfl) ?_
      refine runl_op (t_alloc zero_27 rfl) ?_
      rintro _ w7 ⟨b7, rfl, hb7, e7, n7, l7⟩
      have z7 := e7.size
      replace e := e.trans e7
      replace hb5 := e7.at hb5
      replace hb20 := e7.at hb20
      replace hb24 := e7.at hb24
      replace hb27 := e7.at hb27
      replace hb29 := e7.at hb29
      refine runl_do (t_storeW sz_27 rfl rfl rfl rfl hb7 (Tgt.one (rndT (pfx ++ (⟨#[120]⟩ : ByteArray))))) ?_
      rintro _ v5_9 ⟨hq5_9, e5_9, z5_9⟩
      replace e := e.new1 e5_9 (by omega)
      replace hb5 := e5_9.at1 hb5 (by omega)
      replace hb20 := e5_9.at1 hb20 (by omega)
      replace hb24 := e5_9.at1 hb24 (by omega)
      replace hb27 := e5_9.at1 hb27 (by omega)
      replace hb29 := e5_9.at1 hb29 (by omega)
      replace hb7 := hq5_9
      clear hq5_9
      refine runl_ev (ev_assign rfl) ?_
      refine runl_ev (ev_assign rfl) ?_
      refine runl_nil ?_
      refine run_seq ?_
      refine run_region rfl ?_
      refine runl_ev (ev_move rfl) ?_
      refine runl_ev (ev_move rfl) ?_
      refine runl_ev (ev_not rfl) ?_
      refine runl_ev (ev_eqlB Try.underlying4 rfl rfl) ?_
      refine runl_ev (ev_move rfl) ?_
      refine runl_ev_g rfl rfl (rfl) (ev_move rfl) ?_
      refine runl_ev_g rfl rfl (rfl) (ev_move rfl) ?_
      refine runl_ev_g rfl rfl (rfl) (ev_loadA agg_27 (Tgt.cells_length (t := rndT (pfx ++ (⟨#[120]⟩ : ByteArray))) rfl) rfl (eqw (cells_all hb7))) ?_
      refine runl_ev_g rfl rfl (rfl) (ev_loadA agg_27 (Tgt.cells_length (t := rndT (pfx ++ (⟨#[120]⟩ : ByteArray))) rfl) rfl (eqw (cells_all hb5))) ?_
      refine runl_ev_g rfl rfl (rfl) (ev_eqlA rfl rfl eg_27 (eqTgt (rndT (pfx ++ (⟨#[120]⟩ : ByteArray))) (rndT (pfx ++ (⟨#[120]⟩ : ByteArray))) rfl rfl)) ?_
      refine runl_ev_g rfl rfl (rfl) (ev_move rfl) ?_
      refine runl_ev_g rfl rfl (by simp) (ev_move rfl) ?_
      refine runl_ev_g rfl rfl (by simp) (ev_eqlS rfl rfl) ?_
      refine runl_ev_g rfl rfl (rfl) (ev_pick rfl rfl rfl (if_pos (by simp [Ans.who]))) ?_
      refine runl_ev_g rfl rfl (rfl) (ev_pick rfl rfl rfl (if_neg (by simp [Ans.who]))) ?_
      refine runl_ev (ev_pick rfl rfl rfl (if_pos (by simp [Ans.who]))) ?_
      refine runl_ev (ev_move rfl) ?_
      refine runl_op_g rfl rfl (rfl) (t_call call_13 rfl (known_any _)) ?_
      rintro _ w55 ⟨rfl, e55⟩
      have z55 := e55.size
      replace e := e.trans e55
      replace hb5 := e55.at hb5
      replace hb20 := e55.at hb20
      replace hb24 := e55.at hb24
      replace hb27 := e55.at hb27
      replace hb29 := e55.at hb29
      replace hb7 := e55.at hb7
      refine runl_ev (ev_pick rfl rfl rfl (if_pos (by simp [Ans.who]))) ?_
      refine runl_ev (ev_assign rfl) ?_
      refine runl_nil ?_
      refine run_ret_any Try.func6 (res1 Try.results6 rfl) ?_
      exact ⟨rfl, e⟩
    · rw [if_pos rfl]
      refine runl_ev (ev_move rfl) ?_
      refine runl_ev (ev_extract rfl rfl) ?_
      refine runl_ev (ev_extract rfl rfl) ?_
      refine runl_ev (ev_extract rfl rfl) ?_
      refine runl_op (t_alloc zero_27 rfl) ?_
      rintro _ w7x1 ⟨b7x1, rfl, hb7x1, e7x1, n7x1, l7x1⟩
      have z7x1 := e7x1.size
      replace e := e.trans e7x1
      replace hb5 := e7x1.at hb5
      replace hb20 := e7x1.at hb20
      replace hb24 := e7x1.at hb24
      replace hb27 := e7x1.at hb27
      replace hb29 := e7x1.at hb29
      refine runl_do (t_storeW sz_27 rfl rfl rfl rfl hb7x1 (Tgt.one Tgt.zero)) ?_
      rintro _ v5_9x1 ⟨hq5_9x1, e5_9x1, z5_9x1⟩
      replace e := e.new1 e5_9x1 (by omega)
      replace hb5 := e5_9x1.at1 hb5 (by omega)
      replace hb20 := e5_9x1.at1 hb20 (by omega)
      replace hb24 := e5_9x1.at1 hb24 (by omega)
      replace hb27 := e5_9x1.at1 hb27 (by omega)
      replace hb29 := e5_9x1.at1 hb29 (by omega)
      replace hb7x1 := hq5_9x1
      clear hq5_9x1
      refine runl_ev (ev_assign rfl) ?_
      refine runl_ev (ev_assign rfl) ?_
      refine runl_nil ?_
      refine run_seq ?_
      refine run_region rfl ?_
      refine runl_ev (ev_move rfl) ?_
      refine runl_ev (ev_move rfl) ?_
      refine runl_ev (ev_not rfl) ?_
      refine runl_ev (ev_eqlB Try.underlying4 rfl rfl) ?_
      refine runl_ev (ev_move rfl) ?_
      refine runl_ev_g rfl rfl (rfl) (ev_move rfl) ?_
      refine runl_ev_g rfl rfl (rfl) (ev_move rfl) ?_
      refine runl_no_g rfl rfl (rfl) ?_
      refine runl_no_g rfl rfl (rfl) ?_
      refine runl_no_g rfl rfl (rfl) ?_
      refine runl_no_g rfl rfl (rfl) ?_
      refine runl_no_u rfl rfl ?_
      refine runl_no_u rfl rfl ?_
      refine runl_no_g rfl rfl (rfl) ?_
      refine runl_ev_g rfl rfl (rfl) (ev_pick rfl rfl rfl (if_pos (by simp))) ?_
      refine runl_ev (ev_pick rfl rfl rfl (if_pos (by simp [Ans.who]))) ?_
      refine runl_ev (ev_move rfl) ?_
      refine runl_op_g rfl rfl (rfl) (t_call call_13 rfl (known_any _)) ?_
      rintro _ w55x1 ⟨rfl, e55x1⟩
      have z55x1 := e55x1.size
      replace e := e.trans e55x1
      replace hb5 := e55x1.at hb5
      replace hb20 := e55x1.at hb20
      replace hb24 := e55x1.at hb24
      replace hb27 := e55x1.at hb27
      replace hb29 := e55x1.at hb29
      replace hb7x1 := e55x1.at hb7x1
      refine runl_ev (ev_pick rfl rfl rfl (if_pos (by simp [Ans.who]))) ?_
      refine runl_ev (ev_assign rfl) ?_
      refine runl_nil ?_
      refine run_ret_any Try.func6 (res1 Try.results6 rfl) ?_
      exact ⟨rfl, e⟩
end Go.Proofs.Ytpomcdmlmaimeaa
