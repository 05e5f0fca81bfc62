/- The walks of find's exported functions. -/
import Derived.Test.YtpomcdmlmaimeaaFind2
namespace Go.Proofs.Ytpomcdmlmaimeaa
open Go Go.Fw
set_option maxRecDepth 100000
theorem eqTgt (t u : Tgt) (ht : t.wf) (hu : u.wf) : EqV Try.prog 10000 27 (.agg ⟨t.cells⟩) (.agg ⟨u.cells⟩) (decide (t = u)) := by
  rw [← Tgt.eq_iff]
  exact eqv_struct (d := 9999) Try.underlying27 st_27
    (eqf_cons rfl (part1 cell_9 (Tgt.c0 t)) (part1 cell_9 (Tgt.c0 u)) (eqv_string Try.underlying9)
    (eqf_cons rfl (part1 cell_3 (Tgt.c1 t)) (part1 cell_3 (Tgt.c1 u)) (eqv_int Try.underlying3)
    (eqf_cons rfl (partA agg_25 (Tgt.sumdrop ht)) (partA agg_25 (Tgt.sumdrop hu)) (eqv_hash Try.underlying25 Try.underlying5 sz_5 ht hu)
    (eqf_cons rfl (part1 cell_9 (Tgt.c34 ht)) (part1 cell_9 (Tgt.c34 hu)) (eqv_string Try.underlying9)
    (eqf_cons rfl (part1 cell_3 (Tgt.c35 ht)) (part1 cell_3 (Tgt.c35 hu)) (eqv_int Try.underlying3)
    (eqf_cons rfl (part1 cell_9 (Tgt.c36 ht)) (part1 cell_9 (Tgt.c36 hu)) (eqv_string Try.underlying9) eqf_nil))))))
theorem ask_all (l : List Tgs) (lv : Value) (w0 : World) (hl : SlAt 5 RTgs w0 lv l) (hb : Bnd l) (name : ByteArray) (hname : name.size ≤ 1099511627776) (f : Nat) : ∀ (deep : Int), 1 ≤ deep → deep + f = 4 →
    ∀ (i : Nat) (st : FSt) (w : World) (sb : Nat) (g : Int) (av : Value), AskPre 52 3 w0 w sb g lv name l av i st →
      Ret Try.prog 17 [.pointer (some ⟨sb, 0, none⟩), .int .i64 (i : Int), .int .i64 deep] w (AskP 52 3 w0 w sb g lv name l (askF l name f i st)) := by
  induction f with
  | zero =>
    intro deep h1 h2 i st w sb g av pre
    have := ask_step l lv w0 hl hb.1 hb.2.1 name hname hb.2.2 deep (fun _ st => (none, st)) h1 (by omega) (fun h => by omega) i st w sb g av pre
    rwa [decide_eq_false (p := deep < 4) (by omega)] at this
  | succ f ih =>
    intro deep h1 h2 i st w sb g av pre
    have := ask_step l lv w0 hl hb.1 hb.2.1 name hname hb.2.2 deep (askF l name f) h1 (by omega) (fun h => ih (deep + 1) (by omega) (by omega)) i st w sb g av pre
    rwa [decide_eq_true (p := deep < 4) (by omega)] at this

theorem find_any (l : List Tgs) (w : World) (a : Option Addr) (len cap : Nat) (hl : SlAt 5 RTgs w (.slice a len cap) l) (hb : Bnd l) (name : ByteArray) (hname : name.size ≤ 1099511627776) :
    Ret Try.prog 12 [.slice a len cap, .string name] w fun r w' => r = (findF l name).val ∧ (findF l name).tgt.wf ∧ Ext w w' := by
  have E := ExtB.refl (fun _ => False) w
  obtain ⟨rfl, -⟩ := hl.at
  refine ret_of_run Try.func12 rfl Try.ntmps12 rfl ?_
  refine run_seq ?_
  refine run_region rfl ?_
  refine runl_op (t_alloc zero_27 rfl) ?_
  rintro _ w4 ⟨b4, rfl, hb4, e4, n4, l4⟩
  have z4 := e4.size
  replace E := E.trans e4
  refine runl_ev (ev_assign rfl) ?_
  refine runl_ev (ev_assign rfl) ?_
  refine runl_nil ?_
  refine run_seq ?_
  refine run_seq ?_
  refine run_region rfl ?_
  refine runl_ev (ev_move rfl) ?_
  refine runl_ev (ev_lenL sl_22 rfl) ?_
  refine runl_ev (ev_eqlI rfl rfl) ?_
  refine runl_nil ?_
  refine run_dcond rfl (fun h0 => ?_) (fun h0 => ?_)
  · refine run_seq ?_
    refine run_region rfl ?_
    refine runl_ev (ev_build (out := Tgt.zero.cells) ps_27 zero_27 rfl rfl (rfl)) ?_
    refine runl_do (t_storeW sz_27 rfl rfl rfl rfl hb4 (Tgt.one Tgt.zero)) ?_
    rintro _ v2_1 ⟨hq2_1, e2_1, z2_1⟩
    replace E := E.new1 e2_1 (by omega)
    replace hb4 := hq2_1
    clear hq2_1
    refine runl_ev (ev_assign rfl) ?_
    refine runl_ev (ev_assign rfl) ?_
    refine runl_nil ?_
    refine run_ret_any Try.func12 (resCTT Try.results12 rfl (loadVar_agg agg_27 Tgt.cells_zero_len (cells_all hb4)) rfl rfl) ?_
    have h0 : l.length = 0 := by omega
    have hf : findF l name = none := if_pos h0
    rw [hf]
    exact ⟨rfl, Tgt.zero_wf, E⟩
  · refine run_skip ?_
    refine run_seq ?_
    refine run_region rfl ?_
    refine runl_ev (ev_move rfl) ?_
    refine runl_ev (ev_move rfl) ?_
    refine runl_ev (ev_build (out := [.slice a l.length cap, .string name, .slice none 0 0, .bool false]) ps_52 zero_52 rfl rfl (rfl)) ?_
    refine runl_op (t_boxA rfl) ?_
    rintro _ w15 ⟨b15, rfl, hb15, e15, n15, l15⟩
    have z15 := e15.size
    replace E := E.trans e15
    replace hb4 := e15.at hb4
    refine runl_ev (ev_assign rfl) ?_
    refine runl_nil ?_
    refine run_seq ?_
    refine run_region rfl ?_
    refine runl_ev (ev_move rfl) ?_
    refine runl_op (t_call call_17 rfl (ask_all l _ w hl hb name hname 3 1 (by omega) (by omega) 0 ⟨[], false⟩ _ b15 (-1) (.slice none 0 0) ⟨hb15, own_nil _ _ _ _, E, by omega, .inl rfl, by omega, by omega, good_nil _ _, by simp, by omega⟩)) ?_
    rintro _ w17 ⟨rfl, av2, g2, p17⟩
    have z17 := p17.extB.size
    replace hb4 := p17.extB.at hb4 (by rintro (h | h) <;> omega)
    clear hb15
    replace E := p17.ext
    have hf : findF l name = (askF l name 3 0 ⟨[], false⟩).1 := if_neg (by omega)
    have hwf := p17.wf
    rw [← hf] at hwf ⊢
    refine runl_ev (ev_extract rfl rfl) ?_
    refine runl_ev (ev_extract rfl rfl) ?_
    refine runl_ev (ev_extract rfl rfl) ?_
    refine runl_do (t_storeW sz_27 rfl rfl (Tgt.cells_length hwf) rfl hb4 (Tgt.one _)) ?_
    rintro _ v4_5 ⟨hq4_5, e4_5, z4_5⟩
    replace E := E.new1 e4_5 (by omega)
    replace hb4 := hq4_5
    clear hq4_5
    refine runl_ev (ev_assign rfl) ?_
    refine runl_ev (ev_assign rfl) ?_
    refine runl_nil ?_
    refine run_ret_any Try.func12 (resCTT Try.results12 rfl (loadVar_agg agg_27 (Tgt.cells_length hwf) (cells_all hb4)) rfl rfl) ?_
    exact ⟨rfl, hwf, E⟩
theorem heavy_any (l : List Tgs) (w : World) (a : Option Addr) (len cap : Nat) (hl : SlAt 5 RTgs w (.slice a len cap) l) (hb : Bnd l) :
    Ret Try.prog 11 [.slice a len cap] w fun r w' => ∃ t, r = .bool t ∧ Ext w w' := by
  obtain ⟨rfl, hat⟩ := hl.at
  have hbl := hb.1
  have e := ExtB.refl (fun _ => False) w
  refine ret_of_run Try.func11 rfl Try.ntmps11 rfl ?_
  refine run_seq ?_
  refine run_region rfl ?_
  refine runl_ev (ev_assign rfl) ?_
  refine runl_nil ?_
  refine run_seq ?_
  refine run_region rfl ?_
  refine runl_ev (ev_assign rfl) ?_
  refine runl_nil ?_
  refine run_seq ?_
  refine run_seq ?_
  refine run_region rfl ?_
  refine runl_ev (ev_assign rfl) ?_
  refine runl_nil ?_
  refine run_block ?_
  refine run_loop (ι := Nat × Int) (fun x => [(0, .slice a l.length cap), (3, .int .i64 x.2), (4, .int .i64 (x.1 : Int))]) (fun x w' => x.1 ≤ l.length ∧ Ext w w') (fun x => l.length - x.1) ((0, 0)) ⟨rfl, rfl, rfl, trivial⟩ (⟨Nat.zero_le _, e⟩) ?_
  clear e
  intro ⟨k, n⟩ w1 ⟨hk, e⟩ IH
  simp only at hk
  refine run_seq ?_
  refine run_seq ?_
  refine run_region rfl ?_
  refine runl_ev (ev_move rfl) ?_
  refine runl_ev (ev_move rfl) ?_
  refine runl_ev (ev_lenL sl_22 rfl) ?_
  refine runl_ev (ev_lss rfl rfl) ?_
  refine runl_nil ?_
  refine run_dcond rfl (fun h0 => ?_) (fun h0 => ?_)
  · have hk1 : k < l.length := by omega
    have ht : l[k]? = some l[k] := List.getElem?_eq_getElem hk1
    obtain ⟨b, o, cs, rfl, hr, hc⟩ := hat k hk1
    obtain ⟨lv, dv, rfl, hL, hD⟩ := hr
    obtain ⟨a1, c1, rfl, hL1⟩ := hL
    obtain ⟨a2, c2, rfl, hD1⟩ := hD
    have hbt := hb.2.1 _ (List.mem_of_getElem? ht)
    refine run_skip ?_
    refine run_seq ?_
    refine run_block ?_
    refine run_seq ?_
    refine run_region rfl ?_
    refine runl_ev (ev_move rfl) ?_
    refine runl_ev (ev_addW rfl rfl) ?_
    refine runl_ev (ev_move rfl) ?_
    refine runl_ev (ev_move rfl) ?_
    refine runl_ev (ev_indexAddr el_22 rfl rfl (by omega)) ?_
    refine runl_ev (ev_fieldAddr fld_33_0 rfl) ?_
    refine runl_ev (ev_load1 cell_9 rfl (eqw ((hc.ext e).pick 0 rfl rfl))) ?_
    refine runl_ev (ev_lenS str_9 rfl) ?_
    refine runl_ev (ev_addW rfl rfl) ?_
    refine runl_ev (ev_assign rfl) ?_
    refine runl_nil ?_
    refine run_seq ?_
    refine run_seq ?_
    refine run_region rfl ?_
    refine runl_ev (ev_assign rfl) ?_
    refine runl_nil ?_
    refine run_block ?_
    refine run_loop (ι := Nat × Int) (fun x => [(0, .slice (some ⟨b, o, none⟩) l.length cap), (3, .int .i64 x.2), (4, .int .i64 (k : Int)), (5, .int .i64 (x.1 : Int))]) (fun x w' => x.1 ≤ l[k].l.length ∧ Ext w w') (fun x => l[k].l.length - x.1) ((0, _)) ⟨rfl, rfl, rfl, rfl, trivial⟩ (⟨Nat.zero_le _, e⟩) ?_
    clear e
    intro ⟨i, n1⟩ w2 ⟨hi, e⟩ IH1
    simp only at hi
    refine run_seq ?_
    refine run_seq ?_
    refine run_region rfl ?_
    refine runl_ev (ev_move rfl) ?_
    refine runl_ev (ev_move rfl) ?_
    refine runl_ev (ev_move rfl) ?_
    refine runl_ev (ev_indexAddr el_22 rfl rfl (by omega)) ?_
    refine runl_ev (ev_fieldAddr fld_33_3 rfl) ?_
    refine runl_ev (ev_load1 cell_30 rfl (eqw ((hc.ext e).pick 3 rfl rfl))) ?_
    refine runl_ev (ev_lenL sl_30 rfl) ?_
    refine runl_ev (ev_lss rfl rfl) ?_
    refine runl_nil ?_
    refine run_dcond rfl (fun h1 => ?_) (fun h1 => ?_)
    · have hi1 : i < l[k].l.length := by omega
      obtain ⟨b1, o1, cs1, rfl, ⟨hwf, rfl⟩, hc1⟩ := hL1 i _ (List.getElem?_eq_getElem hi1)
      refine run_skip ?_
      refine run_seq ?_
      refine run_block ?_
      refine run_draw mo (fun w' => Ext w2 w') [] [(true, 0), (true, 1), (true, 2), (true, 3), (true, 4), (true, 5), (true, 6), (true, 7), (true, 8), (true, 9), (true, 10), (true, 11), (true, 12), (true, 13), (true, 14), (true, 15), (true, 16), (true, 17), (true, 18), (true, 19), (true, 20), (true, 21), (true, 22), (true, 23), (true, 24), (true, 25), (true, 26), (true, 27), (true, 28), (true, 29), (true, 30), (true, 31), (true, 32), (true, 33), (true, 34), (true, 35)] (by kernel_rfl) ?_
      intro wr9 er9
      have zr9 := er9.size
      have hsr9 := er9
      refine rund_ev hsr9 rfl (ev_move rfl) ?_
      refine rund_ev hsr9 rfl (ev_addW rfl rfl) ?_
      refine rund_ev hsr9 rfl (ev_move rfl) ?_
      refine rund_ev hsr9 rfl (ev_move rfl) ?_
      refine rund_ev hsr9 rfl (ev_indexAddr el_22 rfl rfl (by omega)) ?_
      refine rund_ev hsr9 rfl (ev_fieldAddr fld_33_3 rfl) ?_
      refine rund_ev hsr9 rfl (ev_load1 cell_30 rfl (fun wz hz => (hc.ext (e.trans hz)).pick 3 rfl rfl)) ?_
      refine rund_ev hsr9 rfl (ev_move rfl) ?_
      refine rund_ev hsr9 rfl (ev_indexAddr el_30 rfl rfl (by omega)) ?_
      refine rund_ev hsr9 rfl (ev_fieldAddr fld_27_0 rfl) ?_
      refine rund_ev hsr9 rfl (ev_load1 cell_9 rfl (fun wz hz => (hc1.ext (e.trans hz)).pick 0 rfl rfl)) ?_
      refine rund_ev hsr9 rfl (ev_lenS str_9 rfl) ?_
      refine rund_ev hsr9 rfl (ev_addW rfl rfl) ?_
      refine rund_ev hsr9 rfl (ev_move rfl) ?_
      refine rund_ev hsr9 rfl (ev_move rfl) ?_
      refine rund_ev hsr9 rfl (ev_indexAddr el_22 rfl rfl (by omega)) ?_
      refine rund_ev hsr9 rfl (ev_fieldAddr fld_33_3 rfl) ?_
      refine rund_ev hsr9 rfl (ev_load1 cell_30 rfl (fun wz hz => (hc.ext (e.trans hz)).pick 3 rfl rfl)) ?_
      refine rund_ev hsr9 rfl (ev_move rfl) ?_
      refine rund_ev hsr9 rfl (ev_indexAddr el_30 rfl rfl (by omega)) ?_
      refine rund_ev hsr9 rfl (ev_fieldAddr fld_27_3 rfl) ?_
      refine rund_ev hsr9 rfl (ev_load1 cell_9 rfl (fun wz hz => (hc1.ext (e.trans hz)).pick 34 rfl (Tgt.c34 hwf))) ?_
      refine rund_ev hsr9 rfl (ev_lenS str_9 rfl) ?_
      refine rund_ev hsr9 rfl (ev_addW rfl rfl) ?_
      refine rund_ev hsr9 rfl (ev_move rfl) ?_
      refine rund_ev hsr9 rfl (ev_move rfl) ?_
      refine rund_ev hsr9 rfl (ev_indexAddr el_22 rfl rfl (by omega)) ?_
      refine rund_ev hsr9 rfl (ev_fieldAddr fld_33_3 rfl) ?_
      refine rund_ev hsr9 rfl (ev_load1 cell_30 rfl (fun wz hz => (hc.ext (e.trans hz)).pick 3 rfl rfl)) ?_
      refine rund_ev hsr9 rfl (ev_move rfl) ?_
      refine rund_ev hsr9 rfl (ev_indexAddr el_30 rfl rfl (by omega)) ?_
      refine rund_ev hsr9 rfl (ev_fieldAddr fld_27_5 rfl) ?_
      refine rund_ev hsr9 rfl (ev_load1 cell_9 rfl (fun wz hz => (hc1.ext (e.trans hz)).pick 36 rfl (Tgt.c36 hwf))) ?_
      refine rund_ev hsr9 rfl (ev_lenS str_9 rfl) ?_
      refine rund_ev hsr9 rfl (ev_addW rfl rfl) ?_
      refine rund_ev hsr9 rfl (ev_assign rfl) ?_
      refine rund_nil ?_
      replace e := e.trans er9
      refine run_inBlock ?_
      refine run_region rfl ?_
      refine runl_ev (ev_move rfl) ?_
      refine runl_ev (ev_add rfl rfl (by omega) (by omega)) ?_
      refine runl_ev (ev_assign rfl) ?_
      refine runl_nil ?_
      exact IH1 (i + 1, _) _ _ (by simp only; omega) ⟨rfl, rfl, rfl, rfl, trivial⟩ ⟨(by show i + 1 ≤ _; omega), e⟩
    · refine run_exit rfl ?_
      refine run_seq ?_
      refine run_seq ?_
      refine run_region rfl ?_
      refine runl_ev (ev_assign rfl) ?_
      refine runl_nil ?_
      refine run_block ?_
      refine run_loop (ι := Nat × Int) (fun x => [(0, .slice (some ⟨b, o, none⟩) l.length cap), (3, .int .i64 x.2), (4, .int .i64 (k : Int)), (6, .int .i64 (x.1 : Int))]) (fun x w' => x.1 ≤ l[k].d.length ∧ Ext w w') (fun x => l[k].d.length - x.1) ((0, _)) ⟨rfl, rfl, rfl, rfl, trivial⟩ (⟨Nat.zero_le _, e⟩) ?_
      clear e
      intro ⟨j, n2⟩ w3 ⟨hj, e⟩ IH2
      simp only at hj
      refine run_seq ?_
      refine run_seq ?_
      refine run_region rfl ?_
      refine runl_ev (ev_move rfl) ?_
      refine runl_ev (ev_move rfl) ?_
      refine runl_ev (ev_move rfl) ?_
      refine runl_ev (ev_indexAddr el_22 rfl rfl (by omega)) ?_
      refine runl_ev (ev_fieldAddr fld_33_4 rfl) ?_
      refine runl_ev (ev_load1 cell_31 rfl (eqw ((hc.ext e).pick 4 rfl rfl))) ?_
      refine runl_ev (ev_lenL sl_31 rfl) ?_
      refine runl_ev (ev_lss rfl rfl) ?_
      refine runl_nil ?_
      refine run_dcond rfl (fun h2 => ?_) (fun h2 => ?_)
      · have hj1 : j < l[k].d.length := by omega
        obtain ⟨b2, o2, cs2, rfl, hrD, hc2⟩ := hD1 j _ (List.getElem?_eq_getElem hj1)
        obtain ⟨ka, kn, kc, need, rfl⟩ := hrD
        refine run_skip ?_
        refine run_seq ?_
        refine run_block ?_
        refine run_draw mo (fun w' => Ext w3 w') [] [(true, 0), (true, 1), (true, 2), (true, 3), (true, 4), (true, 5), (true, 6), (true, 7), (true, 8), (true, 9), (true, 10), (true, 11), (true, 12), (true, 13), (true, 14), (true, 15), (true, 16), (true, 17), (true, 18), (true, 19), (true, 20), (true, 21), (true, 22), (true, 23), (true, 24), (true, 25), (true, 26), (true, 27), (true, 28), (true, 29), (true, 30), (true, 31), (true, 32), (true, 33), (true, 34), (true, 35), (true, 36)] (by kernel_rfl) ?_
        intro wr13 er13
        have zr13 := er13.size
        have hsr13 := er13
        refine rund_ev hsr13 rfl (ev_move rfl) ?_
        refine rund_ev hsr13 rfl (ev_addW rfl rfl) ?_
        refine rund_ev hsr13 rfl (ev_move rfl) ?_
        refine rund_ev hsr13 rfl (ev_move rfl) ?_
        refine rund_ev hsr13 rfl (ev_indexAddr el_22 rfl rfl (by omega)) ?_
        refine rund_ev hsr13 rfl (ev_fieldAddr fld_33_4 rfl) ?_
        refine rund_ev hsr13 rfl (ev_load1 cell_31 rfl (fun wz hz => (hc.ext (e.trans hz)).pick 4 rfl rfl)) ?_
        refine rund_ev hsr13 rfl (ev_move rfl) ?_
        refine rund_ev hsr13 rfl (ev_indexAddr el_31 rfl rfl (by omega)) ?_
        refine rund_ev hsr13 rfl (ev_fieldAddr fld_40_0 rfl) ?_
        refine rund_ev hsr13 rfl (ev_load1 cell_9 rfl (fun wz hz => (hc2.ext (e.trans hz)).pick 0 rfl rfl)) ?_
        refine rund_ev hsr13 rfl (ev_lenS str_9 rfl) ?_
        refine rund_ev hsr13 rfl (ev_addW rfl rfl) ?_
        refine rund_ev hsr13 rfl (ev_move rfl) ?_
        refine rund_ev hsr13 rfl (ev_move rfl) ?_
        refine rund_ev hsr13 rfl (ev_indexAddr el_22 rfl rfl (by omega)) ?_
        refine rund_ev hsr13 rfl (ev_fieldAddr fld_33_4 rfl) ?_
        refine rund_ev hsr13 rfl (ev_load1 cell_31 rfl (fun wz hz => (hc.ext (e.trans hz)).pick 4 rfl rfl)) ?_
        refine rund_ev hsr13 rfl (ev_move rfl) ?_
        refine rund_ev hsr13 rfl (ev_indexAddr el_31 rfl rfl (by omega)) ?_
        refine rund_ev hsr13 rfl (ev_fieldAddr fld_40_2 rfl) ?_
        refine rund_ev hsr13 rfl (ev_load1 cell_9 rfl (fun wz hz => (hc2.ext (e.trans hz)).pick 3 rfl rfl)) ?_
        refine rund_ev hsr13 rfl (ev_lenS str_9 rfl) ?_
        refine rund_ev hsr13 rfl (ev_addW rfl rfl) ?_
        refine rund_ev hsr13 rfl (ev_move rfl) ?_
        refine rund_ev hsr13 rfl (ev_move rfl) ?_
        refine rund_ev hsr13 rfl (ev_indexAddr el_22 rfl rfl (by omega)) ?_
        refine rund_ev hsr13 rfl (ev_fieldAddr fld_33_4 rfl) ?_
        refine rund_ev hsr13 rfl (ev_load1 cell_31 rfl (fun wz hz => (hc.ext (e.trans hz)).pick 4 rfl rfl)) ?_
        refine rund_ev hsr13 rfl (ev_move rfl) ?_
        refine rund_ev hsr13 rfl (ev_indexAddr el_31 rfl rfl (by omega)) ?_
        refine rund_ev hsr13 rfl (ev_fieldAddr fld_40_1 rfl) ?_
        refine rund_ev hsr13 rfl (ev_fieldAddr fld_38_0 rfl) ?_
        refine rund_ev hsr13 rfl (ev_load1 cell_36 rfl (fun wz hz => (hc2.ext (e.trans hz)).pick 1 rfl rfl)) ?_
        refine rund_ev hsr13 rfl (ev_lenL sl_36 rfl) ?_
        refine rund_ev hsr13 rfl (ev_addW rfl rfl) ?_
        refine rund_ev hsr13 rfl (ev_assign rfl) ?_
        refine rund_nil ?_
        replace e := e.trans er13
        refine run_inBlock ?_
        refine run_region rfl ?_
        refine runl_ev (ev_move rfl) ?_
        refine runl_ev (ev_add rfl rfl (by omega) (by omega)) ?_
        refine runl_ev (ev_assign rfl) ?_
        refine runl_nil ?_
        exact IH2 (j + 1, _) _ _ (by simp only; omega) ⟨rfl, rfl, rfl, rfl, trivial⟩ ⟨(by show j + 1 ≤ _; omega), e⟩
      · refine run_exit rfl ?_
        refine run_seq ?_
        refine run_region rfl ?_
        refine runl_ev (ev_move rfl) ?_
        refine runl_ev (ev_gtr rfl rfl) ?_
        refine runl_nil ?_
        refine run_dcond rfl (fun h3 => ?_) (fun h3 => ?_)
        · refine run_seq ?_
          refine run_region rfl ?_
          refine runl_ev (ev_assign rfl) ?_
          refine runl_nil ?_
          refine run_ret_any Try.func11 (res1 Try.results11 rfl) ?_
          exact ⟨_, rfl, e⟩
        · refine run_skip ?_
          refine run_inBlock ?_
          refine run_region rfl ?_
          refine runl_ev (ev_move rfl) ?_
          refine runl_ev (ev_add rfl rfl (by omega) (by omega)) ?_
          refine runl_ev (ev_assign rfl) ?_
          refine runl_nil ?_
          exact IH (k + 1, _) _ _ (by simp only; omega) ⟨rfl, rfl, rfl, trivial⟩ ⟨(by show k + 1 ≤ _; omega), e⟩
  · refine run_exit rfl ?_
    refine run_seq ?_
    refine run_region rfl ?_
    refine runl_ev (ev_assign rfl) ?_
    refine runl_nil ?_
    refine run_ret_any Try.func11 (res1 Try.results11 rfl) ?_
    exact ⟨_, rfl, e⟩
theorem known_any (w : World) : Ret Try.prog 13 [] w fun r w' => r = .bool true ∧ Ext w w' := by
  have e := ExtB.refl (fun _ => False) w
  refine ret_of_run Try.func13 rfl Try.ntmps13 rfl ?_
  refine run_seq ?_
  refine run_region rfl ?_
  refine runl_ev (ev_assign rfl) ?_
  refine runl_nil ?_
  refine run_seq ?_
  refine run_region rfl ?_
  refine runl_ev (ev_build (out := knT.cells) ps_27 zero_27 rfl rfl (rfl)) ?_
  refine runl_op (t_alloc zero_27 rfl) ?_
  rintro _ w1 ⟨b1, rfl, hb1, e1, n1, l1⟩
  have z1 := e1.size
  replace e := e.trans e1
  refine runl_do (t_storeW sz_27 rfl rfl knT_len rfl hb1 (Tgt.one knT)) ?_
  rintro _ v1_2 ⟨hq1_2, e1_2, z1_2⟩
  replace e := e.new1 e1_2 (by omega)
  replace hb1 := hq1_2
  clear hq1_2
  refine runl_nil ?_
  refine run_seq ?_
  refine run_region rfl ?_
  refine runl_ev (ev_build (out := [.string ⟨#[97]⟩, .slice none 0 0, .int .i64 0, .string ⟨#[]⟩, .bool true]) ps_40 zero_40 rfl rfl (rfl)) ?_
  refine runl_ev (ev_build (out := [.string ⟨#[98]⟩, .slice none 0 0, .int .i64 0, .string ⟨#[]⟩, .bool false]) ps_40 zero_40 rfl rfl (rfl)) ?_
  refine runl_op (t_buildSlice (out := [.string ⟨#[97]⟩, .slice none 0 0, .int .i64 0, .string ⟨#[]⟩, .bool true, .string ⟨#[98]⟩, .slice none 0 0, .int .i64 0, .string ⟨#[]⟩, .bool false]) Try.underlying31 sz_40 zero_40 rfl rfl (by decide) (by decide) rfl (rfl)) ?_
  rintro _ w12 ⟨b12, rfl, hb12, e12, n12, l12⟩
  have z12 := e12.size
  replace e := e.trans e12
  replace hb1 := e12.at hb1
  refine runl_ev (ev_build (out := [.string ⟨#[116, 111, 112]⟩, .int .i64 0, .int .i64 0, .slice none 0 0, .slice (some ⟨b12, 0, none⟩) 2 2]) ps_33 zero_33 rfl rfl (rfl)) ?_
  refine runl_ev (ev_build (out := [.string ⟨#[97]⟩, .int .i64 0, .int .i64 0, .slice none 0 0, .slice none 0 0]) ps_33 zero_33 rfl rfl (rfl)) ?_
  refine runl_ev (ev_loadA agg_27 knT_len rfl (eqw (cells_all hb1))) ?_
  refine runl_op (t_buildSlice (out := knT.cells) Try.underlying30 sz_27 zero_27 rfl rfl (by decide) (by decide) rfl (rfl)) ?_
  rintro _ w16 ⟨b16, rfl, hb16, e16, n16, l16⟩
  have z16 := e16.size
  replace e := e.trans e16
  replace hb1 := e16.at hb1
  replace hb12 := e16.at hb12
  refine runl_ev (ev_build (out := [.string ⟨#[98]⟩, .int .i64 0, .int .i64 0, .slice (some ⟨b16, 0, none⟩) 1 1, .slice none 0 0]) ps_33 zero_33 rfl rfl (rfl)) ?_
  refine runl_op (t_buildSlice (out := [.string ⟨#[116, 111, 112]⟩, .int .i64 0, .int .i64 0, .slice none 0 0, .slice (some ⟨b12, 0, none⟩) 2 2, .string ⟨#[97]⟩, .int .i64 0, .int .i64 0, .slice none 0 0, .slice none 0 0, .string ⟨#[98]⟩, .int .i64 0, .int .i64 0, .slice (some ⟨b16, 0, none⟩) 1 1, .slice none 0 0]) Try.underlying22 sz_33 zero_33 rfl rfl (by decide) (by decide) rfl (rfl)) ?_
  rintro _ w18 ⟨b18, rfl, hb18, e18, n18, l18⟩
  have z18 := e18.size
  replace e := e.trans e18
  replace hb1 := e18.at hb1
  replace hb12 := e18.at hb12
  replace hb16 := e18.at hb16
  refine runl_ev (ev_assign rfl) ?_
  refine runl_nil ?_
  refine run_seq ?_
  have hk1 : SlAt 5 RTgs w18 (.slice (some ⟨b18, 0, none⟩) 3 3) (knL true) := by
    have hd : SlAt 5 RDel w18 (.slice (some ⟨b12, 0, none⟩) 2 2) [⟨⟨#[97]⟩, ⟨#[]⟩, true⟩, ⟨⟨#[98]⟩, ⟨#[]⟩, false⟩] := sl_lit (α := Del) (l := [⟨⟨#[97]⟩, ⟨#[]⟩, true⟩, ⟨⟨#[98]⟩, ⟨#[]⟩, false⟩]) hb12 (pc rdel (pc rdel pn))
    have ht : SlAt 37 RTgt w18 (.slice (some ⟨b16, 0, none⟩) 1 1) [knT] := sl_lit (l := [knT]) hb16 (pc (rtgt knT_wf) pn)
    exact sl_lit (l := knL true) hb18 (pc (rtgs sl_nil hd) (pc (rtgs sl_nil sl_nil) (pc (rtgs ht sl_nil) pn)))
  refine run_region rfl ?_
  refine runl_ev (ev_move rfl) ?_
  refine runl_op (t_call call_12 rfl (find_any (knL true) _ _ _ _ hk1 (knL_bnd true) ⟨#[120]⟩ (by decide))) ?_
  rintro _ w21 ⟨rfl, -, e21⟩
  rw [kn_true]
  clear hk1
  have z21 := e21.size
  replace e := e.trans e21
  replace hb1 := e21.at hb1
  replace hb12 := e21.at hb12
  replace hb16 := e21.at hb16
  replace hb18 := e21.at hb18
  refine runl_ev (ev_move rfl) ?_
  refine runl_ev (ev_extract rfl rfl) ?_
  refine runl_ev (ev_extract rfl rfl) ?_
  refine runl_ev (ev_extract rfl rfl) ?_
  refine runl_op (t_alloc zero_27 rfl) ?_
  rintro _ w3 ⟨b3, rfl, hb3, e3, n3, l3⟩
  have z3 := e3.size
  replace e := e.trans e3
  replace hb1 := e3.at hb1
  replace hb12 := e3.at hb12
  replace hb16 := e3.at hb16
  replace hb18 := e3.at hb18
  refine runl_do (t_storeW sz_27 rfl rfl rfl rfl hb3 (Tgt.one Tgt.zero)) ?_
  rintro _ v3_7 ⟨hq3_7, e3_7, z3_7⟩
  replace e := e.new1 e3_7 (by omega)
  replace hb1 := e3_7.at1 hb1 (by omega)
  replace hb12 := e3_7.at1 hb12 (by omega)
  replace hb16 := e3_7.at1 hb16 (by omega)
  replace hb18 := e3_7.at1 hb18 (by omega)
  replace hb3 := hq3_7
  clear hq3_7
  refine runl_ev (ev_assign rfl) ?_
  refine runl_ev (ev_assign rfl) ?_
  refine runl_nil ?_
  refine run_seq ?_
  refine run_region rfl ?_
  refine runl_ev (ev_move rfl) ?_
  refine runl_ev (ev_indexAddr (k := 0) el_22 rfl rfl (by omega)) ?_
  refine runl_ev (ev_fieldAddr fld_33_4 rfl) ?_
  refine runl_ev (ev_load1 cell_31 rfl (eqw ((cells_all hb18).pick 4 rfl rfl))) ?_
  refine runl_ev (ev_indexAddr (k := 0) el_31 rfl rfl (by omega)) ?_
  refine runl_ev (ev_fieldAddr fld_40_3 rfl) ?_
  refine runl_do (t_store1 sz_4 rfl rfl rfl rfl hb12 (by simp)) ?_
  rintro _ v4_6 ⟨hq4_6, e4_6, z4_6⟩
  replace e := e.new1 e4_6 (by omega)
  replace hb1 := e4_6.at1 hb1 (by omega)
  replace hb16 := e4_6.at1 hb16 (by omega)
  replace hb18 := e4_6.at1 hb18 (by omega)
  replace hb3 := e4_6.at1 hb3 (by omega)
  replace hb12 := hq4_6
  clear hq4_6
  refine runl_nil ?_
  refine run_seq ?_
  have hk2 : SlAt 5 RTgs v4_6 (.slice (some ⟨b18, 0, none⟩) 3 3) (knL false) := by
    have hd : SlAt 5 RDel v4_6 (.slice (some ⟨b12, 0, none⟩) 2 2) [⟨⟨#[97]⟩, ⟨#[]⟩, false⟩, ⟨⟨#[98]⟩, ⟨#[]⟩, false⟩] := sl_lit (α := Del) (l := [⟨⟨#[97]⟩, ⟨#[]⟩, false⟩, ⟨⟨#[98]⟩, ⟨#[]⟩, false⟩]) hb12 (pc rdel (pc rdel pn))
    have ht : SlAt 37 RTgt v4_6 (.slice (some ⟨b16, 0, none⟩) 1 1) [knT] := sl_lit (l := [knT]) hb16 (pc (rtgt knT_wf) pn)
    exact sl_lit (l := knL false) hb18 (pc (rtgs sl_nil hd) (pc (rtgs sl_nil sl_nil) (pc (rtgs ht sl_nil) pn)))
  refine run_region rfl ?_
  refine runl_ev (ev_move rfl) ?_
  refine runl_op (t_call call_12 rfl (find_any (knL false) _ _ _ _ hk2 (knL_bnd false) ⟨#[120]⟩ (by decide))) ?_
  rintro _ w33 ⟨rfl, -, e33⟩
  rw [kn_false]
  clear hk2
  have z33 := e33.size
  replace e := e.trans e33
  replace hb1 := e33.at hb1
  replace hb12 := e33.at hb12
  replace hb16 := e33.at hb16
  replace hb18 := e33.at hb18
  replace hb3 := e33.at hb3
  refine runl_ev (ev_move rfl) ?_
  refine runl_ev (ev_extract rfl rfl) ?_
  refine runl_ev (ev_extract rfl rfl) ?_
  refine runl_ev (ev_extract rfl rfl) ?_
  refine runl_op (t_alloc zero_27 rfl) ?_
  rintro _ w6 ⟨b6, rfl, hb6, e6, n6, l6⟩
  have z6 := e6.size
  replace e := e.trans e6
  replace hb1 := e6.at hb1
  replace hb12 := e6.at hb12
  replace hb16 := e6.at hb16
  replace hb18 := e6.at hb18
  replace hb3 := e6.at hb3
  refine runl_do (t_storeW sz_27 rfl rfl rfl rfl hb6 (Tgt.one knT)) ?_
  rintro _ v5_7 ⟨hq5_7, e5_7, z5_7⟩
  replace e := e.new1 e5_7 (by omega)
  replace hb1 := e5_7.at1 hb1 (by omega)
  replace hb12 := e5_7.at1 hb12 (by omega)
  replace hb16 := e5_7.at1 hb16 (by omega)
  replace hb18 := e5_7.at1 hb18 (by omega)
  replace hb3 := e5_7.at1 hb3 (by omega)
  replace hb6 := hq5_7
  clear hq5_7
  refine runl_ev (ev_assign rfl) ?_
  refine runl_ev (ev_assign rfl) ?_
  refine runl_nil ?_
  refine run_seq ?_
  refine run_region rfl ?_
  refine runl_ev (ev_move rfl) ?_
  refine runl_ev (ev_not rfl) ?_
  refine runl_ev (ev_move rfl) ?_
  refine runl_ev_g rfl rfl (rfl) (ev_move rfl) ?_
  refine runl_ev (ev_pick rfl rfl rfl rfl) ?_
  refine runl_ev (ev_move rfl) ?_
  refine runl_ev_g rfl rfl (rfl) (ev_loadA agg_27 knT_len rfl (eqw (cells_all hb6))) ?_
  refine runl_ev_g rfl rfl (rfl) (ev_loadA agg_27 knT_len rfl (eqw (cells_all hb1))) ?_
  refine runl_ev_g rfl rfl (rfl) (ev_eqlA rfl rfl eg_27 (eqTgt knT knT knT_wf knT_wf)) ?_
  refine runl_ev (ev_pick rfl rfl rfl rfl) ?_
  refine runl_ev (ev_move rfl) ?_
  refine runl_ev_g rfl rfl (rfl) (ev_move rfl) ?_
  refine runl_ev_g rfl rfl (rfl) (ev_eqlS rfl rfl) ?_
  refine runl_ev (ev_pick rfl rfl rfl rfl) ?_
  refine runl_ev (ev_assign rfl) ?_
  refine runl_nil ?_
  refine run_ret_any Try.func13 (res1 Try.results13 rfl) ?_
  exact ⟨rfl, e⟩
