/- The walk of find's search. -/
import Derived.Test.YtpomcdmlmaimeaaFind1
import Derived.Test.YtpomcdmlmaimeaaFindM
namespace Go.Proofs.Ytpomcdmlmaimeaa
open Go Go.Fw
set_option maxRecDepth 100000

theorem ask_step (l : List Tgs) (lv : Value) (w0 : World) (hl : SlAt 5 RTgs w0 lv l) (hll : l.length ≤ 1048576) (hdl : ∀ t ∈ l, t.l.length ≤ 1048576 ∧ t.d.length ≤ 1048576) (name : ByteArray) (hname : name.size ≤ 1099511627776)
    (hpf : ∀ t ∈ l, ∀ d ∈ t.d, d.pfx.size ≤ 1099511627776) (deep : Int) (rec : Nat → FSt → Ans × FSt) (hd1 : 1 ≤ deep) (hd2 : deep ≤ 4)
    (hrec : deep < 4 → ∀ (i : Nat) (st : FSt) (w : World) (sb : Nat) (g : Int) (av : Value), AskPre 52 3 w0 w sb g lv name l av i st →
      Ret Try.prog 17 [.pointer (some ⟨sb, 0, none⟩), .int .i64 (i : Int), .int .i64 (deep + 1)] w (AskP 52 3 w0 w sb g lv name l (rec i st)))
    (i : Nat) (st : FSt) (w : World) (sb : Nat) (g : Int) (av : Value) (pre : AskPre 52 3 w0 w sb g lv name l av i st) :
    Ret Try.prog 17 [.pointer (some ⟨sb, 0, none⟩), .int .i64 (i : Int), .int .i64 deep] w (AskP 52 3 w0 w sb g lv name l (askB rec (decide (deep < 4)) l name i st)) := by
  refine ret_of_run Try.func17 rfl Try.ntmps17 rfl ?_
  refine run_seq ?_
  have hlen := pre.good.len
  obtain ⟨hs, own, E, hsb, hg0, hgl, hne, hgood, hni, hi⟩ := pre
  have hl0 := hl
  obtain ⟨a0, cap, rfl, hat⟩ := hl
  obtain ⟨t, ht⟩ : ∃ t, l[i]? = some t := ⟨l[i], by simp⟩
  obtain ⟨bb, oo, cs, rfl, hr, hc⟩ := hat i t ht
  obtain ⟨lv1, dv, rfl, hL, hD⟩ := hr
  have hL0 := hL
  have hD0 := hD
  obtain ⟨a1, c1, rfl, hL1⟩ := hL
  obtain ⟨a2, c2, rfl, hD1⟩ := hD
  have htm : t ∈ l := List.mem_of_getElem? ht
  have htl := hdl t htm
  have e0 := ExtB.refl (fun k => k = sb ∨ (k : Int) = g) w
  have hlsb := lt_of_at hs
  have hgd : (⟨st.asked ++ [(i : Int)], st.over⟩ : FSt).good l := good_snoc hgood hi hni
  refine run_region rfl ?_
  refine runl_op (t_box1 rfl rfl) ?_
  rintro _ w3 ⟨b3, rfl, hb3, e3, n3, l3⟩
  have z3 := e3.size
  replace hs := e3.at hs
  replace own := own.ext e3
  replace E := E.trans e3
  replace e0 := e0.trans e3.toB
  refine runl_op (t_alloc zero_27 rfl) ?_
  rintro _ w6 ⟨b6, rfl, hb6, e6, n6, l6⟩
  have z6 := e6.size
  replace hs := e6.at hs
  replace own := own.ext e6
  replace E := E.trans e6
  replace e0 := e0.trans e6.toB
  replace hb3 := e6.at hb3
  refine runl_ev (ev_assign rfl) ?_
  refine runl_ev (ev_assign rfl) ?_
  refine runl_nil ?_
  refine run_seq ?_
  refine run_draw mo (fun w' => ExtB (fun k => (k : Int) = g) w6 w') [10] [(true, 0), (true, 1), (true, 2), (true, 3), (true, 4), (true, 5), (false, 6), (false, 7), (true, 8), (true, 9), (false, 10)] (by kernel_rfl) ?_
  intro wr1 er1
  have zr1 := er1.size
  have hsr1 : (fun w' => ExtB (fun k => (k : Int) = g) w6 w') wr1 := er1.toB
  have hsp := er1.at hs
  have ownp := own.ext er1
  have Ep := E.trans er1
  have e0p := e0.trans er1.toB
  have hb3p := er1.at hb3
  have hb6p := er1.at hb6
  refine rund_ev hsr1 rfl (ev_load1 cell_49 rfl (fun wz hz => cell_blk (hz.atG hb3 (by omega)) rfl)) ?_
  refine rund_ev hsr1 rfl (ev_load1 cell_49 rfl (fun wz hz => cell_blk (hz.atG hb3 (by omega)) rfl)) ?_
  refine rund_ev hsr1 rfl (ev_nilCheck rfl) ?_
  refine rund_ev hsr1 rfl (ev_fieldAddr fld_52_2 rfl) ?_
  refine rund_ev hsr1 rfl (ev_load1 cell_50 rfl (fun wz hz => cell_blk (hz.atG hs (by omega)) rfl)) ?_
  refine rund_ev hsr1 rfl (ev_move rfl) ?_
  refine rund_op rfl (t_buildSlice (out := [iv (i : Int)]) Try.underlying50 sz_3 zero_3 rfl rfl (by decide) (by decide) rfl (rfl)) ?_
  rintro _ w23 ⟨b23, rfl, hb23, e23, n23, l23⟩
  have z23 := e23.size
  replace hsp := e23.at hsp
  replace ownp := ownp.ext e23
  replace Ep := Ep.trans e23
  replace e0p := e0p.trans e23.toB
  replace hb3p := e23.at hb3p
  replace hb6p := e23.at hb6p
  have hs23 := hsr1.trans e23.toB
  refine ⟨hs23, ?_⟩
  have hb23p := hb23
  refine rund_op rfl (t_append (news := [iv (i : Int)]) ef_50 rfl rfl ownp rfl (cells_all hb23p) (by simp [iv]) (by unfold maxLen; omega) (by omega)) ?_
  rintro v24 w24 ⟨g24, ap24⟩
  obtain ⟨a24, c24, rfl⟩ := ap24.own.shape
  have hn24 := ap24.new
  have z24 := ap24.ext.size
  replace hsp := ap24.ext.atG hsp (by omega)
  replace Ep := Ep.newG ap24.ext (by omega)
  replace e0p := e0p.newBG ap24.ext (fun k hk => by first | exact .inl (by omega) | exact .inr hk | exact .inr (.inr hk) | exact .inr (.inr (by omega)))
  replace hb3p := ap24.ext.atG hb3p (by omega)
  replace hb6p := ap24.ext.atG hb6p (by omega)
  replace hb23p := ap24.ext.atG hb23p (by omega)
  have hsp24.ext := hs23.newBG ap24.ext (fun k hk => by first | exact .inr hk | exact .inr (.inr hk) | exact .inl (by omega))
  refine ⟨hsp24.ext, ?_⟩
  have ownp := ap24.own
  refine rund_ev hsp24.ext rfl (ev_nilCheck rfl) ?_
  refine rund_ev hsp24.ext rfl (ev_fieldAddr fld_52_2 rfl) ?_
  refine rund_doT rfl rfl (t_store1 sz_50 rfl rfl rfl rfl hsp (by simp)) ?_
  rintro _ v1_10 ⟨hq1_10, e1_10, z1_10⟩
  replace ownp := ownp.ext1 e1_10 (by omega)
  replace Ep := Ep.new1 e1_10 (by omega)
  replace e0p := e0p.newB1 e1_10 (by first | exact .inl (by omega) | exact .inr rfl | exact .inr (.inl rfl) | exact .inr (.inr (by omega)))
  replace hb3p := e1_10.at1 hb3p (by omega)
  replace hb6p := e1_10.at1 hb6p (by omega)
  replace hb23p := e1_10.at1 hb23p (by omega)
  replace hsp := hq1_10
  clear hq1_10
  refine rund_nil ?_
  replace hs := hsp
  clear hsp
  replace own := ownp
  clear ownp
  replace E := Ep
  clear Ep
  replace e0 := e0p
  clear e0p
  replace hb3 := hb3p
  clear hb3p
  replace hb6 := hb6p
  clear hb6p
  replace hb23 := hb23p
  clear hb23p
  refine run_seq ?_
  refine run_region rfl ?_
  refine runl_ev (ev_load1 cell_49 rfl (eqw (cell_blk hb3 rfl))) ?_
  refine runl_ev (ev_nilCheck rfl) ?_
  refine runl_ev (ev_fieldAddr fld_52_0 rfl) ?_
  refine runl_ev (ev_load1 cell_22 rfl (eqw (cell_blk hs rfl))) ?_
  refine runl_ev (ev_move rfl) ?_
  refine runl_ev (ev_indexAddr el_22 rfl rfl (by omega)) ?_
  refine runl_ev (ev_loadA agg_33 rfl rfl (eqw (hc.ext E))) ?_
  refine runl_op (t_alloc zero_33 rfl) ?_
  rintro _ w9 ⟨b9, rfl, hb9, e9, n9, l9⟩
  have z9 := e9.size
  replace hs := e9.at hs
  replace own := own.ext e9
  replace E := E.trans e9
  replace e0 := e0.trans e9.toB
  replace hb3 := e9.at hb3
  replace hb6 := e9.at hb6
  replace hb23 := e9.at hb23
  refine runl_do (t_storeW sz_33 rfl rfl rfl rfl hb9 (by simp)) ?_
  rintro _ v2_8 ⟨hq2_8, e2_8, z2_8⟩
  replace hs := e2_8.at1 hs (by omega)
  replace own := own.ext1 e2_8 (by omega)
  replace E := E.new1 e2_8 (by omega)
  replace e0 := e0.newB1 e2_8 (by first | exact .inl (by omega) | exact .inr rfl | exact .inr (.inl rfl) | exact .inr (.inr (by omega)))
  replace hb3 := e2_8.at1 hb3 (by omega)
  replace hb6 := e2_8.at1 hb6 (by omega)
  replace hb23 := e2_8.at1 hb23 (by omega)
  replace hb9 := hq2_8
  clear hq2_8
  refine runl_nil ?_
  refine run_seq ?_
  refine run_seq ?_
  refine run_region rfl ?_
  refine runl_ev (ev_fieldAddr fld_33_3 rfl) ?_
  refine runl_ev (ev_load1 cell_30 rfl (eqw (cell_blk hb9 rfl))) ?_
  refine runl_ev (ev_makeFunc rfl rfl) ?_
  refine runl_op (t_call call_19 rfl (idxT_any RTgt (fun _ _ _ h => by rw [h.2]; exact Tgt.cells_length h.1) (fun x => decide (x.name = name)) t.l w0 _ E _ _ _ hL0 (by omega) _ _ call_21 (fun x cs wx _ hx ex => by obtain ⟨hw, rfl⟩ := hx; exact askc1_any x hw _ _ _ _ _ _ _ _ _ _ name (ex.at hb3) (ex.at hs)))) ?_
  rintro _ w37 ⟨rfl, e37⟩
  have z37 := e37.size
  replace hs := e37.at hs
  replace own := own.ext e37
  replace E := E.trans e37
  replace e0 := e0.trans e37.toB
  replace hb3 := e37.at hb3
  replace hb6 := e37.at hb6
  replace hb23 := e37.at hb23
  replace hb9 := e37.at hb9
  refine runl_ev (ev_assign rfl) ?_
  refine runl_nil ?_
  refine run_seq ?_
  refine run_region rfl ?_
  refine runl_ev (ev_move rfl) ?_
  refine runl_ev (ev_geq rfl rfl) ?_
  refine runl_nil ?_
  refine run_dcond rfl (fun h0 => ?_) (fun h0 => ?_)
  · obtain ⟨kk, hkk⟩ := Int.eq_ofNat_of_zero_le h0
    rw [hkk]
    obtain ⟨x, hx, _, hkl⟩ := idxOf_get hkk
    obtain ⟨b1, o1, cs1, rfl, hr1, hc1⟩ := hL1 kk x hx
    obtain ⟨hwf, rfl⟩ := hr1
    refine run_seq ?_
    refine run_draw mo (fun w' => ExtB (fun k => k = b6) w37 w') [] [(true, 0), (true, 1), (true, 2), (true, 3), (true, 4), (true, 5), (true, 6), (false, 7), (true, 8), (true, 9)] (by kernel_rfl) ?_
    intro wr5 er5
    have zr5 := er5.size
    have hsr5 : (fun w' => ExtB (fun k => k = b6) w37 w') wr5 := er5.toB
    have hsp := er5.at hs
    have ownp := own.ext er5
    have Ep := E.trans er5
    have e0p := e0.trans er5.toB
    have hb3p := er5.at hb3
    have hb6p := er5.at hb6
    have hb23p := er5.at hb23
    have hb9p := er5.at hb9
    refine rund_ev hsr5 rfl (ev_fieldAddr fld_33_3 rfl) ?_
    refine rund_ev hsr5 rfl (ev_load1 cell_30 rfl (fun wz hz => cell_blk (hz.at1 hb9 (by omega)) rfl)) ?_
    refine rund_ev hsr5 rfl (ev_move rfl) ?_
    refine rund_ev hsr5 rfl (ev_indexAddr (k := kk) el_30 rfl rfl (by omega)) ?_
    refine rund_ev hsr5 rfl (ev_loadA agg_27 (Tgt.cells_length hwf) rfl (fun wz hz => hc1.ext (E.new1 hz (by omega)))) ?_
    refine rund_ev hsr5 rfl (ev_fieldAddr fld_33_0 rfl) ?_
    refine rund_ev hsr5 rfl (ev_load1 cell_9 rfl (fun wz hz => cell_blk (hz.at1 hb9 (by omega)) rfl)) ?_
    refine rund_do rfl (t_storeW sz_27 rfl rfl (Tgt.cells_length hwf) rfl hb6p (Tgt.one x)) ?_
    rintro _ v5_7 ⟨hq5_7, e5_7, z5_7⟩
    replace hsp := e5_7.at1 hsp (by omega)
    replace ownp := ownp.ext1 e5_7 (by omega)
    replace Ep := Ep.new1 e5_7 (by omega)
    replace e0p := e0p.newB1 e5_7 (by first | exact .inl (by omega) | exact .inr rfl | exact .inr (.inl rfl) | exact .inr (.inr (by omega)))
    replace hb3p := e5_7.at1 hb3p (by omega)
    replace hb23p := e5_7.at1 hb23p (by omega)
    replace hb9p := e5_7.at1 hb9p (by omega)
    replace hb6p := hq5_7
    clear hq5_7
    have hs5_7 := hsr5.newB1 e5_7 (by first | exact .inl (by omega) | exact .inr rfl | (right; simp; done) | (right; simp; omega))
    refine ⟨hs5_7, ?_⟩
    refine rund_ev hs5_7 rfl (ev_assign rfl) ?_
    refine rund_ev hs5_7 rfl (ev_assign rfl) ?_
    refine rund_nil ?_
    replace hs := hsp
    clear hsp
    replace own := ownp
    clear ownp
    replace E := Ep
    clear Ep
    replace e0 := e0p
    clear e0p
    replace hb3 := hb3p
    clear hb3p
    replace hb6 := hb6p
    clear hb6p
    replace hb23 := hb23p
    clear hb23p
    replace hb9 := hb9p
    clear hb9p
    refine run_ret_any Try.func17 (resCTT Try.results17 rfl (loadVar_agg agg_27 (Tgt.cells_length hwf) (cells_all hb6)) rfl rfl) ?_
    rw [askB_own ht hkk hx]
    exact ⟨rfl, _, _, ⟨hs, by simpa [iv] using own, E, e0, by omega, by omega, hgd, hwf⟩⟩
  · refine run_skip ?_
    refine run_seq ?_
    refine run_seq ?_
    refine run_region rfl ?_
    refine runl_ev (ev_fieldAddr fld_33_4 rfl) ?_
    refine runl_ev (ev_load1 cell_31 rfl (eqw (cell_blk hb9 rfl))) ?_
    refine runl_ev (ev_lenL sl_31 rfl) ?_
    refine runl_ev (ev_move rfl) ?_
    refine runl_nil ?_
    refine run_block ?_
    have q1 : g24 = g ∨ (w.heap.size : Int) ≤ g24 := by omega
    have q2 : g24 < w37.heap.size := by omega
    have q3 : g24 ≠ sb := by omega
    have q4 : g24 ≠ b3 := by omega
    have q5 : g24 ≠ b6 := by omega
    have q6 : g24 ≠ b9 := by omega
    refine run_loop (ι := Nat × FSt × Value × Int) (fun x => [(2, .int .i64 deep), (3, .pointer (some ⟨b3, 0, none⟩)), (6, .pointer (some ⟨b6, 0, none⟩)), (9, .pointer (some ⟨b9, 0, none⟩)), (48, .slice a2 t.d.length c2), (49, .int .i64 (t.d.length : Int)), (50, .int .i64 (x.1 : Int))]) (fun x w' => x.1 ≤ t.d.length ∧ w'.heap[b3]? = some (.cells #[.pointer (some ⟨sb, 0, none⟩)] 49 (0, 0)) ∧ w'.heap[b6]? = some (.cells ⟨Tgt.zero.cells⟩ 27 (0, 0)) ∧ w'.heap[b9]? = some (.cells ⟨[.string t.name, .int .i64 t.ver, .int .i64 t.exp, .slice a1 t.l.length c1, .slice a2 t.d.length c2]⟩ 33 (0, 0)) ∧ w'.heap[sb]? = some (.cells ⟨[.slice (some ⟨bb, oo, none⟩) l.length cap, .string name, x.2.2.1, .bool x.2.1.over]⟩ 52 (0, 0)) ∧ Own w' 3 1 x.2.2.1 x.2.1.asked.length (x.2.1.asked.map iv) x.2.2.2 ∧ Ext w0 w' ∧ ExtB (fun k => k = sb ∨ (k : Int) = g) w w' ∧ (x.2.2.2 = g ∨ (w.heap.size : Int) ≤ x.2.2.2) ∧ x.2.2.2 < w'.heap.size ∧ x.2.2.2 ≠ sb ∧ x.2.2.2 ≠ b3 ∧ x.2.2.2 ≠ b6 ∧ x.2.2.2 ≠ b9 ∧ x.2.1.good l ∧ askL rec (decide (deep < 4)) l name (t.d.drop x.1) x.2.1 = askL rec (decide (deep < 4)) l name t.d ⟨st.asked ++ [(i : Int)], st.over⟩) (fun x => t.d.length - x.1) ((0, ⟨st.asked ++ [(i : Int)], st.over⟩, _, g24)) ⟨rfl, rfl, rfl, rfl, rfl, rfl, rfl, trivial⟩ (⟨Nat.zero_le _, hb3, hb6, hb9, hs, by simpa [iv] using own, E, e0, q1, q2, q3, q4, q5, q6, hgd, by simp⟩) ?_
    rw [askB_loop ht h0]
    clear hs own E e0 hb3 hb6 hb9 hgd
    intro ⟨k, ⟨asked, ov⟩, av1, g1⟩ wl ⟨hk, hb3, hb6, hb9, hs, own, E, e0, hg1, hgl1, hn1, hn3, hn6, hn9, hgd, hrem⟩ IH
    simp only at hk hs own hg1 hgl1 hn1 hn3 hn6 hn9 hgd hrem
    have l3 := lt_of_at hb3
    have l6 := lt_of_at hb6
    have l9 := lt_of_at hb9
    have lsb := lt_of_at hs
    have zl := E.size
    have zl0 := e0.size
    have hlen1 : asked.length ≤ l.length := hgd.len
    obtain ⟨aa, cc, rfl⟩ := own.shape
    refine run_seq ?_
    refine run_region rfl ?_
    refine runl_ev (ev_lss rfl rfl) ?_
    refine runl_nil ?_
    refine run_seq ?_
    refine run_dcond rfl (fun h1 => ?_) (fun h1 => ?_)
    · have hk1 : k < t.d.length := by omega
      obtain ⟨d, hd⟩ : ∃ d, t.d[k]? = some d := ⟨t.d[k], by simp⟩
      obtain ⟨bD, oD, csD, rfl, hrD, hcD⟩ := hD1 k d hd
      obtain ⟨ka, kn, kc, need, rfl⟩ := hrD
      have hdm : d ∈ t.d := List.mem_of_getElem? hd
      have hdrop := drop_of_get hd
      rw [hdrop] at hrem
      refine run_skip ?_
      refine run_seq ?_
      refine run_block ?_
      refine run_seq ?_
      refine run_region rfl ?_
      refine runl_ev (ev_indexAddr el_31 rfl rfl (by omega)) ?_
      refine runl_ev (ev_loadA agg_40 rfl rfl (eqw (hcD.ext E))) ?_
      refine runl_op (t_alloc zero_40 rfl) ?_
      rintro _ w12 ⟨b12, rfl, hb12, e12, n12, l12⟩
      have z12 := e12.size
      replace hb3 := e12.at hb3
      replace hb6 := e12.at hb6
      replace hb9 := e12.at hb9
      replace hs := e12.at hs
      replace own := own.ext e12
      replace E := E.trans e12
      replace e0 := e0.trans e12.toB
      refine runl_do (t_storeW sz_40 rfl rfl rfl rfl hb12 (by simp)) ?_
      rintro _ v8_3 ⟨hq8_3, e8_3, z8_3⟩
      replace hb3 := e8_3.at1 hb3 (by omega)
      replace hb6 := e8_3.at1 hb6 (by omega)
      replace hb9 := e8_3.at1 hb9 (by omega)
      replace hs := e8_3.at1 hs (by omega)
      replace own := own.ext1 e8_3 (by omega)
      replace E := E.new1 e8_3 (by omega)
      replace e0 := e0.newB1 e8_3 (by first | exact .inl (by omega) | exact .inr rfl | exact .inr (.inl rfl) | exact .inr (.inr (by omega)))
      replace hb12 := hq8_3
      clear hq8_3
      refine runl_nil ?_
      refine run_seq ?_
      refine run_seq ?_
      refine run_draw mo (fun w' => Ext v8_3 w') [] [(true, 0), (true, 1), (true, 2), (true, 3), (true, 4), (true, 5), (false, 6), (true, 7)] (by kernel_rfl) ?_
      intro wr9 er9
      have zr9 := er9.size
      have hsr9 := er9
      have hb3p := er9.at hb3
      have hb6p := er9.at hb6
      have hb9p := er9.at hb9
      have hsp := er9.at hs
      have ownp := own.ext er9
      have Ep := E.trans er9
      have e0p := e0.trans er9.toB
      have hb12p := er9.at hb12
      refine rund_ev hsr9 rfl (ev_load1 cell_49 rfl (fun wz hz => cell_blk (hz.at hb3) rfl)) ?_
      refine rund_ev hsr9 rfl (ev_nilCheck rfl) ?_
      refine rund_ev hsr9 rfl (ev_fieldAddr fld_52_1 rfl) ?_
      refine rund_ev hsr9 rfl (ev_load1 cell_9 rfl (fun wz hz => cell_blk (hz.at hs) rfl)) ?_
      refine rund_ev hsr9 rfl (ev_fieldAddr fld_40_2 rfl) ?_
      refine rund_ev hsr9 rfl (ev_load1 cell_9 rfl (fun wz hz => cell_blk (hz.at hb12) rfl)) ?_
      refine rund_op rfl (t_call call_22 rfl (haspfx_any name d.pfx _ hname (hpf t htm d hdm))) ?_
      rintro _ w60 ⟨rfl, e60⟩
      have z60 := e60.size
      replace hb3p := e60.at hb3p
      replace hb6p := e60.at hb6p
      replace hb9p := e60.at hb9p
      replace hsp := e60.at hsp
      replace ownp := ownp.ext e60
      replace Ep := Ep.trans e60
      replace e0p := e0p.trans e60.toB
      replace hb12p := e60.at hb12p
      have hs60 := hsr9.trans e60
      refine ⟨hs60, ?_⟩
      refine rund_ev hs60 rfl (ev_not rfl) ?_
      refine rund_nil ?_
      replace hb3 := hb3p
      clear hb3p
      replace hb6 := hb6p
      clear hb6p
      replace hb9 := hb9p
      clear hb9p
      replace hs := hsp
      clear hsp
      replace own := ownp
      clear ownp
      replace E := Ep
      clear Ep
      replace e0 := e0p
      clear e0p
      replace hb12 := hb12p
      clear hb12p
      refine run_cond_split rfl (fun h2 => ?_) (fun h2 => ?_)
      · have hp : hasPfx name d.pfx = false := by simpa using h2
        rw [askL_skip hp] at hrem
        refine run_exit rfl ?_
        refine run_region rfl ?_
        refine runl_ev (ev_add rfl rfl (by omega) (by omega)) ?_
        refine runl_ev (ev_move rfl) ?_
        refine runl_nil ?_
        exact IH (k + 1, ⟨asked, ov⟩, _, g1) _ _ (by simp only; omega) ⟨rfl, rfl, rfl, rfl, rfl, rfl, rfl, trivial⟩ ⟨(by show k + 1 ≤ _; omega), hb3, hb6, hb9, hs, own, E, e0, hg1, (by show g1 < _; omega), hn1, hn3, hn6, hn9, hgd, hrem⟩
      · have hp : hasPfx name d.pfx = true := by simpa using h2
        refine run_skip ?_
        refine run_seq ?_
        refine run_region rfl ?_
        refine runl_ev (ev_load1 cell_49 rfl (eqw (cell_blk hb3 rfl))) ?_
        refine runl_ev (ev_nilCheck rfl) ?_
        refine runl_ev (ev_fieldAddr fld_52_0 rfl) ?_
        refine runl_ev (ev_load1 cell_22 rfl (eqw (cell_blk hs rfl))) ?_
        refine runl_ev (ev_makeFunc rfl rfl) ?_
        refine runl_op (t_call call_23 rfl (idxTs_any RTgs (fun _ _ _ ⟨_, _, h, _⟩ => by rw [h]; rfl) (fun x => decide (x.name = d.name)) l w0 _ E _ _ _ hl0 (by omega) _ _ call_24 (fun x cs wx _ hx ex => askc2_any x cs _ _ hx _ _ _ (.string d.name) _ _ _ _ d.name (ex.at hb12)))) ?_
        rintro _ w67 ⟨rfl, e67⟩
        have z67 := e67.size
        replace hb3 := e67.at hb3
        replace hb6 := e67.at hb6
        replace hb9 := e67.at hb9
        replace hs := e67.at hs
        replace own := own.ext e67
        replace E := E.trans e67
        replace e0 := e0.trans e67.toB
        replace hb12 := e67.at hb12
        generalize hz : idxOf (fun x : Tgs => decide (x.name = d.name)) l = z
        have hz1 : placeOf l d.name = z := hz
        refine runl_ev (ev_assign rfl) ?_
        refine runl_nil ?_
        refine run_cut1 (ι := FSt × Value × Int) (fun x => [(2, .int .i64 deep), (3, .pointer (some ⟨b3, 0, none⟩)), (6, .pointer (some ⟨b6, 0, none⟩)), (9, .pointer (some ⟨b9, 0, none⟩)), (48, .slice (some ⟨bD, oD, none⟩) t.d.length c2), (49, .int .i64 (t.d.length : Int)), (50, .int .i64 (k : Int)), (12, .pointer (some ⟨b12, 0, none⟩))]) (fun x w' => w'.heap[b3]? = some (.cells #[.pointer (some ⟨sb, 0, none⟩)] 49 (0, 0)) ∧ w'.heap[b6]? = some (.cells ⟨Tgt.zero.cells⟩ 27 (0, 0)) ∧ w'.heap[b9]? = some (.cells ⟨[.string t.name, .int .i64 t.ver, .int .i64 t.exp, .slice a1 t.l.length c1, .slice (some ⟨bD, oD, none⟩) t.d.length c2]⟩ 33 (0, 0)) ∧ w'.heap[b12]? = some (.cells ⟨[.string d.name, .slice ka kn kc, .int .i64 need, .string d.pfx, .bool d.last]⟩ 40 (0, 0)) ∧ w'.heap[sb]? = some (.cells ⟨[.slice (some ⟨bb, oo, none⟩) l.length cap, .string name, x.2.1, .bool x.1.over]⟩ 52 (0, 0)) ∧ Own w' 3 1 x.2.1 x.1.asked.length (x.1.asked.map iv) x.2.2 ∧ Ext w0 w' ∧ ExtB (fun k => k = sb ∨ (k : Int) = g) w w' ∧ (x.2.2 = g ∨ (w.heap.size : Int) ≤ x.2.2) ∧ x.2.2 < w'.heap.size ∧ x.2.2 ≠ sb ∧ x.2.2 ≠ b3 ∧ x.2.2 ≠ b6 ∧ x.2.2 ≠ b9 ∧ x.1.good l ∧ askR rec (decide (deep < 4)) l name d (t.d.drop (k + 1)) x.1 = askL rec (decide (deep < 4)) l name t.d ⟨st.asked ++ [(i : Int)], st.over⟩) ?_ ?_
        · clear hs own E e0 hb3 hb6 hb9 hb12 hgd hgl1 hn1 hn3 hn6 hn9 hg1
          intro ⟨⟨asked, ov⟩, av1, g1⟩ wj ⟨hb3, hb6, hb9, hb12, hs, own, E, e0, hg1, hgl1, hn1, hn3, hn6, hn9, hgd, hrem⟩
          simp only at hs own hg1 hgl1 hn1 hn3 hn6 hn9 hgd hrem
          have l3 := lt_of_at hb3
          have l6 := lt_of_at hb6
          have l9 := lt_of_at hb9
          have l12 := lt_of_at hb12
          have lsb := lt_of_at hs
          have zl := E.size
          have zl0 := e0.size
          refine run_seq ?_
          cases ov
          · refine run_draw mo (fun w' => Ext wj w') [11] [(true, 0), (true, 1), (true, 2), (true, 3), (true, 4), (true, 5), (true, 6), (true, 7), (true, 8), (true, 9), (true, 10), (false, 11)] (by kernel_rfl) ?_
            intro wr15 er15
            have zr15 := er15.size
            have hsr15 := er15
            have hb3p := er15.at hb3
            have hb6p := er15.at hb6
            have hb9p := er15.at hb9
            have hb12p := er15.at hb12
            have hsp := er15.at hs
            have ownp := own.ext er15
            have Ep := E.trans er15
            have e0p := e0.trans er15.toB
            refine rund_ev hsr15 rfl (ev_load1 cell_49 rfl (fun wz hz => cell_blk (hz.at hb3) rfl)) ?_
            refine rund_ev hsr15 rfl (ev_load1 cell_49 rfl (fun wz hz => cell_blk (hz.at hb3) rfl)) ?_
            refine rund_ev hsr15 rfl (ev_nilCheck rfl) ?_
            refine rund_ev hsr15 rfl (ev_fieldAddr fld_52_3 rfl) ?_
            refine rund_ev hsr15 rfl (ev_load1 cell_4 rfl (fun wz hz => cell_blk (hz.at hs) rfl)) ?_
            refine rund_ev hsr15 rfl (ev_move rfl) ?_
            refine rund_ev_g hsr15 rfl rfl rfl (rfl) (ev_fieldAddr fld_40_3 rfl) ?_
            refine rund_ev_g hsr15 rfl rfl rfl (rfl) (ev_load1 cell_4 rfl (fun wz hz => cell_blk (hz.at hb12) rfl)) ?_
            refine rund_ev hsr15 rfl (ev_pick rfl rfl rfl rfl) ?_
            refine rund_ev hsr15 rfl (ev_nilCheck rfl) ?_
            refine rund_ev hsr15 rfl (ev_fieldAddr fld_52_3 rfl) ?_
            refine rund_doT rfl rfl (t_store1 sz_4 rfl rfl rfl rfl hsp (by simp)) ?_
            rintro _ v15_11 ⟨hq15_11, e15_11, z15_11⟩
            replace hb3p := e15_11.at1 hb3p (by omega)
            replace hb6p := e15_11.at1 hb6p (by omega)
            replace hb9p := e15_11.at1 hb9p (by omega)
            replace hb12p := e15_11.at1 hb12p (by omega)
            replace ownp := ownp.ext1 e15_11 (by omega)
            replace Ep := Ep.new1 e15_11 (by omega)
            replace e0p := e0p.newB1 e15_11 (by first | exact .inl (by omega) | exact .inr rfl | exact .inr (.inl rfl) | exact .inr (.inr (by omega)))
            replace hsp := hq15_11
            clear hq15_11
            refine rund_nil ?_
            replace hb3 := hb3p
            clear hb3p
            replace hb6 := hb6p
            clear hb6p
            replace hb9 := hb9p
            clear hb9p
            replace hb12 := hb12p
            clear hb12p
            replace hs := hsp
            clear hsp
            replace own := ownp
            clear ownp
            replace E := Ep
            clear Ep
            replace e0 := e0p
            clear e0p
            refine run_seq ?_
            refine run_region rfl ?_
            refine runl_ev (ev_load1 cell_49 rfl (eqw (cell_blk hb3 rfl))) ?_
            refine runl_ev (ev_nilCheck rfl) ?_
            refine runl_ev (ev_fieldAddr fld_52_3 rfl) ?_
            refine runl_ev (ev_load1 cell_4 rfl (eqw (cell_blk hs rfl))) ?_
            refine runl_nil ?_
            refine run_cond_split rfl (fun h5 => ?_) (fun h5 => ?_)
            · rw [askR_over (by simpa using h5)] at hrem
              refine run_exit rfl ?_
              refine run_seq ?_
              refine run_region rfl ?_
              refine runl_ev (ev_build (out := Tgt.zero.cells) ps_27 zero_27 rfl rfl (rfl)) ?_
              refine runl_do (t_storeW sz_27 rfl rfl rfl rfl hb6 (Tgt.one Tgt.zero)) ?_
              rintro _ v18_1 ⟨hq18_1, e18_1, z18_1⟩
              replace hb3 := e18_1.at1 hb3 (by omega)
              replace hb9 := e18_1.at1 hb9 (by omega)
              replace hb12 := e18_1.at1 hb12 (by omega)
              replace hs := e18_1.at1 hs (by omega)
              replace own := own.ext1 e18_1 (by omega)
              replace E := E.new1 e18_1 (by omega)
              replace e0 := e0.newB1 e18_1 (by first | exact .inl (by omega) | exact .inr rfl | exact .inr (.inl rfl) | exact .inr (.inr (by omega)))
              replace hb6 := hq18_1
              clear hq18_1
              refine runl_ev (ev_assign rfl) ?_
              refine runl_ev (ev_assign rfl) ?_
              refine runl_nil ?_
              refine run_ret_any Try.func17 (resCTT Try.results17 rfl (loadVar_agg agg_27 rfl (cells_all hb6)) rfl rfl) ?_
              rw [h5] at hs
              rw [← hrem]
              exact ⟨rfl, _, _, ⟨hs, own, E, e0, by omega, by omega, good_over hgd, Tgt.zero_wf⟩⟩
            · rw [askR_on (by simpa using h5)] at hrem
              have h5 : d.last = false := by simpa using h5
              rw [h5] at hs
              refine run_skip ?_
              refine run_inBlock ?_
              refine run_region rfl ?_
              refine runl_ev (ev_add rfl rfl (by omega) (by omega)) ?_
              refine runl_ev (ev_move rfl) ?_
              refine runl_nil ?_
              exact IH (k + 1, ⟨asked, false⟩, _, g1) _ _ (by simp only; omega) ⟨rfl, rfl, rfl, rfl, rfl, rfl, rfl, trivial⟩ ⟨(by show k + 1 ≤ _; omega), hb3, hb6, hb9, hs, own, E, e0, hg1, (by show g1 < _; omega), hn1, hn3, hn6, hn9, hgd, hrem⟩
          · refine run_draw mo (fun w' => Ext wj w') [11] [(true, 0), (true, 1), (true, 2), (true, 3), (true, 4), (true, 5), (true, 6), (true, 7), (true, 8), (true, 9), (true, 10), (false, 11)] (by kernel_rfl) ?_
            intro wr15x1 er15x1
            have zr15x1 := er15x1.size
            have hsr15x1 := er15x1
            have hb3p := er15x1.at hb3
            have hb6p := er15x1.at hb6
            have hb9p := er15x1.at hb9
            have hb12p := er15x1.at hb12
            have hsp := er15x1.at hs
            have ownp := own.ext er15x1
            have Ep := E.trans er15x1
            have e0p := e0.trans er15x1.toB
            refine rund_ev hsr15x1 rfl (ev_load1 cell_49 rfl (fun wz hz => cell_blk (hz.at hb3) rfl)) ?_
            refine rund_ev hsr15x1 rfl (ev_load1 cell_49 rfl (fun wz hz => cell_blk (hz.at hb3) rfl)) ?_
            refine rund_ev hsr15x1 rfl (ev_nilCheck rfl) ?_
            refine rund_ev hsr15x1 rfl (ev_fieldAddr fld_52_3 rfl) ?_
            refine rund_ev hsr15x1 rfl (ev_load1 cell_4 rfl (fun wz hz => cell_blk (hz.at hs) rfl)) ?_
            refine rund_ev hsr15x1 rfl (ev_move rfl) ?_
            refine rund_no_g hsr15x1 rfl rfl rfl (rfl) ?_
            refine rund_no_g hsr15x1 rfl rfl rfl (rfl) ?_
            refine rund_ev hsr15x1 rfl (ev_pick rfl rfl rfl rfl) ?_
            refine rund_ev hsr15x1 rfl (ev_nilCheck rfl) ?_
            refine rund_ev hsr15x1 rfl (ev_fieldAddr fld_52_3 rfl) ?_
            refine rund_doT rfl rfl (t_store1 sz_4 rfl rfl rfl rfl hsp (by simp)) ?_
            rintro _ v15_11x1 ⟨hq15_11x1, e15_11x1, z15_11x1⟩
            replace hb3p := e15_11x1.at1 hb3p (by omega)
            replace hb6p := e15_11x1.at1 hb6p (by omega)
            replace hb9p := e15_11x1.at1 hb9p (by omega)
            replace hb12p := e15_11x1.at1 hb12p (by omega)
            replace ownp := ownp.ext1 e15_11x1 (by omega)
            replace Ep := Ep.new1 e15_11x1 (by omega)
            replace e0p := e0p.newB1 e15_11x1 (by first | exact .inl (by omega) | exact .inr rfl | exact .inr (.inl rfl) | exact .inr (.inr (by omega)))
            replace hsp := hq15_11x1
            clear hq15_11x1
            refine rund_nil ?_
            replace hb3 := hb3p
            clear hb3p
            replace hb6 := hb6p
            clear hb6p
            replace hb9 := hb9p
            clear hb9p
            replace hb12 := hb12p
            clear hb12p
            replace hs := hsp
            clear hsp
            replace own := ownp
            clear ownp
            replace E := Ep
            clear Ep
            replace e0 := e0p
            clear e0p
            refine run_seq ?_
            refine run_region rfl ?_
            refine runl_ev (ev_load1 cell_49 rfl (eqw (cell_blk hb3 rfl))) ?_
            refine runl_ev (ev_nilCheck rfl) ?_
            refine runl_ev (ev_fieldAddr fld_52_3 rfl) ?_
            refine runl_ev (ev_load1 cell_4 rfl (eqw (cell_blk hs rfl))) ?_
            refine runl_nil ?_
            refine run_cond_true rfl (rfl) ?_
            rw [askR_over rfl] at hrem
            refine run_exit rfl ?_
            refine run_seq ?_
            refine run_region rfl ?_
            refine runl_ev (ev_build (out := Tgt.zero.cells) ps_27 zero_27 rfl rfl (rfl)) ?_
            refine runl_do (t_storeW sz_27 rfl rfl rfl rfl hb6 (Tgt.one Tgt.zero)) ?_
            rintro _ v18_1x1 ⟨hq18_1x1, e18_1x1, z18_1x1⟩
            replace hb3 := e18_1x1.at1 hb3 (by omega)
            replace hb9 := e18_1x1.at1 hb9 (by omega)
            replace hb12 := e18_1x1.at1 hb12 (by omega)
            replace hs := e18_1x1.at1 hs (by omega)
            replace own := own.ext1 e18_1x1 (by omega)
            replace E := E.new1 e18_1x1 (by omega)
            replace e0 := e0.newB1 e18_1x1 (by first | exact .inl (by omega) | exact .inr rfl | exact .inr (.inl rfl) | exact .inr (.inr (by omega)))
            replace hb6 := hq18_1x1
            clear hq18_1x1
            refine runl_ev (ev_assign rfl) ?_
            refine runl_ev (ev_assign rfl) ?_
            refine runl_nil ?_
            refine run_ret_any Try.func17 (resCTT Try.results17 rfl (loadVar_agg agg_27 rfl (cells_all hb6)) rfl rfl) ?_
            rw [← hrem]
            exact ⟨rfl, _, _, ⟨hs, own, E, e0, by omega, by omega, good_over hgd, Tgt.zero_wf⟩⟩
        · intro JJ
          refine run_seq ?_
          have hzz : z < 0 ∨ (0 ≤ z ∧ 4 ≤ deep) ∨ (0 ≤ z ∧ deep < 4) := by omega
          rcases hzz with hc1 | hc1 | hc1
          · have hna : (⟨asked, ov⟩ : FSt).asks (decide (deep < 4)) (placeOf l d.name) = false := by rw [hz1]; exact asks_no1 hc1
            refine run_region rfl ?_
            refine runl_ev (ev_move rfl) ?_
            refine runl_ev (ev_geq rfl rfl) ?_
            refine runl_ev (ev_move rfl) ?_
            refine runl_no_g rfl rfl (decide_eq_false (by omega)) ?_
            refine runl_no_g rfl rfl (decide_eq_false (by omega)) ?_
            refine runl_ev (ev_pick rfl rfl rfl (if_neg (by simp; omega))) ?_
            refine runl_ev (ev_move rfl) ?_
            refine runl_no_g rfl rfl (rfl) ?_
            refine runl_no_g rfl rfl (rfl) ?_
            refine runl_no_g rfl rfl (rfl) ?_
            refine runl_no_g rfl rfl (rfl) ?_
            refine runl_no_g rfl rfl (rfl) ?_
            refine runl_no_g rfl rfl (rfl) ?_
            refine runl_no_g rfl rfl (rfl) ?_
            refine runl_ev (ev_pick rfl rfl rfl rfl) ?_
            refine runl_nil ?_
            refine run_cond_false rfl (rfl) ?_
            refine run_skip ?_
            exact JJ (⟨asked, ov⟩, _, g1) _ _ ⟨rfl, rfl, rfl, rfl, rfl, rfl, rfl, rfl, trivial⟩ ⟨hb3, hb6, hb9, hb12, hs, own, E, e0, hg1, (by show g1 < _; omega), hn1, hn3, hn6, hn9, hgd, by rw [← askL_no hp hna]; exact hrem⟩
          · have hna : (⟨asked, ov⟩ : FSt).asks (decide (deep < 4)) (placeOf l d.name) = false := asks_no2 hc1.2
            refine run_region rfl ?_
            refine runl_ev (ev_move rfl) ?_
            refine runl_ev (ev_geq rfl rfl) ?_
            refine runl_ev (ev_move rfl) ?_
            refine runl_ev_g rfl rfl (decide_eq_true (by omega)) (ev_move rfl) ?_
            refine runl_ev_g rfl rfl (decide_eq_true (by omega)) (ev_lss rfl rfl) ?_
            refine runl_ev (ev_pick rfl rfl rfl (if_pos (by simp; omega))) ?_
            refine runl_ev (ev_move rfl) ?_
            refine runl_no_g rfl rfl (decide_eq_false (by omega)) ?_
            refine runl_no_g rfl rfl (decide_eq_false (by omega)) ?_
            refine runl_no_g rfl rfl (decide_eq_false (by omega)) ?_
            refine runl_no_g rfl rfl (decide_eq_false (by omega)) ?_
            refine runl_no_g rfl rfl (decide_eq_false (by omega)) ?_
            refine runl_no_g rfl rfl (decide_eq_false (by omega)) ?_
            refine runl_no_g rfl rfl (decide_eq_false (by omega)) ?_
            refine runl_ev (ev_pick rfl rfl rfl (if_neg (by simp; omega))) ?_
            refine runl_nil ?_
            refine run_cond_false rfl (rfl) ?_
            refine run_skip ?_
            exact JJ (⟨asked, ov⟩, _, g1) _ _ ⟨rfl, rfl, rfl, rfl, rfl, rfl, rfl, rfl, trivial⟩ ⟨hb3, hb6, hb9, hb12, hs, own, E, e0, hg1, (by show g1 < _; omega), hn1, hn3, hn6, hn9, hgd, by rw [← askL_no hp hna]; exact hrem⟩
          · obtain ⟨hz0, hdp⟩ := hc1
            obtain ⟨kk, rfl⟩ := Int.eq_ofNat_of_zero_le hz0
            have hkl := (idxOf_get hz).choose_spec.2.2
            refine run_region rfl ?_
            refine runl_ev (ev_move rfl) ?_
            refine runl_ev (ev_geq rfl rfl) ?_
            refine runl_ev (ev_move rfl) ?_
            refine runl_ev_g rfl rfl (decide_eq_true (by omega)) (ev_move rfl) ?_
            refine runl_ev_g rfl rfl (decide_eq_true (by omega)) (ev_lss rfl rfl) ?_
            refine runl_ev (ev_pick rfl rfl rfl (if_pos (by simp))) ?_
            refine runl_ev (ev_move rfl) ?_
            refine runl_ev_g rfl rfl (decide_eq_true (by omega)) (ev_load1 cell_49 rfl (eqw (cell_blk hb3 rfl))) ?_
            refine runl_ev_g rfl rfl (decide_eq_true (by omega)) (ev_nilCheck rfl) ?_
            refine runl_ev_g rfl rfl (decide_eq_true (by omega)) (ev_fieldAddr fld_52_2 rfl) ?_
            refine runl_ev_g rfl rfl (decide_eq_true (by omega)) (ev_load1 cell_50 rfl (eqw (cell_blk hs rfl))) ?_
            refine runl_ev_g rfl rfl (decide_eq_true (by omega)) (ev_move rfl) ?_
            refine runl_op_g rfl rfl (decide_eq_true (by omega)) (t_call call_25 rfl (hasI_any asked (kk : Int) _ _ _ _ (own_sl own) (by omega))) ?_
            rintro _ w80 ⟨rfl, e80⟩
            have z80 := e80.size
            replace hb3 := e80.at hb3
            replace hb6 := e80.at hb6
            replace hb9 := e80.at hb9
            replace hs := e80.at hs
            replace own := own.ext e80
            replace E := E.trans e80
            replace e0 := e0.trans e80.toB
            replace hb12 := e80.at hb12
            refine runl_ev_g rfl rfl (decide_eq_true (by omega)) (ev_not rfl) ?_
            refine runl_ev (ev_pick rfl rfl rfl (if_pos (by simp; omega))) ?_
            refine runl_nil ?_
            refine run_cond_split rfl (fun h3 => ?_) (fun h3 => ?_)
            · have hya : (⟨asked, ov⟩ : FSt).asks (decide (deep < 4)) (placeOf l d.name) = true := by rw [hz1, asks_in (by omega) hdp]; exact h3
              refine run_seq ?_
              refine run_region rfl ?_
              refine runl_ev (ev_load1 cell_49 rfl (eqw (cell_blk hb3 rfl))) ?_
              refine runl_ev (ev_move rfl) ?_
              refine runl_ev (ev_move rfl) ?_
              refine runl_ev (ev_add rfl rfl (by omega) (by omega)) ?_
              refine runl_op (t_call call_17 rfl (hrec hdp kk ⟨asked, ov⟩ _ sb g1 _ ⟨hs, own, E, hsb, by omega, by omega, hn1, hgd, (asks_spec (hz1 ▸ hya)).2.2, hkl⟩)) ?_
              rintro r88 w88 ⟨rfl, av2, g2, p88⟩
              have hg2 := p88.new
              have hgl2 := p88.hgl
              have z88 := p88.extB.size
              have key : ∀ {k : Nat} {o : Obj}, _ = some o → k ≠ sb → (k : Int) ≠ g1 → w88.heap[k]? = some o := fun {k} {o} h n1 n2 => p88.extB.at h (by rintro (h | h); exact n1 h; exact n2 h)
              replace hb3 := key hb3 (by omega) (by omega)
              replace hb6 := key hb6 (by omega) (by omega)
              replace hb9 := key hb9 (by omega) (by omega)
              replace hb12 := key hb12 (by omega) (by omega)
              clear key
              replace hs := p88.hs
              replace own := p88.own
              replace E := p88.ext
              replace e0 := e0.newB p88.extB (fun k hk => by rcases hk with h | h; exact .inr (.inl h); rcases hg1 with h1 | h1; exact .inr (.inr (h.trans h1)); exact .inl (by omega))
              have hwf88 := p88.wf
              replace hgd := p88.good
              have hlen2 := hgd.len
              refine runl_ev (ev_move rfl) ?_
              refine runl_ev (ev_extract rfl rfl) ?_
              refine runl_ev (ev_extract rfl rfl) ?_
              refine runl_ev (ev_extract rfl rfl) ?_
              refine runl_op (t_alloc zero_27 rfl) ?_
              rintro _ w14 ⟨b14, rfl, hb14, e14, n14, l14⟩
              have z14 := e14.size
              replace hb3 := e14.at hb3
              replace hb6 := e14.at hb6
              replace hb9 := e14.at hb9
              replace hs := e14.at hs
              replace own := own.ext e14
              replace E := E.trans e14
              replace e0 := e0.trans e14.toB
              replace hb12 := e14.at hb12
              refine runl_do (t_storeW sz_27 rfl rfl (Tgt.cells_length hwf88) rfl hb14 (Tgt.one _)) ?_
              rintro _ v12_10 ⟨hq12_10, e12_10, z12_10⟩
              replace hb3 := e12_10.at1 hb3 (by omega)
              replace hb6 := e12_10.at1 hb6 (by omega)
              replace hb9 := e12_10.at1 hb9 (by omega)
              replace hs := e12_10.at1 hs (by omega)
              replace own := own.ext1 e12_10 (by omega)
              replace E := E.new1 e12_10 (by omega)
              replace e0 := e0.newB1 e12_10 (by first | exact .inl (by omega) | exact .inr rfl | exact .inr (.inl rfl) | exact .inr (.inr (by omega)))
              replace hb12 := e12_10.at1 hb12 (by omega)
              replace hb14 := hq12_10
              clear hq12_10
              refine runl_ev (ev_assign rfl) ?_
              refine runl_ev (ev_assign rfl) ?_
              refine runl_nil ?_
              refine run_seq ?_
              refine run_region rfl ?_
              refine runl_ev (ev_move rfl) ?_
              refine runl_nil ?_
              refine run_cond_split rfl (fun h4 => ?_) (fun h4 => ?_)
              · refine run_seq ?_
                refine run_region rfl ?_
                refine runl_ev (ev_loadA agg_27 (Tgt.cells_length hwf88) rfl (eqw (cells_all hb14))) ?_
                refine runl_ev (ev_move rfl) ?_
                refine runl_do (t_storeW sz_27 rfl rfl (Tgt.cells_length hwf88) rfl hb6 (Tgt.one _)) ?_
                rintro _ v14_2 ⟨hq14_2, e14_2, z14_2⟩
                replace hb3 := e14_2.at1 hb3 (by omega)
                replace hb9 := e14_2.at1 hb9 (by omega)
                replace hs := e14_2.at1 hs (by omega)
                replace own := own.ext1 e14_2 (by omega)
                replace E := E.new1 e14_2 (by omega)
                replace e0 := e0.newB1 e14_2 (by first | exact .inl (by omega) | exact .inr rfl | exact .inr (.inl rfl) | exact .inr (.inr (by omega)))
                replace hb12 := e14_2.at1 hb12 (by omega)
                replace hb14 := e14_2.at1 hb14 (by omega)
                replace hb6 := hq14_2
                clear hq14_2
                refine runl_ev (ev_assign rfl) ?_
                refine runl_ev (ev_assign rfl) ?_
                refine runl_nil ?_
                refine run_ret_any Try.func17 (resCTT Try.results17 rfl (loadVar_agg agg_27 (Tgt.cells_length hwf88) (cells_all hb6)) rfl rfl) ?_
                obtain ⟨y, hy⟩ := Option.isSome_iff_exists.1 h4
                rw [← hrem, askL_hit hp hz1 hya hy]
                rw [hy] at hwf88 ⊢
                exact ⟨rfl, _, _, ⟨hs, own, E, e0, by omega, by omega, hgd, hwf88⟩⟩
              · refine run_skip ?_
                have hnn : (rec kk ⟨asked, ov⟩).1 = none := by simpa using h4
                exact JJ ((rec kk ⟨asked, ov⟩).2, av2, g2) _ _ ⟨rfl, rfl, rfl, rfl, rfl, rfl, rfl, rfl, trivial⟩ ⟨hb3, hb6, hb9, hb12, hs, own, E, e0, (by show g2 = g ∨ _ ≤ g2; omega), (by show g2 < _; omega), (by show g2 ≠ _; omega), (by show g2 ≠ _; omega), (by show g2 ≠ _; omega), (by show g2 ≠ _; omega), hgd, by rw [← askL_yes hp hz1 hya hnn]; exact hrem⟩
            · have hna : (⟨asked, ov⟩ : FSt).asks (decide (deep < 4)) (placeOf l d.name) = false := by rw [hz1, asks_in (by omega) hdp]; exact h3
              refine run_skip ?_
              exact JJ (⟨asked, ov⟩, _, g1) _ _ ⟨rfl, rfl, rfl, rfl, rfl, rfl, rfl, rfl, trivial⟩ ⟨hb3, hb6, hb9, hb12, hs, own, E, e0, hg1, (by show g1 < _; omega), hn1, hn3, hn6, hn9, hgd, by rw [← askL_no hp hna]; exact hrem⟩
    · refine run_exit rfl ?_
      refine run_seq ?_
      refine run_region rfl ?_
      refine runl_ev (ev_build (out := Tgt.zero.cells) ps_27 zero_27 rfl rfl (rfl)) ?_
      refine runl_do (t_storeW sz_27 rfl rfl rfl rfl hb6 (Tgt.one Tgt.zero)) ?_
      rintro _ v18_1x2 ⟨hq18_1x2, e18_1x2, z18_1x2⟩
      replace hb3 := e18_1x2.at1 hb3 (by omega)
      replace hb9 := e18_1x2.at1 hb9 (by omega)
      replace hs := e18_1x2.at1 hs (by omega)
      replace own := own.ext1 e18_1x2 (by omega)
      replace E := E.new1 e18_1x2 (by omega)
      replace e0 := e0.newB1 e18_1x2 (by first | exact .inl (by omega) | exact .inr rfl | exact .inr (.inl rfl) | exact .inr (.inr (by omega)))
      replace hb6 := hq18_1x2
      clear hq18_1x2
      refine runl_ev (ev_assign rfl) ?_
      refine runl_ev (ev_assign rfl) ?_
      refine runl_nil ?_
      refine run_ret_any Try.func17 (resCTT Try.results17 rfl (loadVar_agg agg_27 rfl (cells_all hb6)) rfl rfl) ?_
      obtain rfl : k = t.d.length := by omega
      rw [List.drop_length, askL] at hrem
      rw [← hrem]
      exact ⟨rfl, _, _, ⟨hs, own, E, e0, by omega, by omega, hgd, Tgt.zero_wf⟩⟩
