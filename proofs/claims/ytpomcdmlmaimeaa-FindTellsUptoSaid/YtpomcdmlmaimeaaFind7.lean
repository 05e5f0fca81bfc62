/- The walks of the reference's search, and of the law FindTells. -/
import Derived.Test.YtpomcdmlmaimeaaFind4
import Derived.Test.YtpomcdmlmaimeaaFind6M
namespace Go.Proofs.Ytpomcdmlmaimeaa
open Go Go.Fw
set_option maxRecDepth 100000
/-- The reference's loop: over, or on with the rest. -/
def askO (rec : Nat → FSt → Ans × FSt) (can : Bool) (l : List Tgs) (name : ByteArray) (r : List Del) (st : FSt) : Ans × FSt :=
  if st.over = true then (none, ⟨st.asked, true⟩) else askL rec can l name r ⟨st.asked, false⟩
theorem askO_nil {rec : Nat → FSt → Ans × FSt} {can : Bool} {l : List Tgs} {name : ByteArray} {st : FSt} : askO rec can l name [] st = (none, st) := by
  obtain ⟨a, o⟩ := st
  cases o <;> rfl
theorem askO_R {rec : Nat → FSt → Ans × FSt} {can : Bool} {l : List Tgs} {name : ByteArray} {d : Del} {r : List Del} {a : List Int} {o : Bool} : askR rec can l name d r ⟨a, o⟩ = askO rec can l name r ⟨a, o || d.last⟩ := rfl

theorem place_any (l : List Tgs) (w w0 : World) (E0 : Ext w0 w) (a : Option Addr) (len cap : Nat) (hl : SlAt 5 RTgs w0 (.slice a len cap) l) (sb : Nat) (v1 v2 v3 : Value) (T : TypeId) (fr : Nat × Nat) (nm : ByteArray) (hll : l.length ≤ 1048576)
    (hs : w.heap[sb]? = some (.cells ⟨[.slice a len cap, v1, v2, v3]⟩ T fr)) :
    Ret Try.prog 26 [.pointer (some ⟨sb, 0, none⟩), .string nm] w fun r w' => r = .int .i64 (placeOf l nm) ∧ Ext w w' := by
  obtain ⟨rfl, hat⟩ := hl.at
  have e := ExtB.refl (fun _ => False) w
  refine ret_of_run Try.func26 rfl Try.ntmps26 rfl ?_
  refine run_seq ?_
  refine run_region rfl ?_
  refine runl_ev (ev_assign rfl) ?_
  refine runl_nil ?_
  refine run_seq ?_
  refine run_seq ?_
  refine run_region rfl ?_
  refine runl_ev (ev_assign rfl) ?_
  refine runl_nil ?_
  refine run_block ?_
  refine run_loop (ι := Nat) (fun k => [(0, .pointer (some ⟨sb, 0, none⟩)), (1, .string nm), (5, .int .i64 (k : Int))]) (fun k w' => k ≤ l.length ∧ (∀ j x, j < k → l[j]? = some x → decide (x.name = nm) = false) ∧ w'.heap[sb]? = some (.cells ⟨[.slice a l.length cap, v1, v2, v3]⟩ T fr) ∧ Ext w w') (fun k => l.length - k) (0) ⟨rfl, rfl, rfl, trivial⟩ (⟨Nat.zero_le _, fun j _ hj => by omega, hs, e⟩) ?_
  clear e hs
  intro k w1 ⟨hk, hno, hs, e⟩ IH
  refine run_seq ?_
  refine run_seq ?_
  refine run_region rfl ?_
  refine runl_ev (ev_move rfl) ?_
  refine runl_ev (ev_move rfl) ?_
  refine runl_ev (ev_nilCheck rfl) ?_
  refine runl_ev (ev_fieldAddr fld_57_0 rfl) ?_
  refine runl_ev (ev_load1 cell_22 rfl (eqw (cell_blk hs rfl))) ?_
  refine runl_ev (ev_lenL sl_22 rfl) ?_
  refine runl_ev (ev_lss rfl rfl) ?_
  refine runl_nil ?_
  refine run_dcond rfl (fun h0 => ?_) (fun h0 => ?_)
  · have hk1 : k < l.length := by omega
    obtain ⟨b, o, cs, rfl, hr, hc⟩ := hat k hk1
    obtain ⟨lv, dv, rfl, _, _⟩ := hr
    refine run_skip ?_
    refine run_seq ?_
    refine run_block ?_
    refine run_seq ?_
    refine run_region rfl ?_
    refine runl_ev (ev_move rfl) ?_
    refine runl_ev (ev_nilCheck rfl) ?_
    refine runl_ev (ev_fieldAddr fld_57_0 rfl) ?_
    refine runl_ev (ev_load1 cell_22 rfl (eqw (cell_blk hs rfl))) ?_
    refine runl_ev (ev_move rfl) ?_
    refine runl_ev (ev_indexAddr el_22 rfl rfl (by omega)) ?_
    refine runl_ev (ev_fieldAddr fld_33_0 rfl) ?_
    refine runl_ev (ev_load1 cell_9 rfl (eqw ((hc.ext (E0.trans e)).pick 0 rfl rfl))) ?_
    refine runl_ev (ev_move rfl) ?_
    refine runl_ev (ev_eqlS rfl rfl) ?_
    refine runl_nil ?_
    refine run_cond_split rfl (fun h1 => ?_) (fun h1 => ?_)
    · refine run_seq ?_
      refine run_region rfl ?_
      refine runl_ev (ev_move rfl) ?_
      refine runl_ev (ev_assign rfl) ?_
      refine runl_nil ?_
      refine run_ret_any Try.func26 (res1 Try.results26 rfl) ?_
      exact ⟨by rw [placeOf, idxOf_hit hk1 hno h1], e⟩
    · refine run_skip ?_
      refine run_inBlock ?_
      refine run_region rfl ?_
      refine runl_ev (ev_move rfl) ?_
      refine runl_ev (ev_add rfl rfl (by omega) (by omega)) ?_
      refine runl_ev (ev_assign rfl) ?_
      refine runl_nil ?_
      exact IH (k + 1) _ _ (by omega) ⟨rfl, rfl, rfl, trivial⟩ ⟨by omega, idxOf_snoc hk1 hno h1, hs, e⟩
  · refine run_exit rfl ?_
    refine run_seq ?_
    refine run_region rfl ?_
    refine runl_ev (ev_assign rfl) ?_
    refine runl_nil ?_
    refine run_ret_any Try.func26 (res1 Try.results26 rfl) ?_
    obtain rfl : k = l.length := by omega
    exact ⟨by rw [placeOf, idxOf_none hno], e⟩
theorem rsk_step (l : List Tgs) (lv : Value) (w0 : World) (hl : SlAt 5 RTgs w0 lv l) (hll : l.length ≤ 1048576) (hdl : ∀ t ∈ l, t.l.length ≤ 1048576 ∧ t.d.length ≤ 1048576) (name : ByteArray) (hname : name.size ≤ 1099511627776)
    (hpf : ∀ t ∈ l, ∀ d ∈ t.d, d.pfx.size ≤ 1099511627776) (deep : Int) (rec : Nat → FSt → Ans × FSt) (hd1 : 1 ≤ deep) (hd2 : deep ≤ 4)
    (hrec : deep < 4 → ∀ (i : Nat) (st : FSt) (w : World) (sb gb : Nat), RskPre 57 4 w0 w sb gb lv name l i st →
      Ret Try.prog 18 [.pointer (some ⟨sb, 0, none⟩), .int .i64 (i : Int), .int .i64 (deep + 1)] w (RskP 57 4 w0 w sb gb lv name l (rec i st)))
    (i : Nat) (st : FSt) (w : World) (sb gb : Nat) (pre : RskPre 57 4 w0 w sb gb lv name l i st) :
    Ret Try.prog 18 [.pointer (some ⟨sb, 0, none⟩), .int .i64 (i : Int), .int .i64 deep] w (RskP 57 4 w0 w sb gb lv name l (askB rec (decide (deep < 4)) l name i st)) := by
  refine ret_of_run Try.func18 rfl Try.ntmps18 rfl ?_
  refine run_seq ?_
  obtain ⟨hs, hg, E, hsb, hgb, hne, hgood, hni, hi, hov⟩ := pre
  have hl0 := hl
  obtain ⟨a0, cap, rfl, hat⟩ := hl
  obtain ⟨t, ht⟩ : ∃ t, l[i]? = some t := ⟨l[i], by simp⟩
  obtain ⟨bb, oo, cs, rfl, hr, hc⟩ := hat i t ht
  obtain ⟨lv1, dv, rfl, hL, hD⟩ := hr
  obtain ⟨a1, c1, rfl, hL1⟩ := hL
  obtain ⟨a2, c2, rfl, hD1⟩ := hD
  have htm : t ∈ l := List.mem_of_getElem? ht
  have htl := hdl t htm
  have e0 := ExtB.refl (fun k => k = sb ∨ k = gb) w
  have hlsb := lt_of_at hs
  have hlgb := lt_of_at hg
  have hgd : (⟨st.asked ++ [(i : Int)], false⟩ : FSt).good l := good_snoc hgood hi hni
  refine run_region rfl ?_
  refine runl_op (t_alloc zero_27 rfl) ?_
  rintro _ w6 ⟨b6, rfl, hb6, e6, n6, l6⟩
  have z6 := e6.size
  replace hs := e6.at hs
  replace hg := e6.at hg
  replace E := E.trans e6
  replace e0 := e0.trans e6.toB
  refine runl_ev (ev_assign rfl) ?_
  refine runl_ev (ev_assign rfl) ?_
  refine runl_nil ?_
  refine run_seq ?_
  refine run_region rfl ?_
  refine runl_ev (ev_move rfl) ?_
  refine runl_ev (ev_nilCheck rfl) ?_
  refine runl_ev (ev_fieldAddr fld_57_2 rfl) ?_
  refine runl_ev (ev_load1 cell_55 rfl (eqw (cell_blk hs rfl))) ?_
  refine runl_ev (ev_move rfl) ?_
  refine runl_ev (ev_indexAddr (k := i) el_55 rfl rfl (hi)) ?_
  refine runl_do (t_store1 sz_4 rfl rfl rfl rfl hg (by rw [seenOf_length]; omega)) ?_
  rintro _ v1_6 ⟨hq1_6, e1_6, z1_6⟩
  replace hs := e1_6.at1 hs (by omega)
  replace E := E.new1 e1_6 (by omega)
  replace e0 := e0.newB1 e1_6 (by first | exact .inl (by omega) | exact .inr rfl | exact .inr (.inl rfl) | exact .inr (.inr (by omega)))
  replace hb6 := e1_6.at1 hb6 (by omega)
  replace hg := hq1_6
  clear hq1_6
  refine runl_nil ?_
  rw [show (0 + i * 1) = i by omega, seenOf_set hi] at hg
  refine run_seq ?_
  refine run_region rfl ?_
  refine runl_ev (ev_move rfl) ?_
  refine runl_ev (ev_nilCheck rfl) ?_
  refine runl_ev (ev_fieldAddr fld_57_0 rfl) ?_
  refine runl_ev (ev_load1 cell_22 rfl (eqw (cell_blk hs rfl))) ?_
  refine runl_ev (ev_move rfl) ?_
  refine runl_ev (ev_indexAddr (k := i) el_22 rfl rfl (hi)) ?_
  refine runl_ev (ev_loadA agg_33 rfl rfl (eqw (hc.ext E))) ?_
  refine runl_op (t_alloc zero_33 rfl) ?_
  rintro _ w9 ⟨b9, rfl, hb9, e9, n9, l9⟩
  have z9 := e9.size
  replace hs := e9.at hs
  replace hg := e9.at hg
  replace E := E.trans e9
  replace e0 := e0.trans e9.toB
  replace hb6 := e9.at hb6
  refine runl_do (t_storeW sz_33 rfl rfl rfl rfl hb9 (by simp)) ?_
  rintro _ v2_8 ⟨hq2_8, e2_8, z2_8⟩
  replace hs := e2_8.at1 hs (by omega)
  replace hg := e2_8.at1 hg (by omega)
  replace E := E.new1 e2_8 (by omega)
  replace e0 := e0.newB1 e2_8 (by first | exact .inl (by omega) | exact .inr rfl | exact .inr (.inl rfl) | exact .inr (.inr (by omega)))
  replace hb6 := e2_8.at1 hb6 (by omega)
  replace hb9 := hq2_8
  clear hq2_8
  refine runl_nil ?_
  refine run_seq ?_
  refine run_seq ?_
  refine run_region rfl ?_
  refine runl_ev (ev_assign rfl) ?_
  refine runl_nil ?_
  refine run_block ?_
  refine run_loop (ι := Nat) (fun k => [(0, .pointer (some ⟨sb, 0, none⟩)), (1, .int .i64 (i : Int)), (2, .int .i64 deep), (6, .pointer (some ⟨b6, 0, none⟩)), (7, .string ⟨#[]⟩), (8, .bool false), (9, .pointer (some ⟨b9, 0, none⟩)), (10, .int .i64 (k : Int))]) (fun k w' => k ≤ t.l.length ∧ (∀ j x, j < k → t.l[j]? = some x → decide (x.name = name) = false) ∧ w'.heap[b6]? = some (.cells ⟨Tgt.zero.cells⟩ 27 (0, 0)) ∧ w'.heap[b9]? = some (.cells ⟨[.string t.name, .int .i64 t.ver, .int .i64 t.exp, .slice a1 t.l.length c1, .slice a2 t.d.length c2]⟩ 33 (0, 0)) ∧ w'.heap[sb]? = some (.cells ⟨[.slice (some ⟨bb, oo, none⟩) l.length cap, .string name, .slice (some ⟨gb, 0, none⟩) l.length l.length, .bool false]⟩ 57 (0, 0)) ∧ w'.heap[gb]? = some (.cells ⟨seenOf l.length (st.asked ++ [(i : Int)])⟩ 4 (0, 0)) ∧ Ext w0 w' ∧ ExtB (fun k => k = sb ∨ k = gb) w w') (fun k => t.l.length - k) (0) ⟨rfl, rfl, rfl, rfl, rfl, rfl, rfl, rfl, trivial⟩ (⟨Nat.zero_le _, fun j _ hj => by omega, hb6, hb9, hs, hg, E, e0⟩) ?_
  clear hs hg E e0 hb6 hb9
  intro k w1 ⟨hk, hno, hb6, hb9, hs, hg, E, e0⟩ IH
  have l6 := lt_of_at hb6
  have l9 := lt_of_at hb9
  have lsb := lt_of_at hs
  have lgb := lt_of_at hg
  have zl := E.size
  have zl0 := e0.size
  refine run_seq ?_
  refine run_seq ?_
  refine run_region rfl ?_
  refine runl_ev (ev_move rfl) ?_
  refine runl_ev (ev_fieldAddr fld_33_3 rfl) ?_
  refine runl_ev (ev_load1 cell_30 rfl (eqw (cell_blk hb9 rfl))) ?_
  refine runl_ev (ev_lenL sl_30 rfl) ?_
  refine runl_ev (ev_lss rfl rfl) ?_
  refine runl_nil ?_
  refine run_dcond rfl (fun h0 => ?_) (fun h0 => ?_)
  · have hk1 : k < t.l.length := by omega
    obtain ⟨b1, o1, cs1, rfl, ⟨hwf, rfl⟩, hc1⟩ := hL1 k _ (List.getElem?_eq_getElem hk1)
    refine run_skip ?_
    refine run_seq ?_
    refine run_block ?_
    refine run_seq ?_
    refine run_draw mo (fun w' => Ext w1 w') [] [(true, 0), (true, 1), (true, 2), (true, 3), (true, 4), (true, 5), (true, 6), (true, 7), (true, 8), (true, 9), (true, 10)] (by kernel_rfl) ?_
    intro wr6 er6
    have zr6 := er6.size
    have hsr6 := er6
    refine rund_ev hsr6 rfl (ev_fieldAddr fld_33_3 rfl) ?_
    refine rund_ev hsr6 rfl (ev_load1 cell_30 rfl (fun wz hz => cell_blk (hz.at hb9) rfl)) ?_
    refine rund_ev hsr6 rfl (ev_move rfl) ?_
    refine rund_ev hsr6 rfl (ev_indexAddr el_30 rfl rfl (by omega)) ?_
    refine rund_ev hsr6 rfl (ev_fieldAddr fld_27_0 rfl) ?_
    refine rund_ev hsr6 rfl (ev_load1 cell_9 rfl (fun wz hz => (hc1.ext (E.trans hz)).pick 0 rfl rfl)) ?_
    refine rund_ev hsr6 rfl (ev_move rfl) ?_
    refine rund_ev hsr6 rfl (ev_nilCheck rfl) ?_
    refine rund_ev hsr6 rfl (ev_fieldAddr fld_57_1 rfl) ?_
    refine rund_ev hsr6 rfl (ev_load1 cell_9 rfl (fun wz hz => cell_blk (hz.at hs) rfl)) ?_
    refine rund_ev hsr6 rfl (ev_eqlS rfl rfl) ?_
    refine rund_nil ?_
    replace hb6 := er6.at hb6
    replace hb9 := er6.at hb9
    replace hs := er6.at hs
    replace hg := er6.at hg
    replace E := E.trans er6
    replace e0 := e0.trans er6.toB
    refine run_cond_split rfl (fun h1 => ?_) (fun h1 => ?_)
    · refine run_seq ?_
      refine run_draw mo (fun w' => ExtB (fun k => k = b6) wr6 w') [] [(true, 0), (true, 1), (true, 2), (true, 3), (true, 4), (true, 5), (true, 6), (false, 7), (true, 8), (true, 9)] (by kernel_rfl) ?_
      intro wr7 er7
      have zr7 := er7.size
      have hsr7 : (fun w' => ExtB (fun k => k = b6) wr6 w') wr7 := er7.toB
      have hb6p := er7.at hb6
      have hb9p := er7.at hb9
      have hsp := er7.at hs
      have hgp := er7.at hg
      have Ep := E.trans er7
      have e0p := e0.trans er7.toB
      refine rund_ev hsr7 rfl (ev_fieldAddr fld_33_3 rfl) ?_
      refine rund_ev hsr7 rfl (ev_load1 cell_30 rfl (fun wz hz => cell_blk (hz.at1 hb9 (by omega)) rfl)) ?_
      refine rund_ev hsr7 rfl (ev_move rfl) ?_
      refine rund_ev hsr7 rfl (ev_indexAddr el_30 rfl rfl (by omega)) ?_
      refine rund_ev hsr7 rfl (ev_loadA agg_27 (Tgt.cells_length hwf) rfl (fun wz hz => hc1.ext (E.new1 hz (by omega)))) ?_
      refine rund_ev hsr7 rfl (ev_fieldAddr fld_33_0 rfl) ?_
      refine rund_ev hsr7 rfl (ev_load1 cell_9 rfl (fun wz hz => cell_blk (hz.at1 hb9 (by omega)) rfl)) ?_
      refine rund_do rfl (t_storeW sz_27 rfl rfl (Tgt.cells_length hwf) rfl hb6p (Tgt.one _)) ?_
      rintro _ v7_7 ⟨hq7_7, e7_7, z7_7⟩
      replace hb9p := e7_7.at1 hb9p (by omega)
      replace hsp := e7_7.at1 hsp (by omega)
      replace hgp := e7_7.at1 hgp (by omega)
      replace Ep := Ep.new1 e7_7 (by omega)
      replace e0p := e0p.newB1 e7_7 (by first | exact .inl (by omega) | exact .inr rfl | exact .inr (.inl rfl) | exact .inr (.inr (by omega)))
      replace hb6p := hq7_7
      clear hq7_7
      have hs7_7 := hsr7.newB1 e7_7 (by first | exact .inl (by omega) | exact .inr rfl | (right; simp; done) | (right; simp; omega))
      refine ⟨hs7_7, ?_⟩
      refine rund_ev hs7_7 rfl (ev_assign rfl) ?_
      refine rund_ev hs7_7 rfl (ev_assign rfl) ?_
      refine rund_nil ?_
      replace hb6 := hb6p
      clear hb6p
      replace hb9 := hb9p
      clear hb9p
      replace hs := hsp
      clear hsp
      replace hg := hgp
      clear hgp
      replace E := Ep
      clear Ep
      replace e0 := e0p
      clear e0p
      refine run_ret_any Try.func18 (resCTT Try.results18 rfl (loadVar_agg agg_27 (Tgt.cells_length hwf) (cells_all hb6)) rfl rfl) ?_
      have hkk : idxOf (fun x : Tgt => decide (x.name = name)) t.l = k := idxOf_hit hk1 hno h1
      rw [askB_own ht hkk (List.getElem?_eq_getElem hk1), hov]
      exact ⟨rfl, ⟨hs, hg, E, e0, hgd, hwf⟩⟩
    · refine run_skip ?_
      refine run_inBlock ?_
      refine run_region rfl ?_
      refine runl_ev (ev_move rfl) ?_
      refine runl_ev (ev_add rfl rfl (by omega) (by omega)) ?_
      refine runl_ev (ev_assign rfl) ?_
      refine runl_nil ?_
      exact IH (k + 1) _ _ (by omega) ⟨rfl, rfl, rfl, rfl, rfl, rfl, rfl, rfl, trivial⟩ ⟨by omega, idxOf_snoc hk1 hno h1, hb6, hb9, hs, hg, E, e0⟩
  · refine run_exit rfl ?_
    refine run_seq ?_
    refine run_seq ?_
    obtain rfl : k = t.l.length := by omega
    have hno1 : idxOf (fun x : Tgt => decide (x.name = name)) t.l = -1 := idxOf_none hno
    rw [askB_loop ht (by omega), hov]
    refine run_region rfl ?_
    refine runl_ev (ev_assign rfl) ?_
    refine runl_nil ?_
    refine run_block ?_
    refine run_loop (ι := Nat × FSt) (fun x => [(0, .pointer (some ⟨sb, 0, none⟩)), (1, .int .i64 (i : Int)), (2, .int .i64 deep), (6, .pointer (some ⟨b6, 0, none⟩)), (7, .string ⟨#[]⟩), (8, .bool false), (9, .pointer (some ⟨b9, 0, none⟩)), (11, .int .i64 (x.1 : Int))]) (fun x w' => x.1 ≤ t.d.length ∧ x.2.good l ∧ askO rec (decide (deep < 4)) l name (t.d.drop x.1) x.2 = askL rec (decide (deep < 4)) l name t.d ⟨st.asked ++ [(i : Int)], false⟩ ∧ w'.heap[b6]? = some (.cells ⟨Tgt.zero.cells⟩ 27 (0, 0)) ∧ w'.heap[b9]? = some (.cells ⟨[.string t.name, .int .i64 t.ver, .int .i64 t.exp, .slice a1 t.l.length c1, .slice a2 t.d.length c2]⟩ 33 (0, 0)) ∧ w'.heap[sb]? = some (.cells ⟨[.slice (some ⟨bb, oo, none⟩) l.length cap, .string name, .slice (some ⟨gb, 0, none⟩) l.length l.length, .bool x.2.over]⟩ 57 (0, 0)) ∧ w'.heap[gb]? = some (.cells ⟨seenOf l.length x.2.asked⟩ 4 (0, 0)) ∧ Ext w0 w' ∧ ExtB (fun k => k = sb ∨ k = gb) w w') (fun x => t.d.length - x.1) ((0, ⟨st.asked ++ [(i : Int)], false⟩)) ⟨rfl, rfl, rfl, rfl, rfl, rfl, rfl, rfl, trivial⟩ (⟨Nat.zero_le _, hgd, rfl, hb6, hb9, hs, hg, E, e0⟩) ?_
    clear hs hg E e0 hb6 hb9 hgd
    intro ⟨k, ⟨asked, ov⟩⟩ w2 ⟨hk, hgd, hrem, hb6, hb9, hs, hg, E, e0⟩ IH
    simp only at hk hgd hrem hs hg
    have l6 := lt_of_at hb6
    have l9 := lt_of_at hb9
    have lsb := lt_of_at hs
    have lgb := lt_of_at hg
    have zl := E.size
    have zl0 := e0.size
    refine run_seq ?_
    refine run_seq ?_
    have hcs : k = t.d.length ∨ (k < t.d.length ∧ ov = true) ∨ (k < t.d.length ∧ ov = false) := by cases ov <;> simp <;> omega
    rcases hcs with rfl | ⟨hk1, rfl⟩ | ⟨hk1, rfl⟩
    · refine run_region rfl ?_
      refine runl_ev (ev_move rfl) ?_
      refine runl_ev (ev_fieldAddr fld_33_4 rfl) ?_
      refine runl_ev (ev_load1 cell_31 rfl (eqw (cell_blk hb9 rfl))) ?_
      refine runl_ev (ev_lenL sl_31 rfl) ?_
      refine runl_ev (ev_lss rfl rfl) ?_
      refine runl_ev (ev_move rfl) ?_
      refine runl_no_g rfl rfl (decide_eq_false (by omega)) ?_
      refine runl_no_g rfl rfl (decide_eq_false (by omega)) ?_
      refine runl_no_g rfl rfl (decide_eq_false (by omega)) ?_
      refine runl_no_g rfl rfl (decide_eq_false (by omega)) ?_
      refine runl_no_g rfl rfl (decide_eq_false (by omega)) ?_
      refine runl_ev (ev_pick rfl rfl rfl (if_neg (by simp))) ?_
      refine runl_nil ?_
      refine run_cond_false rfl (rfl) ?_
      refine run_exit rfl ?_
      refine run_seq ?_
      refine run_region rfl ?_
      refine runl_ev (ev_build (out := Tgt.zero.cells) ps_27 zero_27 rfl rfl (rfl)) ?_
      refine runl_do (t_storeW sz_27 rfl rfl rfl rfl hb6 (Tgt.one Tgt.zero)) ?_
      rintro _ v19_1 ⟨hq19_1, e19_1, z19_1⟩
      replace hb9 := e19_1.at1 hb9 (by omega)
      replace hs := e19_1.at1 hs (by omega)
      replace hg := e19_1.at1 hg (by omega)
      replace E := E.new1 e19_1 (by omega)
      replace e0 := e0.newB1 e19_1 (by first | exact .inl (by omega) | exact .inr rfl | exact .inr (.inl rfl) | exact .inr (.inr (by omega)))
      replace hb6 := hq19_1
      clear hq19_1
      refine runl_ev (ev_assign rfl) ?_
      refine runl_ev (ev_assign rfl) ?_
      refine runl_nil ?_
      refine run_ret_any Try.func18 (resCTT Try.results18 rfl (loadVar_agg agg_27 Tgt.cells_zero_len (cells_all hb6)) rfl rfl) ?_
      rw [List.drop_length, askO_nil] at hrem
      rw [← hrem]
      exact ⟨rfl, ⟨hs, hg, E, e0, hgd, Tgt.zero_wf⟩⟩
    · refine run_region rfl ?_
      refine runl_ev (ev_move rfl) ?_
      refine runl_ev (ev_fieldAddr fld_33_4 rfl) ?_
      refine runl_ev (ev_load1 cell_31 rfl (eqw (cell_blk hb9 rfl))) ?_
      refine runl_ev (ev_lenL sl_31 rfl) ?_
      refine runl_ev (ev_lss rfl rfl) ?_
      refine runl_ev (ev_move rfl) ?_
      refine runl_ev_g rfl rfl (decide_eq_true (by omega)) (ev_move rfl) ?_
      refine runl_ev_g rfl rfl (decide_eq_true (by omega)) (ev_nilCheck rfl) ?_
      refine runl_ev_g rfl rfl (decide_eq_true (by omega)) (ev_fieldAddr fld_57_3 rfl) ?_
      refine runl_ev_g rfl rfl (decide_eq_true (by omega)) (ev_load1 cell_4 rfl (eqw (cell_blk hs rfl))) ?_
      refine runl_ev_g rfl rfl (decide_eq_true (by omega)) (ev_not rfl) ?_
      refine runl_ev (ev_pick rfl rfl rfl (if_pos (by simp; omega))) ?_
      refine runl_nil ?_
      refine run_cond_false rfl (rfl) ?_
      refine run_exit rfl ?_
      refine run_seq ?_
      refine run_region rfl ?_
      refine runl_ev (ev_build (out := Tgt.zero.cells) ps_27 zero_27 rfl rfl (rfl)) ?_
      refine runl_do (t_storeW sz_27 rfl rfl rfl rfl hb6 (Tgt.one Tgt.zero)) ?_
      rintro _ v19_1x1 ⟨hq19_1x1, e19_1x1, z19_1x1⟩
      replace hb9 := e19_1x1.at1 hb9 (by omega)
      replace hs := e19_1x1.at1 hs (by omega)
      replace hg := e19_1x1.at1 hg (by omega)
      replace E := E.new1 e19_1x1 (by omega)
      replace e0 := e0.newB1 e19_1x1 (by first | exact .inl (by omega) | exact .inr rfl | exact .inr (.inl rfl) | exact .inr (.inr (by omega)))
      replace hb6 := hq19_1x1
      clear hq19_1x1
      refine runl_ev (ev_assign rfl) ?_
      refine runl_ev (ev_assign rfl) ?_
      refine runl_nil ?_
      refine run_ret_any Try.func18 (resCTT Try.results18 rfl (loadVar_agg agg_27 Tgt.cells_zero_len (cells_all hb6)) rfl rfl) ?_
      rw [← hrem]
      exact ⟨rfl, ⟨hs, hg, E, e0, hgd, Tgt.zero_wf⟩⟩
    · refine run_region rfl ?_
      refine runl_ev (ev_move rfl) ?_
      refine runl_ev (ev_fieldAddr fld_33_4 rfl) ?_
      refine runl_ev (ev_load1 cell_31 rfl (eqw (cell_blk hb9 rfl))) ?_
      refine runl_ev (ev_lenL sl_31 rfl) ?_
      refine runl_ev (ev_lss rfl rfl) ?_
      refine runl_ev (ev_move rfl) ?_
      refine runl_ev_g rfl rfl (decide_eq_true (by omega)) (ev_move rfl) ?_
      refine runl_ev_g rfl rfl (decide_eq_true (by omega)) (ev_nilCheck rfl) ?_
      refine runl_ev_g rfl rfl (decide_eq_true (by omega)) (ev_fieldAddr fld_57_3 rfl) ?_
      refine runl_ev_g rfl rfl (decide_eq_true (by omega)) (ev_load1 cell_4 rfl (eqw (cell_blk hs rfl))) ?_
      refine runl_ev_g rfl rfl (decide_eq_true (by omega)) (ev_not rfl) ?_
      refine runl_ev (ev_pick rfl rfl rfl (if_pos (by simp; omega))) ?_
      refine runl_nil ?_
      refine run_cond_true rfl (rfl) ?_
      refine run_skip ?_
      refine run_seq ?_
      refine run_block ?_
      refine run_seq ?_
      obtain ⟨d, hd⟩ : ∃ d, t.d[k]? = some d := ⟨t.d[k], by simp⟩
      obtain ⟨bD, oD, csD, rfl, hrD, hcD⟩ := hD1 k d hd
      obtain ⟨ka, kn, kc, need, rfl⟩ := hrD
      have hdm : d ∈ t.d := List.mem_of_getElem? hd
      have hdrop := drop_of_get hd
      rw [hdrop] at hrem
      have hrem : askL rec (decide (deep < 4)) l name (d :: t.d.drop (k + 1)) ⟨asked, false⟩ = _ := hrem
      have hps := hpf t htm d hdm
      refine run_region rfl ?_
      refine runl_ev (ev_fieldAddr fld_33_4 rfl) ?_
      refine runl_ev (ev_load1 cell_31 rfl (eqw (cell_blk hb9 rfl))) ?_
      refine runl_ev (ev_move rfl) ?_
      refine runl_ev (ev_indexAddr (k := k) el_31 rfl rfl (hk1)) ?_
      refine runl_ev (ev_loadA agg_40 rfl rfl (eqw (hcD.ext E))) ?_
      refine runl_op (t_alloc zero_40 rfl) ?_
      rintro _ w12 ⟨b12, rfl, hb12, e12, n12, l12⟩
      have z12 := e12.size
      replace hb6 := e12.at hb6
      replace hb9 := e12.at hb9
      replace hs := e12.at hs
      replace hg := e12.at hg
      replace E := E.trans e12
      replace e0 := e0.trans e12.toB
      refine runl_do (t_storeW sz_40 rfl rfl rfl rfl hb12 (by simp)) ?_
      rintro _ v11_6 ⟨hq11_6, e11_6, z11_6⟩
      replace hb6 := e11_6.at1 hb6 (by omega)
      replace hb9 := e11_6.at1 hb9 (by omega)
      replace hs := e11_6.at1 hs (by omega)
      replace hg := e11_6.at1 hg (by omega)
      replace E := E.new1 e11_6 (by omega)
      replace e0 := e0.newB1 e11_6 (by first | exact .inl (by omega) | exact .inr rfl | exact .inr (.inl rfl) | exact .inr (.inr (by omega)))
      replace hb12 := hq11_6
      clear hq11_6
      refine runl_nil ?_
      refine run_seq ?_
      refine run_seq ?_
      by_cases hsz : d.pfx.size ≤ name.size
      · refine run_draw mo (fun w' => Ext v11_6 w') [] [(true, 0), (true, 1), (true, 2), (true, 3), (true, 4), (true, 5), (true, 6), (true, 7), (true, 8), (true, 9), (true, 10), (true, 11), (true, 12), (true, 13), (true, 14), (true, 15), (true, 16), (true, 17), (true, 18), (true, 19), (true, 20), (true, 21)] (by kernel_rfl) ?_
        intro wr12 er12
        have zr12 := er12.size
        have hsr12 := er12
        refine rund_ev hsr12 rfl (ev_move rfl) ?_
        refine rund_ev hsr12 rfl (ev_nilCheck rfl) ?_
        refine rund_ev hsr12 rfl (ev_fieldAddr fld_57_1 rfl) ?_
        refine rund_ev hsr12 rfl (ev_load1 cell_9 rfl (fun wz hz => cell_blk (hz.at hs) rfl)) ?_
        refine rund_ev hsr12 rfl (ev_lenS str_9 rfl) ?_
        refine rund_ev hsr12 rfl (ev_fieldAddr fld_40_2 rfl) ?_
        refine rund_ev hsr12 rfl (ev_load1 cell_9 rfl (fun wz hz => cell_blk (hz.at hb12) rfl)) ?_
        refine rund_ev hsr12 rfl (ev_lenS str_9 rfl) ?_
        refine rund_ev hsr12 rfl (ev_lss rfl rfl) ?_
        refine rund_ev hsr12 rfl (ev_move rfl) ?_
        refine rund_ev_g hsr12 rfl rfl rfl (decide_eq_false (by omega)) (ev_move rfl) ?_
        refine rund_ev_g hsr12 rfl rfl rfl (decide_eq_false (by omega)) (ev_nilCheck rfl) ?_
        refine rund_ev_g hsr12 rfl rfl rfl (decide_eq_false (by omega)) (ev_fieldAddr fld_57_1 rfl) ?_
        refine rund_ev_g hsr12 rfl rfl rfl (decide_eq_false (by omega)) (ev_load1 cell_9 rfl (fun wz hz => cell_blk (hz.at hs) rfl)) ?_
        refine rund_ev_g hsr12 rfl rfl rfl (decide_eq_false (by omega)) (ev_fieldAddr fld_40_2 rfl) ?_
        refine rund_ev_g hsr12 rfl rfl rfl (decide_eq_false (by omega)) (ev_load1 cell_9 rfl (fun wz hz => cell_blk (hz.at hb12) rfl)) ?_
        refine rund_ev_g hsr12 rfl rfl rfl (decide_eq_false (by omega)) (ev_lenS str_9 rfl) ?_
        refine rund_ev_g hsr12 rfl rfl rfl (decide_eq_false (by omega)) (ev_sliceS_hi str_9 rfl rfl hsz) ?_
        refine rund_ev_g hsr12 rfl rfl rfl (decide_eq_false (by omega)) (ev_fieldAddr fld_40_2 rfl) ?_
        refine rund_ev_g hsr12 rfl rfl rfl (decide_eq_false (by omega)) (ev_load1 cell_9 rfl (fun wz hz => cell_blk (hz.at hb12) rfl)) ?_
        refine rund_ev_g hsr12 rfl rfl rfl (decide_eq_false (by omega)) (ev_neqS rfl rfl) ?_
        refine rund_ev hsr12 rfl (ev_pick rfl rfl rfl (if_neg (by simp; omega))) ?_
        refine rund_nil ?_
        replace hb6 := er12.at hb6
        replace hb9 := er12.at hb9
        replace hs := er12.at hs
        replace hg := er12.at hg
        replace E := E.trans er12
        replace e0 := e0.trans er12.toB
        replace hb12 := er12.at hb12
        refine run_cond_split rfl (fun h3 => ?_) (fun h3 => ?_)
        · have hp : hasPfx name d.pfx = false := by simpa [hasPfx, hsz] using h3
          rw [askL_skip hp] at hrem
          refine run_exit rfl ?_
          refine run_region rfl ?_
          refine runl_ev (ev_move rfl) ?_
          refine runl_ev (ev_add rfl rfl (by omega) (by omega)) ?_
          refine runl_ev (ev_assign rfl) ?_
          refine runl_nil ?_
          exact IH (k + 1, ⟨asked, false⟩) _ _ (by simp only; omega) ⟨rfl, rfl, rfl, rfl, rfl, rfl, rfl, rfl, trivial⟩ ⟨(by show k + 1 ≤ _; omega), hgd, hrem, hb6, hb9, hs, hg, E, e0⟩
        · have hp : hasPfx name d.pfx = true := by simpa [hasPfx, hsz] using h3
          refine run_skip ?_
          refine run_seq ?_
          refine run_region rfl ?_
          refine runl_ev (ev_move rfl) ?_
          refine runl_ev (ev_fieldAddr fld_40_0 rfl) ?_
          refine runl_ev (ev_load1 cell_9 rfl (eqw (cell_blk hb12 rfl))) ?_
          refine runl_op (t_call call_26 rfl (place_any l _ w0 E _ _ _ hl0 sb _ _ _ _ _ d.name hll hs)) ?_
          rintro _ w99 ⟨rfl, e99⟩
          have z99 := e99.size
          replace hb6 := e99.at hb6
          replace hb9 := e99.at hb9
          replace hs := e99.at hs
          replace hg := e99.at hg
          replace E := E.trans e99
          replace e0 := e0.trans e99.toB
          replace hb12 := e99.at hb12
          generalize hz : placeOf l d.name = z
          refine runl_ev (ev_assign rfl) ?_
          refine runl_nil ?_
          refine run_cut1 (ι := FSt) (fun x => [(0, .pointer (some ⟨sb, 0, none⟩)), (1, .int .i64 (i : Int)), (2, .int .i64 deep), (6, .pointer (some ⟨b6, 0, none⟩)), (7, .string ⟨#[]⟩), (8, .bool false), (9, .pointer (some ⟨b9, 0, none⟩)), (11, .int .i64 (k : Int)), (12, .pointer (some ⟨b12, 0, none⟩))]) (fun x w' => x.good l ∧ askR rec (decide (deep < 4)) l name d (t.d.drop (k + 1)) x = askL rec (decide (deep < 4)) l name t.d ⟨st.asked ++ [(i : Int)], false⟩ ∧ w'.heap[b12]? = some (.cells ⟨[.string d.name, .slice ka kn kc, .int .i64 need, .string d.pfx, .bool d.last]⟩ 40 (0, 0)) ∧ w'.heap[b6]? = some (.cells ⟨Tgt.zero.cells⟩ 27 (0, 0)) ∧ w'.heap[b9]? = some (.cells ⟨[.string t.name, .int .i64 t.ver, .int .i64 t.exp, .slice a1 t.l.length c1, .slice (some ⟨bD, oD, none⟩) t.d.length c2]⟩ 33 (0, 0)) ∧ w'.heap[sb]? = some (.cells ⟨[.slice (some ⟨bb, oo, none⟩) l.length cap, .string name, .slice (some ⟨gb, 0, none⟩) l.length l.length, .bool x.over]⟩ 57 (0, 0)) ∧ w'.heap[gb]? = some (.cells ⟨seenOf l.length x.asked⟩ 4 (0, 0)) ∧ Ext w0 w' ∧ ExtB (fun k => k = sb ∨ k = gb) w w') ?_ ?_
          · clear hs hg E e0 hb6 hb9 hb12 hgd hrem
            intro ⟨asked, ov⟩ w3 ⟨hgd, hrem, hb12, hb6, hb9, hs, hg, E, e0⟩
            simp only at hgd hrem hs hg
            have l12 := lt_of_at hb12
            have l6 := lt_of_at hb6
            have l9 := lt_of_at hb9
            have lsb := lt_of_at hs
            have lgb := lt_of_at hg
            have zl := E.size
            have zl0 := e0.size
            rw [askO_R] at hrem
            cases ov
            · refine run_region rfl ?_
              refine runl_ev (ev_move rfl) ?_
              refine runl_ev (ev_move rfl) ?_
              refine runl_ev (ev_nilCheck rfl) ?_
              refine runl_ev (ev_fieldAddr fld_57_3 rfl) ?_
              refine runl_ev (ev_load1 cell_4 rfl (eqw (cell_blk hs rfl))) ?_
              refine runl_ev (ev_move rfl) ?_
              refine runl_ev_g rfl rfl (rfl) (ev_fieldAddr fld_40_3 rfl) ?_
              refine runl_ev_g rfl rfl (rfl) (ev_load1 cell_4 rfl (eqw (cell_blk hb12 rfl))) ?_
              refine runl_ev (ev_pick rfl rfl rfl rfl) ?_
              refine runl_ev (ev_nilCheck rfl) ?_
              refine runl_ev (ev_fieldAddr fld_57_3 rfl) ?_
              refine runl_do (t_store1 sz_4 rfl rfl rfl rfl hs (by simp)) ?_
              rintro _ v18_11 ⟨hq18_11, e18_11, z18_11⟩
              replace hb6 := e18_11.at1 hb6 (by omega)
              replace hb9 := e18_11.at1 hb9 (by omega)
              replace hg := e18_11.at1 hg (by omega)
              replace E := E.new1 e18_11 (by omega)
              replace e0 := e0.newB1 e18_11 (by first | exact .inl (by omega) | exact .inr rfl | exact .inr (.inl rfl) | exact .inr (.inr (by omega)))
              replace hb12 := e18_11.at1 hb12 (by omega)
              replace hs := hq18_11
              clear hq18_11
              refine runl_nil ?_
              refine run_inBlock ?_
              refine run_region rfl ?_
              refine runl_ev (ev_move rfl) ?_
              refine runl_ev (ev_add rfl rfl (by omega) (by omega)) ?_
              refine runl_ev (ev_assign rfl) ?_
              refine runl_nil ?_
              exact IH (k + 1, ⟨asked, d.last⟩) _ _ (by simp only; omega) ⟨rfl, rfl, rfl, rfl, rfl, rfl, rfl, rfl, trivial⟩ ⟨(by show k + 1 ≤ _; omega), good_over hgd, hrem, hb6, hb9, hs, hg, E, e0⟩
            · refine run_region rfl ?_
              refine runl_ev (ev_move rfl) ?_
              refine runl_ev (ev_move rfl) ?_
              refine runl_ev (ev_nilCheck rfl) ?_
              refine runl_ev (ev_fieldAddr fld_57_3 rfl) ?_
              refine runl_ev (ev_load1 cell_4 rfl (eqw (cell_blk hs rfl))) ?_
              refine runl_ev (ev_move rfl) ?_
              refine runl_no_g rfl rfl (rfl) ?_
              refine runl_no_g rfl rfl (rfl) ?_
              refine runl_ev (ev_pick rfl rfl rfl rfl) ?_
              refine runl_ev (ev_nilCheck rfl) ?_
              refine runl_ev (ev_fieldAddr fld_57_3 rfl) ?_
              refine runl_do (t_store1 sz_4 rfl rfl rfl rfl hs (by simp)) ?_
              rintro _ v18_11x1 ⟨hq18_11x1, e18_11x1, z18_11x1⟩
              replace hb6 := e18_11x1.at1 hb6 (by omega)
              replace hb9 := e18_11x1.at1 hb9 (by omega)
              replace hg := e18_11x1.at1 hg (by omega)
              replace E := E.new1 e18_11x1 (by omega)
              replace e0 := e0.newB1 e18_11x1 (by first | exact .inl (by omega) | exact .inr rfl | exact .inr (.inl rfl) | exact .inr (.inr (by omega)))
              replace hb12 := e18_11x1.at1 hb12 (by omega)
              replace hs := hq18_11x1
              clear hq18_11x1
              refine runl_nil ?_
              refine run_inBlock ?_
              refine run_region rfl ?_
              refine runl_ev (ev_move rfl) ?_
              refine runl_ev (ev_add rfl rfl (by omega) (by omega)) ?_
              refine runl_ev (ev_assign rfl) ?_
              refine runl_nil ?_
              exact IH (k + 1, ⟨asked, true⟩) _ _ (by simp only; omega) ⟨rfl, rfl, rfl, rfl, rfl, rfl, rfl, rfl, trivial⟩ ⟨(by show k + 1 ≤ _; omega), good_over hgd, hrem, hb6, hb9, hs, hg, E, e0⟩
          · intro JJ
            refine run_seq ?_
            have hzz : z < 0 ∨ (0 ≤ z ∧ z ∈ asked) ∨ (0 ≤ z ∧ z ∉ asked ∧ 4 ≤ deep) ∨ (0 ≤ z ∧ z ∉ asked ∧ deep < 4) := by by_cases h1 : z ∈ asked <;> simp [h1] <;> omega
            rcases hzz with hc1 | ⟨hz0, hc1⟩ | ⟨hz0, hc1, hc2⟩ | ⟨hz0, hc1, hdp⟩
            · have hna : (⟨asked, false⟩ : FSt).asks (decide (deep < 4)) (placeOf l d.name) = false := by rw [hz]; exact asks_no1 hc1
              refine run_region rfl ?_
              refine runl_ev (ev_move rfl) ?_
              refine runl_ev (ev_geq rfl rfl) ?_
              refine runl_ev (ev_move rfl) ?_
              refine runl_no_g rfl rfl (decide_eq_false (by omega)) ?_
              refine runl_no_g rfl rfl (decide_eq_false (by omega)) ?_
              refine runl_no_g rfl rfl (decide_eq_false (by omega)) ?_
              refine runl_no_g rfl rfl (decide_eq_false (by omega)) ?_
              refine runl_no_g rfl rfl (decide_eq_false (by omega)) ?_
              refine runl_no_g rfl rfl (decide_eq_false (by omega)) ?_
              refine runl_no_g rfl rfl (decide_eq_false (by omega)) ?_
              refine runl_no_g rfl rfl (decide_eq_false (by omega)) ?_
              refine runl_ev (ev_pick rfl rfl rfl (if_neg (by simp; omega))) ?_
              refine runl_ev (ev_move rfl) ?_
              refine runl_no_g rfl rfl (rfl) ?_
              refine runl_no_g rfl rfl (rfl) ?_
              refine runl_ev (ev_pick rfl rfl rfl (if_neg (by simp))) ?_
              refine runl_nil ?_
              refine run_cond_false rfl (rfl) ?_
              refine run_skip ?_
              exact JJ ⟨asked, false⟩ _ _ ⟨rfl, rfl, rfl, rfl, rfl, rfl, rfl, rfl, rfl, trivial⟩ ⟨hgd, by rw [← askL_no hp hna]; exact hrem, hb12, hb6, hb9, hs, hg, E, e0⟩
            · obtain ⟨kk, rfl⟩ := Int.eq_ofNat_of_zero_le hz0
              have hkl := (idxOf_get hz).choose_spec.2.2
              have hna : (⟨asked, false⟩ : FSt).asks (decide (deep < 4)) (placeOf l d.name) = false := by rw [hz, asks_mem]; simp [hc1]
              refine run_region rfl ?_
              refine runl_ev (ev_move rfl) ?_
              refine runl_ev (ev_geq rfl rfl) ?_
              refine runl_ev (ev_move rfl) ?_
              refine runl_ev_g rfl rfl (decide_eq_true (by omega)) (ev_move rfl) ?_
              refine runl_ev_g rfl rfl (decide_eq_true (by omega)) (ev_nilCheck rfl) ?_
              refine runl_ev_g rfl rfl (decide_eq_true (by omega)) (ev_fieldAddr fld_57_2 rfl) ?_
              refine runl_ev_g rfl rfl (decide_eq_true (by omega)) (ev_load1 cell_55 rfl (eqw (cell_blk hs rfl))) ?_
              refine runl_ev_g rfl rfl (decide_eq_true (by omega)) (ev_move rfl) ?_
              refine runl_ev_g rfl rfl (decide_eq_true (by omega)) (ev_indexAddr (k := kk) el_55 rfl rfl (hkl)) ?_
              refine runl_ev_g rfl rfl (decide_eq_true (by omega)) (ev_load1 cell_4 rfl (eqw ((cells_all hg).pick kk (by omega) (seenOf_get hkl)))) ?_
              refine runl_ev_g rfl rfl (decide_eq_true (by omega)) (ev_not rfl) ?_
              refine runl_ev (ev_pick rfl rfl rfl (if_pos (by simp))) ?_
              refine runl_ev (ev_move rfl) ?_
              refine runl_no_g rfl rfl (by simp [hc1]) ?_
              refine runl_no_g rfl rfl (by simp [hc1]) ?_
              refine runl_ev (ev_pick rfl rfl rfl (if_neg (by simp [hc1]))) ?_
              refine runl_nil ?_
              refine run_cond_false rfl (rfl) ?_
              refine run_skip ?_
              exact JJ ⟨asked, false⟩ _ _ ⟨rfl, rfl, rfl, rfl, rfl, rfl, rfl, rfl, rfl, trivial⟩ ⟨hgd, by rw [← askL_no hp hna]; exact hrem, hb12, hb6, hb9, hs, hg, E, e0⟩
            · obtain ⟨kk, rfl⟩ := Int.eq_ofNat_of_zero_le hz0
              have hkl := (idxOf_get hz).choose_spec.2.2
              have hna : (⟨asked, false⟩ : FSt).asks (decide (deep < 4)) (placeOf l d.name) = false := asks_no2 hc2
              refine run_region rfl ?_
              refine runl_ev (ev_move rfl) ?_
              refine runl_ev (ev_geq rfl rfl) ?_
              refine runl_ev (ev_move rfl) ?_
              refine runl_ev_g rfl rfl (decide_eq_true (by omega)) (ev_move rfl) ?_
              refine runl_ev_g rfl rfl (decide_eq_true (by omega)) (ev_nilCheck rfl) ?_
              refine runl_ev_g rfl rfl (decide_eq_true (by omega)) (ev_fieldAddr fld_57_2 rfl) ?_
              refine runl_ev_g rfl rfl (decide_eq_true (by omega)) (ev_load1 cell_55 rfl (eqw (cell_blk hs rfl))) ?_
              refine runl_ev_g rfl rfl (decide_eq_true (by omega)) (ev_move rfl) ?_
              refine runl_ev_g rfl rfl (decide_eq_true (by omega)) (ev_indexAddr (k := kk) el_55 rfl rfl (hkl)) ?_
              refine runl_ev_g rfl rfl (decide_eq_true (by omega)) (ev_load1 cell_4 rfl (eqw ((cells_all hg).pick kk (by omega) (seenOf_get hkl)))) ?_
              refine runl_ev_g rfl rfl (decide_eq_true (by omega)) (ev_not rfl) ?_
              refine runl_ev (ev_pick rfl rfl rfl (if_pos (by simp))) ?_
              refine runl_ev (ev_move rfl) ?_
              refine runl_ev_g rfl rfl (by simp [hc1]) (ev_move rfl) ?_
              refine runl_ev_g rfl rfl (by simp [hc1]) (ev_lss rfl rfl) ?_
              refine runl_ev (ev_pick rfl rfl rfl (if_pos (by simp [hc1]))) ?_
              refine runl_nil ?_
              refine run_cond_false rfl (decide_eq_false (by omega)) ?_
              refine run_skip ?_
              exact JJ ⟨asked, false⟩ _ _ ⟨rfl, rfl, rfl, rfl, rfl, rfl, rfl, rfl, rfl, trivial⟩ ⟨hgd, by rw [← askL_no hp hna]; exact hrem, hb12, hb6, hb9, hs, hg, E, e0⟩
            · obtain ⟨kk, rfl⟩ := Int.eq_ofNat_of_zero_le hz0
              have hkl := (idxOf_get hz).choose_spec.2.2
              have hya : (⟨asked, false⟩ : FSt).asks (decide (deep < 4)) (placeOf l d.name) = true := by rw [hz, asks_mem]; simp [hc1, hdp]
              refine run_region rfl ?_
              refine runl_ev (ev_move rfl) ?_
              refine runl_ev (ev_geq rfl rfl) ?_
              refine runl_ev (ev_move rfl) ?_
              refine runl_ev_g rfl rfl (decide_eq_true (by omega)) (ev_move rfl) ?_
              refine runl_ev_g rfl rfl (decide_eq_true (by omega)) (ev_nilCheck rfl) ?_
              refine runl_ev_g rfl rfl (decide_eq_true (by omega)) (ev_fieldAddr fld_57_2 rfl) ?_
              refine runl_ev_g rfl rfl (decide_eq_true (by omega)) (ev_load1 cell_55 rfl (eqw (cell_blk hs rfl))) ?_
              refine runl_ev_g rfl rfl (decide_eq_true (by omega)) (ev_move rfl) ?_
              refine runl_ev_g rfl rfl (decide_eq_true (by omega)) (ev_indexAddr (k := kk) el_55 rfl rfl (hkl)) ?_
              refine runl_ev_g rfl rfl (decide_eq_true (by omega)) (ev_load1 cell_4 rfl (eqw ((cells_all hg).pick kk (by omega) (seenOf_get hkl)))) ?_
              refine runl_ev_g rfl rfl (decide_eq_true (by omega)) (ev_not rfl) ?_
              refine runl_ev (ev_pick rfl rfl rfl (if_pos (by simp))) ?_
              refine runl_ev (ev_move rfl) ?_
              refine runl_ev_g rfl rfl (by simp [hc1]) (ev_move rfl) ?_
              refine runl_ev_g rfl rfl (by simp [hc1]) (ev_lss rfl rfl) ?_
              refine runl_ev (ev_pick rfl rfl rfl (if_pos (by simp [hc1]))) ?_
              refine runl_nil ?_
              refine run_cond_true rfl (decide_eq_true hdp) ?_
              refine run_seq ?_
              refine run_region rfl ?_
              refine runl_ev (ev_move rfl) ?_
              refine runl_ev (ev_move rfl) ?_
              refine runl_ev (ev_move rfl) ?_
              refine runl_ev (ev_add rfl rfl (by omega) (by omega)) ?_
              refine runl_op (t_call call_18 rfl (hrec hdp kk ⟨asked, false⟩ _ sb gb ⟨hs, hg, E, hsb, hgb, hne, hgd, hc1, hkl, rfl⟩)) ?_
              rintro r121 w121 ⟨rfl, p121⟩
              have z121 := p121.extB.size
              have key : ∀ {k : Nat} {o : Obj}, _ = some o → k ≠ sb → k ≠ gb → w121.heap[k]? = some o := fun {k} {o} h n1 n2 => p121.extB.at h (by rintro (h | h); exact n1 h; exact n2 h)
              replace hb6 := key hb6 (by omega) (by omega)
              replace hb9 := key hb9 (by omega) (by omega)
              replace hb12 := key hb12 (by omega) (by omega)
              clear key
              replace hs := p121.hs
              replace hg := p121.hg
              replace E := p121.ext
              replace e0 := e0.newB p121.extB (fun k hk => .inr hk)
              have hwf2 := p121.wf
              replace hgd := p121.good
              refine runl_ev (ev_move rfl) ?_
              refine runl_ev (ev_extract rfl rfl) ?_
              refine runl_ev (ev_extract rfl rfl) ?_
              refine runl_ev (ev_extract rfl rfl) ?_
              refine runl_op (t_alloc zero_27 rfl) ?_
              rintro _ w14 ⟨b14, rfl, hb14, e14, n14, l14⟩
              have z14 := e14.size
              replace hb6 := e14.at hb6
              replace hb9 := e14.at hb9
              replace hs := e14.at hs
              replace hg := e14.at hg
              replace E := E.trans e14
              replace e0 := e0.trans e14.toB
              replace hb12 := e14.at hb12
              refine runl_do (t_storeW sz_27 rfl rfl (Tgt.cells_length hwf2) rfl hb14 (Tgt.one _)) ?_
              rintro _ v15_10 ⟨hq15_10, e15_10, z15_10⟩
              replace hb6 := e15_10.at1 hb6 (by omega)
              replace hb9 := e15_10.at1 hb9 (by omega)
              replace hs := e15_10.at1 hs (by omega)
              replace hg := e15_10.at1 hg (by omega)
              replace E := E.new1 e15_10 (by omega)
              replace e0 := e0.newB1 e15_10 (by first | exact .inl (by omega) | exact .inr rfl | exact .inr (.inl rfl) | exact .inr (.inr (by omega)))
              replace hb12 := e15_10.at1 hb12 (by omega)
              replace hb14 := hq15_10
              clear hq15_10
              refine runl_ev (ev_assign rfl) ?_
              refine runl_ev (ev_assign rfl) ?_
              refine runl_nil ?_
              refine run_seq ?_
              refine run_region rfl ?_
              refine runl_ev (ev_move rfl) ?_
              refine runl_nil ?_
              refine run_cond_split rfl (fun h5 => ?_) (fun h5 => ?_)
              · refine run_seq ?_
                refine run_region rfl ?_
                refine runl_ev (ev_loadA agg_27 (Tgt.cells_length hwf2) rfl (eqw (cells_all hb14))) ?_
                refine runl_ev (ev_move rfl) ?_
                refine runl_do (t_storeW sz_27 rfl rfl (Tgt.cells_length hwf2) rfl hb6 (Tgt.one _)) ?_
                rintro _ v17_2 ⟨hq17_2, e17_2, z17_2⟩
                replace hb9 := e17_2.at1 hb9 (by omega)
                replace hs := e17_2.at1 hs (by omega)
                replace hg := e17_2.at1 hg (by omega)
                replace E := E.new1 e17_2 (by omega)
                replace e0 := e0.newB1 e17_2 (by first | exact .inl (by omega) | exact .inr rfl | exact .inr (.inl rfl) | exact .inr (.inr (by omega)))
                replace hb12 := e17_2.at1 hb12 (by omega)
                replace hb14 := e17_2.at1 hb14 (by omega)
                replace hb6 := hq17_2
                clear hq17_2
                refine runl_ev (ev_assign rfl) ?_
                refine runl_ev (ev_assign rfl) ?_
                refine runl_nil ?_
                refine run_ret_any Try.func18 (resCTT Try.results18 rfl (loadVar_agg agg_27 (Tgt.cells_length hwf2) (cells_all hb6)) rfl rfl) ?_
                obtain ⟨y, hy⟩ := Option.isSome_iff_exists.1 h5
                rw [← hrem, askL_hit hp hz hya hy]
                rw [hy] at hwf2 ⊢
                exact ⟨rfl, ⟨hs, hg, E, e0, hgd, hwf2⟩⟩
              · refine run_skip ?_
                have hnn : (rec kk ⟨asked, false⟩).1 = none := by simpa using h5
                exact JJ (rec kk ⟨asked, false⟩).2 _ _ ⟨rfl, rfl, rfl, rfl, rfl, rfl, rfl, rfl, rfl, trivial⟩ ⟨hgd, by rw [← askL_yes hp hz hya hnn]; exact hrem, hb12, hb6, hb9, hs, hg, E, e0⟩
      · refine run_draw mo (fun w' => Ext v11_6 w') [] [(true, 0), (true, 1), (true, 2), (true, 3), (true, 4), (true, 5), (true, 6), (true, 7), (true, 8), (true, 9), (true, 10), (true, 11), (true, 12), (true, 13), (true, 14), (true, 15), (true, 16), (true, 17), (true, 18), (true, 19), (true, 20), (true, 21)] (by kernel_rfl) ?_
        intro wr12x1 er12x1
        have zr12x1 := er12x1.size
        have hsr12x1 := er12x1
        refine rund_ev hsr12x1 rfl (ev_move rfl) ?_
        refine rund_ev hsr12x1 rfl (ev_nilCheck rfl) ?_
        refine rund_ev hsr12x1 rfl (ev_fieldAddr fld_57_1 rfl) ?_
        refine rund_ev hsr12x1 rfl (ev_load1 cell_9 rfl (fun wz hz => cell_blk (hz.at hs) rfl)) ?_
        refine rund_ev hsr12x1 rfl (ev_lenS str_9 rfl) ?_
        refine rund_ev hsr12x1 rfl (ev_fieldAddr fld_40_2 rfl) ?_
        refine rund_ev hsr12x1 rfl (ev_load1 cell_9 rfl (fun wz hz => cell_blk (hz.at hb12) rfl)) ?_
        refine rund_ev hsr12x1 rfl (ev_lenS str_9 rfl) ?_
        refine rund_ev hsr12x1 rfl (ev_lss rfl rfl) ?_
        refine rund_ev hsr12x1 rfl (ev_move rfl) ?_
        refine rund_no_g hsr12x1 rfl rfl rfl (decide_eq_true (by omega)) ?_
        refine rund_no_g hsr12x1 rfl rfl rfl (decide_eq_true (by omega)) ?_
        refine rund_no_g hsr12x1 rfl rfl rfl (decide_eq_true (by omega)) ?_
        refine rund_no_g hsr12x1 rfl rfl rfl (decide_eq_true (by omega)) ?_
        refine rund_no_g hsr12x1 rfl rfl rfl (decide_eq_true (by omega)) ?_
        refine rund_no_g hsr12x1 rfl rfl rfl (decide_eq_true (by omega)) ?_
        refine rund_no_g hsr12x1 rfl rfl rfl (decide_eq_true (by omega)) ?_
        refine rund_no_g hsr12x1 rfl rfl rfl (decide_eq_true (by omega)) ?_
        refine rund_no_g hsr12x1 rfl rfl rfl (decide_eq_true (by omega)) ?_
        refine rund_no_g hsr12x1 rfl rfl rfl (decide_eq_true (by omega)) ?_
        refine rund_no_g hsr12x1 rfl rfl rfl (decide_eq_true (by omega)) ?_
        refine rund_ev hsr12x1 rfl (ev_pick rfl rfl rfl (if_pos (by simp; omega))) ?_
        refine rund_nil ?_
        replace hb6 := er12x1.at hb6
        replace hb9 := er12x1.at hb9
        replace hs := er12x1.at hs
        replace hg := er12x1.at hg
        replace E := E.trans er12x1
        replace e0 := e0.trans er12x1.toB
        replace hb12 := er12x1.at hb12
        refine run_cond_true rfl (rfl) ?_
        have hp : hasPfx name d.pfx = false := by simp [hasPfx, hsz]
        rw [askL_skip hp] at hrem
        refine run_exit rfl ?_
        refine run_region rfl ?_
        refine runl_ev (ev_move rfl) ?_
        refine runl_ev (ev_add rfl rfl (by omega) (by omega)) ?_
        refine runl_ev (ev_assign rfl) ?_
        refine runl_nil ?_
        exact IH (k + 1, ⟨asked, false⟩) _ _ (by simp only; omega) ⟨rfl, rfl, rfl, rfl, rfl, rfl, rfl, rfl, trivial⟩ ⟨(by show k + 1 ≤ _; omega), hgd, hrem, hb6, hb9, hs, hg, E, e0⟩
theorem rsk_all (l : List Tgs) (lv : Value) (w0 : World) (hl : SlAt 5 RTgs w0 lv l) (hb : Bnd l) (name : ByteArray) (hname : name.size ≤ 1099511627776) (f : Nat) : ∀ (deep : Int), 1 ≤ deep → deep + f = 4 →
    ∀ (i : Nat) (st : FSt) (w : World) (sb gb : Nat), RskPre 57 4 w0 w sb gb lv name l i st →
      Ret Try.prog 18 [.pointer (some ⟨sb, 0, none⟩), .int .i64 (i : Int), .int .i64 deep] w (RskP 57 4 w0 w sb gb lv name l (askF l name f i st)) := by
  induction f with
  | zero =>
    intro deep h1 h2 i st w sb gb pre
    have := rsk_step l lv w0 hl hb.1 hb.2.1 name hname hb.2.2 deep (fun _ st => (none, st)) h1 (by omega) (fun h => by omega) i st w sb gb pre
    rwa [decide_eq_false (p := deep < 4) (by omega)] at this
  | succ f ih =>
    intro deep h1 h2 i st w sb gb pre
    have := rsk_step l lv w0 hl hb.1 hb.2.1 name hname hb.2.2 deep (askF l name f) h1 (by omega) (fun h => ih (deep + 1) (by omega) (by omega)) i st w sb gb pre
    rwa [decide_eq_true (p := deep < 4) (by omega)] at this

theorem rfind_any (l : List Tgs) (w : World) (a : Option Addr) (len cap : Nat) (hl : SlAt 5 RTgs w (.slice a len cap) l) (hb : Bnd l) (name : ByteArray) (hname : name.size ≤ 1099511627776) :
    Ret Try.prog 14 [.slice a len cap, .string name] w fun r w' => r = (findF l name).val ∧ (findF l name).tgt.wf ∧ Ext w w' := by
  have E := ExtB.refl (fun _ => False) w
  obtain ⟨rfl, -⟩ := hl.at
  have hbl := hb.1
  refine ret_of_run Try.func14 rfl Try.ntmps14 rfl ?_
  refine run_seq ?_
  refine run_region rfl ?_
  refine runl_op (t_alloc zero_27 rfl) ?_
  rintro _ w4 ⟨b4, rfl, hb4, e4, n4, l4⟩
  have z4 := e4.size
  replace E := E.trans e4
  refine runl_ev (ev_assign rfl) ?_
  refine runl_ev (ev_assign rfl) ?_
  refine runl_nil ?_
  refine run_seq ?_
  refine run_seq ?_
  refine run_region rfl ?_
  refine runl_ev (ev_move rfl) ?_
  refine runl_ev (ev_lenL sl_22 rfl) ?_
  refine runl_ev (ev_eqlI rfl rfl) ?_
  refine runl_nil ?_
  refine run_dcond rfl (fun h0 => ?_) (fun h0 => ?_)
  · refine run_seq ?_
    refine run_region rfl ?_
    refine runl_ev (ev_build (out := Tgt.zero.cells) ps_27 zero_27 rfl rfl (rfl)) ?_
    refine runl_do (t_storeW sz_27 rfl rfl rfl rfl hb4 (Tgt.one Tgt.zero)) ?_
    rintro _ v2_1 ⟨hq2_1, e2_1, z2_1⟩
    replace E := E.new1 e2_1 (by omega)
    replace hb4 := hq2_1
    clear hq2_1
    refine runl_ev (ev_assign rfl) ?_
    refine runl_ev (ev_assign rfl) ?_
    refine runl_nil ?_
    refine run_ret_any Try.func14 (resCTT Try.results14 rfl (loadVar_agg agg_27 Tgt.cells_zero_len (cells_all hb4)) rfl rfl) ?_
    have h0 : l.length = 0 := by omega
    have hf : findF l name = none := if_pos h0
    rw [hf]
    exact ⟨rfl, Tgt.zero_wf, E⟩
  · refine run_skip ?_
    refine run_seq ?_
    refine run_region rfl ?_
    refine runl_ev (ev_move rfl) ?_
    refine runl_ev (ev_move rfl) ?_
    refine runl_ev (ev_move rfl) ?_
    refine runl_ev (ev_lenL sl_22 rfl) ?_
    refine runl_op (t_make ef_55 zero_4 rfl rfl rfl (by omega) (by omega)) ?_
    rintro _ w16 ⟨b16, rfl, hb16, e16, n16, l16⟩
    have z16 := e16.size
    replace E := E.trans e16
    replace hb4 := e16.at hb4
    replace hb16 : w16.heap[b16]? = some (.cells ⟨seenOf l.length []⟩ 4 (0, 0)) := by rw [← seenOf_nil]; exact hb16
    refine runl_ev (ev_build (out := [.slice a l.length cap, .string name, .slice (some ⟨b16, 0, none⟩) l.length l.length, .bool false]) ps_57 zero_57 rfl rfl (rfl)) ?_
    refine runl_op (t_boxA rfl) ?_
    rintro _ w18 ⟨b18, rfl, hb18, e18, n18, l18⟩
    have z18 := e18.size
    replace E := E.trans e18
    replace hb4 := e18.at hb4
    replace hb16 := e18.at hb16
    refine runl_ev (ev_assign rfl) ?_
    refine runl_nil ?_
    refine run_seq ?_
    refine run_region rfl ?_
    refine runl_ev (ev_move rfl) ?_
    refine runl_op (t_call call_18 rfl (rsk_all l _ w hl hb name hname 3 1 (by omega) (by omega) 0 ⟨[], false⟩ _ b18 b16 ⟨hb18, hb16, E, by omega, by omega, by omega, good_nil _ _, by simp, by omega, rfl⟩)) ?_
    rintro _ w20 ⟨rfl, p20⟩
    have z20 := p20.extB.size
    replace hb4 := p20.extB.at hb4 (by rintro (h | h) <;> omega)
    clear hb16 hb18
    replace E := p20.ext
    have hf : findF l name = (askF l name 3 0 ⟨[], false⟩).1 := if_neg (by omega)
    have hwf := p20.wf
    rw [← hf] at hwf ⊢
    refine runl_ev (ev_extract rfl rfl) ?_
    refine runl_ev (ev_extract rfl rfl) ?_
    refine runl_ev (ev_extract rfl rfl) ?_
    refine runl_do (t_storeW sz_27 rfl rfl (Tgt.cells_length hwf) rfl hb4 (Tgt.one _)) ?_
    rintro _ v4_5 ⟨hq4_5, e4_5, z4_5⟩
    replace E := E.new1 e4_5 (by omega)
    replace hb4 := hq4_5
    clear hq4_5
    refine runl_ev (ev_assign rfl) ?_
    refine runl_ev (ev_assign rfl) ?_
    refine runl_nil ?_
    refine run_ret_any Try.func14 (resCTT Try.results14 rfl (loadVar_agg agg_27 (Tgt.cells_length hwf) (cells_all hb4)) rfl rfl) ?_
    exact ⟨rfl, hwf, E⟩
theorem rforecu_any (l : List Tgs) (w : World) (a : Option Addr) (len cap : Nat) (hl : SlAt 5 RTgs w (.slice a len cap) l) (hb : Bnd l) (ecu : ByteArray) :
    Ret Try.prog 16 [.slice a len cap, .string ecu] w fun r w' => r = ecuVal (ecuF l ecu) ∧ ((ecuF l ecu).getD Tgt.zero).wf ∧ Ext w w' := by
  obtain ⟨rfl, hat⟩ := hl.at
  have e := ExtB.refl (fun _ => False) w
  refine ret_of_run Try.func16 rfl Try.ntmps16 rfl ?_
  refine run_seq ?_
  refine run_region rfl ?_
  refine runl_op (t_alloc zero_27 rfl) ?_
  rintro _ w4 ⟨b4, rfl, hb4, e4, n4, l4⟩
  have z4 := e4.size
  replace e := e.trans e4
  refine runl_ev (ev_assign rfl) ?_
  refine runl_nil ?_
  refine run_seq ?_
  refine run_seq ?_
  by_cases hne : l = []
  · subst hne
    refine run_region rfl ?_
    refine runl_ev (ev_move rfl) ?_
    refine runl_ev (ev_lenL sl_22 rfl) ?_
    refine runl_ev (ev_eqlI rfl rfl) ?_
    refine runl_ev (ev_move rfl) ?_
    refine runl_no_g rfl rfl (rfl) ?_
    refine runl_no_g rfl rfl (rfl) ?_
    refine runl_ev (ev_pick rfl rfl rfl (if_pos rfl)) ?_
    refine runl_nil ?_
    refine run_cond_true rfl (rfl) ?_
    refine run_seq ?_
    refine run_region rfl ?_
    refine runl_ev (ev_build (out := Tgt.zero.cells) ps_27 zero_27 rfl rfl (rfl)) ?_
    refine runl_do (t_storeW sz_27 rfl rfl rfl rfl hb4 (Tgt.one Tgt.zero)) ?_
    rintro _ v2_1 ⟨hq2_1, e2_1, z2_1⟩
    replace e := e.new1 e2_1 (by omega)
    replace hb4 := hq2_1
    clear hq2_1
    refine runl_ev (ev_assign rfl) ?_
    refine runl_nil ?_
    refine run_ret_any Try.func16 (resCT Try.results16 rfl (loadVar_agg agg_27 Tgt.cells_zero_len (cells_all hb4)) rfl) ?_
    exact ⟨rfl, Tgt.zero_wf, e⟩
  · obtain ⟨t, r, rfl⟩ : ∃ t r, l = t :: r := by
      cases l with
      | nil => exact absurd rfl hne
      | cons t r => exact ⟨t, r, rfl⟩
    obtain ⟨b, o, cs, rfl, hr, hc⟩ : ∃ b o cs, a = some ⟨b, o, none⟩ ∧ RTgs w t cs ∧ Cells w b (o + 0 * 5) cs := hat 0 (by simp)
    obtain ⟨lv, dv, rfl, hL, hD⟩ := hr
    obtain ⟨a1, c1, rfl, hL1⟩ := hL
    have hbt := hb.2.1 t (by simp)
    refine run_region rfl ?_
    refine runl_ev (ev_move rfl) ?_
    refine runl_ev (ev_lenL sl_22 rfl) ?_
    refine runl_ev (ev_eqlI rfl rfl) ?_
    refine runl_ev (ev_move rfl) ?_
    refine runl_ev_g rfl rfl (decide_eq_false (by simp; omega)) (ev_move rfl) ?_
    refine runl_ev_g rfl rfl (decide_eq_false (by simp; omega)) (ev_eqlS rfl rfl) ?_
    refine runl_ev (ev_pick rfl rfl rfl (if_neg (by simp; omega))) ?_
    refine runl_nil ?_
    refine run_dcond rfl (fun h0 => ?_) (fun h0 => ?_)
    · refine run_seq ?_
      refine run_region rfl ?_
      refine runl_ev (ev_build (out := Tgt.zero.cells) ps_27 zero_27 rfl rfl (rfl)) ?_
      refine runl_do (t_storeW sz_27 rfl rfl rfl rfl hb4 (Tgt.one Tgt.zero)) ?_
      rintro _ v2_1x1 ⟨hq2_1x1, e2_1x1, z2_1x1⟩
      replace e := e.new1 e2_1x1 (by omega)
      replace hb4 := hq2_1x1
      clear hq2_1x1
      refine runl_ev (ev_assign rfl) ?_
      refine runl_nil ?_
      refine run_ret_any Try.func16 (resCT Try.results16 rfl (loadVar_agg agg_27 Tgt.cells_zero_len (cells_all hb4)) rfl) ?_
      have hf : ecuF (t :: r) ecu = none := if_pos h0
      rw [hf]
      exact ⟨rfl, Tgt.zero_wf, e⟩
    · refine run_skip ?_
      refine run_seq ?_
      refine run_seq ?_
      refine run_region rfl ?_
      refine runl_ev (ev_assign rfl) ?_
      refine runl_nil ?_
      refine run_block ?_
      refine run_loop (ι := Nat) (fun k => [(0, .slice (some ⟨b, o, none⟩) (t :: r).length cap), (1, .string ecu), (4, .pointer (some ⟨b4, 0, none⟩)), (5, .bool false), (6, .int .i64 (k : Int))]) (fun k w' => k ≤ t.l.length ∧ (∀ j x, j < k → t.l[j]? = some x → decide (x.ecu = ecu) = false) ∧ w'.heap[b4]? = some (.cells ⟨Tgt.zero.cells⟩ 27 (0, 0)) ∧ Ext w w') (fun k => t.l.length - k) (0) ⟨rfl, rfl, rfl, rfl, rfl, trivial⟩ (⟨Nat.zero_le _, fun j _ hj => by omega, hb4, e⟩) ?_
      clear e hb4
      intro k w1 ⟨hk, hno, hb4, e⟩ IH
      refine run_seq ?_
      refine run_seq ?_
      refine run_region rfl ?_
      refine runl_ev (ev_move rfl) ?_
      refine runl_ev (ev_move rfl) ?_
      refine runl_ev (ev_indexAddr (k := 0) el_22 rfl rfl (by simp)) ?_
      refine runl_ev (ev_fieldAddr fld_33_3 rfl) ?_
      refine runl_ev (ev_load1 cell_30 rfl (eqw ((hc.ext e).pick 3 rfl rfl))) ?_
      refine runl_ev (ev_lenL sl_30 rfl) ?_
      refine runl_ev (ev_lss rfl rfl) ?_
      refine runl_nil ?_
      refine run_dcond rfl (fun h1 => ?_) (fun h1 => ?_)
      · have hk1 : k < t.l.length := by omega
        obtain ⟨b1, o1, cs1, rfl, ⟨hwf1, rfl⟩, hc1⟩ := hL1 k _ (List.getElem?_eq_getElem hk1)
        refine run_skip ?_
        refine run_seq ?_
        refine run_block ?_
        refine run_seq ?_
        refine run_region rfl ?_
        refine runl_ev (ev_move rfl) ?_
        refine runl_ev (ev_indexAddr (k := 0) el_22 rfl rfl (by simp)) ?_
        refine runl_ev (ev_fieldAddr fld_33_3 rfl) ?_
        refine runl_ev (ev_load1 cell_30 rfl (eqw ((hc.ext e).pick 3 rfl rfl))) ?_
        refine runl_ev (ev_move rfl) ?_
        refine runl_ev (ev_indexAddr el_30 rfl rfl (by omega)) ?_
        refine runl_ev (ev_fieldAddr fld_27_5 rfl) ?_
        refine runl_ev (ev_load1 cell_9 rfl (eqw ((hc1.ext e).pick 36 rfl (Tgt.c36 hwf1)))) ?_
        refine runl_ev (ev_move rfl) ?_
        refine runl_ev (ev_eqlS rfl rfl) ?_
        refine runl_nil ?_
        refine run_dcond rfl (fun h2 => ?_) (fun h2 => ?_)
        · have hf : ecuF (t :: r) ecu = some t.l[k] := by
            have h3 : idxOf (fun x : Tgt => decide (x.ecu = ecu)) t.l = k := idxOf_hit hk1 hno (by simpa using h2)
            exact (if_neg h0).trans ((if_pos (by omega)).trans (by rw [h3]; simp))
          rw [hf]
          refine run_seq ?_
          refine run_region rfl ?_
          refine runl_ev (ev_move rfl) ?_
          refine runl_ev (ev_indexAddr (k := 0) el_22 rfl rfl (by simp)) ?_
          refine runl_ev (ev_fieldAddr fld_33_3 rfl) ?_
          refine runl_ev (ev_load1 cell_30 rfl (eqw ((hc.ext e).pick 3 rfl rfl))) ?_
          refine runl_ev (ev_move rfl) ?_
          refine runl_ev (ev_indexAddr el_30 rfl rfl (by omega)) ?_
          refine runl_ev (ev_loadA agg_27 (Tgt.cells_length hwf1) rfl (eqw (hc1.ext e))) ?_
          refine runl_do (t_storeW sz_27 rfl rfl (Tgt.cells_length hwf1) rfl hb4 (Tgt.one _)) ?_
          rintro _ v7_7 ⟨hq7_7, e7_7, z7_7⟩
          replace e := e.new1 e7_7 (by omega)
          replace hb4 := hq7_7
          clear hq7_7
          refine runl_ev (ev_assign rfl) ?_
          refine runl_nil ?_
          refine run_ret_any Try.func16 (resCT Try.results16 rfl (loadVar_agg agg_27 (Tgt.cells_length hwf1) (cells_all hb4)) rfl) ?_
          exact ⟨rfl, hwf1, e⟩
        · refine run_skip ?_
          refine run_inBlock ?_
          refine run_region rfl ?_
          refine runl_ev (ev_move rfl) ?_
          refine runl_ev (ev_add rfl rfl (by omega) (by omega)) ?_
          refine runl_ev (ev_assign rfl) ?_
          refine runl_nil ?_
          exact IH (k + 1) _ _ (by omega) ⟨rfl, rfl, rfl, rfl, rfl, trivial⟩ ⟨by omega, idxOf_snoc hk1 hno (by simpa using h2), hb4, e⟩
      · obtain rfl : k = t.l.length := by omega
        have hf : ecuF (t :: r) ecu = none := by
          have h3 : idxOf (fun x : Tgt => decide (x.ecu = ecu)) t.l = -1 := idxOf_none hno
          exact (if_neg h0).trans (if_neg (by omega))
        rw [hf]
        refine run_exit rfl ?_
        refine run_seq ?_
        refine run_region rfl ?_
        refine runl_ev (ev_build (out := Tgt.zero.cells) ps_27 zero_27 rfl rfl (rfl)) ?_
        refine runl_do (t_storeW sz_27 rfl rfl rfl rfl hb4 (Tgt.one Tgt.zero)) ?_
        rintro _ v8_1 ⟨hq8_1, e8_1, z8_1⟩
        replace e := e.new1 e8_1 (by omega)
        replace hb4 := hq8_1
        clear hq8_1
        refine runl_ev (ev_assign rfl) ?_
        refine runl_nil ?_
        refine run_ret_any Try.func16 (resCT Try.results16 rfl (loadVar_agg agg_27 Tgt.cells_zero_len (cells_all hb4)) rfl) ?_
        exact ⟨rfl, Tgt.zero_wf, e⟩
theorem lawTells_any (l : List Tgs) (w : World) (a : Option Addr) (len cap : Nat) (hl : SlAt 5 RTgs w (.slice a len cap) l) (hb : Bnd l) (name ecu : ByteArray) (hn : name.size ≤ 1048576) (he : ecu.size ≤ 1048576) :
    Ret Try.prog 8 [.slice a len cap, .string name, .string ecu] w fun r w' => r = .bool true ∧ Ext w w' := by
  have hl0 := hl
  have e := ExtB.refl (fun _ => False) w
  refine ret_of_run Try.func8 rfl Try.ntmps8 rfl ?_
  refine run_seq ?_
  refine run_region rfl ?_
  refine runl_ev (ev_assign rfl) ?_
  refine runl_nil ?_
  refine run_seq ?_
  refine run_seq ?_
  refine run_region rfl ?_
  refine runl_ev (ev_move rfl) ?_
  refine runl_op (t_call call_11 rfl (heavy_any l _ _ _ _ (hl0.ext RTgs.stable e) hb)) ?_
  rintro _ w18 ⟨tb, rfl, e18⟩
  have z18 := e18.size
  replace e := e.trans e18
  rcases (by cases tb <;> simp : tb = true ∨ tb = false) with rfl | rfl
  · refine runl_ev (ev_move rfl) ?_
    refine runl_no_g rfl rfl (rfl) ?_
    refine runl_no_g rfl rfl (rfl) ?_
    refine runl_no_g rfl rfl (rfl) ?_
    refine runl_no_g rfl rfl (rfl) ?_
    refine runl_no_g rfl rfl (rfl) ?_
    refine runl_no_g rfl rfl (rfl) ?_
    refine runl_ev (ev_pick rfl rfl rfl rfl) ?_
    refine runl_nil ?_
    refine run_cond_true rfl (rfl) ?_
    refine run_seq ?_
    refine run_region rfl ?_
    refine runl_ev (ev_assign rfl) ?_
    refine runl_nil ?_
    refine run_ret_any Try.func8 (res1 Try.results8 rfl) ?_
    exact ⟨rfl, e⟩
  · refine runl_ev (ev_move rfl) ?_
    refine runl_ev_g rfl rfl (rfl) (ev_move rfl) ?_
    refine runl_ev_g rfl rfl (rfl) (ev_lenS str_9 rfl) ?_
    refine runl_ev_g rfl rfl (rfl) (ev_move rfl) ?_
    refine runl_ev_g rfl rfl (rfl) (ev_lenS str_9 rfl) ?_
    refine runl_ev_g rfl rfl (rfl) (ev_add rfl rfl (by omega) (by omega)) ?_
    refine runl_ev_g rfl rfl (rfl) (ev_gtr rfl rfl) ?_
    refine runl_ev (ev_pick rfl rfl rfl (if_neg (by simp))) ?_
    refine runl_nil ?_
    refine run_dcond rfl (fun h0 => ?_) (fun h0 => ?_)
    · refine run_seq ?_
      refine run_region rfl ?_
      refine runl_ev (ev_assign rfl) ?_
      refine runl_nil ?_
      refine run_ret_any Try.func8 (res1 Try.results8 rfl) ?_
      exact ⟨rfl, e⟩
    · refine run_skip ?_
      refine run_seq ?_
      refine run_region rfl ?_
      refine runl_ev (ev_move rfl) ?_
      refine runl_ev (ev_move rfl) ?_
      refine runl_op (t_call call_12 rfl (find_any l _ _ _ _ (hl0.ext RTgs.stable e) hb name (by omega))) ?_
      rintro _ w30 ⟨rfl, hwf30, e30⟩
      have z30 := e30.size
      replace e := e.trans e30
      refine runl_ev (ev_move rfl) ?_
      refine runl_ev (ev_extract rfl rfl) ?_
      refine runl_ev (ev_extract rfl rfl) ?_
      refine runl_ev (ev_extract rfl rfl) ?_
      refine runl_op (t_alloc zero_27 rfl) ?_
      rintro _ w7 ⟨b7, rfl, hb7, e7, n7, l7⟩
      have z7 := e7.size
      replace e := e.trans e7
      refine runl_do (t_storeW sz_27 rfl rfl (Tgt.cells_length hwf30) rfl hb7 (Tgt.one _)) ?_
      rintro _ v3_8 ⟨hq3_8, e3_8, z3_8⟩
      replace e := e.new1 e3_8 (by omega)
      replace hb7 := hq3_8
      clear hq3_8
      refine runl_ev (ev_assign rfl) ?_
      refine runl_ev (ev_assign rfl) ?_
      refine runl_nil ?_
      refine run_seq ?_
      refine run_region rfl ?_
      refine runl_ev (ev_move rfl) ?_
      refine runl_ev (ev_move rfl) ?_
      refine runl_op (t_call call_14 rfl (rfind_any l _ _ _ _ (hl0.ext RTgs.stable e) hb name (by omega))) ?_
      rintro _ w37 ⟨rfl, hwf37, e37⟩
      have z37 := e37.size
      replace e := e.trans e37
      replace hb7 := e37.at hb7
      refine runl_ev (ev_move rfl) ?_
      refine runl_ev (ev_extract rfl rfl) ?_
      refine runl_ev (ev_extract rfl rfl) ?_
      refine runl_ev (ev_extract rfl rfl) ?_
      refine runl_op (t_alloc zero_27 rfl) ?_
      rintro _ w10 ⟨b10, rfl, hb10, e10, n10, l10⟩
      have z10 := e10.size
      replace e := e.trans e10
      replace hb7 := e10.at hb7
      refine runl_do (t_storeW sz_27 rfl rfl (Tgt.cells_length hwf37) rfl hb10 (Tgt.one _)) ?_
      rintro _ v4_8 ⟨hq4_8, e4_8, z4_8⟩
      replace e := e.new1 e4_8 (by omega)
      replace hb7 := e4_8.at1 hb7 (by omega)
      replace hb10 := hq4_8
      clear hq4_8
      refine runl_ev (ev_assign rfl) ?_
      refine runl_ev (ev_assign rfl) ?_
      refine runl_nil ?_
      refine run_seq ?_
      refine run_region rfl ?_
      refine runl_ev (ev_move rfl) ?_
      refine runl_ev (ev_move rfl) ?_
      refine runl_op (t_call call_15 rfl (forecu_any l _ _ _ _ (hl0.ext RTgs.stable e) hb ecu)) ?_
      rintro _ w44 ⟨rfl, hwf44, e44⟩
      have z44 := e44.size
      replace e := e.trans e44
      replace hb7 := e44.at hb7
      replace hb10 := e44.at hb10
      refine runl_ev (ev_move rfl) ?_
      refine runl_ev (ev_extract rfl rfl) ?_
      refine runl_ev (ev_extract rfl rfl) ?_
      refine runl_op (t_alloc zero_27 rfl) ?_
      rintro _ w13 ⟨b13, rfl, hb13, e13, n13, l13⟩
      have z13 := e13.size
      replace e := e.trans e13
      replace hb7 := e13.at hb7
      replace hb10 := e13.at hb10
      refine runl_do (t_storeW sz_27 rfl rfl (Tgt.cells_length hwf44) rfl hb13 (Tgt.one _)) ?_
      rintro _ v5_7 ⟨hq5_7, e5_7, z5_7⟩
      replace e := e.new1 e5_7 (by omega)
      replace hb7 := e5_7.at1 hb7 (by omega)
      replace hb10 := e5_7.at1 hb10 (by omega)
      replace hb13 := hq5_7
      clear hq5_7
      refine runl_ev (ev_assign rfl) ?_
      refine runl_nil ?_
      refine run_seq ?_
      refine run_region rfl ?_
      refine runl_ev (ev_move rfl) ?_
      refine runl_ev (ev_move rfl) ?_
      refine runl_op (t_call call_16 rfl (rforecu_any l _ _ _ _ (hl0.ext RTgs.stable e) hb ecu)) ?_
      rintro _ w50 ⟨rfl, hwf50, e50⟩
      have z50 := e50.size
      replace e := e.trans e50
      replace hb7 := e50.at hb7
      replace hb10 := e50.at hb10
      replace hb13 := e50.at hb13
      refine runl_ev (ev_move rfl) ?_
      refine runl_ev (ev_extract rfl rfl) ?_
      refine runl_ev (ev_extract rfl rfl) ?_
      refine runl_op (t_alloc zero_27 rfl) ?_
      rintro _ w15 ⟨b15, rfl, hb15, e15, n15, l15⟩
      have z15 := e15.size
      replace e := e.trans e15
      replace hb7 := e15.at hb7
      replace hb10 := e15.at hb10
      replace hb13 := e15.at hb13
      refine runl_do (t_storeW sz_27 rfl rfl (Tgt.cells_length hwf50) rfl hb15 (Tgt.one _)) ?_
      rintro _ v6_7 ⟨hq6_7, e6_7, z6_7⟩
      replace e := e.new1 e6_7 (by omega)
      replace hb7 := e6_7.at1 hb7 (by omega)
      replace hb10 := e6_7.at1 hb10 (by omega)
      replace hb13 := e6_7.at1 hb13 (by omega)
      replace hb15 := hq6_7
      clear hq6_7
      refine runl_ev (ev_assign rfl) ?_
      refine runl_nil ?_
      refine run_seq ?_
      refine run_region rfl ?_
      refine runl_ev (ev_loadA agg_27 (Tgt.cells_length hwf30) rfl (eqw (cells_all hb7))) ?_
      refine runl_ev (ev_loadA agg_27 (Tgt.cells_length hwf30) rfl (eqw (cells_all hb10))) ?_
      refine runl_ev (ev_eqlA rfl rfl eg_27 (eqTgt _ _ hwf30 hwf30)) ?_
      refine runl_ev (ev_move rfl) ?_
      refine runl_ev_g rfl rfl (decide_eq_true rfl) (ev_move rfl) ?_
      refine runl_ev_g rfl rfl (decide_eq_true rfl) (ev_move rfl) ?_
      refine runl_ev_g rfl rfl (decide_eq_true rfl) (ev_eqlS rfl rfl) ?_
      refine runl_ev (ev_pick rfl rfl rfl (if_pos (by simp))) ?_
      refine runl_ev (ev_move rfl) ?_
      refine runl_ev_g rfl rfl (by simp) (ev_move rfl) ?_
      refine runl_ev_g rfl rfl (by simp) (ev_move rfl) ?_
      refine runl_ev_g rfl rfl (by simp) (ev_eqlB Try.underlying4 rfl rfl) ?_
      refine runl_ev (ev_pick rfl rfl rfl (if_pos (by simp))) ?_
      refine runl_ev (ev_move rfl) ?_
      refine runl_ev_g rfl rfl (by simp) (ev_loadA agg_27 (Tgt.cells_length hwf44) rfl (eqw (cells_all hb13))) ?_
      refine runl_ev_g rfl rfl (by simp) (ev_loadA agg_27 (Tgt.cells_length hwf44) rfl (eqw (cells_all hb15))) ?_
      refine runl_ev_g rfl rfl (by simp) (ev_eqlA rfl rfl eg_27 (eqTgt _ _ hwf44 hwf44)) ?_
      refine runl_ev (ev_pick rfl rfl rfl (if_pos (by simp))) ?_
      refine runl_ev (ev_move rfl) ?_
      refine runl_ev_g rfl rfl (by simp) (ev_move rfl) ?_
      refine runl_ev_g rfl rfl (by simp) (ev_move rfl) ?_
      refine runl_ev_g rfl rfl (by simp) (ev_eqlB Try.underlying4 rfl rfl) ?_
      refine runl_ev (ev_pick rfl rfl rfl (if_pos (by simp))) ?_
      refine runl_ev (ev_move rfl) ?_
      refine runl_op_g rfl rfl (by simp) (t_call call_13 rfl (known_any _)) ?_
      rintro _ w77 ⟨rfl, e77⟩
      have z77 := e77.size
      replace e := e.trans e77
      replace hb7 := e77.at hb7
      replace hb10 := e77.at hb10
      replace hb13 := e77.at hb13
      replace hb15 := e77.at hb15
      refine runl_ev (ev_pick rfl rfl rfl (if_pos (by simp))) ?_
      refine runl_ev (ev_assign rfl) ?_
      refine runl_nil ?_
      refine run_ret_any Try.func8 (res1 Try.results8 rfl) ?_
      exact ⟨rfl, e⟩
end Go.Proofs.Ytpomcdmlmaimeaa
