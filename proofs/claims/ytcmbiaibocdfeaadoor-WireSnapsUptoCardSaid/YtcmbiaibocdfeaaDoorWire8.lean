/- The walks of the reference's reader, and of what it decodes. -/
import Derived.Test.YtcmbiaibocdfeaaDoorReadQ
import Derived.Test.YtcmbiaibocdfeaaDoorWire4
import Derived.Test.YtcmbiaibocdfeaaDoorWire5
import Derived.Test.YtcmbiaibocdfeaaDoorFwT
namespace Go.Proofs.YtcmbiaibocdfeaaDoor
open Go Go.Fw
set_option maxRecDepth 100000

theorem qbad_any {s : RS} {w0 w : World} {rb : Nat} {v : Value} {T : TypeId} (st : RSt T w0 w rb v s) : Ret Tryd.prog 64 [.pointer (some ⟨rb, 0, none⟩)] w fun r w' => r = .tuple #[] ∧ RP T w0 w rb .fail w' := by
  obtain ⟨hr, hrest, ⟨va, vc, rfl, hvc⟩, E, hrb, hlen⟩ := st
  have e0 := ExtB.refl (fun k => k = rb) w
  have lrb := lt_of_at hr
  have hz := E.size
  refine ret_of_run Tryd.func64 rfl Tryd.ntmps64 rfl ?_
  refine run_seq ?_
  refine run_region rfl ?_
  refine runl_ev (ev_move rfl) ?_
  refine runl_ev (ev_nilCheck rfl) ?_
  refine runl_ev (ev_fieldAddr fld_84_1 rfl) ?_
  refine runl_do (t_store1 sz_4 rfl rfl rfl rfl hr (by simp)) ?_
  rintro _ v0_3 ⟨hq0_3, e0_3, z0_3⟩
  replace E := E.new1 e0_3 (by omega)
  replace e0 := e0.newB1 e0_3 (by first | exact .inl (by omega) | exact .inr rfl | exact .inr (.inl rfl) | exact .inr (.inr (by omega)))
  replace hr := hq0_3
  clear hq0_3
  refine runl_nil ?_
  refine run_region rfl ?_
  refine runl_ev (ev_move rfl) ?_
  refine runl_ev (ev_nilCheck rfl) ?_
  refine runl_ev (ev_fieldAddr fld_84_0 rfl) ?_
  refine runl_do (t_store1 sz_24 rfl rfl rfl rfl hr (by simp)) ?_
  rintro _ v1_3 ⟨hq1_3, e1_3, z1_3⟩
  replace E := E.new1 e1_3 (by omega)
  replace e0 := e0.newB1 e1_3 (by first | exact .inl (by omega) | exact .inr rfl | exact .inr (.inl rfl) | exact .inr (.inr (by omega)))
  replace hr := hq1_3
  clear hq1_3
  refine runl_nil ?_
  refine run_end_any Tryd.func64 (res0 Tryd.results64) ?_
  exact ⟨rfl, ⟨_, hr, sl_nil, ⟨none, 0, rfl, Nat.zero_le _⟩, E, hrb, Nat.zero_le _⟩, e0⟩
theorem qwhole_any {s : RS} {w0 w : World} {rb : Nat} {v : Value} {T : TypeId} (st : RSt T w0 w rb v s) : Ret Tryd.prog 67 [.pointer (some ⟨rb, 0, none⟩)] w fun r w' => r = .bool s.whole ∧ Ext w w' := by
  have hr := st.hr
  obtain ⟨va, vc, rfl, hvc⟩ := st.cap
  have e := ExtB.refl (fun _ => False) w
  refine ret_of_run Tryd.func67 rfl Tryd.ntmps67 rfl ?_
  refine run_seq ?_
  refine run_region rfl ?_
  refine runl_ev (ev_assign rfl) ?_
  refine runl_nil ?_
  refine run_seq ?_
  cases hb : s.bad
  · refine run_region rfl ?_
    refine runl_ev (ev_move rfl) ?_
    refine runl_ev (ev_nilCheck rfl) ?_
    refine runl_ev (ev_fieldAddr fld_84_1 rfl) ?_
    refine runl_ev (ev_load1 cell_4 rfl (eqw (cell_blk hr rfl))) ?_
    refine runl_ev (ev_not rfl) ?_
    refine runl_ev (ev_move rfl) ?_
    refine runl_ev_g rfl rfl (by rw [hb]; rfl) (ev_move rfl) ?_
    refine runl_ev_g rfl rfl (by rw [hb]; rfl) (ev_nilCheck rfl) ?_
    refine runl_ev_g rfl rfl (by rw [hb]; rfl) (ev_fieldAddr fld_84_0 rfl) ?_
    refine runl_ev_g rfl rfl (by rw [hb]; rfl) (ev_load1 cell_24 rfl (eqw (cell_blk hr rfl))) ?_
    refine runl_ev_g rfl rfl (by rw [hb]; rfl) (ev_lenL sl_24 rfl) ?_
    refine runl_ev_g rfl rfl (by rw [hb]; rfl) (ev_eqlI rfl rfl) ?_
    refine runl_ev (ev_pick rfl rfl rfl (if_pos (by rw [hb]; rfl))) ?_
    refine runl_ev (ev_assign rfl) ?_
    refine runl_nil ?_
    refine run_ret_any Tryd.func67 (res1 Tryd.results67 rfl) ?_
    refine ⟨?_, e⟩
    unfold RS.whole
    rw [hb]
    cases s.rest <;> simp
    omega
  · refine run_region rfl ?_
    refine runl_ev (ev_move rfl) ?_
    refine runl_ev (ev_nilCheck rfl) ?_
    refine runl_ev (ev_fieldAddr fld_84_1 rfl) ?_
    refine runl_ev (ev_load1 cell_4 rfl (eqw (cell_blk hr rfl))) ?_
    refine runl_ev (ev_not rfl) ?_
    refine runl_ev (ev_move rfl) ?_
    refine runl_no_g rfl rfl (by rw [hb]) ?_
    refine runl_no_g rfl rfl (by rw [hb]) ?_
    refine runl_no_g rfl rfl (by rw [hb]) ?_
    refine runl_no_g rfl rfl (by rw [hb]) ?_
    refine runl_no_g rfl rfl (by rw [hb]) ?_
    refine runl_no_g rfl rfl (by rw [hb]) ?_
    refine runl_ev (ev_pick rfl rfl rfl (if_neg (by rw [hb]; simp))) ?_
    refine runl_ev (ev_assign rfl) ?_
    refine runl_nil ?_
    refine run_ret_any Tryd.func67 (res1 Tryd.results67 rfl) ?_
    exact ⟨by simp [RS.whole, hb], e⟩
theorem qraw_any {s : RS} {w0 w : World} {rb : Nat} {v : Value} {T : TypeId} (st : RSt T w0 w rb v s) (hok : s.ok) (n : Int) : Ret Tryd.prog 65 [.pointer (some ⟨rb, 0, none⟩), .int .i64 n] w fun r w' => OwnG 5 1 RByte w (s.raw n).1 r w' ∧ RP T w0 w rb (s.raw n).2 w' := by
  have st0 := st
  obtain ⟨hr, hrest, ⟨va, vc, rfl, hvc⟩, E, hrb, hlen⟩ := st
  have e0 := ExtB.refl (fun k => k = rb) w
  have lrb := lt_of_at hr
  have hz := E.size
  refine ret_of_run Tryd.func65 rfl Tryd.ntmps65 rfl ?_
  refine run_seq ?_
  refine run_region rfl ?_
  refine runl_ev (ev_assign rfl) ?_
  refine runl_nil ?_
  refine run_seq ?_
  refine run_seq ?_
  have hcs : n < 0 ∨ (¬ n < 0 ∧ (s.rest.length : Int) < n) ∨ (¬ n < 0 ∧ ¬ (s.rest.length : Int) < n) := by omega
  rcases hcs with hn | ⟨hn, hn1⟩ | ⟨hn, hn1⟩
  · have hraw : s.raw n = ([], .fail) := if_pos (by omega)
    rw [hraw]
    refine run_region rfl ?_
    refine runl_ev (ev_move rfl) ?_
    refine runl_ev (ev_lss rfl rfl) ?_
    refine runl_ev (ev_move rfl) ?_
    refine runl_no_g rfl rfl (decide_eq_true hn) ?_
    refine runl_no_g rfl rfl (decide_eq_true hn) ?_
    refine runl_no_g rfl rfl (decide_eq_true hn) ?_
    refine runl_no_g rfl rfl (decide_eq_true hn) ?_
    refine runl_no_g rfl rfl (decide_eq_true hn) ?_
    refine runl_no_g rfl rfl (decide_eq_true hn) ?_
    refine runl_no_g rfl rfl (decide_eq_true hn) ?_
    refine runl_ev (ev_pick rfl rfl rfl (if_pos (decide_eq_true hn))) ?_
    refine runl_nil ?_
    refine run_cond_true rfl (rfl) ?_
    refine run_region rfl ?_
    refine runl_ev (ev_move rfl) ?_
    refine runl_op (t_call call_64 rfl (qbad_any st0)) ?_
    rintro _ w18 ⟨rfl, ⟨v2, st2⟩, eb18⟩
    have hr2 := st2.hr
    have z18 := eb18.size
    refine runl_nil ?_
    refine run_seq ?_
    refine run_seq ?_
    refine run_region rfl ?_
    refine runl_ev (ev_move rfl) ?_
    refine runl_ev (ev_nilCheck rfl) ?_
    refine runl_ev (ev_fieldAddr fld_84_1 rfl) ?_
    refine runl_ev (ev_load1 cell_4 rfl (eqw (cell_blk hr2 rfl))) ?_
    refine runl_nil ?_
    refine run_cond_true rfl (rfl) ?_
    refine run_seq ?_
    refine run_region rfl ?_
    refine runl_ev (ev_assign rfl) ?_
    refine runl_nil ?_
    refine run_ret_any Tryd.func65 (res1 Tryd.results65 rfl) ?_
    exact ⟨OwnG.nil _ _, ⟨_, st2⟩, eb18⟩
  · have hraw : s.raw n = ([], .fail) := if_pos (by omega)
    rw [hraw]
    refine run_region rfl ?_
    refine runl_ev (ev_move rfl) ?_
    refine runl_ev (ev_lss rfl rfl) ?_
    refine runl_ev (ev_move rfl) ?_
    refine runl_ev_g rfl rfl (decide_eq_false hn) (ev_move rfl) ?_
    refine runl_ev_g rfl rfl (decide_eq_false hn) (ev_move rfl) ?_
    refine runl_ev_g rfl rfl (decide_eq_false hn) (ev_nilCheck rfl) ?_
    refine runl_ev_g rfl rfl (decide_eq_false hn) (ev_fieldAddr fld_84_0 rfl) ?_
    refine runl_ev_g rfl rfl (decide_eq_false hn) (ev_load1 cell_24 rfl (eqw (cell_blk hr rfl))) ?_
    refine runl_ev_g rfl rfl (decide_eq_false hn) (ev_lenL sl_24 rfl) ?_
    refine runl_ev_g rfl rfl (decide_eq_false hn) (ev_gtr rfl rfl) ?_
    refine runl_ev (ev_pick rfl rfl rfl (if_neg (by simp; omega))) ?_
    refine runl_nil ?_
    refine run_cond_true rfl (decide_eq_true hn1) ?_
    refine run_region rfl ?_
    refine runl_ev (ev_move rfl) ?_
    refine runl_op (t_call call_64 rfl (qbad_any st0)) ?_
    rintro _ w18x1 ⟨rfl, ⟨v2, st2⟩, eb18x1⟩
    have hr2 := st2.hr
    have z18x1 := eb18x1.size
    refine runl_nil ?_
    refine run_seq ?_
    refine run_seq ?_
    refine run_region rfl ?_
    refine runl_ev (ev_move rfl) ?_
    refine runl_ev (ev_nilCheck rfl) ?_
    refine runl_ev (ev_fieldAddr fld_84_1 rfl) ?_
    refine runl_ev (ev_load1 cell_4 rfl (eqw (cell_blk hr2 rfl))) ?_
    refine runl_nil ?_
    refine run_cond_true rfl (rfl) ?_
    refine run_seq ?_
    refine run_region rfl ?_
    refine runl_ev (ev_assign rfl) ?_
    refine runl_nil ?_
    refine run_ret_any Tryd.func65 (res1 Tryd.results65 rfl) ?_
    exact ⟨OwnG.nil _ _, ⟨_, st2⟩, eb18x1⟩
  · refine run_region rfl ?_
    refine runl_ev (ev_move rfl) ?_
    refine runl_ev (ev_lss rfl rfl) ?_
    refine runl_ev (ev_move rfl) ?_
    refine runl_ev_g rfl rfl (decide_eq_false hn) (ev_move rfl) ?_
    refine runl_ev_g rfl rfl (decide_eq_false hn) (ev_move rfl) ?_
    refine runl_ev_g rfl rfl (decide_eq_false hn) (ev_nilCheck rfl) ?_
    refine runl_ev_g rfl rfl (decide_eq_false hn) (ev_fieldAddr fld_84_0 rfl) ?_
    refine runl_ev_g rfl rfl (decide_eq_false hn) (ev_load1 cell_24 rfl (eqw (cell_blk hr rfl))) ?_
    refine runl_ev_g rfl rfl (decide_eq_false hn) (ev_lenL sl_24 rfl) ?_
    refine runl_ev_g rfl rfl (decide_eq_false hn) (ev_gtr rfl rfl) ?_
    refine runl_ev (ev_pick rfl rfl rfl (if_neg (by simp; omega))) ?_
    refine runl_nil ?_
    refine run_cond_false rfl (decide_eq_false hn1) ?_
    refine run_skip ?_
    refine run_seq ?_
    refine run_seq ?_
    refine run_region rfl ?_
    refine runl_ev (ev_move rfl) ?_
    refine runl_ev (ev_nilCheck rfl) ?_
    refine runl_ev (ev_fieldAddr fld_84_1 rfl) ?_
    refine runl_ev (ev_load1 cell_4 rfl (eqw (cell_blk hr rfl))) ?_
    refine runl_nil ?_
    refine run_cond_split rfl (fun h1 => ?_) (fun h1 => ?_)
    · rw [raw_bad h1 hok hn hn1]
      refine run_seq ?_
      refine run_region rfl ?_
      refine runl_ev (ev_assign rfl) ?_
      refine runl_nil ?_
      refine run_ret_any Tryd.func65 (res1 Tryd.results65 rfl) ?_
      exact ⟨OwnG.nil _ _, RP.of st0 e0⟩
    · have hraw : s.raw n = (s.rest.take n.toNat, ⟨s.rest.drop n.toNat, s.bad⟩) := if_neg (by omega)
      rw [hraw]
      obtain ⟨k, rfl⟩ := Int.eq_ofNat_of_zero_le (by omega : 0 ≤ n)
      rw [Int.toNat_natCast]
      have hk : k ≤ s.rest.length := by omega
      refine run_skip ?_
      refine run_seq ?_
      refine run_region rfl ?_
      refine runl_op (t_buildSlice0 Tryd.underlying24 sz_5) ?_
      rintro _ w23 ⟨b23, rfl, hb23, e23, n23, l23⟩
      have z23 := e23.size
      replace hr := e23.at hr
      replace E := E.trans e23
      replace e0 := e0.trans e23.toB
      refine runl_ev (ev_move rfl) ?_
      refine runl_ev (ev_nilCheck rfl) ?_
      refine runl_ev (ev_fieldAddr fld_84_0 rfl) ?_
      refine runl_ev (ev_load1 cell_24 rfl (eqw (cell_blk hr rfl))) ?_
      refine runl_ev (ev_move rfl) ?_
      refine runl_ev (ev_sliceL_hi (n := k) el_24 rfl rfl (by omega)) ?_
      refine runl_op (t_appendL (l := s.rest.take k) (R := RByte) ef_24 rfl rfl (own_lit (n := 0) hb23 (by unfold maxLen; omega) rfl) (bytes_take (hrest.ext RByte.stable E) hk vc) rbyte_len (fun x cs h => rbyte_one x cs h) (by unfold maxLen; omega) (by omega)) ?_
      rintro v30 w30 ⟨n30, g30, hnl, hnp, ap30⟩
      have ow30 := OwnG.app flat_byte (l := []) (xs := []) (w := w) (by omega) (.inr (by omega)) (by omega) pn rfl hnp ap30 rfl (by rw [List.length_take]; omega)
      have hs30 := ap30.size
      rw [List.nil_append] at ow30
      have z30 := ap30.ext.size
      replace hr := ap30.ext.atG hr (by omega)
      replace E := E.newG ap30.ext (by omega)
      replace e0 := e0.newBG ap30.ext (fun k hk => by first | exact .inl (by omega) | exact .inr hk | exact .inr (.inr hk) | exact .inr (.inr (by omega)))
      refine runl_ev (ev_assign rfl) ?_
      refine runl_nil ?_
      refine run_seq ?_
      refine run_region rfl ?_
      refine runl_ev (ev_move rfl) ?_
      refine runl_ev (ev_move rfl) ?_
      refine runl_ev (ev_nilCheck rfl) ?_
      refine runl_ev (ev_fieldAddr fld_84_0 rfl) ?_
      refine runl_ev (ev_load1 cell_24 rfl (eqw (cell_blk hr rfl))) ?_
      refine runl_ev (ev_move rfl) ?_
      refine runl_ev (ev_sliceL_lo (n := k) el_24 rfl rfl (by omega)) ?_
      refine runl_ev (ev_nilCheck rfl) ?_
      refine runl_ev (ev_fieldAddr fld_84_0 rfl) ?_
      refine runl_do (t_store1 sz_24 rfl rfl rfl rfl hr (by simp)) ?_
      rintro _ v6_9 ⟨hq6_9, e6_9, z6_9⟩
      replace E := E.new1 e6_9 (by omega)
      replace e0 := e0.newB1 e6_9 (by first | exact .inl (by omega) | exact .inr rfl | exact .inr (.inl rfl) | exact .inr (.inr (by omega)))
      replace hr := hq6_9
      clear hq6_9
      refine runl_nil ?_
      refine run_seq ?_
      refine run_region rfl ?_
      refine runl_ev (ev_move rfl) ?_
      refine runl_ev (ev_assign rfl) ?_
      refine runl_nil ?_
      refine run_ret_any Tryd.func65 (res1 Tryd.results65 rfl) ?_
      exact ⟨ow30.keep flat_byte e6_9 (fun j hj => .inl (by omega)), ⟨_, hr, bytes_drop hrest hk hvc, ⟨_, _, by rw [List.length_drop], by rw [List.length_drop]; omega⟩, E, hrb, by rw [List.length_drop]; omega⟩, e0⟩
theorem qnum_any {s : RS} {w0 w : World} {rb : Nat} {v : Value} {T : TypeId} (st : RSt T w0 w rb v s) (hok : s.ok) : Ret Tryd.prog 35 [.pointer (some ⟨rb, 0, none⟩)] w fun r w' => r = .int .i64 s.num.1 ∧ RP T w0 w rb s.num.2 w' := by
  have e := ExtB.refl (fun _ => False) w
  have lrb := st.lt
  have zst := st.ext.size
  have hrb := st.hrb
  have hlen := st.len
  refine ret_of_run Tryd.func35 rfl Tryd.ntmps35 rfl ?_
  refine run_seq ?_
  refine run_region rfl ?_
  refine runl_ev (ev_assign rfl) ?_
  refine runl_nil ?_
  refine run_seq ?_
  refine run_region rfl ?_
  refine runl_ev (ev_assign rfl) ?_
  refine runl_nil ?_
  refine run_seq ?_
  refine run_seq ?_
  refine run_region rfl ?_
  refine runl_ev (ev_assign rfl) ?_
  refine runl_nil ?_
  refine run_block ?_
  refine run_loop (ι := Nat × Nat × RS × Value) (fun x => [(0, .pointer (some ⟨rb, 0, none⟩)), (3, .int .u64 (x.2.1 : Int)), (4, .int .i64 (x.1 : Int))]) (fun x w1 => x.1 ≤ 9 ∧ x.2.1 < 128 ^ x.1 ∧ rdN x.1 x.2.1 x.2.2.1.rest = rdN 0 0 s.rest ∧ x.2.2.1.bad = s.bad ∧ x.2.2.1.ok ∧ RSt T w0 w1 rb x.2.2.2 x.2.2.1 ∧ ExtB (fun k => k = rb) w w1) (fun x => 9 - x.1) ((0, 0, s, v)) ⟨rfl, rfl, rfl, trivial⟩ (⟨Nat.zero_le _, by show 0 < 1; decide, rfl, rfl, hok, st, Ext.toB e⟩) ?_
  clear e
  intro ⟨i, u, s1, v1⟩ w1 ⟨hi, hu, hrd, hbd1, hok1, st1, eb⟩ IH
  simp only at hi hu hrd hbd1 hok1 st1
  have lrb1 := st1.lt
  refine run_seq ?_
  refine run_seq ?_
  refine run_region rfl ?_
  refine runl_ev (ev_move rfl) ?_
  refine runl_ev (ev_lss rfl rfl) ?_
  refine runl_nil ?_
  refine run_cond_true rfl (decide_eq_true (by omega)) ?_
  refine run_skip ?_
  refine run_seq ?_
  refine run_block ?_
  refine run_seq ?_
  refine run_region rfl ?_
  refine runl_ev (ev_move rfl) ?_
  refine runl_op (t_call call_65 rfl (qraw_any st1 hok1 1)) ?_
  rintro r12 w12 ⟨ow12, rp12⟩
  obtain ⟨v12, st12⟩ := rp12.1
  have hr12 := st12.hr
  have z12 := rp12.2.size
  replace eb := eb.trans rp12.2
  have hcs : (s1.rest = [] ∧ s1.raw 1 = ([], .fail)) ∨ ∃ c l, s1.rest = c :: l ∧ s1.raw 1 = ([c], ⟨l, s1.bad⟩) := by
    unfold RS.raw
    cases hq : s1.rest with
    | nil => exact .inl ⟨rfl, if_pos (.inr (by decide))⟩
    | cons c l => exact .inr ⟨c, l, rfl, by rw [if_neg (by simp only [List.length_cons]; omega)]; rfl⟩
  rcases hcs with ⟨hq, hraw⟩ | ⟨c, l, hq, hraw⟩
  · rw [hraw] at st12 hr12 rp12
    rw [hq] at hrd
    have hnum : s.num = (0, .fail) := by unfold RS.num; rw [← hrd]; rfl
    refine runl_ev (ev_assign rfl) ?_
    refine runl_nil ?_
    refine run_seq ?_
    refine run_seq ?_
    refine run_region rfl ?_
    refine runl_ev (ev_move rfl) ?_
    refine runl_ev (ev_nilCheck rfl) ?_
    refine runl_ev (ev_fieldAddr fld_84_1 rfl) ?_
    refine runl_ev (ev_load1 cell_4 rfl (eqw (cell_blk hr12 rfl))) ?_
    refine runl_nil ?_
    refine run_cond_true rfl (rfl) ?_
    refine run_seq ?_
    refine run_region rfl ?_
    refine runl_ev (ev_assign rfl) ?_
    refine runl_nil ?_
    refine run_ret_any Tryd.func35 (res1 Tryd.results35 rfl) ?_
    rw [hnum]
    exact ⟨rfl, RP.of st12 eb⟩
  · rw [hraw] at st12 hr12 rp12 ow12
    have hgood : s1.bad = false := by
      cases hb : s1.bad with
      | false => rfl
      | true => rw [hok1 hb] at hq; cases hq
    obtain ⟨a12, c12, rfl, hc12, sl12, -⟩ := ow12.sl
    obtain ⟨b12, o12, rfl, cc12⟩ := bytes_cells sl12 (by simp)
    rw [hq, rdN] at hrd
    have hc256 := c.toNat_lt
    refine runl_ev (ev_assign rfl) ?_
    refine runl_nil ?_
    refine run_seq ?_
    refine run_seq ?_
    refine run_region rfl ?_
    refine runl_ev (ev_move rfl) ?_
    refine runl_ev (ev_nilCheck rfl) ?_
    refine runl_ev (ev_fieldAddr fld_84_1 rfl) ?_
    refine runl_ev (ev_load1 cell_4 rfl (eqw (cell_blk hr12 rfl))) ?_
    refine runl_nil ?_
    refine run_cond_false rfl (hgood) ?_
    refine run_skip ?_
    refine run_seq ?_
    refine run_region rfl ?_
    refine runl_ev (ev_move rfl) ?_
    refine runl_ev (ev_indexAddr (k := 0) el_24 rfl rfl (by simp)) ?_
    refine runl_ev (ev_load1 cell_5 rfl (eqw (cc12.pick 0 rfl rfl))) ?_
    refine runl_ev (ev_assign rfl) ?_
    refine runl_nil ?_
    refine run_seq ?_
    refine run_seq ?_
    have hcs : (i = 9 ∧ 127 < c.toNat) ∨ (i = 9 ∧ c.toNat ≤ 127 ∧ 1 < c.toNat) ∨ (i = 9 ∧ c.toNat ≤ 1) ∨ i ≤ 8 := by omega
    rcases hcs with ⟨rfl, hc⟩ | ⟨rfl, hc, hc1⟩ | ⟨rfl, hc⟩ | hi8
    · rw [if_pos (.inl (by omega))] at hrd
      have hnum : s.num = (0, .fail) := by unfold RS.num; rw [← hrd]
      refine run_region rfl ?_
      refine runl_ev (ev_move rfl) ?_
      refine runl_ev (ev_eqlI rfl rfl) ?_
      refine runl_ev (ev_move rfl) ?_
      refine runl_ev_g rfl rfl (rfl) (ev_move rfl) ?_
      refine runl_ev_g rfl rfl (rfl) (ev_gtr rfl rfl) ?_
      refine runl_ev (ev_pick rfl rfl rfl (if_pos (rfl))) ?_
      refine runl_nil ?_
      refine run_cond_true rfl (decide_eq_true (by omega)) ?_
      refine run_exit rfl ?_
      refine run_seq ?_
      refine run_region rfl ?_
      refine runl_ev (ev_move rfl) ?_
      refine runl_op (t_call call_64 rfl (qbad_any st12)) ?_
      rintro _ w56 ⟨rfl, rp56⟩
      have z56 := rp56.2.size
      have eb2 := eb.trans rp56.2
      refine runl_nil ?_
      refine run_seq ?_
      refine run_region rfl ?_
      refine runl_ev (ev_assign rfl) ?_
      refine runl_nil ?_
      refine run_ret_any Tryd.func35 (res1 Tryd.results35 rfl) ?_
      rw [hnum]
      exact ⟨rfl, rp56.1, eb2⟩
    · rw [if_pos (.inl (by omega))] at hrd
      have hnum : s.num = (0, .fail) := by unfold RS.num; rw [← hrd]
      refine run_region rfl ?_
      refine runl_ev (ev_move rfl) ?_
      refine runl_ev (ev_eqlI rfl rfl) ?_
      refine runl_ev (ev_move rfl) ?_
      refine runl_ev_g rfl rfl (rfl) (ev_move rfl) ?_
      refine runl_ev_g rfl rfl (rfl) (ev_gtr rfl rfl) ?_
      refine runl_ev (ev_pick rfl rfl rfl (if_pos (rfl))) ?_
      refine runl_nil ?_
      refine run_cond_false rfl (decide_eq_false (by omega)) ?_
      refine run_skip ?_
      refine run_seq ?_
      refine run_seq ?_
      refine run_region rfl ?_
      refine runl_ev (ev_move rfl) ?_
      refine runl_ev (ev_eqlI rfl rfl) ?_
      refine runl_ev (ev_move rfl) ?_
      refine runl_ev_g rfl rfl (rfl) (ev_move rfl) ?_
      refine runl_ev_g rfl rfl (rfl) (ev_gtr rfl rfl) ?_
      refine runl_ev (ev_pick rfl rfl rfl (if_pos (rfl))) ?_
      refine runl_nil ?_
      refine run_cond_true rfl (decide_eq_true (by omega)) ?_
      refine run_exit rfl ?_
      refine run_seq ?_
      refine run_region rfl ?_
      refine runl_ev (ev_move rfl) ?_
      refine runl_op (t_call call_64 rfl (qbad_any st12)) ?_
      rintro _ w56x1 ⟨rfl, rp56x1⟩
      have z56x1 := rp56x1.2.size
      have eb2 := eb.trans rp56x1.2
      refine runl_nil ?_
      refine run_seq ?_
      refine run_region rfl ?_
      refine runl_ev (ev_assign rfl) ?_
      refine runl_nil ?_
      refine run_ret_any Tryd.func35 (res1 Tryd.results35 rfl) ?_
      rw [hnum]
      exact ⟨rfl, rp56x1.1, eb2⟩
    · rw [if_pos (.inl (by omega))] at hrd
      have hnum : s.num = (0, .fail) := by unfold RS.num; rw [← hrd]
      have hcm : c.toNat % 128 = c.toNat := by omega
      have hbd := acc_bound9 hu (m := c.toNat % 128) (by omega)
      have h9 : (128 : Nat) ^ 9 = 9223372036854775808 := by decide
      refine run_region rfl ?_
      refine runl_ev (ev_move rfl) ?_
      refine runl_ev (ev_eqlI rfl rfl) ?_
      refine runl_ev (ev_move rfl) ?_
      refine runl_ev_g rfl rfl (rfl) (ev_move rfl) ?_
      refine runl_ev_g rfl rfl (rfl) (ev_gtr rfl rfl) ?_
      refine runl_ev (ev_pick rfl rfl rfl (if_pos (rfl))) ?_
      refine runl_nil ?_
      refine run_cond_false rfl (decide_eq_false (by omega)) ?_
      refine run_skip ?_
      refine run_seq ?_
      refine run_seq ?_
      refine run_region rfl ?_
      refine runl_ev (ev_move rfl) ?_
      refine runl_ev (ev_eqlI rfl rfl) ?_
      refine runl_ev (ev_move rfl) ?_
      refine runl_ev_g rfl rfl (rfl) (ev_move rfl) ?_
      refine runl_ev_g rfl rfl (rfl) (ev_gtr rfl rfl) ?_
      refine runl_ev (ev_pick rfl rfl rfl (if_pos (rfl))) ?_
      refine runl_nil ?_
      refine run_cond_false rfl (decide_eq_false (by omega)) ?_
      refine run_skip ?_
      refine run_seq ?_
      refine run_region rfl ?_
      refine runl_ev (ev_move rfl) ?_
      refine runl_ev (ev_move rfl) ?_
      refine runl_ev (ev_and (((c.toNat % 128 : Nat) : Int)) rfl rfl (and127 c)) ?_
      refine runl_ev (ev_convI (((c.toNat % 128 : Nat) : Int)) Tryd.underlying5 Tryd.underlying112 rfl (wrap_u64 (by omega))) ?_
      refine runl_ev (ev_move rfl) ?_
      refine runl_ev (ev_mulK ((7 * ((9 : Nat) : Int))) rfl rfl (wrap_i64 (by omega) (by omega))) ?_
      refine runl_ev (ev_convI ((7 * ((9 : Nat) : Int))) Tryd.underlying3 Tryd.underlying113 rfl (by rw [show (7 * ((9 : Nat) : Int)) = ((7 * 9 : Nat) : Int) by omega]; exact wrap_u64 (by omega))) ?_
      refine runl_ev (ev_shl (((c.toNat % 128 * 128 ^ 9 : Nat) : Int)) rfl rfl (by omega) (shl7g _ _ (by omega) (by omega))) ?_
      refine runl_ev (ev_or (((u + c.toNat % 128 * 128 ^ 9 : Nat) : Int)) rfl rfl (or_addg u _ _ hu hbd)) ?_
      refine runl_ev (ev_assign rfl) ?_
      refine runl_nil ?_
      refine run_seq ?_
      refine run_seq ?_
      refine run_region rfl ?_
      refine runl_ev (ev_move rfl) ?_
      refine runl_ev (ev_gtr rfl rfl) ?_
      refine runl_nil ?_
      refine run_cond_false rfl (decide_eq_false (by omega)) ?_
      refine run_skip ?_
      refine run_seq ?_
      refine run_seq ?_
      have hcs : c.toNat = 0 ∨ c.toNat = 1 := by omega
      rcases hcs with hc0 | hc1
      · refine run_region rfl ?_
        refine runl_ev (ev_move rfl) ?_
        refine runl_ev (ev_gtr rfl rfl) ?_
        refine runl_ev (ev_move rfl) ?_
        refine runl_ev_g rfl rfl (rfl) (ev_move rfl) ?_
        refine runl_ev_g rfl rfl (rfl) (ev_eqlI rfl rfl) ?_
        refine runl_ev (ev_pick rfl rfl rfl (if_pos (rfl))) ?_
        refine runl_ev (ev_move rfl) ?_
        refine runl_no_g rfl rfl (decide_eq_true (by omega)) ?_
        refine runl_no_g rfl rfl (decide_eq_true (by omega)) ?_
        refine runl_ev (ev_pick rfl rfl rfl (if_pos (decide_eq_true (by omega)))) ?_
        refine runl_nil ?_
        refine run_cond_true rfl (rfl) ?_
        refine run_exit rfl ?_
        refine run_seq ?_
        refine run_region rfl ?_
        refine runl_ev (ev_move rfl) ?_
        refine runl_op (t_call call_64 rfl (qbad_any st12)) ?_
        rintro _ w56x2 ⟨rfl, rp56x2⟩
        have z56x2 := rp56x2.2.size
        have eb2 := eb.trans rp56x2.2
        refine runl_nil ?_
        refine run_seq ?_
        refine run_region rfl ?_
        refine runl_ev (ev_assign rfl) ?_
        refine runl_nil ?_
        refine run_ret_any Tryd.func35 (res1 Tryd.results35 rfl) ?_
        rw [hnum]
        exact ⟨rfl, rp56x2.1, eb2⟩
      · refine run_region rfl ?_
        refine runl_ev (ev_move rfl) ?_
        refine runl_ev (ev_gtr rfl rfl) ?_
        refine runl_ev (ev_move rfl) ?_
        refine runl_ev_g rfl rfl (rfl) (ev_move rfl) ?_
        refine runl_ev_g rfl rfl (rfl) (ev_eqlI rfl rfl) ?_
        refine runl_ev (ev_pick rfl rfl rfl (if_pos (rfl))) ?_
        refine runl_ev (ev_move rfl) ?_
        refine runl_ev_g rfl rfl (decide_eq_false (by omega)) (ev_move rfl) ?_
        refine runl_ev_g rfl rfl (decide_eq_false (by omega)) (ev_gtr rfl rfl) ?_
        refine runl_ev (ev_pick rfl rfl rfl (if_neg (by simp; omega))) ?_
        refine runl_nil ?_
        refine run_cond_true rfl (decide_eq_true (by rw [hcm, hc1, h9]; omega)) ?_
        refine run_exit rfl ?_
        refine run_seq ?_
        refine run_region rfl ?_
        refine runl_ev (ev_move rfl) ?_
        refine runl_op (t_call call_64 rfl (qbad_any st12)) ?_
        rintro _ w56x3 ⟨rfl, rp56x3⟩
        have z56x3 := rp56x3.2.size
        have eb2 := eb.trans rp56x3.2
        refine runl_nil ?_
        refine run_seq ?_
        refine run_region rfl ?_
        refine runl_ev (ev_assign rfl) ?_
        refine runl_nil ?_
        refine run_ret_any Tryd.func35 (res1 Tryd.results35 rfl) ?_
        rw [hnum]
        exact ⟨rfl, rp56x3.1, eb2⟩
    · have hbd := acc_bound hu hi8 (m := c.toNat % 128) (by omega)
      refine run_region rfl ?_
      refine runl_ev (ev_move rfl) ?_
      refine runl_ev (ev_eqlI rfl rfl) ?_
      refine runl_ev (ev_move rfl) ?_
      refine runl_no_g rfl rfl (decide_eq_false (by omega)) ?_
      refine runl_no_g rfl rfl (decide_eq_false (by omega)) ?_
      refine runl_ev (ev_pick rfl rfl rfl (if_neg (by simp; omega))) ?_
      refine runl_nil ?_
      refine run_cond_false rfl (rfl) ?_
      refine run_skip ?_
      refine run_seq ?_
      refine run_seq ?_
      refine run_region rfl ?_
      refine runl_ev (ev_move rfl) ?_
      refine runl_ev (ev_eqlI rfl rfl) ?_
      refine runl_ev (ev_move rfl) ?_
      refine runl_no_g rfl rfl (decide_eq_false (by omega)) ?_
      refine runl_no_g rfl rfl (decide_eq_false (by omega)) ?_
      refine runl_ev (ev_pick rfl rfl rfl (if_neg (by simp; omega))) ?_
      refine runl_nil ?_
      refine run_cond_false rfl (rfl) ?_
      refine run_skip ?_
      refine run_seq ?_
      refine run_region rfl ?_
      refine runl_ev (ev_move rfl) ?_
      refine runl_ev (ev_move rfl) ?_
      refine runl_ev (ev_and (((c.toNat % 128 : Nat) : Int)) rfl rfl (and127 c)) ?_
      refine runl_ev (ev_convI (((c.toNat % 128 : Nat) : Int)) Tryd.underlying5 Tryd.underlying112 rfl (wrap_u64 (by omega))) ?_
      refine runl_ev (ev_move rfl) ?_
      refine runl_ev (ev_mulK ((7 * ((i : Nat) : Int))) rfl rfl (wrap_i64 (by omega) (by omega))) ?_
      refine runl_ev (ev_convI ((7 * ((i : Nat) : Int))) Tryd.underlying3 Tryd.underlying113 rfl (by rw [show (7 * (i : Int)) = ((7 * i : Nat) : Int) by omega]; exact wrap_u64 (by omega))) ?_
      refine runl_ev (ev_shl (((c.toNat % 128 * 128 ^ i : Nat) : Int)) rfl rfl (by omega) (shl7g _ _ (by omega) (by omega))) ?_
      refine runl_ev (ev_or (((u + c.toNat % 128 * 128 ^ i : Nat) : Int)) rfl rfl (or_addg u _ _ hu hbd)) ?_
      refine runl_ev (ev_assign rfl) ?_
      refine runl_nil ?_
      refine run_seq ?_
      refine run_seq ?_
      refine run_region rfl ?_
      refine runl_ev (ev_move rfl) ?_
      refine runl_ev (ev_gtr rfl rfl) ?_
      refine runl_nil ?_
      refine run_dcond rfl (fun h4 => ?_) (fun h4 => ?_)
      · rw [if_neg (by rintro (h | ⟨_, h⟩); omega; subst h; simp at h4), if_neg (by omega), show c.toNat - 128 = c.toNat % 128 by omega] at hrd
        refine run_exit rfl ?_
        refine run_region rfl ?_
        refine runl_ev (ev_move rfl) ?_
        refine runl_ev (ev_add rfl rfl (by omega) (by omega)) ?_
        refine runl_ev (ev_assign rfl) ?_
        refine runl_nil ?_
        exact IH (i + 1, u + c.toNat % 128 * 128 ^ i, ⟨l, s1.bad⟩, v12) _ _ (by simp only; omega) ⟨rfl, rfl, rfl, trivial⟩ ⟨by show i + 1 ≤ 9; omega, acc_lt2 hu (by omega), hrd, hbd1, (by intro h; have h : s1.bad = true := h; rw [hgood] at h; cases h), st12, eb⟩
      · have hcm : c.toNat % 128 = c.toNat := by omega
        rw [hcm]
        refine run_skip ?_
        refine run_seq ?_
        refine run_seq ?_
        have hcs : (0 < i ∧ c.toNat = 0) ∨ (0 < i ∧ c.toNat ≠ 0) ∨ i = 0 := by omega
        rcases hcs with ⟨hi0, hc0⟩ | ⟨hi0, hc0⟩ | rfl
        · rw [if_pos (.inr ⟨hi0, by apply UInt8.toNat_inj.1; simpa using hc0⟩)] at hrd
          have hnum : s.num = (0, .fail) := by unfold RS.num; rw [← hrd]
          refine run_region rfl ?_
          refine runl_ev (ev_move rfl) ?_
          refine runl_ev (ev_gtr rfl rfl) ?_
          refine runl_ev (ev_move rfl) ?_
          refine runl_ev_g rfl rfl (decide_eq_true (by omega)) (ev_move rfl) ?_
          refine runl_ev_g rfl rfl (decide_eq_true (by omega)) (ev_eqlI rfl rfl) ?_
          refine runl_ev (ev_pick rfl rfl rfl (if_pos (decide_eq_true (by omega)))) ?_
          refine runl_ev (ev_move rfl) ?_
          refine runl_no_g rfl rfl (decide_eq_true (by omega)) ?_
          refine runl_no_g rfl rfl (decide_eq_true (by omega)) ?_
          refine runl_ev (ev_pick rfl rfl rfl (if_pos (decide_eq_true (by omega)))) ?_
          refine runl_nil ?_
          refine run_cond_true rfl (rfl) ?_
          refine run_exit rfl ?_
          refine run_seq ?_
          refine run_region rfl ?_
          refine runl_ev (ev_move rfl) ?_
          refine runl_op (t_call call_64 rfl (qbad_any st12)) ?_
          rintro _ w56x4 ⟨rfl, rp56x4⟩
          have z56x4 := rp56x4.2.size
          have eb2 := eb.trans rp56x4.2
          refine runl_nil ?_
          refine run_seq ?_
          refine run_region rfl ?_
          refine runl_ev (ev_assign rfl) ?_
          refine runl_nil ?_
          refine run_ret_any Tryd.func35 (res1 Tryd.results35 rfl) ?_
          rw [hnum]
          exact ⟨rfl, rp56x4.1, eb2⟩
        · rw [hbd1] at st12
          rw [if_neg (by rintro (h | ⟨_, h⟩); omega; subst h; simp at hc0), if_pos (by omega)] at hrd
          refine run_region rfl ?_
          refine runl_ev (ev_move rfl) ?_
          refine runl_ev (ev_gtr rfl rfl) ?_
          refine runl_ev (ev_move rfl) ?_
          refine runl_ev_g rfl rfl (decide_eq_true (by omega)) (ev_move rfl) ?_
          refine runl_ev_g rfl rfl (decide_eq_true (by omega)) (ev_eqlI rfl rfl) ?_
          refine runl_ev (ev_pick rfl rfl rfl (if_pos (decide_eq_true (by omega)))) ?_
          refine runl_ev (ev_move rfl) ?_
          refine runl_ev_g rfl rfl (decide_eq_false (by omega)) (ev_move rfl) ?_
          refine runl_ev_g rfl rfl (decide_eq_false (by omega)) (ev_gtr rfl rfl) ?_
          refine runl_ev (ev_pick rfl rfl rfl (if_neg (by simp; omega))) ?_
          refine runl_nil ?_
          refine run_dcond rfl (fun h5 => ?_) (fun h5 => ?_)
          · have hnum : s.num = (0, .fail) := by unfold RS.num; rw [← hrd, if_pos (by omega)]
            refine run_exit rfl ?_
            refine run_seq ?_
            refine run_region rfl ?_
            refine runl_ev (ev_move rfl) ?_
            refine runl_op (t_call call_64 rfl (qbad_any st12)) ?_
            rintro _ w56x5 ⟨rfl, rp56x5⟩
            have z56x5 := rp56x5.2.size
            have eb2 := eb.trans rp56x5.2
            refine runl_nil ?_
            refine run_seq ?_
            refine run_region rfl ?_
            refine runl_ev (ev_assign rfl) ?_
            refine runl_nil ?_
            refine run_ret_any Tryd.func35 (res1 Tryd.results35 rfl) ?_
            rw [hnum]
            first
              | exact ⟨rfl, RP.of st12 eb⟩
              | exact ⟨rfl, rp56x5.1, eb2⟩
              | exact ⟨rfl, rp56x6.1, eb2⟩
          · have hnum : s.num = (((u + c.toNat * 128 ^ i : Nat) : Int), ⟨l, s.bad⟩) := by unfold RS.num; rw [← hrd, if_neg (by omega)]
            refine run_skip ?_
            refine run_seq ?_
            refine run_region rfl ?_
            refine runl_ev (ev_move rfl) ?_
            refine runl_ev (ev_convI (((u + c.toNat * 128 ^ i : Nat) : Int)) Tryd.underlying112 Tryd.underlying3 rfl (wrap_i64 (by omega) (by omega))) ?_
            refine runl_ev (ev_assign rfl) ?_
            refine runl_nil ?_
            refine run_ret_any Tryd.func35 (res1 Tryd.results35 rfl) ?_
            rw [hnum]
            first
              | exact ⟨rfl, RP.of st12 eb⟩
              | exact ⟨rfl, rp56x5.1, eb2⟩
              | exact ⟨rfl, rp56x6.1, eb2⟩
        · rw [hbd1] at st12
          rw [if_neg (by omega), if_pos (by omega)] at hrd
          refine run_region rfl ?_
          refine runl_ev (ev_move rfl) ?_
          refine runl_ev (ev_gtr rfl rfl) ?_
          refine runl_ev (ev_move rfl) ?_
          refine runl_no_g rfl rfl (rfl) ?_
          refine runl_no_g rfl rfl (rfl) ?_
          refine runl_ev (ev_pick rfl rfl rfl (if_neg (by simp))) ?_
          refine runl_ev (ev_move rfl) ?_
          refine runl_ev_g rfl rfl (rfl) (ev_move rfl) ?_
          refine runl_ev_g rfl rfl (rfl) (ev_gtr rfl rfl) ?_
          refine runl_ev (ev_pick rfl rfl rfl (if_neg (by simp))) ?_
          refine runl_nil ?_
          refine run_dcond rfl (fun h5 => ?_) (fun h5 => ?_)
          · have hnum : s.num = (0, .fail) := by unfold RS.num; rw [← hrd, if_pos (by omega)]
            refine run_exit rfl ?_
            refine run_seq ?_
            refine run_region rfl ?_
            refine runl_ev (ev_move rfl) ?_
            refine runl_op (t_call call_64 rfl (qbad_any st12)) ?_
            rintro _ w56x6 ⟨rfl, rp56x6⟩
            have z56x6 := rp56x6.2.size
            have eb2 := eb.trans rp56x6.2
            refine runl_nil ?_
            refine run_seq ?_
            refine run_region rfl ?_
            refine runl_ev (ev_assign rfl) ?_
            refine runl_nil ?_
            refine run_ret_any Tryd.func35 (res1 Tryd.results35 rfl) ?_
            rw [hnum]
            first
              | exact ⟨rfl, RP.of st12 eb⟩
              | exact ⟨rfl, rp56x5.1, eb2⟩
              | exact ⟨rfl, rp56x6.1, eb2⟩
          · have hnum : s.num = (((u + c.toNat * 128 ^ 0 : Nat) : Int), ⟨l, s.bad⟩) := by unfold RS.num; rw [← hrd, if_neg (by omega)]
            refine run_skip ?_
            refine run_seq ?_
            refine run_region rfl ?_
            refine runl_ev (ev_move rfl) ?_
            refine runl_ev (ev_convI (((u + c.toNat * 128 ^ 0 : Nat) : Int)) Tryd.underlying112 Tryd.underlying3 rfl (wrap_i64 (by omega) (by omega))) ?_
            refine runl_ev (ev_assign rfl) ?_
            refine runl_nil ?_
            refine run_ret_any Tryd.func35 (res1 Tryd.results35 rfl) ?_
            rw [hnum]
            first
              | exact ⟨rfl, RP.of st12 eb⟩
              | exact ⟨rfl, rp56x5.1, eb2⟩
              | exact ⟨rfl, rp56x6.1, eb2⟩
end Go.Proofs.YtcmbiaibocdfeaaDoor
