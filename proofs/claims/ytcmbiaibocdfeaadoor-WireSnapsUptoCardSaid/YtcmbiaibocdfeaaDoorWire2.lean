/- The walks of octet's reader. -/
import Derived.Test.YtcmbiaibocdfeaaDoorReader
import Derived.Test.YtcmbiaibocdfeaaDoorWire1
namespace Go.Proofs.YtcmbiaibocdfeaaDoor
open Go Go.Fw
set_option maxRecDepth 100000
theorem acc_lt {u m i : Nat} (hu : u < 128 ^ i) (hm : m < 128) : u + m * 128 ^ i < 128 ^ (i + 1) := by
  have : (m + 1) * 128 ^ i ≤ 128 * 128 ^ i := Nat.mul_le_mul_right _ (by omega)
  rw [Nat.add_mul] at this
  rw [Nat.pow_succ]
  omega

theorem rbad_any {s : RS} {w0 w : World} {rb : Nat} {v : Value} {T : TypeId} (st : RSt T w0 w rb v s) : Ret Tryd.prog 80 [.pointer (some ⟨rb, 0, none⟩)] w fun r w' => r = .tuple #[] ∧ RP T w0 w rb .fail w' := by
  obtain ⟨hr, hrest, ⟨va, vc, rfl, hvc⟩, E, hrb, hlen⟩ := st
  have e0 := ExtB.refl (fun k => k = rb) w
  have lrb := lt_of_at hr
  refine ret_of_run Tryd.func80 rfl Tryd.ntmps80 rfl ?_
  refine run_seq ?_
  refine run_region rfl ?_
  refine runl_ev (ev_move rfl) ?_
  refine runl_ev (ev_neqPn Tryd.underlying77 rfl rfl) ?_
  refine runl_nil ?_
  refine run_cond_true rfl (rfl) ?_
  refine run_region rfl ?_
  refine runl_ev (ev_move rfl) ?_
  refine runl_ev (ev_move rfl) ?_
  refine runl_ev (ev_nilCheck rfl) ?_
  refine runl_ev (ev_fieldAddr fld_130_0 rfl) ?_
  refine runl_do (t_store1 sz_24 rfl rfl rfl rfl hr (by simp)) ?_
  rintro _ v1_4 ⟨hq1_4, e1_4, z1_4⟩
  replace E := E.new1 e1_4 (by omega)
  replace e0 := e0.newB1 e1_4 (by first | exact .inl (by omega) | exact .inr rfl | exact .inr (.inl rfl) | exact .inr (.inr (by omega)))
  replace hr := hq1_4
  clear hq1_4
  refine runl_ev (ev_nilCheck rfl) ?_
  refine runl_ev (ev_fieldAddr fld_130_1 rfl) ?_
  refine runl_do (t_store1 sz_4 rfl rfl rfl rfl hr (by simp)) ?_
  rintro _ v1_7 ⟨hq1_7, e1_7, z1_7⟩
  replace E := E.new1 e1_7 (by omega)
  replace e0 := e0.newB1 e1_7 (by first | exact .inl (by omega) | exact .inr rfl | exact .inr (.inl rfl) | exact .inr (.inr (by omega)))
  replace hr := hq1_7
  clear hq1_7
  refine runl_nil ?_
  refine run_end_any Tryd.func80 (res0 Tryd.results80) ?_
  exact ⟨rfl, ⟨_, hr, sl_nil, ⟨none, 0, rfl, Nat.zero_le _⟩, E, hrb, Nat.zero_le _⟩, e0⟩
theorem rgood_any {s : RS} {w0 w : World} {rb : Nat} {v : Value} {T : TypeId} (st : RSt T w0 w rb v s) : Ret Tryd.prog 81 [.pointer (some ⟨rb, 0, none⟩)] w fun r w' => r = .bool (!s.bad) ∧ Ext w w' := by
  have hr := st.hr
  have e := ExtB.refl (fun _ => False) w
  refine ret_of_run Tryd.func81 rfl Tryd.ntmps81 rfl ?_
  refine run_seq ?_
  refine run_region rfl ?_
  refine runl_ev (ev_assign rfl) ?_
  refine runl_nil ?_
  refine run_seq ?_
  refine run_region rfl ?_
  refine runl_ev (ev_move rfl) ?_
  refine runl_ev (ev_neqPn Tryd.underlying77 rfl rfl) ?_
  refine runl_ev (ev_move rfl) ?_
  refine runl_ev_g rfl rfl (rfl) (ev_move rfl) ?_
  refine runl_ev_g rfl rfl (rfl) (ev_nilCheck rfl) ?_
  refine runl_ev_g rfl rfl (rfl) (ev_fieldAddr fld_130_1 rfl) ?_
  refine runl_ev_g rfl rfl (rfl) (ev_load1 cell_4 rfl (eqw (cell_blk hr rfl))) ?_
  refine runl_ev_g rfl rfl (rfl) (ev_not rfl) ?_
  refine runl_ev (ev_pick rfl rfl rfl rfl) ?_
  refine runl_ev (ev_assign rfl) ?_
  refine runl_nil ?_
  refine run_ret_any Tryd.func81 (res1 Tryd.results81 rfl) ?_
  exact ⟨rfl, e⟩
theorem rwhole_any {s : RS} {w0 w : World} {rb : Nat} {v : Value} {T : TypeId} (st : RSt T w0 w rb v s) : Ret Tryd.prog 61 [.pointer (some ⟨rb, 0, none⟩)] w fun r w' => r = .bool s.whole ∧ Ext w w' := by
  have hr := st.hr
  obtain ⟨va, vc, rfl, hvc⟩ := st.cap
  have e := ExtB.refl (fun _ => False) w
  refine ret_of_run Tryd.func61 rfl Tryd.ntmps61 rfl ?_
  refine run_seq ?_
  refine run_region rfl ?_
  refine runl_ev (ev_assign rfl) ?_
  refine runl_nil ?_
  refine run_seq ?_
  refine run_region rfl ?_
  refine runl_ev (ev_move rfl) ?_
  refine runl_op (t_call call_81 rfl (rgood_any st)) ?_
  rintro _ w4 ⟨rfl, e4⟩
  have z4 := e4.size
  replace hr := e4.at hr
  replace e := e.trans e4
  cases hb : s.bad
  · refine runl_ev (ev_move rfl) ?_
    refine runl_ev_g rfl rfl (by simp) (ev_move rfl) ?_
    refine runl_ev_g rfl rfl (by simp) (ev_nilCheck rfl) ?_
    refine runl_ev_g rfl rfl (by simp) (ev_fieldAddr fld_130_0 rfl) ?_
    refine runl_ev_g rfl rfl (by simp) (ev_load1 cell_24 rfl (eqw (cell_blk hr rfl))) ?_
    refine runl_ev_g rfl rfl (by simp) (ev_lenL sl_24 rfl) ?_
    refine runl_ev_g rfl rfl (by simp) (ev_eqlI rfl rfl) ?_
    refine runl_ev (ev_pick rfl rfl rfl (if_pos (by simp))) ?_
    refine runl_ev (ev_assign rfl) ?_
    refine runl_nil ?_
    refine run_ret_any Tryd.func61 (res1 Tryd.results61 rfl) ?_
    refine ⟨?_, e⟩
    unfold RS.whole
    rw [hb]
    cases s.rest <;> simp
    omega
  · refine runl_ev (ev_move rfl) ?_
    refine runl_no_g rfl rfl (by simp) ?_
    refine runl_no_g rfl rfl (by simp) ?_
    refine runl_no_g rfl rfl (by simp) ?_
    refine runl_no_g rfl rfl (by simp) ?_
    refine runl_no_g rfl rfl (by simp) ?_
    refine runl_no_g rfl rfl (by simp) ?_
    refine runl_ev (ev_pick rfl rfl rfl (if_neg (by simp))) ?_
    refine runl_ev (ev_assign rfl) ?_
    refine runl_nil ?_
    refine run_ret_any Tryd.func61 (res1 Tryd.results61 rfl) ?_
    exact ⟨by simp [RS.whole, hb], e⟩
theorem rraw_any {s : RS} {w0 w : World} {rb : Nat} {v : Value} {T : TypeId} (st : RSt T w0 w rb v s) (n : Int) : Ret Tryd.prog 95 [.pointer (some ⟨rb, 0, none⟩), .int .i64 n] w fun r w' => (∃ g, Own w' 5 1 r (s.raw n).1.length (hcells (s.raw n).1) g ∧ (g = -1 ∨ (w.heap.size : Int) ≤ g) ∧ g < w'.heap.size) ∧ RP T w0 w rb (s.raw n).2 w' := by
  have st0 := st
  obtain ⟨hr, hrest, ⟨va, vc, rfl, hvc⟩, E, hrb, hlen⟩ := st
  have e0 := ExtB.refl (fun k => k = rb) w
  have lrb := lt_of_at hr
  refine ret_of_run Tryd.func95 rfl Tryd.ntmps95 rfl ?_
  refine run_seq ?_
  refine run_region rfl ?_
  refine runl_ev (ev_assign rfl) ?_
  refine runl_nil ?_
  refine run_seq ?_
  refine run_seq ?_
  have hcs : n < 0 ∨ (¬ n < 0 ∧ (s.rest.length : Int) < n) ∨ (¬ n < 0 ∧ ¬ (s.rest.length : Int) < n) := by omega
  rcases hcs with hn | ⟨hn, hn1⟩ | ⟨hn, hn1⟩
  · have hraw : s.raw n = ([], .fail) := if_pos (by omega)
    rw [hraw]
    refine run_region rfl ?_
    refine runl_ev (ev_move rfl) ?_
    refine runl_ev (ev_eqlPn Tryd.underlying77 rfl rfl) ?_
    refine runl_ev (ev_move rfl) ?_
    refine runl_ev_g rfl rfl (rfl) (ev_move rfl) ?_
    refine runl_ev_g rfl rfl (rfl) (ev_lss rfl rfl) ?_
    refine runl_ev (ev_pick rfl rfl rfl (if_neg (by simp))) ?_
    refine runl_ev (ev_move rfl) ?_
    refine runl_no_g rfl rfl (decide_eq_true hn) ?_
    refine runl_no_g rfl rfl (decide_eq_true hn) ?_
    refine runl_no_g rfl rfl (decide_eq_true hn) ?_
    refine runl_no_g rfl rfl (decide_eq_true hn) ?_
    refine runl_no_g rfl rfl (decide_eq_true hn) ?_
    refine runl_no_g rfl rfl (decide_eq_true hn) ?_
    refine runl_no_g rfl rfl (decide_eq_true hn) ?_
    refine runl_ev (ev_pick rfl rfl rfl (if_pos (by first | (simp; done) | (simp; omega)))) ?_
    refine runl_nil ?_
    refine run_cond_true rfl (rfl) ?_
    refine run_seq ?_
    refine run_region rfl ?_
    refine runl_ev (ev_move rfl) ?_
    refine runl_op (t_call call_80 rfl (rbad_any st0)) ?_
    rintro _ w22 ⟨rfl, ⟨v2, st2⟩, eb22⟩
    have z22 := eb22.size
    refine runl_nil ?_
    refine run_seq ?_
    refine run_region rfl ?_
    refine runl_ev (ev_assign rfl) ?_
    refine runl_nil ?_
    refine run_ret_any Tryd.func95 (res1 Tryd.results95 rfl) ?_
    exact ⟨⟨-1, own_nil _ _ _ _, .inl rfl, by omega⟩, ⟨_, st2⟩, eb22⟩
  · have hraw : s.raw n = ([], .fail) := if_pos (by omega)
    rw [hraw]
    refine run_region rfl ?_
    refine runl_ev (ev_move rfl) ?_
    refine runl_ev (ev_eqlPn Tryd.underlying77 rfl rfl) ?_
    refine runl_ev (ev_move rfl) ?_
    refine runl_ev_g rfl rfl (rfl) (ev_move rfl) ?_
    refine runl_ev_g rfl rfl (rfl) (ev_lss rfl rfl) ?_
    refine runl_ev (ev_pick rfl rfl rfl (if_neg (by simp))) ?_
    refine runl_ev (ev_move rfl) ?_
    refine runl_ev_g rfl rfl (decide_eq_false hn) (ev_move rfl) ?_
    refine runl_ev_g rfl rfl (decide_eq_false hn) (ev_move rfl) ?_
    refine runl_ev_g rfl rfl (decide_eq_false hn) (ev_nilCheck rfl) ?_
    refine runl_ev_g rfl rfl (decide_eq_false hn) (ev_fieldAddr fld_130_0 rfl) ?_
    refine runl_ev_g rfl rfl (decide_eq_false hn) (ev_load1 cell_24 rfl (eqw (cell_blk hr rfl))) ?_
    refine runl_ev_g rfl rfl (decide_eq_false hn) (ev_lenL sl_24 rfl) ?_
    refine runl_ev_g rfl rfl (decide_eq_false hn) (ev_gtr rfl rfl) ?_
    refine runl_ev (ev_pick rfl rfl rfl (if_neg (by first | (simp; done) | (simp; omega)))) ?_
    refine runl_nil ?_
    refine run_cond_true rfl (decide_eq_true hn1) ?_
    refine run_seq ?_
    refine run_region rfl ?_
    refine runl_ev (ev_move rfl) ?_
    refine runl_op (t_call call_80 rfl (rbad_any st0)) ?_
    rintro _ w22x1 ⟨rfl, ⟨v2, st2⟩, eb22x1⟩
    have z22x1 := eb22x1.size
    refine runl_nil ?_
    refine run_seq ?_
    refine run_region rfl ?_
    refine runl_ev (ev_assign rfl) ?_
    refine runl_nil ?_
    refine run_ret_any Tryd.func95 (res1 Tryd.results95 rfl) ?_
    exact ⟨⟨-1, own_nil _ _ _ _, .inl rfl, by omega⟩, ⟨_, st2⟩, eb22x1⟩
  · have hraw : s.raw n = (s.rest.take n.toNat, ⟨s.rest.drop n.toNat, s.bad⟩) := if_neg (by omega)
    rw [hraw]
    obtain ⟨k, rfl⟩ := Int.eq_ofNat_of_zero_le (by omega : 0 ≤ n)
    rw [Int.toNat_natCast]
    have hk : k ≤ s.rest.length := by omega
    have hz := E.size
    refine run_region rfl ?_
    refine runl_ev (ev_move rfl) ?_
    refine runl_ev (ev_eqlPn Tryd.underlying77 rfl rfl) ?_
    refine runl_ev (ev_move rfl) ?_
    refine runl_ev_g rfl rfl (rfl) (ev_move rfl) ?_
    refine runl_ev_g rfl rfl (rfl) (ev_lss rfl rfl) ?_
    refine runl_ev (ev_pick rfl rfl rfl (if_neg (by simp))) ?_
    refine runl_ev (ev_move rfl) ?_
    refine runl_ev_g rfl rfl (decide_eq_false hn) (ev_move rfl) ?_
    refine runl_ev_g rfl rfl (decide_eq_false hn) (ev_move rfl) ?_
    refine runl_ev_g rfl rfl (decide_eq_false hn) (ev_nilCheck rfl) ?_
    refine runl_ev_g rfl rfl (decide_eq_false hn) (ev_fieldAddr fld_130_0 rfl) ?_
    refine runl_ev_g rfl rfl (decide_eq_false hn) (ev_load1 cell_24 rfl (eqw (cell_blk hr rfl))) ?_
    refine runl_ev_g rfl rfl (decide_eq_false hn) (ev_lenL sl_24 rfl) ?_
    refine runl_ev_g rfl rfl (decide_eq_false hn) (ev_gtr rfl rfl) ?_
    refine runl_ev (ev_pick rfl rfl rfl (if_neg (by first | (simp; done) | (simp; omega)))) ?_
    refine runl_nil ?_
    refine run_cond_false rfl (decide_eq_false hn1) ?_
    refine run_skip ?_
    refine run_seq ?_
    refine run_region rfl ?_
    refine runl_ev (ev_move rfl) ?_
    refine runl_ev (ev_nilCheck rfl) ?_
    refine runl_ev (ev_fieldAddr fld_130_0 rfl) ?_
    refine runl_ev (ev_load1 cell_24 rfl (eqw (cell_blk hr rfl))) ?_
    refine runl_ev (ev_move rfl) ?_
    refine runl_ev (ev_sliceL_hi (n := k) el_24 rfl rfl (by omega)) ?_
    refine runl_op (t_call call_79 rfl (clone_any (s.rest.take k) _ _ _ _ (bytes_take (hrest.ext RByte.stable E) hk vc) (by rw [List.length_take]; omega))) ?_
    rintro v29 w29 ⟨g29, own, e29, hg29, hgl29⟩
    have z29 := e29.size
    replace hr := e29.at hr
    replace E := E.trans e29
    replace e0 := e0.trans e29.toB
    refine runl_ev (ev_assign rfl) ?_
    refine runl_nil ?_
    refine run_seq ?_
    refine run_region rfl ?_
    refine runl_ev (ev_move rfl) ?_
    refine runl_ev (ev_move rfl) ?_
    refine runl_ev (ev_nilCheck rfl) ?_
    refine runl_ev (ev_fieldAddr fld_130_0 rfl) ?_
    refine runl_ev (ev_load1 cell_24 rfl (eqw (cell_blk hr rfl))) ?_
    refine runl_ev (ev_move rfl) ?_
    refine runl_ev (ev_sliceL_lo (n := k) el_24 rfl rfl (by omega)) ?_
    refine runl_ev (ev_nilCheck rfl) ?_
    refine runl_ev (ev_fieldAddr fld_130_0 rfl) ?_
    refine runl_do (t_store1 sz_24 rfl rfl rfl rfl hr (by simp)) ?_
    rintro _ v5_9 ⟨hq5_9, e5_9, z5_9⟩
    replace E := E.new1 e5_9 (by omega)
    replace e0 := e0.newB1 e5_9 (by first | exact .inl (by omega) | exact .inr rfl | exact .inr (.inl rfl) | exact .inr (.inr (by omega)))
    replace own := own.ext1 e5_9 (by omega)
    replace hr := hq5_9
    clear hq5_9
    refine runl_nil ?_
    refine run_seq ?_
    refine run_region rfl ?_
    refine runl_ev (ev_move rfl) ?_
    refine runl_ev (ev_assign rfl) ?_
    refine runl_nil ?_
    refine run_ret_any Tryd.func95 (res1 Tryd.results95 rfl) ?_
    exact ⟨⟨g29, own, by omega, by omega⟩, ⟨_, hr, bytes_drop hrest hk hvc, ⟨_, _, by rw [List.length_drop], by rw [List.length_drop]; omega⟩, E, hrb, by rw [List.length_drop]; omega⟩, e0⟩
theorem rnum_any {s : RS} {w0 w : World} {rb : Nat} {v : Value} {T : TypeId} (st : RSt T w0 w rb v s) : Ret Tryd.prog 60 [.pointer (some ⟨rb, 0, none⟩)] w fun r w' => r = .int .i64 s.num.1 ∧ RP T w0 w rb s.num.2 w' := by
  have st0 := st
  obtain ⟨hr, hrest, ⟨va, vc, rfl, hvc⟩, E, hrb, hlen⟩ := st
  have e0 := ExtB.refl (fun k => k = rb) w
  have lrb := lt_of_at hr
  refine ret_of_run Tryd.func60 rfl Tryd.ntmps60 rfl ?_
  refine run_seq ?_
  refine run_region rfl ?_
  refine runl_ev (ev_assign rfl) ?_
  refine runl_nil ?_
  refine run_seq ?_
  refine run_seq ?_
  refine run_region rfl ?_
  refine runl_ev (ev_move rfl) ?_
  refine runl_ev (ev_eqlPn Tryd.underlying77 rfl rfl) ?_
  refine runl_nil ?_
  refine run_cond_false rfl (rfl) ?_
  refine run_skip ?_
  refine run_seq ?_
  refine run_region rfl ?_
  refine runl_ev (ev_assign rfl) ?_
  refine runl_nil ?_
  refine run_seq ?_
  refine run_seq ?_
  refine run_region rfl ?_
  refine runl_ev (ev_move rfl) ?_
  refine runl_ev (ev_nilCheck rfl) ?_
  refine runl_ev (ev_fieldAddr fld_130_0 rfl) ?_
  refine runl_ev (ev_load1 cell_24 rfl (eqw (cell_blk hr rfl))) ?_
  refine runl_ev (ev_lenL sl_24 rfl) ?_
  refine runl_ev (ev_move rfl) ?_
  refine runl_nil ?_
  refine run_block ?_
  refine run_loop (ι := Nat × Nat) (fun x => [(0, .pointer (some ⟨rb, 0, none⟩)), (3, .int .u64 (x.2 : Int)), (11, .slice va s.rest.length vc), (12, .int .i64 (s.rest.length : Int)), (13, .int .i64 (x.1 : Int))]) (fun x w' => x.1 ≤ s.rest.length ∧ x.1 ≤ 9 ∧ x.2 < 128 ^ x.1 ∧ rdN x.1 x.2 (s.rest.drop x.1) = rdN 0 0 s.rest ∧ w'.heap[rb]? = some (.cells ⟨[.slice va s.rest.length vc, .bool s.bad]⟩ T (0, 0)) ∧ Ext w0 w' ∧ ExtB (fun k => k = rb) w w') (fun x => s.rest.length - x.1) ((0, 0)) ⟨rfl, rfl, rfl, rfl, rfl, trivial⟩ (⟨Nat.zero_le _, Nat.zero_le _, by decide, rfl, hr, E, e0⟩) ?_
  clear hr E e0
  intro ⟨i, u⟩ w1 ⟨hi, hi9, hu, hrd, hr, E, e0⟩ IH
  simp only at hi hi9 hu hrd
  refine run_seq ?_
  refine run_region rfl ?_
  refine runl_ev (ev_lss rfl rfl) ?_
  refine runl_nil ?_
  refine run_seq ?_
  refine run_dcond rfl (fun h1 => ?_) (fun h1 => ?_)
  · have hi1 : i < s.rest.length := by omega
    obtain ⟨c, hc⟩ : ∃ c, s.rest[i]? = some c := ⟨s.rest[i], by simp⟩
    obtain ⟨b1, o1, cs1, rfl, hr1, hc1⟩ := hrest.get hc
    obtain rfl := hr1
    rw [drop_of_get hc, rdN] at hrd
    have hc256 := c.toNat_lt
    have hu62 : (128 : Nat) ^ 9 = 9223372036854775808 := by decide
    refine run_skip ?_
    refine run_seq ?_
    refine run_block ?_
    refine run_seq ?_
    refine run_region rfl ?_
    refine runl_ev (ev_move rfl) ?_
    refine runl_ev (ev_indexAddr el_24 rfl rfl (by omega)) ?_
    refine runl_ev (ev_load1 cell_5 rfl (eqw (hc1.ext E))) ?_
    refine runl_ev (ev_assign rfl) ?_
    refine runl_ev (ev_assign rfl) ?_
    refine runl_nil ?_
    refine run_seq ?_
    refine run_seq ?_
    have hcs : 9 ≤ i ∨ (i < 9 ∧ 0 < i ∧ c = 0) ∨ (i = 0) ∨ (i < 9 ∧ 0 < i ∧ c ≠ 0) := by by_cases q : c = 0 <;> simp [q] <;> omega
    rcases hcs with hcs | ⟨hcs, hcs1, rfl⟩ | rfl | ⟨hcs, hcs1, hcs2⟩
    · have hnum : s.num = (0, .fail) := by unfold RS.num; rw [← hrd, if_pos (.inl hcs)]
      refine run_region rfl ?_
      refine runl_ev (ev_move rfl) ?_
      refine runl_ev (ev_geq rfl rfl) ?_
      refine runl_ev (ev_move rfl) ?_
      refine runl_no_g rfl rfl (decide_eq_true (by omega)) ?_
      refine runl_no_g rfl rfl (decide_eq_true (by omega)) ?_
      refine runl_no_g rfl rfl (decide_eq_true (by omega)) ?_
      refine runl_no_u rfl rfl ?_
      refine runl_no_u rfl rfl ?_
      refine runl_no_g rfl rfl (decide_eq_true (by omega)) ?_
      refine runl_ev (ev_pick rfl rfl rfl (if_pos (by simp; omega))) ?_
      refine runl_nil ?_
      refine run_cond_true rfl (rfl) ?_
      refine run_exit rfl ?_
      refine run_seq ?_
      refine run_region rfl ?_
      refine runl_ev (ev_move rfl) ?_
      refine runl_op (t_call call_80 rfl (rbad_any ⟨hr, hrest, ⟨_, _, rfl, hvc⟩, E, hrb, hlen⟩)) ?_
      rintro _ w54 ⟨rfl, ⟨v2, st2⟩, eb54⟩
      have eb := e0.newB eb54 (fun k hk => .inr hk)
      have z54 := eb54.size
      refine runl_nil ?_
      refine run_seq ?_
      refine run_region rfl ?_
      refine runl_ev (ev_assign rfl) ?_
      refine runl_nil ?_
      refine run_ret_any Tryd.func60 (res1 Tryd.results60 rfl) ?_
      rw [hnum]
      exact ⟨rfl, ⟨_, st2⟩, eb⟩
    · have hnum : s.num = (0, .fail) := by unfold RS.num; rw [← hrd, if_pos (.inr ⟨hcs1, rfl⟩)]
      refine run_region rfl ?_
      refine runl_ev (ev_move rfl) ?_
      refine runl_ev (ev_geq rfl rfl) ?_
      refine runl_ev (ev_move rfl) ?_
      refine runl_ev_g rfl rfl (decide_eq_false (by omega)) (ev_move rfl) ?_
      refine runl_ev_g rfl rfl (decide_eq_false (by omega)) (ev_gtr rfl rfl) ?_
      refine runl_ev_g rfl rfl (decide_eq_false (by omega)) (ev_move rfl) ?_
      refine runl_ev_g rfl rfl (decide_eq_true (by omega)) (ev_move rfl) ?_
      refine runl_ev_g rfl rfl (decide_eq_true (by omega)) (ev_eqlI rfl rfl) ?_
      refine runl_ev_g rfl rfl (decide_eq_false (by omega)) (ev_pick rfl rfl rfl (if_pos (by simp; omega))) ?_
      refine runl_ev (ev_pick rfl rfl rfl (if_neg (by simp; omega))) ?_
      refine runl_nil ?_
      refine run_cond_true rfl (rfl) ?_
      refine run_exit rfl ?_
      refine run_seq ?_
      refine run_region rfl ?_
      refine runl_ev (ev_move rfl) ?_
      refine runl_op (t_call call_80 rfl (rbad_any ⟨hr, hrest, ⟨_, _, rfl, hvc⟩, E, hrb, hlen⟩)) ?_
      rintro _ w54x1 ⟨rfl, ⟨v2, st2⟩, eb54x1⟩
      have eb := e0.newB eb54x1 (fun k hk => .inr hk)
      have z54x1 := eb54x1.size
      refine runl_nil ?_
      refine run_seq ?_
      refine run_region rfl ?_
      refine runl_ev (ev_assign rfl) ?_
      refine runl_nil ?_
      refine run_ret_any Tryd.func60 (res1 Tryd.results60 rfl) ?_
      rw [hnum]
      exact ⟨rfl, ⟨_, st2⟩, eb⟩
    · rw [if_neg (by omega)] at hrd
      refine run_region rfl ?_
      refine runl_ev (ev_move rfl) ?_
      refine runl_ev (ev_geq rfl rfl) ?_
      refine runl_ev (ev_move rfl) ?_
      refine runl_ev_g rfl rfl (rfl) (ev_move rfl) ?_
      refine runl_ev_g rfl rfl (rfl) (ev_gtr rfl rfl) ?_
      refine runl_ev_g rfl rfl (rfl) (ev_move rfl) ?_
      refine runl_no_g rfl rfl (rfl) ?_
      refine runl_no_g rfl rfl (rfl) ?_
      refine runl_ev_g rfl rfl (rfl) (ev_pick rfl rfl rfl rfl) ?_
      refine runl_ev (ev_pick rfl rfl rfl rfl) ?_
      refine runl_nil ?_
      refine run_cond_false rfl (rfl) ?_
      refine run_skip ?_
      refine run_seq ?_
      refine run_region rfl ?_
      refine runl_ev (ev_move rfl) ?_
      refine runl_ev (ev_move rfl) ?_
      refine runl_ev (ev_and (((c.toNat % 128 : Nat) : Int)) rfl rfl (and127 c)) ?_
      refine runl_ev (ev_convI (((c.toNat % 128 : Nat) : Int)) Tryd.underlying5 Tryd.underlying112 rfl (wrap_u64 (by omega))) ?_
      refine runl_ev (ev_move rfl) ?_
      refine runl_ev (ev_mulK ((7 * ((0 : Nat) : Int))) rfl rfl (wrap_i64 (by omega) (by omega))) ?_
      refine runl_ev (ev_shl (((c.toNat % 128 * 128 ^ 0 : Nat) : Int)) rfl rfl (by omega) (shl7 _ _ (by omega) (by omega))) ?_
      refine runl_ev (ev_or (((u + c.toNat % 128 * 128 ^ 0 : Nat) : Int)) rfl rfl (or_add u _ _ hu (by omega) (by omega))) ?_
      refine runl_ev (ev_assign rfl) ?_
      refine runl_nil ?_
      refine run_seq ?_
      refine run_region rfl ?_
      refine runl_ev (ev_move rfl) ?_
      refine runl_ev (ev_lss rfl rfl) ?_
      refine runl_nil ?_
      refine run_dcond rfl (fun h3 => ?_) (fun h3 => ?_)
      · have hcm : c.toNat % 128 = c.toNat := by omega
        rw [if_pos (by omega)] at hrd
        rw [hcm]
        refine run_seq ?_
        refine run_seq ?_
        refine run_region rfl ?_
        refine runl_ev (ev_move rfl) ?_
        refine runl_ev (ev_gtr rfl rfl) ?_
        refine runl_nil ?_
        refine run_dcond rfl (fun h4 => ?_) (fun h4 => ?_)
        · have hnum : s.num = (0, .fail) := by unfold RS.num; rw [← hrd, if_pos (by omega)]
          refine run_exit rfl ?_
          refine run_seq ?_
          refine run_region rfl ?_
          refine runl_ev (ev_move rfl) ?_
          refine runl_op (t_call call_80 rfl (rbad_any ⟨hr, hrest, ⟨_, _, rfl, hvc⟩, E, hrb, hlen⟩)) ?_
          rintro _ w54x2 ⟨rfl, ⟨v2, st2⟩, eb54x2⟩
          have eb := e0.newB eb54x2 (fun k hk => .inr hk)
          have z54x2 := eb54x2.size
          refine runl_nil ?_
          refine run_seq ?_
          refine run_region rfl ?_
          refine runl_ev (ev_assign rfl) ?_
          refine runl_nil ?_
          refine run_ret_any Tryd.func60 (res1 Tryd.results60 rfl) ?_
          rw [hnum]
          first
            | exact ⟨rfl, ⟨_, st2⟩, eb⟩
            | exact ⟨rfl, ⟨_, hr, bytes_drop hrest (by omega) hvc, ⟨_, _, by rw [List.length_drop], by rw [List.length_drop]; omega⟩, E, hrb, by rw [List.length_drop]; omega⟩, e0⟩
        · have hnum : s.num = (((u + c.toNat * 128 ^ 0 : Nat) : Int), ⟨s.rest.drop (0 + 1), s.bad⟩) := by unfold RS.num; rw [← hrd, if_neg (by omega)]
          refine run_skip ?_
          refine run_seq ?_
          refine run_region rfl ?_
          refine runl_ev (ev_move rfl) ?_
          refine runl_ev (ev_move rfl) ?_
          refine runl_ev (ev_nilCheck rfl) ?_
          refine runl_ev (ev_fieldAddr fld_130_0 rfl) ?_
          refine runl_ev (ev_load1 cell_24 rfl (eqw (cell_blk hr rfl))) ?_
          refine runl_ev (ev_move rfl) ?_
          refine runl_ev (ev_add rfl rfl (by omega) (by omega)) ?_
          refine runl_ev (ev_sliceL_lo (n := 0 + 1) el_24 rfl rfl (by omega)) ?_
          refine runl_ev (ev_nilCheck rfl) ?_
          refine runl_ev (ev_fieldAddr fld_130_0 rfl) ?_
          refine runl_do (t_store1 sz_24 rfl rfl rfl rfl hr (by simp)) ?_
          rintro _ v11_10 ⟨hq11_10, e11_10, z11_10⟩
          replace E := E.new1 e11_10 (by omega)
          replace e0 := e0.newB1 e11_10 (by first | exact .inl (by omega) | exact .inr rfl | exact .inr (.inl rfl) | exact .inr (.inr (by omega)))
          replace hr := hq11_10
          clear hq11_10
          refine runl_nil ?_
          refine run_seq ?_
          refine run_region rfl ?_
          refine runl_ev (ev_move rfl) ?_
          refine runl_ev (ev_convI (((u + c.toNat * 128 ^ 0 : Nat) : Int)) Tryd.underlying112 Tryd.underlying3 rfl (wrap_i64 (by omega) (by omega))) ?_
          refine runl_ev (ev_assign rfl) ?_
          refine runl_nil ?_
          refine run_ret_any Tryd.func60 (res1 Tryd.results60 rfl) ?_
          rw [hnum]
          first
            | exact ⟨rfl, ⟨_, st2⟩, eb⟩
            | exact ⟨rfl, ⟨_, hr, bytes_drop hrest (by omega) hvc, ⟨_, _, by rw [List.length_drop], by rw [List.length_drop]; omega⟩, E, hrb, by rw [List.length_drop]; omega⟩, e0⟩
      · rw [if_neg (by omega)] at hrd
        have hcm2 : c.toNat - 128 = c.toNat % 128 := by omega
        rw [hcm2] at hrd
        refine run_skip ?_
        refine run_inBlock ?_
        refine run_region rfl ?_
        refine runl_ev (ev_add rfl rfl (by omega) (by omega)) ?_
        refine runl_ev (ev_move rfl) ?_
        refine runl_nil ?_
        exact IH (0 + 1, u + c.toNat % 128 * 128 ^ 0) _ _ (by simp only; omega) ⟨rfl, rfl, rfl, rfl, rfl, trivial⟩ ⟨(by show 0 + 1 ≤ _; omega), (by show 0 + 1 ≤ 9; omega), (by show u + _ < 128 ^ (0 + 1); exact acc_lt hu (by omega)), hrd, hr, E, e0⟩
    · rw [if_neg (by rintro (h | ⟨_, h⟩); omega; exact hcs2 h)] at hrd
      have hc0 : ¬ (c.toNat : Int) = 0 := fun h => hcs2 (UInt8.toNat_inj.1 (by show c.toNat = 0; omega))
      refine run_region rfl ?_
      refine runl_ev (ev_move rfl) ?_
      refine runl_ev (ev_geq rfl rfl) ?_
      refine runl_ev (ev_move rfl) ?_
      refine runl_ev_g rfl rfl (decide_eq_false (by omega)) (ev_move rfl) ?_
      refine runl_ev_g rfl rfl (decide_eq_false (by omega)) (ev_gtr rfl rfl) ?_
      refine runl_ev_g rfl rfl (decide_eq_false (by omega)) (ev_move rfl) ?_
      refine runl_ev_g rfl rfl (decide_eq_true (by omega)) (ev_move rfl) ?_
      refine runl_ev_g rfl rfl (decide_eq_true (by omega)) (ev_eqlI rfl rfl) ?_
      refine runl_ev_g rfl rfl (decide_eq_false (by omega)) (ev_pick rfl rfl rfl (if_pos (by simp; omega))) ?_
      refine runl_ev (ev_pick rfl rfl rfl (if_neg (by simp; omega))) ?_
      refine runl_nil ?_
      refine run_cond_false rfl (decide_eq_false hc0) ?_
      refine run_skip ?_
      refine run_seq ?_
      refine run_region rfl ?_
      refine runl_ev (ev_move rfl) ?_
      refine runl_ev (ev_move rfl) ?_
      refine runl_ev (ev_and (((c.toNat % 128 : Nat) : Int)) rfl rfl (and127 c)) ?_
      refine runl_ev (ev_convI (((c.toNat % 128 : Nat) : Int)) Tryd.underlying5 Tryd.underlying112 rfl (wrap_u64 (by omega))) ?_
      refine runl_ev (ev_move rfl) ?_
      refine runl_ev (ev_mulK ((7 * ((i : Nat) : Int))) rfl rfl (wrap_i64 (by omega) (by omega))) ?_
      refine runl_ev (ev_shl (((c.toNat % 128 * 128 ^ i : Nat) : Int)) rfl rfl (by omega) (shl7 _ _ (by omega) (by omega))) ?_
      refine runl_ev (ev_or (((u + c.toNat % 128 * 128 ^ i : Nat) : Int)) rfl rfl (or_add u _ _ hu (by omega) (by omega))) ?_
      refine runl_ev (ev_assign rfl) ?_
      refine runl_nil ?_
      refine run_seq ?_
      refine run_region rfl ?_
      refine runl_ev (ev_move rfl) ?_
      refine runl_ev (ev_lss rfl rfl) ?_
      refine runl_nil ?_
      refine run_dcond rfl (fun h3 => ?_) (fun h3 => ?_)
      · have hcm : c.toNat % 128 = c.toNat := by omega
        rw [if_pos (by omega)] at hrd
        rw [hcm]
        refine run_seq ?_
        refine run_seq ?_
        refine run_region rfl ?_
        refine runl_ev (ev_move rfl) ?_
        refine runl_ev (ev_gtr rfl rfl) ?_
        refine runl_nil ?_
        refine run_dcond rfl (fun h4 => ?_) (fun h4 => ?_)
        · have hnum : s.num = (0, .fail) := by unfold RS.num; rw [← hrd, if_pos (by omega)]
          refine run_exit rfl ?_
          refine run_seq ?_
          refine run_region rfl ?_
          refine runl_ev (ev_move rfl) ?_
          refine runl_op (t_call call_80 rfl (rbad_any ⟨hr, hrest, ⟨_, _, rfl, hvc⟩, E, hrb, hlen⟩)) ?_
          rintro _ w54x3 ⟨rfl, ⟨v2, st2⟩, eb54x3⟩
          have eb := e0.newB eb54x3 (fun k hk => .inr hk)
          have z54x3 := eb54x3.size
          refine runl_nil ?_
          refine run_seq ?_
          refine run_region rfl ?_
          refine runl_ev (ev_assign rfl) ?_
          refine runl_nil ?_
          refine run_ret_any Tryd.func60 (res1 Tryd.results60 rfl) ?_
          rw [hnum]
          first
            | exact ⟨rfl, ⟨_, st2⟩, eb⟩
            | exact ⟨rfl, ⟨_, hr, bytes_drop hrest (by omega) hvc, ⟨_, _, by rw [List.length_drop], by rw [List.length_drop]; omega⟩, E, hrb, by rw [List.length_drop]; omega⟩, e0⟩
        · have hnum : s.num = (((u + c.toNat * 128 ^ i : Nat) : Int), ⟨s.rest.drop (i + 1), s.bad⟩) := by unfold RS.num; rw [← hrd, if_neg (by omega)]
          refine run_skip ?_
          refine run_seq ?_
          refine run_region rfl ?_
          refine runl_ev (ev_move rfl) ?_
          refine runl_ev (ev_move rfl) ?_
          refine runl_ev (ev_nilCheck rfl) ?_
          refine runl_ev (ev_fieldAddr fld_130_0 rfl) ?_
          refine runl_ev (ev_load1 cell_24 rfl (eqw (cell_blk hr rfl))) ?_
          refine runl_ev (ev_move rfl) ?_
          refine runl_ev (ev_add rfl rfl (by omega) (by omega)) ?_
          refine runl_ev (ev_sliceL_lo (n := i + 1) el_24 rfl rfl (by omega)) ?_
          refine runl_ev (ev_nilCheck rfl) ?_
          refine runl_ev (ev_fieldAddr fld_130_0 rfl) ?_
          refine runl_do (t_store1 sz_24 rfl rfl rfl rfl hr (by simp)) ?_
          rintro _ v11_10x1 ⟨hq11_10x1, e11_10x1, z11_10x1⟩
          replace E := E.new1 e11_10x1 (by omega)
          replace e0 := e0.newB1 e11_10x1 (by first | exact .inl (by omega) | exact .inr rfl | exact .inr (.inl rfl) | exact .inr (.inr (by omega)))
          replace hr := hq11_10x1
          clear hq11_10x1
          refine runl_nil ?_
          refine run_seq ?_
          refine run_region rfl ?_
          refine runl_ev (ev_move rfl) ?_
          refine runl_ev (ev_convI (((u + c.toNat * 128 ^ i : Nat) : Int)) Tryd.underlying112 Tryd.underlying3 rfl (wrap_i64 (by omega) (by omega))) ?_
          refine runl_ev (ev_assign rfl) ?_
          refine runl_nil ?_
          refine run_ret_any Tryd.func60 (res1 Tryd.results60 rfl) ?_
          rw [hnum]
          first
            | exact ⟨rfl, ⟨_, st2⟩, eb⟩
            | exact ⟨rfl, ⟨_, hr, bytes_drop hrest (by omega) hvc, ⟨_, _, by rw [List.length_drop], by rw [List.length_drop]; omega⟩, E, hrb, by rw [List.length_drop]; omega⟩, e0⟩
      · rw [if_neg (by omega)] at hrd
        have hcm2 : c.toNat - 128 = c.toNat % 128 := by omega
        rw [hcm2] at hrd
        refine run_skip ?_
        refine run_inBlock ?_
        refine run_region rfl ?_
        refine runl_ev (ev_add rfl rfl (by omega) (by omega)) ?_
        refine runl_ev (ev_move rfl) ?_
        refine runl_nil ?_
        exact IH (i + 1, u + c.toNat % 128 * 128 ^ i) _ _ (by simp only; omega) ⟨rfl, rfl, rfl, rfl, rfl, trivial⟩ ⟨(by show i + 1 ≤ _; omega), (by show i + 1 ≤ 9; omega), (by show u + _ < 128 ^ (i + 1); exact acc_lt hu (by omega)), hrd, hr, E, e0⟩
  · obtain rfl : i = s.rest.length := by omega
    have hnum : s.num = (0, .fail) := by unfold RS.num; rw [← hrd, List.drop_length]; rfl
    refine run_exit rfl ?_
    refine run_seq ?_
    refine run_region rfl ?_
    refine runl_ev (ev_move rfl) ?_
    refine runl_op (t_call call_80 rfl (rbad_any ⟨hr, hrest, ⟨_, _, rfl, hvc⟩, E, hrb, hlen⟩)) ?_
    rintro _ w54x4 ⟨rfl, ⟨v2, st2⟩, eb54x4⟩
    have eb := e0.newB eb54x4 (fun k hk => .inr hk)
    have z54x4 := eb54x4.size
    refine runl_nil ?_
    refine run_seq ?_
    refine run_region rfl ?_
    refine runl_ev (ev_assign rfl) ?_
    refine runl_nil ?_
    refine run_ret_any Tryd.func60 (res1 Tryd.results60 rfl) ?_
    rw [hnum]
    exact ⟨rfl, ⟨_, st2⟩, eb⟩
theorem rbytes_any {s : RS} {w0 w : World} {rb : Nat} {v : Value} {T : TypeId} (st : RSt T w0 w rb v s) : Ret Tryd.prog 89 [.pointer (some ⟨rb, 0, none⟩)] w fun r w' => (∃ g, Own w' 5 1 r s.bytes.1.length (hcells s.bytes.1) g ∧ (g = -1 ∨ (w.heap.size : Int) ≤ g) ∧ g < w'.heap.size) ∧ RP T w0 w rb s.bytes.2 w' := by
  refine ret_of_run Tryd.func89 rfl Tryd.ntmps89 rfl ?_
  refine run_seq ?_
  refine run_region rfl ?_
  refine runl_ev (ev_assign rfl) ?_
  refine runl_nil ?_
  refine run_seq ?_
  refine run_region rfl ?_
  refine runl_ev (ev_move rfl) ?_
  refine runl_ev (ev_move rfl) ?_
  refine runl_op (t_call call_60 rfl (rnum_any st)) ?_
  rintro _ w5 ⟨rfl, ⟨v5, st5⟩, eb5⟩
  have z5 := eb5.size
  refine runl_op (t_call call_95 rfl (rraw_any st5 s.num.1)) ?_
  rintro r6 w6 ⟨⟨g6, own, hg6, hgl6⟩, rp6⟩
  have z6 := rp6.2.size
  refine runl_ev (ev_assign rfl) ?_
  refine runl_nil ?_
  refine run_ret_any Tryd.func89 (res1 Tryd.results89 rfl) ?_
  exact ⟨⟨g6, own, by omega, hgl6⟩, RP.trans st eb5 rp6⟩
end Go.Proofs.YtcmbiaibocdfeaaDoor
