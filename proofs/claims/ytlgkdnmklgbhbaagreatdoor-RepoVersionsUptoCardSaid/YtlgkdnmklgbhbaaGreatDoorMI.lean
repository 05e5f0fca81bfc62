/- The walks of wire's reader: digests, keys, roots. -/
import Derived.Test.YtlgkdnmklgbhbaaGreatDoorMB
import Derived.Test.YtlgkdnmklgbhbaaGreatDoorMC
import Derived.Test.YtlgkdnmklgbhbaaGreatDoorMA
import Derived.Test.YtlgkdnmklgbhbaaGreatDoorMD
import Derived.Test.YtlgkdnmklgbhbaaGreatDoorMF
import Derived.Test.YtlgkdnmklgbhbaaGreatDoorMG
namespace Go.Proofs.YtlgkdnmklgbhbaaGreatDoor
open Go Go.Fw
set_option maxRecDepth 100000

end Go.Proofs.YtlgkdnmklgbhbaaGreatDoor
/- The walks of what decodes a root. -/
namespace Go.Proofs.YtlgkdnmklgbhbaaGreatDoor
open Go Go.Fw
set_option maxRecDepth 100000
theorem root_set {a b : Value} {ks z cs : List Value} {k : Nat} (h : ks.length = 2 * k) (hc : cs.length = 2) : splice (a :: b :: (ks ++ z)) (0 + 2 + k * 2) cs = a :: b :: ((ks ++ cs) ++ z.drop 2) := by
  have := splice_app (pre := a :: b :: ks) (z := z) (vs := cs) (o := 0 + 2 + k * 2) (by simp only [List.length_cons]; omega)
  rw [hc] at this
  simpa using this

end Go.Proofs.YtlgkdnmklgbhbaaGreatDoor
/- The walks of the reference's reader, and of what it decodes. -/
namespace Go.Proofs.YtlgkdnmklgbhbaaGreatDoor
open Go Go.Fw
set_option maxRecDepth 100000

theorem qbad_any {s : RS} {w0 w : World} {rb : Nat} {v : Value} {T : TypeId} (st : RSt T w0 w rb v s) : Ret Tryz.prog 113 [.pointer (some ⟨rb, 0, none⟩)] w fun r w' => r = .tuple #[] ∧ RP T w0 w rb .fail w' := by
  obtain ⟨hr, hrest, ⟨va, vc, rfl, hvc⟩, E, hrb, hlen⟩ := st
  have e0 := ExtB.refl (fun k => k = rb) w
  have lrb := lt_of_at hr
  have hz := E.size
  refine ret_of_run Tryz.func113 rfl Tryz.ntmps113 rfl ?_
  refine run_seq ?_
  refine run_region rfl ?_
  refine runl_ev (ev_move rfl) ?_
  refine runl_ev (ev_nilCheck rfl) ?_
  refine runl_ev (ev_fieldAddr fld_129_1 rfl) ?_
  refine runl_do (t_store1 sz_4 rfl rfl rfl rfl hr (by simp)) ?_
  rintro _ v0_3 ⟨hq0_3, e0_3, z0_3⟩
  replace E := E.new1 e0_3 (by omega)
  replace e0 := e0.newB1 e0_3 (by first | exact .inl (by omega) | exact .inr rfl | exact .inr (.inl rfl) | exact .inr (.inr (by omega)) | (right; omega))
  replace hr := hq0_3
  clear hq0_3
  refine runl_nil ?_
  refine run_region rfl ?_
  refine runl_ev (ev_move rfl) ?_
  refine runl_ev (ev_nilCheck rfl) ?_
  refine runl_ev (ev_fieldAddr fld_129_0 rfl) ?_
  refine runl_do (t_store1 sz_29 rfl rfl rfl rfl hr (by simp)) ?_
  rintro _ v1_3 ⟨hq1_3, e1_3, z1_3⟩
  replace E := E.new1 e1_3 (by omega)
  replace e0 := e0.newB1 e1_3 (by first | exact .inl (by omega) | exact .inr rfl | exact .inr (.inl rfl) | exact .inr (.inr (by omega)) | (right; omega))
  replace hr := hq1_3
  clear hq1_3
  refine runl_nil ?_
  refine run_end_any Tryz.func113 (res0 Tryz.results113) ?_
  exact ⟨rfl, ⟨_, hr, sl_nil, ⟨none, 0, rfl, Nat.zero_le _⟩, E, hrb, Nat.zero_le _⟩, e0⟩
theorem qwhole_any {s : RS} {w0 w : World} {rb : Nat} {v : Value} {T : TypeId} (st : RSt T w0 w rb v s) : Ret Tryz.prog 117 [.pointer (some ⟨rb, 0, none⟩)] w fun r w' => r = .bool s.whole ∧ Ext w w' := by
  have hr := st.hr
  obtain ⟨va, vc, rfl, hvc⟩ := st.cap
  have e := ExtB.refl (fun _ => False) w
  refine ret_of_run Tryz.func117 rfl Tryz.ntmps117 rfl ?_
  refine run_seq ?_
  refine run_region rfl ?_
  refine runl_ev (ev_assign rfl) ?_
  refine runl_nil ?_
  refine run_seq ?_
  cases hb : s.bad
  · refine run_region rfl ?_
    refine runl_ev (ev_move rfl) ?_
    refine runl_ev (ev_nilCheck rfl) ?_
    refine runl_ev (ev_fieldAddr fld_129_1 rfl) ?_
    refine runl_ev (ev_load1 cell_4 rfl (eqw (cell_blk hr rfl))) ?_
    refine runl_ev (ev_not rfl) ?_
    refine runl_ev (ev_move rfl) ?_
    refine runl_ev_g rfl rfl (by rw [hb]; rfl) (ev_move rfl) ?_
    refine runl_ev_g rfl rfl (by rw [hb]; rfl) (ev_nilCheck rfl) ?_
    refine runl_ev_g rfl rfl (by rw [hb]; rfl) (ev_fieldAddr fld_129_0 rfl) ?_
    refine runl_ev_g rfl rfl (by rw [hb]; rfl) (ev_load1 cell_29 rfl (eqw (cell_blk hr rfl))) ?_
    refine runl_ev_g rfl rfl (by rw [hb]; rfl) (ev_lenL sl_29 rfl) ?_
    refine runl_ev_g rfl rfl (by rw [hb]; rfl) (ev_eqlI rfl rfl) ?_
    refine runl_ev (ev_pick rfl rfl rfl (if_pos (by rw [hb]; rfl))) ?_
    refine runl_ev (ev_assign rfl) ?_
    refine runl_nil ?_
    refine run_ret_any Tryz.func117 (res1 Tryz.results117 rfl) ?_
    refine ⟨?_, e⟩
    unfold RS.whole
    rw [hb]
    cases s.rest <;> simp
    omega
  · refine run_region rfl ?_
    refine runl_ev (ev_move rfl) ?_
    refine runl_ev (ev_nilCheck rfl) ?_
    refine runl_ev (ev_fieldAddr fld_129_1 rfl) ?_
    refine runl_ev (ev_load1 cell_4 rfl (eqw (cell_blk hr rfl))) ?_
    refine runl_ev (ev_not rfl) ?_
    refine runl_ev (ev_move rfl) ?_
    refine runl_no_g rfl rfl (by rw [hb]) ?_
    refine runl_no_g rfl rfl (by rw [hb]) ?_
    refine runl_no_g rfl rfl (by rw [hb]) ?_
    refine runl_no_g rfl rfl (by rw [hb]) ?_
    refine runl_no_g rfl rfl (by rw [hb]) ?_
    refine runl_no_g rfl rfl (by rw [hb]) ?_
    refine runl_ev (ev_pick rfl rfl rfl (if_neg (by rw [hb]; simp))) ?_
    refine runl_ev (ev_assign rfl) ?_
    refine runl_nil ?_
    refine run_ret_any Tryz.func117 (res1 Tryz.results117 rfl) ?_
    exact ⟨by simp [RS.whole, hb], e⟩
theorem qraw_any {s : RS} {w0 w : World} {rb : Nat} {v : Value} {T : TypeId} (st : RSt T w0 w rb v s) (hok : s.ok) (n : Int) : Ret Tryz.prog 114 [.pointer (some ⟨rb, 0, none⟩), .int .i64 n] w fun r w' => OwnG 5 1 RByte w (s.raw n).1 r w' ∧ RP T w0 w rb (s.raw n).2 w' := by
  have st0 := st
  obtain ⟨hr, hrest, ⟨va, vc, rfl, hvc⟩, E, hrb, hlen⟩ := st
  have e0 := ExtB.refl (fun k => k = rb) w
  have lrb := lt_of_at hr
  have hz := E.size
  refine ret_of_run Tryz.func114 rfl Tryz.ntmps114 rfl ?_
  refine run_seq ?_
  refine run_region rfl ?_
  refine runl_ev (ev_assign rfl) ?_
  refine runl_nil ?_
  refine run_seq ?_
  refine run_seq ?_
  have hcs : n < 0 ∨ (¬ n < 0 ∧ (s.rest.length : Int) < n) ∨ (¬ n < 0 ∧ ¬ (s.rest.length : Int) < n) := by omega
  rcases hcs with hn | ⟨hn, hn1⟩ | ⟨hn, hn1⟩
  · have hraw : s.raw n = ([], .fail) := if_pos (by omega)
    rw [hraw]
    refine run_region rfl ?_
    refine runl_ev (ev_move rfl) ?_
    refine runl_ev (ev_lss rfl rfl) ?_
    refine runl_ev (ev_move rfl) ?_
    refine runl_no_g rfl rfl (decide_eq_true hn) ?_
    refine runl_no_g rfl rfl (decide_eq_true hn) ?_
    refine runl_no_g rfl rfl (decide_eq_true hn) ?_
    refine runl_no_g rfl rfl (decide_eq_true hn) ?_
    refine runl_no_g rfl rfl (decide_eq_true hn) ?_
    refine runl_no_g rfl rfl (decide_eq_true hn) ?_
    refine runl_no_g rfl rfl (decide_eq_true hn) ?_
    refine runl_ev (ev_pick rfl rfl rfl (if_pos (decide_eq_true hn))) ?_
    refine runl_nil ?_
    refine run_cond_true rfl (rfl) ?_
    refine run_region rfl ?_
    refine runl_ev (ev_move rfl) ?_
    refine runl_op (t_call call_113 rfl (qbad_any st0)) ?_
    rintro _ w18 ⟨rfl, ⟨v2, st2⟩, eb18⟩
    have hr2 := st2.hr
    have z18 := eb18.size
    refine runl_nil ?_
    refine run_seq ?_
    refine run_seq ?_
    refine run_region rfl ?_
    refine runl_ev (ev_move rfl) ?_
    refine runl_ev (ev_nilCheck rfl) ?_
    refine runl_ev (ev_fieldAddr fld_129_1 rfl) ?_
    refine runl_ev (ev_load1 cell_4 rfl (eqw (cell_blk hr2 rfl))) ?_
    refine runl_nil ?_
    refine run_cond_true rfl (rfl) ?_
    refine run_seq ?_
    refine run_region rfl ?_
    refine runl_ev (ev_assign rfl) ?_
    refine runl_nil ?_
    refine run_ret_any Tryz.func114 (res1 Tryz.results114 rfl) ?_
    exact ⟨OwnG.nil _ _, ⟨_, st2⟩, eb18⟩
  · have hraw : s.raw n = ([], .fail) := if_pos (by omega)
    rw [hraw]
    refine run_region rfl ?_
    refine runl_ev (ev_move rfl) ?_
    refine runl_ev (ev_lss rfl rfl) ?_
    refine runl_ev (ev_move rfl) ?_
    refine runl_ev_g rfl rfl (decide_eq_false hn) (ev_move rfl) ?_
    refine runl_ev_g rfl rfl (decide_eq_false hn) (ev_move rfl) ?_
    refine runl_ev_g rfl rfl (decide_eq_false hn) (ev_nilCheck rfl) ?_
    refine runl_ev_g rfl rfl (decide_eq_false hn) (ev_fieldAddr fld_129_0 rfl) ?_
    refine runl_ev_g rfl rfl (decide_eq_false hn) (ev_load1 cell_29 rfl (eqw (cell_blk hr rfl))) ?_
    refine runl_ev_g rfl rfl (decide_eq_false hn) (ev_lenL sl_29 rfl) ?_
    refine runl_ev_g rfl rfl (decide_eq_false hn) (ev_gtr rfl rfl) ?_
    refine runl_ev (ev_pick rfl rfl rfl (if_neg (by simp; omega))) ?_
    refine runl_nil ?_
    refine run_cond_true rfl (decide_eq_true hn1) ?_
    refine run_region rfl ?_
    refine runl_ev (ev_move rfl) ?_
    refine runl_op (t_call call_113 rfl (qbad_any st0)) ?_
    rintro _ w18x1 ⟨rfl, ⟨v2, st2⟩, eb18x1⟩
    have hr2 := st2.hr
    have z18x1 := eb18x1.size
    refine runl_nil ?_
    refine run_seq ?_
    refine run_seq ?_
    refine run_region rfl ?_
    refine runl_ev (ev_move rfl) ?_
    refine runl_ev (ev_nilCheck rfl) ?_
    refine runl_ev (ev_fieldAddr fld_129_1 rfl) ?_
    refine runl_ev (ev_load1 cell_4 rfl (eqw (cell_blk hr2 rfl))) ?_
    refine runl_nil ?_
    refine run_cond_true rfl (rfl) ?_
    refine run_seq ?_
    refine run_region rfl ?_
    refine runl_ev (ev_assign rfl) ?_
    refine runl_nil ?_
    refine run_ret_any Tryz.func114 (res1 Tryz.results114 rfl) ?_
    exact ⟨OwnG.nil _ _, ⟨_, st2⟩, eb18x1⟩
  · refine run_region rfl ?_
    refine runl_ev (ev_move rfl) ?_
    refine runl_ev (ev_lss rfl rfl) ?_
    refine runl_ev (ev_move rfl) ?_
    refine runl_ev_g rfl rfl (decide_eq_false hn) (ev_move rfl) ?_
    refine runl_ev_g rfl rfl (decide_eq_false hn) (ev_move rfl) ?_
    refine runl_ev_g rfl rfl (decide_eq_false hn) (ev_nilCheck rfl) ?_
    refine runl_ev_g rfl rfl (decide_eq_false hn) (ev_fieldAddr fld_129_0 rfl) ?_
    refine runl_ev_g rfl rfl (decide_eq_false hn) (ev_load1 cell_29 rfl (eqw (cell_blk hr rfl))) ?_
    refine runl_ev_g rfl rfl (decide_eq_false hn) (ev_lenL sl_29 rfl) ?_
    refine runl_ev_g rfl rfl (decide_eq_false hn) (ev_gtr rfl rfl) ?_
    refine runl_ev (ev_pick rfl rfl rfl (if_neg (by simp; omega))) ?_
    refine runl_nil ?_
    refine run_cond_false rfl (decide_eq_false hn1) ?_
    refine run_skip ?_
    refine run_seq ?_
    refine run_seq ?_
    refine run_region rfl ?_
    refine runl_ev (ev_move rfl) ?_
    refine runl_ev (ev_nilCheck rfl) ?_
    refine runl_ev (ev_fieldAddr fld_129_1 rfl) ?_
    refine runl_ev (ev_load1 cell_4 rfl (eqw (cell_blk hr rfl))) ?_
    refine runl_nil ?_
    refine run_cond_split rfl (fun h1 => ?_) (fun h1 => ?_)
    · rw [raw_bad h1 hok hn hn1]
      refine run_seq ?_
      refine run_region rfl ?_
      refine runl_ev (ev_assign rfl) ?_
      refine runl_nil ?_
      refine run_ret_any Tryz.func114 (res1 Tryz.results114 rfl) ?_
      exact ⟨OwnG.nil _ _, RP.of st0 e0⟩
    · have hraw : s.raw n = (s.rest.take n.toNat, ⟨s.rest.drop n.toNat, s.bad⟩) := if_neg (by omega)
      rw [hraw]
      obtain ⟨k, rfl⟩ := Int.eq_ofNat_of_zero_le (by omega : 0 ≤ n)
      rw [Int.toNat_natCast]
      have hk : k ≤ s.rest.length := by omega
      refine run_skip ?_
      refine run_seq ?_
      refine run_region rfl ?_
      refine runl_op (t_buildSlice0 Tryz.underlying29 sz_5) ?_
      rintro _ w23 ⟨b23, rfl, hb23, e23, n23, l23⟩
      have z23 := e23.size
      replace hr := e23.at hr
      replace E := E.trans e23
      replace e0 := e0.trans e23.toB
      refine runl_ev (ev_move rfl) ?_
      refine runl_ev (ev_nilCheck rfl) ?_
      refine runl_ev (ev_fieldAddr fld_129_0 rfl) ?_
      refine runl_ev (ev_load1 cell_29 rfl (eqw (cell_blk hr rfl))) ?_
      refine runl_ev (ev_move rfl) ?_
      refine runl_ev (ev_sliceL_hi (n := k) el_29 rfl rfl (by omega)) ?_
      refine runl_op (t_appendL (l := s.rest.take k) (R := RByte) ef_29 rfl rfl (own_lit (n := 0) hb23 (by unfold maxLen; omega) rfl) (bytes_take (hrest.ext RByte.stable E) hk vc) rbyte_len (fun x cs h => rbyte_one x cs h) (by unfold maxLen; omega) (by omega)) ?_
      rintro v30 w30 ⟨n30, g30, hnl, hnp, ap30⟩
      have ow30 := OwnG.app flat_byte (l := []) (xs := []) (w := w) (by omega) (.inr (by omega)) (by omega) pn rfl hnp ap30 rfl (by rw [List.length_take]; omega)
      have hs30 := ap30.size
      rw [List.nil_append] at ow30
      have z30 := ap30.ext.size
      replace hr := ap30.ext.atG hr (by first | assumption | omega)
      replace E := E.newG ap30.ext (by omega)
      replace e0 := e0.newBG ap30.ext (fun k hk => by first | exact .inl (by omega) | exact .inr hk | exact .inr (.inr hk) | exact .inr (.inr (by omega)))
      refine runl_ev (ev_assign rfl) ?_
      refine runl_nil ?_
      refine run_seq ?_
      refine run_region rfl ?_
      refine runl_ev (ev_move rfl) ?_
      refine runl_ev (ev_move rfl) ?_
      refine runl_ev (ev_nilCheck rfl) ?_
      refine runl_ev (ev_fieldAddr fld_129_0 rfl) ?_
      refine runl_ev (ev_load1 cell_29 rfl (eqw (cell_blk hr rfl))) ?_
      refine runl_ev (ev_move rfl) ?_
      refine runl_ev (ev_sliceL_lo (n := k) el_29 rfl rfl (by omega)) ?_
      refine runl_ev (ev_nilCheck rfl) ?_
      refine runl_ev (ev_fieldAddr fld_129_0 rfl) ?_
      refine runl_do (t_store1 sz_29 rfl rfl rfl rfl hr (by simp)) ?_
      rintro _ v6_9 ⟨hq6_9, e6_9, z6_9⟩
      replace E := E.new1 e6_9 (by omega)
      replace e0 := e0.newB1 e6_9 (by first | exact .inl (by omega) | exact .inr rfl | exact .inr (.inl rfl) | exact .inr (.inr (by omega)) | (right; omega))
      replace hr := hq6_9
      clear hq6_9
      refine runl_nil ?_
      refine run_seq ?_
      refine run_region rfl ?_
      refine runl_ev (ev_move rfl) ?_
      refine runl_ev (ev_assign rfl) ?_
      refine runl_nil ?_
      refine run_ret_any Tryz.func114 (res1 Tryz.results114 rfl) ?_
      exact ⟨ow30.keep flat_byte e6_9 (fun j hj => .inl (by omega)), ⟨_, hr, bytes_drop hrest hk hvc, ⟨_, _, by rw [List.length_drop], by rw [List.length_drop]; omega⟩, E, hrb, by rw [List.length_drop]; omega⟩, e0⟩
theorem qnum_any {s : RS} {w0 w : World} {rb : Nat} {v : Value} {T : TypeId} (st : RSt T w0 w rb v s) (hok : s.ok) : Ret Tryz.prog 54 [.pointer (some ⟨rb, 0, none⟩)] w fun r w' => r = .int .i64 s.num.1 ∧ RP T w0 w rb s.num.2 w' := by
  have e := ExtB.refl (fun _ => False) w
  have lrb := st.lt
  have zst := st.ext.size
  have hrb := st.hrb
  have hlen := st.len
  refine ret_of_run Tryz.func54 rfl Tryz.ntmps54 rfl ?_
  refine run_seq ?_
  refine run_region rfl ?_
  refine runl_ev (ev_assign rfl) ?_
  refine runl_nil ?_
  refine run_seq ?_
  refine run_region rfl ?_
  refine runl_ev (ev_assign rfl) ?_
  refine runl_nil ?_
  refine run_seq ?_
  refine run_seq ?_
  refine run_region rfl ?_
  refine runl_ev (ev_assign rfl) ?_
  refine runl_nil ?_
  refine run_block ?_
  refine run_loop (ι := Nat × Nat × RS × Value) (fun x => [(0, .pointer (some ⟨rb, 0, none⟩)), (3, .int .u64 (x.2.1 : Int)), (4, .int .i64 (x.1 : Int))]) (fun x w1 => x.1 ≤ 9 ∧ x.2.1 < 128 ^ x.1 ∧ rdN x.1 x.2.1 x.2.2.1.rest = rdN 0 0 s.rest ∧ x.2.2.1.bad = s.bad ∧ x.2.2.1.ok ∧ RSt T w0 w1 rb x.2.2.2 x.2.2.1 ∧ ExtB (fun k => k = rb) w w1) (fun x => 9 - x.1) ((0, 0, s, v)) ⟨rfl, rfl, rfl, trivial⟩ (⟨Nat.zero_le _, by show 0 < 1; decide, rfl, rfl, hok, st, Ext.toB e⟩) ?_
  clear e
  intro ⟨i, u, s1, v1⟩ w1 ⟨hi, hu, hrd, hbd1, hok1, st1, eb⟩ IH
  simp only at hi hu hrd hbd1 hok1 st1
  have lrb1 := st1.lt
  refine run_seq ?_
  refine run_seq ?_
  refine run_region rfl ?_
  refine runl_ev (ev_move rfl) ?_
  refine runl_ev (ev_lss rfl rfl) ?_
  refine runl_nil ?_
  refine run_cond_true rfl (decide_eq_true (by omega)) ?_
  refine run_skip ?_
  refine run_seq ?_
  refine run_block ?_
  refine run_seq ?_
  refine run_region rfl ?_
  refine runl_ev (ev_move rfl) ?_
  refine runl_op (t_call call_114 rfl (qraw_any st1 hok1 1)) ?_
  rintro r12 w12 ⟨ow12, rp12⟩
  obtain ⟨v12, st12⟩ := rp12.1
  have hr12 := st12.hr
  have z12 := rp12.2.size
  replace eb := eb.trans rp12.2
  have hcs : (s1.rest = [] ∧ s1.raw 1 = ([], .fail)) ∨ ∃ c l, s1.rest = c :: l ∧ s1.raw 1 = ([c], ⟨l, s1.bad⟩) := by
    unfold RS.raw
    cases hq : s1.rest with
    | nil => exact .inl ⟨rfl, if_pos (.inr (by decide))⟩
    | cons c l => exact .inr ⟨c, l, rfl, by rw [if_neg (by simp only [List.length_cons]; omega)]; rfl⟩
  rcases hcs with ⟨hq, hraw⟩ | ⟨c, l, hq, hraw⟩
  · rw [hraw] at st12 hr12 rp12
    rw [hq] at hrd
    have hnum : s.num = (0, .fail) := by unfold RS.num; rw [← hrd]; rfl
    refine runl_ev (ev_assign rfl) ?_
    refine runl_nil ?_
    refine run_seq ?_
    refine run_seq ?_
    refine run_region rfl ?_
    refine runl_ev (ev_move rfl) ?_
    refine runl_ev (ev_nilCheck rfl) ?_
    refine runl_ev (ev_fieldAddr fld_129_1 rfl) ?_
    refine runl_ev (ev_load1 cell_4 rfl (eqw (cell_blk hr12 rfl))) ?_
    refine runl_nil ?_
    refine run_cond_true rfl (rfl) ?_
    refine run_seq ?_
    refine run_region rfl ?_
    refine runl_ev (ev_assign rfl) ?_
    refine runl_nil ?_
    refine run_ret_any Tryz.func54 (res1 Tryz.results54 rfl) ?_
    rw [hnum]
    exact ⟨rfl, RP.of st12 eb⟩
  · rw [hraw] at st12 hr12 rp12 ow12
    have hgood : s1.bad = false := by
      cases hb : s1.bad with
      | false => rfl
      | true => rw [hok1 hb] at hq; cases hq
    obtain ⟨a12, c12, rfl, hc12, sl12, -⟩ := ow12.sl
    obtain ⟨b12, o12, rfl, cc12⟩ := bytes_cells sl12 (by simp)
    rw [hq, rdN] at hrd
    have hc256 := c.toNat_lt
    refine runl_ev (ev_assign rfl) ?_
    refine runl_nil ?_
    refine run_seq ?_
    refine run_seq ?_
    refine run_region rfl ?_
    refine runl_ev (ev_move rfl) ?_
    refine runl_ev (ev_nilCheck rfl) ?_
    refine runl_ev (ev_fieldAddr fld_129_1 rfl) ?_
    refine runl_ev (ev_load1 cell_4 rfl (eqw (cell_blk hr12 rfl))) ?_
    refine runl_nil ?_
    refine run_cond_false rfl (hgood) ?_
    refine run_skip ?_
    refine run_seq ?_
    refine run_region rfl ?_
    refine runl_ev (ev_move rfl) ?_
    refine runl_ev (ev_indexAddr (k := 0) el_29 rfl rfl (by simp)) ?_
    refine runl_ev (ev_load1 cell_5 rfl (eqw (cc12.pick 0 rfl rfl))) ?_
    refine runl_ev (ev_assign rfl) ?_
    refine runl_nil ?_
    refine run_seq ?_
    refine run_seq ?_
    have hcs : (i = 9 ∧ 127 < c.toNat) ∨ (i = 9 ∧ c.toNat ≤ 127 ∧ 1 < c.toNat) ∨ (i = 9 ∧ c.toNat ≤ 1) ∨ i ≤ 8 := by omega
    rcases hcs with ⟨rfl, hc⟩ | ⟨rfl, hc, hc1⟩ | ⟨rfl, hc⟩ | hi8
    · rw [if_pos (.inl (by omega))] at hrd
      have hnum : s.num = (0, .fail) := by unfold RS.num; rw [← hrd]
      refine run_region rfl ?_
      refine runl_ev (ev_move rfl) ?_
      refine runl_ev (ev_eqlI rfl rfl) ?_
      refine runl_ev (ev_move rfl) ?_
      refine runl_ev_g rfl rfl (rfl) (ev_move rfl) ?_
      refine runl_ev_g rfl rfl (rfl) (ev_gtr rfl rfl) ?_
      refine runl_ev (ev_pick rfl rfl rfl (if_pos (rfl))) ?_
      refine runl_nil ?_
      refine run_cond_true rfl (decide_eq_true (by omega)) ?_
      refine run_exit rfl ?_
      refine run_seq ?_
      refine run_region rfl ?_
      refine runl_ev (ev_move rfl) ?_
      refine runl_op (t_call call_113 rfl (qbad_any st12)) ?_
      rintro _ w56 ⟨rfl, rp56⟩
      have z56 := rp56.2.size
      have eb2 := eb.trans rp56.2
      refine runl_nil ?_
      refine run_seq ?_
      refine run_region rfl ?_
      refine runl_ev (ev_assign rfl) ?_
      refine runl_nil ?_
      refine run_ret_any Tryz.func54 (res1 Tryz.results54 rfl) ?_
      rw [hnum]
      exact ⟨rfl, rp56.1, eb2⟩
    · rw [if_pos (.inl (by omega))] at hrd
      have hnum : s.num = (0, .fail) := by unfold RS.num; rw [← hrd]
      refine run_region rfl ?_
      refine runl_ev (ev_move rfl) ?_
      refine runl_ev (ev_eqlI rfl rfl) ?_
      refine runl_ev (ev_move rfl) ?_
      refine runl_ev_g rfl rfl (rfl) (ev_move rfl) ?_
      refine runl_ev_g rfl rfl (rfl) (ev_gtr rfl rfl) ?_
      refine runl_ev (ev_pick rfl rfl rfl (if_pos (rfl))) ?_
      refine runl_nil ?_
      refine run_cond_false rfl (decide_eq_false (by omega)) ?_
      refine run_skip ?_
      refine run_seq ?_
      refine run_seq ?_
      refine run_region rfl ?_
      refine runl_ev (ev_move rfl) ?_
      refine runl_ev (ev_eqlI rfl rfl) ?_
      refine runl_ev (ev_move rfl) ?_
      refine runl_ev_g rfl rfl (rfl) (ev_move rfl) ?_
      refine runl_ev_g rfl rfl (rfl) (ev_gtr rfl rfl) ?_
      refine runl_ev (ev_pick rfl rfl rfl (if_pos (rfl))) ?_
      refine runl_nil ?_
      refine run_cond_true rfl (decide_eq_true (by omega)) ?_
      refine run_exit rfl ?_
      refine run_seq ?_
      refine run_region rfl ?_
      refine runl_ev (ev_move rfl) ?_
      refine runl_op (t_call call_113 rfl (qbad_any st12)) ?_
      rintro _ w56x1 ⟨rfl, rp56x1⟩
      have z56x1 := rp56x1.2.size
      have eb2 := eb.trans rp56x1.2
      refine runl_nil ?_
      refine run_seq ?_
      refine run_region rfl ?_
      refine runl_ev (ev_assign rfl) ?_
      refine runl_nil ?_
      refine run_ret_any Tryz.func54 (res1 Tryz.results54 rfl) ?_
      rw [hnum]
      exact ⟨rfl, rp56x1.1, eb2⟩
    · rw [if_pos (.inl (by omega))] at hrd
      have hnum : s.num = (0, .fail) := by unfold RS.num; rw [← hrd]
      have hcm : c.toNat % 128 = c.toNat := by omega
      have hbd := acc_bound9 hu (m := c.toNat % 128) (by omega)
      have h9 : (128 : Nat) ^ 9 = 9223372036854775808 := by decide
      refine run_region rfl ?_
      refine runl_ev (ev_move rfl) ?_
      refine runl_ev (ev_eqlI rfl rfl) ?_
      refine runl_ev (ev_move rfl) ?_
      refine runl_ev_g rfl rfl (rfl) (ev_move rfl) ?_
      refine runl_ev_g rfl rfl (rfl) (ev_gtr rfl rfl) ?_
      refine runl_ev (ev_pick rfl rfl rfl (if_pos (rfl))) ?_
      refine runl_nil ?_
      refine run_cond_false rfl (decide_eq_false (by omega)) ?_
      refine run_skip ?_
      refine run_seq ?_
      refine run_seq ?_
      refine run_region rfl ?_
      refine runl_ev (ev_move rfl) ?_
      refine runl_ev (ev_eqlI rfl rfl) ?_
      refine runl_ev (ev_move rfl) ?_
      refine runl_ev_g rfl rfl (rfl) (ev_move rfl) ?_
      refine runl_ev_g rfl rfl (rfl) (ev_gtr rfl rfl) ?_
      refine runl_ev (ev_pick rfl rfl rfl (if_pos (rfl))) ?_
      refine runl_nil ?_
      refine run_cond_false rfl (decide_eq_false (by omega)) ?_
      refine run_skip ?_
      refine run_seq ?_
      refine run_region rfl ?_
      refine runl_ev (ev_move rfl) ?_
      refine runl_ev (ev_move rfl) ?_
      refine runl_ev (ev_and (((c.toNat % 128 : Nat) : Int)) rfl rfl (and127 c)) ?_
      refine runl_ev (ev_convI (((c.toNat % 128 : Nat) : Int)) Tryz.underlying5 Tryz.underlying197 rfl (wrap_u64 (by omega))) ?_
      refine runl_ev (ev_move rfl) ?_
      refine runl_ev (ev_mulK ((7 * ((9 : Nat) : Int))) rfl rfl (wrap_i64 (by omega) (by omega))) ?_
      refine runl_ev (ev_convI ((7 * ((9 : Nat) : Int))) Tryz.underlying3 Tryz.underlying198 rfl (by rw [show (7 * ((9 : Nat) : Int)) = ((7 * 9 : Nat) : Int) by omega]; exact wrap_u64 (by omega))) ?_
      refine runl_ev (ev_shl (((c.toNat % 128 * 128 ^ 9 : Nat) : Int)) rfl rfl (by omega) (shl7g _ _ (by omega) (by omega))) ?_
      refine runl_ev (ev_or (((u + c.toNat % 128 * 128 ^ 9 : Nat) : Int)) rfl rfl (or_addg u _ _ hu hbd)) ?_
      refine runl_ev (ev_assign rfl) ?_
      refine runl_nil ?_
      refine run_seq ?_
      refine run_seq ?_
      refine run_region rfl ?_
      refine runl_ev (ev_move rfl) ?_
      refine runl_ev (ev_gtr rfl rfl) ?_
      refine runl_nil ?_
      refine run_cond_false rfl (decide_eq_false (by omega)) ?_
      refine run_skip ?_
      refine run_seq ?_
      refine run_seq ?_
      have hcs : c.toNat = 0 ∨ c.toNat = 1 := by omega
      rcases hcs with hc0 | hc1
      · refine run_region rfl ?_
        refine runl_ev (ev_move rfl) ?_
        refine runl_ev (ev_gtr rfl rfl) ?_
        refine runl_ev (ev_move rfl) ?_
        refine runl_ev_g rfl rfl (rfl) (ev_move rfl) ?_
        refine runl_ev_g rfl rfl (rfl) (ev_eqlI rfl rfl) ?_
        refine runl_ev (ev_pick rfl rfl rfl (if_pos (rfl))) ?_
        refine runl_ev (ev_move rfl) ?_
        refine runl_no_g rfl rfl (decide_eq_true (by omega)) ?_
        refine runl_no_g rfl rfl (decide_eq_true (by omega)) ?_
        refine runl_ev (ev_pick rfl rfl rfl (if_pos (decide_eq_true (by omega)))) ?_
        refine runl_nil ?_
        refine run_cond_true rfl (rfl) ?_
        refine run_exit rfl ?_
        refine run_seq ?_
        refine run_region rfl ?_
        refine runl_ev (ev_move rfl) ?_
        refine runl_op (t_call call_113 rfl (qbad_any st12)) ?_
        rintro _ w56x2 ⟨rfl, rp56x2⟩
        have z56x2 := rp56x2.2.size
        have eb2 := eb.trans rp56x2.2
        refine runl_nil ?_
        refine run_seq ?_
        refine run_region rfl ?_
        refine runl_ev (ev_assign rfl) ?_
        refine runl_nil ?_
        refine run_ret_any Tryz.func54 (res1 Tryz.results54 rfl) ?_
        rw [hnum]
        exact ⟨rfl, rp56x2.1, eb2⟩
      · refine run_region rfl ?_
        refine runl_ev (ev_move rfl) ?_
        refine runl_ev (ev_gtr rfl rfl) ?_
        refine runl_ev (ev_move rfl) ?_
        refine runl_ev_g rfl rfl (rfl) (ev_move rfl) ?_
        refine runl_ev_g rfl rfl (rfl) (ev_eqlI rfl rfl) ?_
        refine runl_ev (ev_pick rfl rfl rfl (if_pos (rfl))) ?_
        refine runl_ev (ev_move rfl) ?_
        refine runl_ev_g rfl rfl (decide_eq_false (by omega)) (ev_move rfl) ?_
        refine runl_ev_g rfl rfl (decide_eq_false (by omega)) (ev_gtr rfl rfl) ?_
        refine runl_ev (ev_pick rfl rfl rfl (if_neg (by simp; omega))) ?_
        refine runl_nil ?_
        refine run_cond_true rfl (decide_eq_true (by rw [hcm, hc1, h9]; omega)) ?_
        refine run_exit rfl ?_
        refine run_seq ?_
        refine run_region rfl ?_
        refine runl_ev (ev_move rfl) ?_
        refine runl_op (t_call call_113 rfl (qbad_any st12)) ?_
        rintro _ w56x3 ⟨rfl, rp56x3⟩
        have z56x3 := rp56x3.2.size
        have eb2 := eb.trans rp56x3.2
        refine runl_nil ?_
        refine run_seq ?_
        refine run_region rfl ?_
        refine runl_ev (ev_assign rfl) ?_
        refine runl_nil ?_
        refine run_ret_any Tryz.func54 (res1 Tryz.results54 rfl) ?_
        rw [hnum]
        exact ⟨rfl, rp56x3.1, eb2⟩
    · have hbd := acc_bound hu hi8 (m := c.toNat % 128) (by omega)
      refine run_region rfl ?_
      refine runl_ev (ev_move rfl) ?_
      refine runl_ev (ev_eqlI rfl rfl) ?_
      refine runl_ev (ev_move rfl) ?_
      refine runl_no_g rfl rfl (decide_eq_false (by omega)) ?_
      refine runl_no_g rfl rfl (decide_eq_false (by omega)) ?_
      refine runl_ev (ev_pick rfl rfl rfl (if_neg (by simp; omega))) ?_
      refine runl_nil ?_
      refine run_cond_false rfl (rfl) ?_
      refine run_skip ?_
      refine run_seq ?_
      refine run_seq ?_
      refine run_region rfl ?_
      refine runl_ev (ev_move rfl) ?_
      refine runl_ev (ev_eqlI rfl rfl) ?_
      refine runl_ev (ev_move rfl) ?_
      refine runl_no_g rfl rfl (decide_eq_false (by omega)) ?_
      refine runl_no_g rfl rfl (decide_eq_false (by omega)) ?_
      refine runl_ev (ev_pick rfl rfl rfl (if_neg (by simp; omega))) ?_
      refine runl_nil ?_
      refine run_cond_false rfl (rfl) ?_
      refine run_skip ?_
      refine run_seq ?_
      refine run_region rfl ?_
      refine runl_ev (ev_move rfl) ?_
      refine runl_ev (ev_move rfl) ?_
      refine runl_ev (ev_and (((c.toNat % 128 : Nat) : Int)) rfl rfl (and127 c)) ?_
      refine runl_ev (ev_convI (((c.toNat % 128 : Nat) : Int)) Tryz.underlying5 Tryz.underlying197 rfl (wrap_u64 (by omega))) ?_
      refine runl_ev (ev_move rfl) ?_
      refine runl_ev (ev_mulK ((7 * ((i : Nat) : Int))) rfl rfl (wrap_i64 (by omega) (by omega))) ?_
      refine runl_ev (ev_convI ((7 * ((i : Nat) : Int))) Tryz.underlying3 Tryz.underlying198 rfl (by rw [show (7 * (i : Int)) = ((7 * i : Nat) : Int) by omega]; exact wrap_u64 (by omega))) ?_
      refine runl_ev (ev_shl (((c.toNat % 128 * 128 ^ i : Nat) : Int)) rfl rfl (by omega) (shl7g _ _ (by omega) (by omega))) ?_
      refine runl_ev (ev_or (((u + c.toNat % 128 * 128 ^ i : Nat) : Int)) rfl rfl (or_addg u _ _ hu hbd)) ?_
      refine runl_ev (ev_assign rfl) ?_
      refine runl_nil ?_
      refine run_seq ?_
      refine run_seq ?_
      refine run_region rfl ?_
      refine runl_ev (ev_move rfl) ?_
      refine runl_ev (ev_gtr rfl rfl) ?_
      refine runl_nil ?_
      refine run_dcond rfl (fun h4 => ?_) (fun h4 => ?_)
      · rw [if_neg (by rintro (h | ⟨_, h⟩); omega; subst h; simp at h4), if_neg (by omega), show c.toNat - 128 = c.toNat % 128 by omega] at hrd
        refine run_exit rfl ?_
        refine run_region rfl ?_
        refine runl_ev (ev_move rfl) ?_
        refine runl_ev (ev_add rfl rfl (by omega) (by omega)) ?_
        refine runl_ev (ev_assign rfl) ?_
        refine runl_nil ?_
        exact IH (i + 1, u + c.toNat % 128 * 128 ^ i, ⟨l, s1.bad⟩, v12) _ _ (by simp only; omega) ⟨rfl, rfl, rfl, trivial⟩ ⟨by show i + 1 ≤ 9; omega, acc_lt2 hu (by omega), hrd, hbd1, (by intro h; have h : s1.bad = true := h; rw [hgood] at h; cases h), st12, eb⟩
      · have hcm : c.toNat % 128 = c.toNat := by omega
        rw [hcm]
        refine run_skip ?_
        refine run_seq ?_
        refine run_seq ?_
        have hcs : (0 < i ∧ c.toNat = 0) ∨ (0 < i ∧ c.toNat ≠ 0) ∨ i = 0 := by omega
        rcases hcs with ⟨hi0, hc0⟩ | ⟨hi0, hc0⟩ | rfl
        · rw [if_pos (.inr ⟨hi0, by apply UInt8.toNat_inj.1; simpa using hc0⟩)] at hrd
          have hnum : s.num = (0, .fail) := by unfold RS.num; rw [← hrd]
          refine run_region rfl ?_
          refine runl_ev (ev_move rfl) ?_
          refine runl_ev (ev_gtr rfl rfl) ?_
          refine runl_ev (ev_move rfl) ?_
          refine runl_ev_g rfl rfl (decide_eq_true (by omega)) (ev_move rfl) ?_
          refine runl_ev_g rfl rfl (decide_eq_true (by omega)) (ev_eqlI rfl rfl) ?_
          refine runl_ev (ev_pick rfl rfl rfl (if_pos (decide_eq_true (by omega)))) ?_
          refine runl_ev (ev_move rfl) ?_
          refine runl_no_g rfl rfl (decide_eq_true (by omega)) ?_
          refine runl_no_g rfl rfl (decide_eq_true (by omega)) ?_
          refine runl_ev (ev_pick rfl rfl rfl (if_pos (decide_eq_true (by omega)))) ?_
          refine runl_nil ?_
          refine run_cond_true rfl (rfl) ?_
          refine run_exit rfl ?_
          refine run_seq ?_
          refine run_region rfl ?_
          refine runl_ev (ev_move rfl) ?_
          refine runl_op (t_call call_113 rfl (qbad_any st12)) ?_
          rintro _ w56x4 ⟨rfl, rp56x4⟩
          have z56x4 := rp56x4.2.size
          have eb2 := eb.trans rp56x4.2
          refine runl_nil ?_
          refine run_seq ?_
          refine run_region rfl ?_
          refine runl_ev (ev_assign rfl) ?_
          refine runl_nil ?_
          refine run_ret_any Tryz.func54 (res1 Tryz.results54 rfl) ?_
          rw [hnum]
          exact ⟨rfl, rp56x4.1, eb2⟩
        · rw [hbd1] at st12
          rw [if_neg (by rintro (h | ⟨_, h⟩); omega; subst h; simp at hc0), if_pos (by omega)] at hrd
          refine run_region rfl ?_
          refine runl_ev (ev_move rfl) ?_
          refine runl_ev (ev_gtr rfl rfl) ?_
          refine runl_ev (ev_move rfl) ?_
          refine runl_ev_g rfl rfl (decide_eq_true (by omega)) (ev_move rfl) ?_
          refine runl_ev_g rfl rfl (decide_eq_true (by omega)) (ev_eqlI rfl rfl) ?_
          refine runl_ev (ev_pick rfl rfl rfl (if_pos (decide_eq_true (by omega)))) ?_
          refine runl_ev (ev_move rfl) ?_
          refine runl_ev_g rfl rfl (decide_eq_false (by omega)) (ev_move rfl) ?_
          refine runl_ev_g rfl rfl (decide_eq_false (by omega)) (ev_gtr rfl rfl) ?_
          refine runl_ev (ev_pick rfl rfl rfl (if_neg (by simp; omega))) ?_
          refine runl_nil ?_
          refine run_dcond rfl (fun h5 => ?_) (fun h5 => ?_)
          · have hnum : s.num = (0, .fail) := by unfold RS.num; rw [← hrd, if_pos (by omega)]
            refine run_exit rfl ?_
            refine run_seq ?_
            refine run_region rfl ?_
            refine runl_ev (ev_move rfl) ?_
            refine runl_op (t_call call_113 rfl (qbad_any st12)) ?_
            rintro _ w56x5 ⟨rfl, rp56x5⟩
            have z56x5 := rp56x5.2.size
            have eb2 := eb.trans rp56x5.2
            refine runl_nil ?_
            refine run_seq ?_
            refine run_region rfl ?_
            refine runl_ev (ev_assign rfl) ?_
            refine runl_nil ?_
            refine run_ret_any Tryz.func54 (res1 Tryz.results54 rfl) ?_
            rw [hnum]
            first
              | exact ⟨rfl, RP.of st12 eb⟩
              | exact ⟨rfl, rp56x5.1, eb2⟩
              | exact ⟨rfl, rp56x6.1, eb2⟩
          · have hnum : s.num = (((u + c.toNat * 128 ^ i : Nat) : Int), ⟨l, s.bad⟩) := by unfold RS.num; rw [← hrd, if_neg (by omega)]
            refine run_skip ?_
            refine run_seq ?_
            refine run_region rfl ?_
            refine runl_ev (ev_move rfl) ?_
            refine runl_ev (ev_convI (((u + c.toNat * 128 ^ i : Nat) : Int)) Tryz.underlying197 Tryz.underlying3 rfl (wrap_i64 (by omega) (by omega))) ?_
            refine runl_ev (ev_assign rfl) ?_
            refine runl_nil ?_
            refine run_ret_any Tryz.func54 (res1 Tryz.results54 rfl) ?_
            rw [hnum]
            first
              | exact ⟨rfl, RP.of st12 eb⟩
              | exact ⟨rfl, rp56x5.1, eb2⟩
              | exact ⟨rfl, rp56x6.1, eb2⟩
        · rw [hbd1] at st12
          rw [if_neg (by omega), if_pos (by omega)] at hrd
          refine run_region rfl ?_
          refine runl_ev (ev_move rfl) ?_
          refine runl_ev (ev_gtr rfl rfl) ?_
          refine runl_ev (ev_move rfl) ?_
          refine runl_no_g rfl rfl (rfl) ?_
          refine runl_no_g rfl rfl (rfl) ?_
          refine runl_ev (ev_pick rfl rfl rfl (if_neg (by simp))) ?_
          refine runl_ev (ev_move rfl) ?_
          refine runl_ev_g rfl rfl (rfl) (ev_move rfl) ?_
          refine runl_ev_g rfl rfl (rfl) (ev_gtr rfl rfl) ?_
          refine runl_ev (ev_pick rfl rfl rfl (if_neg (by simp))) ?_
          refine runl_nil ?_
          refine run_dcond rfl (fun h5 => ?_) (fun h5 => ?_)
          · have hnum : s.num = (0, .fail) := by unfold RS.num; rw [← hrd, if_pos (by omega)]
            refine run_exit rfl ?_
            refine run_seq ?_
            refine run_region rfl ?_
            refine runl_ev (ev_move rfl) ?_
            refine runl_op (t_call call_113 rfl (qbad_any st12)) ?_
            rintro _ w56x6 ⟨rfl, rp56x6⟩
            have z56x6 := rp56x6.2.size
            have eb2 := eb.trans rp56x6.2
            refine runl_nil ?_
            refine run_seq ?_
            refine run_region rfl ?_
            refine runl_ev (ev_assign rfl) ?_
            refine runl_nil ?_
            refine run_ret_any Tryz.func54 (res1 Tryz.results54 rfl) ?_
            rw [hnum]
            first
              | exact ⟨rfl, RP.of st12 eb⟩
              | exact ⟨rfl, rp56x5.1, eb2⟩
              | exact ⟨rfl, rp56x6.1, eb2⟩
          · have hnum : s.num = (((u + c.toNat * 128 ^ 0 : Nat) : Int), ⟨l, s.bad⟩) := by unfold RS.num; rw [← hrd, if_neg (by omega)]
            refine run_skip ?_
            refine run_seq ?_
            refine run_region rfl ?_
            refine runl_ev (ev_move rfl) ?_
            refine runl_ev (ev_convI (((u + c.toNat * 128 ^ 0 : Nat) : Int)) Tryz.underlying197 Tryz.underlying3 rfl (wrap_i64 (by omega) (by omega))) ?_
            refine runl_ev (ev_assign rfl) ?_
            refine runl_nil ?_
            refine run_ret_any Tryz.func54 (res1 Tryz.results54 rfl) ?_
            rw [hnum]
            first
              | exact ⟨rfl, RP.of st12 eb⟩
              | exact ⟨rfl, rp56x5.1, eb2⟩
              | exact ⟨rfl, rp56x6.1, eb2⟩
end Go.Proofs.YtlgkdnmklgbhbaaGreatDoor
/- The walks of what the reference decodes, and of the law on roots. -/
namespace Go.Proofs.YtlgkdnmklgbhbaaGreatDoor
open Go Go.Fw
set_option maxRecDepth 100000

theorem qhash_any {s : RS} {w0 w : World} {rb : Nat} {v : Value} {T : TypeId} (st : RSt T w0 w rb v s) (hok : s.ok) : Ret Tryz.prog 55 [.pointer (some ⟨rb, 0, none⟩)] w fun r w' => r = .agg ⟨hcells s.hash.1⟩ ∧ RP T w0 w rb s.hash.2 w' := by
  have e := ExtB.refl (fun _ => False) w
  have lrb := st.lt
  have zst := st.ext.size
  have hrb := st.hrb
  have hlen := st.len
  have h32 : (s.raw 32).1.length ≤ 32 := by rcases raw32 s with h | h <;> simp [h]
  refine ret_of_run Tryz.func55 rfl Tryz.ntmps55 rfl ?_
  refine run_seq ?_
  refine run_region rfl ?_
  refine runl_op (t_alloc zero_25 rfl) ?_
  rintro _ w2 ⟨b2, rfl, hb2, e2, n2, l2⟩
  have z2 := e2.size
  replace e := e.trans e2
  refine runl_nil ?_
  refine run_seq ?_
  refine run_region rfl ?_
  refine runl_op (t_alloc zero_25 rfl) ?_
  rintro _ w3 ⟨b3, rfl, hb3, e3, n3, l3⟩
  have z3 := e3.size
  replace e := e.trans e3
  replace hb2 := e3.at hb2
  refine runl_nil ?_
  refine run_seq ?_
  refine run_draw mo (fun w' => ExtB (fun k => k = rb) w3 w') [3] [(true, 0), (true, 1), (false, 2), (false, 3)] (by kernel_rfl) ?_
  intro wr2 er2
  have zr2 := er2.size
  have hsr2 : (fun w' => ExtB (fun k => k = rb) w3 w') wr2 := er2.toB
  have ep := e.trans er2
  have hb2p := er2.at hb2
  have hb3p := er2.at hb3
  refine rund_ev hsr2 rfl (ev_sliceA arr_25 rfl) ?_
  refine rund_ev hsr2 rfl (ev_move rfl) ?_
  refine rund_op rfl (t_call call_114 rfl (qraw_any (st.up ep) hok 32)) ?_
  rintro r6 w6 ⟨ow6, rp6⟩
  obtain ⟨a6, c6, rfl, hc6, sl6, -⟩ := ow6.sl
  have z6 := rp6.2.size
  replace hb2p := rp6.2.at1 hb2p (by first | assumption | omega)
  replace hb3p := rp6.2.at1 hb3p (by first | assumption | omega)
  have hsp6_2 := hsr2.newB1 rp6.2 (by first | exact .inl (by omega) | exact .inr rfl | (right; simp; done) | (right; simp; omega))
  refine ⟨hsp6_2, ?_⟩
  have rq6 := RP.from ep rp6
  refine rund_opT rfl rfl (t_copyB Tryz.underlying29 sz_5 rfl rfl hb3p h32 sl6 (by simp; omega)) ?_
  rintro _ w7 ⟨rfl, hq7, e7, z7⟩
  replace hb2p := e7.at1 hb2p (by omega)
  replace hb3p := hq7
  obtain ⟨v6, st6⟩ := rq6.1
  replace st6 := st6.own e7 (fun k hk h => by rcases hk with hk | hk <;> omega)
  have eb := rq6.2.newB1 e7 (.inl (by omega))
  refine rund_nil ?_
  replace hb2 := hb2p
  clear hb2p
  replace hb3 := hb3p
  clear hb3p
  replace hb3 : _ = some (Obj.cells ⟨hcells s.hash.1⟩ _ _) := (hash_of s) ▸ hb3
  refine run_seq ?_
  refine run_region rfl ?_
  refine runl_ev (ev_loadA agg_25 (by rw [hcells_length, hash_len]) rfl (eqw (cells_all hb3))) ?_
  refine runl_do (t_storeW sz_25 rfl rfl (by rw [hcells_length, hash_len]) rfl hb2 (hcells_one _)) ?_
  rintro _ v3_1 ⟨hq3_1, e3_1, z3_1⟩
  replace hb3 := e3_1.at1 hb3 (by first | assumption | omega)
  replace hb2 := hq3_1
  clear hq3_1
  refine runl_nil ?_
  refine run_ret_any Tryz.func55 (resC Tryz.results55 rfl (loadVar_agg agg_25 (by rw [hcells_length, hash_len]) (cells_all hb2))) ?_
  exact ⟨rfl, RP.of (st6.own e3_1 (fun k hk h => by rcases hk with hk | hk <;> omega)) (eb.newB1 e3_1 (.inl (by omega)))⟩
theorem qkeys_any {s : RS} {w0 w : World} {rb : Nat} {v : Value} {T : TypeId} (st : RSt T w0 w rb v s) (hok : s.ok) : Ret Tryz.prog 122 [.pointer (some ⟨rb, 0, none⟩)] w fun r w' => ∃ cs, r = .agg ⟨cs⟩ ∧ RKeysF w.heap.size w' (s.keys (min 5)).1 cs ∧ RP T w0 w rb (s.keys (min 5)).2 w' := by
  have e := ExtB.refl (fun _ => False) w
  have lrb := st.lt
  have zst := st.ext.size
  have hrb := st.hrb
  have hlen := st.len
  have hn0 := num_nonneg s
  have hn1 := num_le s
  refine ret_of_run Tryz.func122 rfl Tryz.ntmps122 rfl ?_
  refine run_seq ?_
  refine run_region rfl ?_
  refine runl_op (t_alloc zero_65 rfl) ?_
  rintro _ w2 ⟨b2, rfl, hb2, e2, n2, l2⟩
  have z2 := e2.size
  replace e := e.trans e2
  refine runl_nil ?_
  refine run_seq ?_
  refine run_region rfl ?_
  refine runl_op (t_alloc zero_65 rfl) ?_
  rintro _ w3 ⟨b3, rfl, hb3, e3, n3, l3⟩
  have z3 := e3.size
  replace e := e.trans e3
  replace hb2 := e3.at hb2
  refine runl_nil ?_
  refine run_seq ?_
  refine run_region rfl ?_
  refine runl_ev (ev_move rfl) ?_
  refine runl_op (t_call call_54 rfl (qnum_any (st.up e) hok)) ?_
  rintro _ w7 ⟨rfl, rp7⟩
  have rq7 := RP.from e rp7
  obtain ⟨v7, st7⟩ := rq7.1
  have eb7 := rq7.2
  have z7 := rp7.2.size
  replace hb2 := rp7.2.at1 hb2 (by first | assumption | omega)
  replace hb3 := rp7.2.at1 hb3 (by first | assumption | omega)
  refine runl_ev (ev_assign rfl) ?_
  refine runl_nil ?_
  refine run_seq ?_
  refine run_seq ?_
  refine run_region rfl ?_
  refine runl_ev (ev_assign rfl) ?_
  refine runl_nil ?_
  refine run_block ?_
  refine run_loop (ι := Nat × List (List UInt8) × RS × Value × Value) (fun x => [(0, .pointer (some ⟨rb, 0, none⟩)), (2, .pointer (some ⟨b2, 0, none⟩)), (3, .pointer (some ⟨b3, 0, none⟩)), (4, .int .i64 s.num.1), (5, .int .i64 (x.1 : Int))]) (fun x w1 => x.1 ≤ 5 ∧ (x.1 : Int) ≤ s.num.1 ∧ x.2.1.length = x.1 ∧ takenL RS.hash (min 5 s.num.1.toNat - x.1) x.2.1 x.2.2.1 = takenL RS.hash (min 5 s.num.1.toNat) [] s.num.2 ∧ x.2.2.1.ok ∧ OwnG 25 32 RHash w3 x.2.1 x.2.2.2.1 w1 ∧ RSt T w0 w1 rb x.2.2.2.2 x.2.2.1 ∧ ExtB (fun k => k = rb) w w1 ∧ w1.heap[b3]? = some (.cells ⟨[x.2.2.2.1, .int .i64 0]⟩ 65 (0, 0)) ∧ w1.heap[b2]? = some (.cells ⟨[.slice none 0 0, .int .i64 0]⟩ 65 (0, 0)) ∧ w3.heap.size ≤ w1.heap.size) (fun x => 5 - x.1) ((0, [], s.num.2, .slice none 0 0, v7)) ⟨rfl, rfl, rfl, rfl, rfl, trivial⟩ (⟨Nat.zero_le _, hn0, rfl, rfl, ok_num hok, OwnG.nil _ _, st7, eb7, hb3, hb2, z7⟩) ?_
  clear hb2 hb3 st7 eb7 rq7 rp7
  intro ⟨i, acc, s1, vl, v1⟩ w1 ⟨hi, hin, hal, htk, hok1, ow, st1, eb, hb3, hb2, hz3⟩ IH
  simp only at hi hin hal htk hok1 ow st1 hb3 hz3
  have hr1 := st1.hr
  have lb2 := lt_of_at hb2
  obtain ⟨xs, g, own, hpp, hxl, hg, hgl⟩ := ow.open
  obtain ⟨al, cl, rfl⟩ := own.shape
  refine run_seq ?_
  refine run_seq ?_
  have hcs : s.num.1 ≤ (i : Int) ∨ ((i : Int) < s.num.1 ∧ s1.bad = true) ∨ ((i : Int) < s.num.1 ∧ s1.bad = false ∧ i = 5) ∨ ((i : Int) < s.num.1 ∧ s1.bad = false ∧ i ≤ 4) := by
    cases s1.bad <;> simp <;> omega
  rcases hcs with h1 | ⟨h1, h2⟩ | ⟨h1, h2, rfl⟩ | ⟨h1, h2, h3⟩
  · have hfin : (acc, s1) = takenL RS.hash (min 5 s.num.1.toNat) [] s.num.2 := by rw [← htk, show min 5 s.num.1.toNat - i = 0 by omega]; rfl
    refine run_region rfl ?_
    refine runl_ev (ev_move rfl) ?_
    refine runl_ev (ev_move rfl) ?_
    refine runl_ev (ev_lss rfl rfl) ?_
    refine runl_ev (ev_move rfl) ?_
    refine runl_no_g rfl rfl (decide_eq_false (by omega)) ?_
    refine runl_no_g rfl rfl (decide_eq_false (by omega)) ?_
    refine runl_no_g rfl rfl (decide_eq_false (by omega)) ?_
    refine runl_no_g rfl rfl (decide_eq_false (by omega)) ?_
    refine runl_no_g rfl rfl (decide_eq_false (by omega)) ?_
    refine runl_ev (ev_pick rfl rfl rfl (if_neg (by simp; omega))) ?_
    refine runl_ev (ev_move rfl) ?_
    refine runl_no_g rfl rfl (rfl) ?_
    refine runl_no_g rfl rfl (rfl) ?_
    refine runl_ev (ev_pick rfl rfl rfl (if_neg (by simp))) ?_
    refine runl_nil ?_
    refine run_cond_false rfl (rfl) ?_
    refine run_exit rfl ?_
    refine run_seq ?_
    refine run_region rfl ?_
    refine runl_ev (ev_move rfl) ?_
    refine runl_op (t_call call_54 rfl (qnum_any st1 hok1)) ?_
    rintro _ w32 ⟨rfl, rp32⟩
    obtain ⟨v32, st32⟩ := rp32.1
    have ow32 := ow.keep flat_hash rp32.2 (fun k hk => .inl (by omega))
    have hkf := rkeysF_of s1.num.1 ow32
    have z32 := rp32.2.size
    replace hb2 := rp32.2.at1 hb2 (by first | assumption | omega)
    replace hb3 := rp32.2.at1 hb3 (by first | assumption | omega)
    replace own := own.ext1 rp32.2 (by first | assumption | omega)
    replace eb := eb.trans rp32.2
    refine runl_ev (ev_fieldAddr fld_65_1 rfl) ?_
    refine runl_do (t_store1 sz_3 rfl rfl rfl rfl hb3 (by simp)) ?_
    rintro _ v7_3 ⟨hq7_3, e7_3, z7_3⟩
    replace hb2 := e7_3.at1 hb2 (by first | assumption | omega)
    replace eb := eb.newB1 e7_3 (by first | exact .inl (by omega) | exact .inr rfl | exact .inr (.inl rfl) | exact .inr (.inr (by omega)) | (right; omega))
    replace st32 := st32.own e7_3 (fun k hk h => by rcases hk with hk | hk <;> omega)
    replace hb3 := hq7_3
    clear hq7_3
    refine runl_nil ?_
    refine run_seq ?_
    refine run_region rfl ?_
    refine runl_ev (ev_loadA agg_65 rfl rfl (eqw (cells_all hb3))) ?_
    refine runl_do (t_storeW sz_65 rfl rfl rfl rfl hb2 ((by simp))) ?_
    rintro _ v8_1 ⟨hq8_1, e8_1, z8_1⟩
    replace hb3 := e8_1.at1 hb3 (by first | assumption | omega)
    replace eb := eb.newB1 e8_1 (by first | exact .inl (by omega) | exact .inr rfl | exact .inr (.inl rfl) | exact .inr (.inr (by omega)) | (right; omega))
    replace st32 := st32.own e8_1 (fun k hk h => by rcases hk with hk | hk <;> omega)
    replace hb2 := hq8_1
    clear hq8_1
    refine runl_nil ?_
    refine run_ret_any Tryz.func122 (resC Tryz.results122 rfl (loadVar_agg agg_65 rfl (cells_all hb2))) ?_
    have hk : s.keys (min 5) = (⟨acc, s1.num.1⟩, s1.num.2) := by unfold RS.keys; rw [← hfin]
    rw [hk]
    exact ⟨_, rfl, ((hkf.keep e7_3 (fun k hk => by omega)).keep e8_1 (fun k hk => by omega)).up (by omega), RP.of st32 eb⟩
  · have hfin : (acc, s1) = takenL RS.hash (min 5 s.num.1.toNat) [] s.num.2 := by rw [← htk]; cases min 5 s.num.1.toNat - i <;> simp [takenL, h2]
    refine run_region rfl ?_
    refine runl_ev (ev_move rfl) ?_
    refine runl_ev (ev_move rfl) ?_
    refine runl_ev (ev_lss rfl rfl) ?_
    refine runl_ev (ev_move rfl) ?_
    refine runl_ev_g rfl rfl (decide_eq_true (by omega)) (ev_move rfl) ?_
    refine runl_ev_g rfl rfl (decide_eq_true (by omega)) (ev_nilCheck rfl) ?_
    refine runl_ev_g rfl rfl (decide_eq_true (by omega)) (ev_fieldAddr fld_129_1 rfl) ?_
    refine runl_ev_g rfl rfl (decide_eq_true (by omega)) (ev_load1 cell_4 rfl (eqw (cell_blk hr1 rfl))) ?_
    refine runl_ev_g rfl rfl (decide_eq_true (by omega)) (ev_not rfl) ?_
    refine runl_ev (ev_pick rfl rfl rfl (if_pos (decide_eq_true (by omega)))) ?_
    refine runl_ev (ev_move rfl) ?_
    refine runl_no_g rfl rfl (by rw [h2]) ?_
    refine runl_no_g rfl rfl (by rw [h2]) ?_
    refine runl_ev (ev_pick rfl rfl rfl (if_neg (by rw [h2]; simp))) ?_
    refine runl_nil ?_
    refine run_cond_false rfl (rfl) ?_
    refine run_exit rfl ?_
    refine run_seq ?_
    refine run_region rfl ?_
    refine runl_ev (ev_move rfl) ?_
    refine runl_op (t_call call_54 rfl (qnum_any st1 hok1)) ?_
    rintro _ w32 ⟨rfl, rp32⟩
    obtain ⟨v32, st32⟩ := rp32.1
    have ow32 := ow.keep flat_hash rp32.2 (fun k hk => .inl (by omega))
    have hkf := rkeysF_of s1.num.1 ow32
    have z32 := rp32.2.size
    replace hb2 := rp32.2.at1 hb2 (by first | assumption | omega)
    replace hb3 := rp32.2.at1 hb3 (by first | assumption | omega)
    replace own := own.ext1 rp32.2 (by first | assumption | omega)
    replace eb := eb.trans rp32.2
    refine runl_ev (ev_fieldAddr fld_65_1 rfl) ?_
    refine runl_do (t_store1 sz_3 rfl rfl rfl rfl hb3 (by simp)) ?_
    rintro _ v7_3 ⟨hq7_3, e7_3, z7_3⟩
    replace hb2 := e7_3.at1 hb2 (by first | assumption | omega)
    replace eb := eb.newB1 e7_3 (by first | exact .inl (by omega) | exact .inr rfl | exact .inr (.inl rfl) | exact .inr (.inr (by omega)) | (right; omega))
    replace st32 := st32.own e7_3 (fun k hk h => by rcases hk with hk | hk <;> omega)
    replace hb3 := hq7_3
    clear hq7_3
    refine runl_nil ?_
    refine run_seq ?_
    refine run_region rfl ?_
    refine runl_ev (ev_loadA agg_65 rfl rfl (eqw (cells_all hb3))) ?_
    refine runl_do (t_storeW sz_65 rfl rfl rfl rfl hb2 ((by simp))) ?_
    rintro _ v8_1 ⟨hq8_1, e8_1, z8_1⟩
    replace hb3 := e8_1.at1 hb3 (by first | assumption | omega)
    replace eb := eb.newB1 e8_1 (by first | exact .inl (by omega) | exact .inr rfl | exact .inr (.inl rfl) | exact .inr (.inr (by omega)) | (right; omega))
    replace st32 := st32.own e8_1 (fun k hk h => by rcases hk with hk | hk <;> omega)
    replace hb2 := hq8_1
    clear hq8_1
    refine runl_nil ?_
    refine run_ret_any Tryz.func122 (resC Tryz.results122 rfl (loadVar_agg agg_65 rfl (cells_all hb2))) ?_
    have hk : s.keys (min 5) = (⟨acc, s1.num.1⟩, s1.num.2) := by unfold RS.keys; rw [← hfin]
    rw [hk]
    exact ⟨_, rfl, ((hkf.keep e7_3 (fun k hk => by omega)).keep e8_1 (fun k hk => by omega)).up (by omega), RP.of st32 eb⟩
  · have hfin : (acc, s1) = takenL RS.hash (min 5 s.num.1.toNat) [] s.num.2 := by rw [← htk, show min 5 s.num.1.toNat - 5 = 0 by omega]; rfl
    refine run_region rfl ?_
    refine runl_ev (ev_move rfl) ?_
    refine runl_ev (ev_move rfl) ?_
    refine runl_ev (ev_lss rfl rfl) ?_
    refine runl_ev (ev_move rfl) ?_
    refine runl_ev_g rfl rfl (decide_eq_true (by omega)) (ev_move rfl) ?_
    refine runl_ev_g rfl rfl (decide_eq_true (by omega)) (ev_nilCheck rfl) ?_
    refine runl_ev_g rfl rfl (decide_eq_true (by omega)) (ev_fieldAddr fld_129_1 rfl) ?_
    refine runl_ev_g rfl rfl (decide_eq_true (by omega)) (ev_load1 cell_4 rfl (eqw (cell_blk hr1 rfl))) ?_
    refine runl_ev_g rfl rfl (decide_eq_true (by omega)) (ev_not rfl) ?_
    refine runl_ev (ev_pick rfl rfl rfl (if_pos (decide_eq_true (by omega)))) ?_
    refine runl_ev (ev_move rfl) ?_
    refine runl_ev_g rfl rfl (by rw [h2]; rfl) (ev_move rfl) ?_
    refine runl_ev_g rfl rfl (by rw [h2]; rfl) (ev_leq rfl rfl) ?_
    refine runl_ev (ev_pick rfl rfl rfl (if_pos (by rw [h2]; rfl))) ?_
    refine runl_nil ?_
    refine run_cond_false rfl (decide_eq_false (by omega)) ?_
    refine run_exit rfl ?_
    refine run_seq ?_
    refine run_region rfl ?_
    refine runl_ev (ev_move rfl) ?_
    refine runl_op (t_call call_54 rfl (qnum_any st1 hok1)) ?_
    rintro _ w32 ⟨rfl, rp32⟩
    obtain ⟨v32, st32⟩ := rp32.1
    have ow32 := ow.keep flat_hash rp32.2 (fun k hk => .inl (by omega))
    have hkf := rkeysF_of s1.num.1 ow32
    have z32 := rp32.2.size
    replace hb2 := rp32.2.at1 hb2 (by first | assumption | omega)
    replace hb3 := rp32.2.at1 hb3 (by first | assumption | omega)
    replace own := own.ext1 rp32.2 (by first | assumption | omega)
    replace eb := eb.trans rp32.2
    refine runl_ev (ev_fieldAddr fld_65_1 rfl) ?_
    refine runl_do (t_store1 sz_3 rfl rfl rfl rfl hb3 (by simp)) ?_
    rintro _ v7_3 ⟨hq7_3, e7_3, z7_3⟩
    replace hb2 := e7_3.at1 hb2 (by first | assumption | omega)
    replace eb := eb.newB1 e7_3 (by first | exact .inl (by omega) | exact .inr rfl | exact .inr (.inl rfl) | exact .inr (.inr (by omega)) | (right; omega))
    replace st32 := st32.own e7_3 (fun k hk h => by rcases hk with hk | hk <;> omega)
    replace hb3 := hq7_3
    clear hq7_3
    refine runl_nil ?_
    refine run_seq ?_
    refine run_region rfl ?_
    refine runl_ev (ev_loadA agg_65 rfl rfl (eqw (cells_all hb3))) ?_
    refine runl_do (t_storeW sz_65 rfl rfl rfl rfl hb2 ((by simp))) ?_
    rintro _ v8_1 ⟨hq8_1, e8_1, z8_1⟩
    replace hb3 := e8_1.at1 hb3 (by first | assumption | omega)
    replace eb := eb.newB1 e8_1 (by first | exact .inl (by omega) | exact .inr rfl | exact .inr (.inl rfl) | exact .inr (.inr (by omega)) | (right; omega))
    replace st32 := st32.own e8_1 (fun k hk h => by rcases hk with hk | hk <;> omega)
    replace hb2 := hq8_1
    clear hq8_1
    refine runl_nil ?_
    refine run_ret_any Tryz.func122 (resC Tryz.results122 rfl (loadVar_agg agg_65 rfl (cells_all hb2))) ?_
    have hk : s.keys (min 5) = (⟨acc, s1.num.1⟩, s1.num.2) := by unfold RS.keys; rw [← hfin]
    rw [hk]
    exact ⟨_, rfl, ((hkf.keep e7_3 (fun k hk => by omega)).keep e8_1 (fun k hk => by omega)).up (by omega), RP.of st32 eb⟩
  · have htk1 : takenL RS.hash (min 5 s.num.1.toNat - (i + 1)) (acc ++ [s1.hash.1]) s1.hash.2 = takenL RS.hash (min 5 s.num.1.toNat) [] s.num.2 := by rw [← htk, show min 5 s.num.1.toNat - i = (min 5 s.num.1.toNat - (i + 1)) + 1 by omega, takenL, if_neg (by rw [h2]; simp)]
    refine run_region rfl ?_
    refine runl_ev (ev_move rfl) ?_
    refine runl_ev (ev_move rfl) ?_
    refine runl_ev (ev_lss rfl rfl) ?_
    refine runl_ev (ev_move rfl) ?_
    refine runl_ev_g rfl rfl (decide_eq_true (by omega)) (ev_move rfl) ?_
    refine runl_ev_g rfl rfl (decide_eq_true (by omega)) (ev_nilCheck rfl) ?_
    refine runl_ev_g rfl rfl (decide_eq_true (by omega)) (ev_fieldAddr fld_129_1 rfl) ?_
    refine runl_ev_g rfl rfl (decide_eq_true (by omega)) (ev_load1 cell_4 rfl (eqw (cell_blk hr1 rfl))) ?_
    refine runl_ev_g rfl rfl (decide_eq_true (by omega)) (ev_not rfl) ?_
    refine runl_ev (ev_pick rfl rfl rfl (if_pos (decide_eq_true (by omega)))) ?_
    refine runl_ev (ev_move rfl) ?_
    refine runl_ev_g rfl rfl (by rw [h2]; rfl) (ev_move rfl) ?_
    refine runl_ev_g rfl rfl (by rw [h2]; rfl) (ev_leq rfl rfl) ?_
    refine runl_ev (ev_pick rfl rfl rfl (if_pos (by rw [h2]; rfl))) ?_
    refine runl_nil ?_
    refine run_cond_true rfl (decide_eq_true (by omega)) ?_
    refine run_skip ?_
    refine run_seq ?_
    refine run_block ?_
    refine run_draw mo (fun w' => ExtB (fun k => k = rb ∨ (k : Int) = g) w1 w') [7] [(true, 0), (true, 1), (true, 2), (false, 3), (false, 4), (false, 5), (true, 6), (false, 7)] (by kernel_rfl) ?_
    intro wr6 er6
    have zr6 := er6.size
    have hsr6 : (fun w' => ExtB (fun k => k = rb ∨ (k : Int) = g) w1 w') wr6 := er6.toB
    have hb2p := er6.at hb2
    have hb3p := er6.at hb3
    have ownp := own.ext er6
    have st1p := st1.up er6
    have ebp := eb.trans er6.toB
    refine rund_ev hsr6 rfl (ev_fieldAddr fld_65_0 rfl) ?_
    refine rund_ev hsr6 rfl (ev_load1 cell_60 rfl (fun wz hz => cell_blk (hz.at hb3 (fun h => by rcases h with h | h <;> omega)) rfl)) ?_
    refine rund_ev hsr6 rfl (ev_move rfl) ?_
    refine rund_op rfl (t_call call_55 rfl (qhash_any st1p hok1)) ?_
    rintro _ w27 ⟨rfl, rp27⟩
    obtain ⟨v27, st27⟩ := rp27.1
    have z27 := rp27.2.size
    replace hb2p := rp27.2.at1 hb2p (by first | assumption | omega)
    replace hb3p := rp27.2.at1 hb3p (by first | assumption | omega)
    replace ownp := ownp.ext1 rp27.2 (by first | assumption | omega)
    replace ebp := ebp.newB1 rp27.2 (by first | exact .inl (by omega) | exact .inr rfl | exact .inr (.inl rfl) | exact .inr (.inr (by omega)) | (right; omega))
    have hsp27_2 := hsr6.newB1 rp27.2 (by first | exact .inl (by omega) | exact .inr rfl | (right; simp; done) | (right; simp; omega))
    refine ⟨hsp27_2, ?_⟩
    have st27p := st27
    refine rund_op rfl (t_buildSlice (out := hcells s1.hash.1) Tryz.underlying60 sz_25 zero_25 rfl rfl (by decide) (by decide) rfl (fill_one rfl (by rw [hcells_length, hash_len]) rfl)) ?_
    rintro _ w28 ⟨b28, rfl, hb28, e28, n28, l28⟩
    have z28 := e28.size
    replace hb2p := e28.at hb2p
    replace hb3p := e28.at hb3p
    replace ownp := ownp.ext e28
    replace ebp := ebp.trans e28.toB
    replace st27p := st27p.up e28
    have hs28 := hsp27_2.trans e28.toB
    refine ⟨hs28, ?_⟩
    have hb28p := hb28
    refine rund_op rfl (t_append (news := hcells s1.hash.1) ef_60 rfl rfl ownp (by rw [hcells_length, hash_len]) (cells_all hb28p) (hcells_one _) (by unfold maxLen; omega) (by omega)) ?_
    rintro v29 w29 ⟨g29, ap29⟩
    have z29 := ap29.ext.size
    replace hb2p := ap29.ext.atG hb2p (by first | assumption | omega)
    replace hb3p := ap29.ext.atG hb3p (by first | assumption | omega)
    replace ebp := ebp.newBG ap29.ext (fun k hk => by first | exact .inl (by omega) | exact .inr hk | exact .inr (.inr hk) | exact .inr (.inr (by omega)))
    replace st27p := st27p.own ap29.ext (fun k hk h => by rcases hk with hk | hk <;> omega)
    replace hb28p := ap29.ext.atG hb28p (by first | assumption | omega)
    have hsp29_ext := hs28.newBG ap29.ext (fun k hk => by first | exact .inr hk | exact .inr (.inr hk) | exact .inl (by omega))
    refine ⟨hsp29_ext, ?_⟩
    have ow29 := OwnG.app flat_hash (l' := [s1.hash.1]) (by omega) hg (by omega) (hpp.mono fun _ _ _ hr => flat_hash _ _ _ _ hr) hxl (pc (w := w28) ⟨hash_len _, by rw [List.take_of_length_le (by rw [hcells_length, hash_len]; exact Nat.le_refl _)]⟩ pn) ap29 rfl rfl
    obtain ⟨a29, c29, rfl, hc29, -, -⟩ := ow29.sl
    refine rund_ev hsp29_ext rfl (ev_fieldAddr fld_65_0 rfl) ?_
    refine rund_doT rfl rfl (t_store1 sz_60 rfl rfl rfl rfl hb3p (by simp)) ?_
    rintro _ v6_7 ⟨hq6_7, e6_7, z6_7⟩
    replace hb2p := e6_7.at1 hb2p (by first | assumption | omega)
    replace ebp := ebp.newB1 e6_7 (by first | exact .inl (by omega) | exact .inr rfl | exact .inr (.inl rfl) | exact .inr (.inr (by omega)) | (right; omega))
    replace st27p := st27p.own e6_7 (fun k hk h => by rcases hk with hk | hk <;> omega)
    replace hb3p := hq6_7
    clear hq6_7
    refine rund_nil ?_
    replace hb2 := hb2p
    clear hb2p
    replace hb3 := hb3p
    clear hb3p
    replace eb := ebp
    clear ebp
    replace st27 := st27p
    clear st27p
    refine run_inBlock ?_
    refine run_region rfl ?_
    refine runl_ev (ev_move rfl) ?_
    refine runl_ev (ev_add rfl rfl (by omega) (by omega)) ?_
    refine runl_ev (ev_assign rfl) ?_
    refine runl_nil ?_
    exact IH (i + 1, acc ++ [s1.hash.1], s1.hash.2, _, v27) _ _ (by simp only; omega) ⟨rfl, rfl, rfl, rfl, rfl, trivial⟩ ⟨by show i + 1 ≤ 5; omega, by show ((i + 1 : Nat) : Int) ≤ _; omega, by show (acc ++ [_]).length = i + 1; simp [hal], htk1, ok_hash hok1, ow29.keep flat_hash e6_7 (fun k hk => .inl (by omega)), st27, eb, hb3, hb2, by omega⟩
theorem qreader_any (l : List UInt8) (w : World) (a : Option Addr) (n c : Nat) (hl : SlAt 1 RByte w (.slice a n c) l) (hc : l.length ≤ c) (hn : l.length ≤ 1099511627776) (kind : Int) :
    Ret Tryz.prog 53 [.slice a n c, .int .i64 kind] w fun r w' => ∃ rb v, r = .pointer (some ⟨rb, 0, none⟩) ∧ RSt 129 w w' rb v (kindS kind l) := by
  have e := ExtB.refl (fun _ => False) w
  obtain ⟨rfl, -⟩ := hl.at
  refine ret_of_run Tryz.func53 rfl Tryz.ntmps53 rfl ?_
  refine run_seq ?_
  refine run_region rfl ?_
  refine runl_ev (ev_assign rfl) ?_
  refine runl_nil ?_
  refine run_seq ?_
  refine run_region rfl ?_
  refine runl_ev (ev_move rfl) ?_
  refine runl_ev (ev_build (out := [.slice a l.length c, .bool false]) ps_129 zero_129 rfl rfl (rfl)) ?_
  refine runl_op (t_boxA rfl) ?_
  rintro _ w8 ⟨b8, rfl, hb8, e8, n8, l8⟩
  have z8 := e8.size
  replace e := e.trans e8
  have st : RSt 129 w w8 b8 _ ⟨l, false⟩ := ⟨hb8, hl, ⟨a, c, rfl, hc⟩, e, n8, hn⟩
  refine runl_ev (ev_assign rfl) ?_
  refine runl_nil ?_
  refine run_seq ?_
  refine run_seq ?_
  refine run_region rfl ?_
  refine runl_ev (ev_move rfl) ?_
  refine runl_op (t_call call_54 rfl (qnum_any st (fun h => by cases h))) ?_
  rintro _ w10 ⟨rfl, rp10⟩
  obtain ⟨v10, st10⟩ := rp10.1
  have z10 := rp10.2.size
  replace e := e.new1 rp10.2 (by omega)
  refine runl_ev (ev_move rfl) ?_
  refine runl_ev (ev_neqI rfl rfl) ?_
  refine runl_nil ?_
  refine run_dcond rfl (fun h0 => ?_) (fun h0 => ?_)
  · have hk : kindS kind l = .fail := by unfold kindS; rw [if_pos h0]
    rw [hk]
    refine run_region rfl ?_
    refine runl_ev (ev_move rfl) ?_
    refine runl_op (t_call call_113 rfl (qbad_any st10)) ?_
    rintro _ w14 ⟨rfl, rp14⟩
    obtain ⟨v14, st14⟩ := rp14.1
    have z14 := rp14.2.size
    replace e := e.new1 rp14.2 (by omega)
    refine runl_nil ?_
    refine run_seq ?_
    refine run_region rfl ?_
    refine runl_ev (ev_move rfl) ?_
    refine runl_ev (ev_assign rfl) ?_
    refine runl_nil ?_
    refine run_ret_any Tryz.func53 (res1 Tryz.results53 rfl) ?_
    exact ⟨b8, v14, rfl, st14⟩
  · have hk : kindS kind l = (RS.mk l false).num.2 := by unfold kindS; rw [if_neg h0]
    rw [hk]
    refine run_skip ?_
    refine run_seq ?_
    refine run_region rfl ?_
    refine runl_ev (ev_move rfl) ?_
    refine runl_ev (ev_assign rfl) ?_
    refine runl_nil ?_
    refine run_ret_any Tryz.func53 (res1 Tryz.results53 rfl) ?_
    exact ⟨b8, v10, rfl, st10⟩
theorem qjust_any {s : RS} {w0 w : World} {rb : Nat} {v : Value} {T : TypeId} (st : RSt T w0 w rb v s) (l l2 : List UInt8) (ee : Int) (a a2 : Option Addr) (n c n2 c2 : Nat) (hl : SlAt 1 RByte w (.slice a n c) l) (hl2 : SlAt 1 RByte w (.slice a2 n2 c2) l2) :
    Ret Tryz.prog 57 [.pointer (some ⟨rb, 0, none⟩), .slice a n c, .slice a2 n2 c2, .int .i64 ee] w fun r w' => r = .bool (s.whole && (decide (ee = 0) && decide (l = l2))) ∧ Ext w w' := by
  have e := ExtB.refl (fun _ => False) w
  refine ret_of_run Tryz.func57 rfl Tryz.ntmps57 rfl ?_
  refine run_seq ?_
  refine run_region rfl ?_
  refine runl_ev (ev_assign rfl) ?_
  refine runl_nil ?_
  refine run_seq ?_
  refine run_region rfl ?_
  refine runl_ev (ev_move rfl) ?_
  refine runl_op (t_call call_117 rfl (qwhole_any st)) ?_
  rintro _ w10 ⟨rfl, e10⟩
  have z10 := e10.size
  replace e := e.trans e10
  cases hw : s.whole
  · refine runl_ev (ev_move rfl) ?_
    refine runl_no_g rfl rfl (rfl) ?_
    refine runl_no_g rfl rfl (rfl) ?_
    refine runl_ev (ev_pick rfl rfl rfl (if_neg (by simp))) ?_
    refine runl_ev (ev_move rfl) ?_
    refine runl_no_g rfl rfl (rfl) ?_
    refine runl_no_g rfl rfl (rfl) ?_
    refine runl_no_g rfl rfl (rfl) ?_
    refine runl_no_g rfl rfl (rfl) ?_
    refine runl_no_g rfl rfl (rfl) ?_
    refine runl_ev (ev_pick rfl rfl rfl (if_neg (by simp))) ?_
    refine runl_ev (ev_assign rfl) ?_
    refine runl_nil ?_
    refine run_ret_any Tryz.func57 (res1 Tryz.results57 rfl) ?_
    exact ⟨rfl, e⟩
  · refine runl_ev (ev_move rfl) ?_
    refine runl_ev_g rfl rfl (rfl) (ev_move rfl) ?_
    refine runl_ev_g rfl rfl (rfl) (ev_eqlI rfl rfl) ?_
    refine runl_ev (ev_pick rfl rfl rfl (if_pos (rfl))) ?_
    by_cases he : ee = 0
    · refine runl_ev (ev_move rfl) ?_
      refine runl_ev_g rfl rfl (decide_eq_true he) (ev_move rfl) ?_
      refine runl_ev_g rfl rfl (decide_eq_true he) (ev_convB (l) Tryz.underlying29 Tryz.underlying5 Tryz.underlying9 rfl (eqw (hl.ext RByte.stable e))) ?_
      refine runl_ev_g rfl rfl (decide_eq_true he) (ev_move rfl) ?_
      refine runl_ev_g rfl rfl (decide_eq_true he) (ev_convB (l2) Tryz.underlying29 Tryz.underlying5 Tryz.underlying9 rfl (eqw (hl2.ext RByte.stable e))) ?_
      refine runl_ev_g rfl rfl (decide_eq_true he) (ev_eqlS rfl rfl) ?_
      refine runl_ev (ev_pick rfl rfl rfl (if_pos (decide_eq_true he))) ?_
      refine runl_ev (ev_assign rfl) ?_
      refine runl_nil ?_
      refine run_ret_any Tryz.func57 (res1 Tryz.results57 rfl) ?_
      refine ⟨?_, e⟩
      rw [decide_eq_true he, decide_eq_decide.2 str_eq]
      rfl
    · refine runl_ev (ev_move rfl) ?_
      refine runl_no_g rfl rfl (decide_eq_false he) ?_
      refine runl_no_g rfl rfl (decide_eq_false he) ?_
      refine runl_no_g rfl rfl (decide_eq_false he) ?_
      refine runl_no_g rfl rfl (decide_eq_false he) ?_
      refine runl_no_g rfl rfl (decide_eq_false he) ?_
      refine runl_ev (ev_pick rfl rfl rfl (if_neg (by simp [he]))) ?_
      refine runl_ev (ev_assign rfl) ?_
      refine runl_nil ?_
      refine run_ret_any Tryz.func57 (res1 Tryz.results57 rfl) ?_
      exact ⟨by rw [decide_eq_false he]; rfl, e⟩
end Go.Proofs.YtlgkdnmklgbhbaaGreatDoor
/- What was written is read back: numbers, bytes, texts, hashes, rows, records. -/
namespace Go.Fw
theorem num_fwd {v : Int} (h0 : 0 ≤ v) (h1 : v ≤ 4611686018427387904) (r : List UInt8) : (RS.mk (encN v ++ r) false).num = (v, ⟨r, false⟩) := by
  obtain ⟨n, rfl⟩ : ∃ n : Nat, v = n := ⟨v.toNat, by omega⟩
  have hn : n ≤ 4611686018427387904 := by omega
  have h := rdN_of_enc r 8 n 0 0 (by omega) (by omega) (fun h => absurd h (Nat.lt_irrefl _)) (by simpa using hn)
  unfold RS.num encN
  rw [clampN_nat hn]
  simp only [h]
  simp
theorem raw_fwd (l r : List UInt8) : (RS.mk (l ++ r) false).raw l.length = (l, ⟨r, false⟩) := by
  unfold RS.raw
  rw [if_neg (by simp; omega)]
  simp
theorem bytes_fwd {l : List UInt8} (h : l.length ≤ 4611686018427387904) (r : List UInt8) : (RS.mk (encBs l ++ r) false).bytes = (l, ⟨r, false⟩) := by
  unfold RS.bytes encBs
  rw [List.append_assoc, num_fwd (by omega) (by omega)]
  exact raw_fwd l r
theorem text_fwd {s : ByteArray} (h : s.size ≤ 4611686018427387904) (r : List UInt8) : (RS.mk (encText s ++ r) false).text = (s, ⟨r, false⟩) := by
  unfold RS.text encText
  rw [bytes_fwd (show (tb s).length ≤ _ from h)]
  simp only [bt_tb]
theorem hash_fwd {l : List UInt8} (h : l.length = 32) (r : List UInt8) : (RS.mk (l ++ r) false).hash = (l, ⟨r, false⟩) := by
  unfold RS.hash
  have hr := raw_fwd l r
  rw [h] at hr
  have hr' : (RS.mk (l ++ r) false).raw 32 = (l, ⟨r, false⟩) := hr
  rw [hr']
  simp only [h, if_true]
theorem kind_fwd {k : Int} (h0 : 0 ≤ k) (h1 : k ≤ 4611686018427387904) (r : List UInt8) : kindS k (encN k ++ r) = ⟨r, false⟩ := by
  unfold kindS
  rw [num_fwd h0 h1]
  simp
theorem takenL_fwd {α : Type} {take : RS → α × RS} {enc : α → List UInt8} {p : α → Prop} (h : ∀ x r, p x → take ⟨enc x ++ r, false⟩ = (x, ⟨r, false⟩)) : ∀ (l : List α) (acc : List α) (r : List UInt8), (∀ x ∈ l, p x) → takenL take l.length acc ⟨l.flatMap enc ++ r, false⟩ = (acc ++ l, ⟨r, false⟩)
  | [], acc, r, _ => by simp [takenL]
  | x :: l, acc, r, hp => by
    rw [List.flatMap_cons, List.append_assoc, List.length_cons, takenL, if_neg (by simp), h x _ (hp x (List.mem_cons_self ..))]
    rw [takenL_fwd h l _ r fun y hy => hp y (List.mem_cons_of_mem _ hy)]
    simp
theorem dec_fwd {α : Type} {kind : Int} {take : RS → α × RS} {may : α → Bool} {enc : α → List UInt8} {x : α} (h0 : 0 ≤ kind) (h1 : kind ≤ 4611686018427387904) (hm : may x = true) (ht : take ⟨enc x, false⟩ = (x, ⟨[], false⟩)) : decR kind take may (fun x => encN kind ++ enc x) (encP kind may enc x) = some x := by
  have he : encP kind may enc x = encN kind ++ enc x := by unfold encP; rw [if_pos hm]
  unfold decR
  rw [he, kind_fwd h0 h1, ht]
  simp [hm, RS.whole]
theorem pin_fwd {p : PinP} (h1 : p.name.size ≤ 4611686018427387904) (h2 : 0 ≤ p.ver) (h3 : p.ver ≤ 4611686018427387904) (r : List UInt8) : (RS.mk (encPin p ++ r) false).pin = (p, ⟨r, false⟩) := by
  unfold RS.pin encPin
  rw [List.append_assoc, text_fwd h1, num_fwd h2 h3]
theorem snap_fwd {x : SnapP} (hm : isSnapP x = true) : RS.snap (min 17) ⟨encSnap x, false⟩ = (x, ⟨[], false⟩) := by
  have hn := snap_names hm
  have hv := hm
  unfold isSnapP at hv
  simp only [Bool.and_eq_true, decide_eq_true_eq, List.all_eq_true] at hv
  obtain ⟨hp, hv, hx, hl⟩ := hv
  unfold verB at hv
  unfold numB at hx
  simp only [Bool.and_eq_true, decide_eq_true_eq] at hv hx
  have hpv : ∀ p ∈ x.pins, p.name.size ≤ 4611686018427387904 ∧ 0 ≤ p.ver ∧ p.ver ≤ 4611686018427387904 := by
    intro p hpm
    obtain ⟨i, hi, rfl⟩ := List.mem_iff_getElem.1 hpm
    have h := hp i (List.mem_range.2 hi)
    rw [pinAt_eq hi] at h
    simp only [Bool.and_eq_true, verB, decide_eq_true_eq] at h
    have := hn _ (List.getElem_mem hi)
    exact ⟨by omega, by omega, by omega⟩
  unfold RS.snap encSnap
  rw [num_fwd (by omega) (by omega), num_fwd (by omega) (by omega), num_fwd (by omega) (by omega)]
  have ht := takenL_fwd (take := RS.pin) (enc := encPin) (p := fun p => p.name.size ≤ 4611686018427387904 ∧ 0 ≤ p.ver ∧ p.ver ≤ 4611686018427387904) (fun p r h => pin_fwd h.1 h.2.1 h.2.2 r) x.pins [] [] hpv
  rw [List.append_nil] at ht
  simp only [Int.toNat_natCast, Nat.min_eq_right (show x.pins.length ≤ 17 by omega), ht, List.nil_append]
end Go.Fw
/- The walks of the reference's decoders, on what was written. -/
namespace Go.Proofs.YtlgkdnmklgbhbaaGreatDoor
open Go Go.Fw
set_option maxRecDepth 100000
theorem fnum_any {v : Int} {r : List UInt8} {w0 w : World} {rb : Nat} {vv : Value} {T : TypeId} (st : RSt T w0 w rb vv ⟨encN v ++ r, false⟩) (h0 : 0 ≤ v) (h1 : v ≤ 4611686018427387904) : Ret Tryz.prog 54 [.pointer (some ⟨rb, 0, none⟩)] w fun x w' => x = .int .i64 v ∧ RP T w0 w rb ⟨r, false⟩ w' := by
  have h := qnum_any st (fun h => by cases h)
  rw [num_fwd h0 h1] at h
  exact h
theorem fhash_any {l r : List UInt8} {w0 w : World} {rb : Nat} {vv : Value} {T : TypeId} (st : RSt T w0 w rb vv ⟨l ++ r, false⟩) (h : l.length = 32) : Ret Tryz.prog 55 [.pointer (some ⟨rb, 0, none⟩)] w fun x w' => x = .agg ⟨hcells l⟩ ∧ RP T w0 w rb ⟨r, false⟩ w' := by
  have h2 := qhash_any st (fun h => by cases h)
  rw [hash_fwd h] at h2
  exact h2
theorem freader_any (k : Int) (h0 : 0 ≤ k) (h1 : k ≤ 1000) (l r : List UInt8) (hlr : l = encN k ++ r) (w : World) (a : Option Addr) (n c : Nat) (hl : SlAt 1 RByte w (.slice a n c) l) (hc : l.length ≤ c) (hn : l.length ≤ 1099511627776) :
    Ret Tryz.prog 53 [.slice a n c, .int .i64 k] w fun x w' => ∃ rb v, x = .pointer (some ⟨rb, 0, none⟩) ∧ RSt 129 w w' rb v ⟨r, false⟩ := by
  have h := qreader_any l w a n c hl hc hn k
  rw [hlr, kind_fwd h0 (by omega)] at h
  exact h
theorem sl_hashC {w : World} {b o : Nat} {l : List UInt8} (hc : Cells w b o (hcells l)) (h : l.length = 32) : SlAt 1 RByte w (.slice (some ⟨b, o, none⟩) 32 32) l := by
  have := sl_cells (cap := 32) hc (parts_bytes (w := w) l)
  rwa [h] at this
theorem fjust_any {w0 w : World} {rb : Nat} {v : Value} {T : TypeId} (st : RSt T w0 w rb v ⟨[], false⟩) (l : List UInt8) (a a2 : Option Addr) (n c n2 c2 : Nat) (hl : SlAt 1 RByte w (.slice a n c) l) (hl2 : SlAt 1 RByte w (.slice a2 n2 c2) l) :
    Ret Tryz.prog 57 [.pointer (some ⟨rb, 0, none⟩), .slice a n c, .slice a2 n2 c2, .int .i64 0] w fun r w' => r = .bool true ∧ Ext w w' := by
  have h := qjust_any st l l 0 a a2 n c n2 c2 hl hl2
  simpa [RS.whole] using h
def timeZ : List Value := .int .i64 0 :: .int .i64 0 :: .int .i64 0 :: List.replicate 32 (.int .u8 0)
theorem time_cells {t : TimeP} (h : t.sum.length = 32) : splice (((timeZ.set 0 (.int .i64 t.ver)).set 1 (.int .i64 t.exp)).set 2 (.int .i64 t.snap)) 3 (hcells t.sum) = t.cells := by
  unfold splice timeZ TimeP.cells
  rw [hcells_length, h]
  simp
theorem TimeP.cells_length' {t : TimeP} (h : t.sum.length = 32) : t.cells.length = 35 := by
  unfold TimeP.cells
  simp [hcells_length, h]
theorem TimeP.one' (t : TimeP) : ∀ v ∈ t.cells, v.oneCell' = true := by
  intro v hv
  simp only [TimeP.cells, hcells, List.mem_cons, List.mem_map] at hv
  rcases hv with rfl | rfl | rfl | ⟨b, _, rfl⟩ <;> rfl
theorem time_may {t : TimeP} (h : isTimeP t = true) : (verB t.ver = true ∧ numB t.exp = true ∧ verB t.snap = true) ∧ (0 ≤ t.ver ∧ t.ver ≤ 1073741824) ∧ (0 ≤ t.exp ∧ t.exp ≤ 1073741824) ∧ 0 ≤ t.snap ∧ t.snap ≤ 1073741824 := by
  unfold isTimeP at h
  simp only [Bool.and_eq_true] at h
  refine ⟨h, ?_⟩
  obtain ⟨h1, h2, h3⟩ := h
  simp only [verB, numB, Bool.and_eq_true, decide_eq_true_eq] at h1 h2 h3
  omega

theorem qistime_any (t : TimeP) (ht : t.sum.length = 32) (hm : isTimeP t = true) (w : World) : Ret Tryz.prog 115 [.agg ⟨t.cells⟩] w fun v w' => v = .bool true ∧ Ext w w' := by
  have e := ExtB.refl (fun _ => False) w
  obtain ⟨⟨hv, hx, hs⟩, -⟩ := time_may hm
  refine ret_of_run Tryz.func115 rfl Tryz.ntmps115 rfl ?_
  refine run_seq ?_
  refine run_region rfl ?_
  refine runl_op (t_boxA rfl) ?_
  rintro _ w1 ⟨b1, rfl, hb1, e1, n1, l1⟩
  have z1 := e1.size
  replace e := e.trans e1
  refine runl_ev (ev_assign rfl) ?_
  refine runl_nil ?_
  refine run_seq ?_
  refine run_region rfl ?_
  refine runl_ev (ev_fieldAddr fld_37_0 rfl) ?_
  refine runl_ev (ev_load1 cell_3 rfl (eqw ((cells_all hb1).pick 0 rfl rfl))) ?_
  refine runl_op (t_call call_176 rfl (rver_any t.ver _)) ?_
  rintro _ w5 ⟨rfl, e5⟩
  rw [hv]
  have z5 := e5.size
  replace e := e.trans e5
  replace hb1 := e5.at hb1
  refine runl_ev (ev_move rfl) ?_
  refine runl_ev_g rfl rfl (rfl) (ev_fieldAddr fld_37_1 rfl) ?_
  refine runl_ev_g rfl rfl (rfl) (ev_load1 cell_3 rfl (eqw ((cells_all hb1).pick 1 rfl rfl))) ?_
  refine runl_op_g rfl rfl (rfl) (t_buildSlice (out := [.int .i64 t.exp]) Tryz.underlying248 sz_3 zero_3 rfl rfl (by decide) (by decide) rfl (rfl)) ?_
  rintro _ w9 ⟨b9, rfl, hb9, e9, n9, l9⟩
  have z9 := e9.size
  replace e := e.trans e9
  replace hb1 := e9.at hb1
  refine runl_op_g rfl rfl (rfl) (t_call call_177 rfl (rnums_any [t.exp] _ _ _ _ (sl_lit (l := [t.exp]) (R := RInt) hb9 (pc rfl pn)) (by simp))) ?_
  rintro _ w10 ⟨rfl, e10⟩
  rw [show [t.exp].all numB = true by simp [hx]]
  have z10 := e10.size
  replace e := e.trans e10
  replace hb1 := e10.at hb1
  replace hb9 := e10.at hb9
  refine runl_ev (ev_pick rfl rfl rfl (if_pos (rfl))) ?_
  refine runl_ev (ev_move rfl) ?_
  refine runl_ev_g rfl rfl (rfl) (ev_fieldAddr fld_37_2 rfl) ?_
  refine runl_ev_g rfl rfl (rfl) (ev_load1 cell_3 rfl (eqw ((cells_all hb1).pick 2 rfl rfl))) ?_
  refine runl_op_g rfl rfl (rfl) (t_call call_176 rfl (rver_any t.snap _)) ?_
  rintro _ w15 ⟨rfl, e15⟩
  rw [hs]
  have z15 := e15.size
  replace e := e.trans e15
  replace hb1 := e15.at hb1
  replace hb9 := e15.at hb9
  refine runl_ev (ev_pick rfl rfl rfl (if_pos (rfl))) ?_
  refine runl_ev (ev_assign rfl) ?_
  refine runl_nil ?_
  refine run_ret_any Tryz.func115 (res1 Tryz.results115 rfl) ?_
  exact ⟨rfl, e⟩
theorem qenctime_any (t : TimeP) (ht : t.sum.length = 32) (hm : isTimeP t = true) (w : World) : Ret Tryz.prog 56 [.agg ⟨t.cells⟩] w fun v w' => ∃ p, v = .tuple #[p, .int .i64 0] ∧ OwnB 5 w (encP 2 isTimeP encTime t) p w' := by
  have e := ExtB.refl (fun _ => False) w
  have hcl := TimeP.cells_length' ht
  refine ret_of_run Tryz.func56 rfl Tryz.ntmps56 rfl ?_
  refine run_seq ?_
  refine run_region rfl ?_
  refine runl_op (t_boxA rfl) ?_
  rintro _ w1 ⟨b1, rfl, hb1, e1, n1, l1⟩
  have z1 := e1.size
  replace e := e.trans e1
  refine runl_ev (ev_assign rfl) ?_
  refine runl_ev (ev_assign rfl) ?_
  refine runl_nil ?_
  refine run_seq ?_
  refine run_seq ?_
  refine run_region rfl ?_
  refine runl_ev (ev_loadA agg_37 hcl rfl (eqw (cells_all hb1))) ?_
  refine runl_op (t_call call_115 rfl (qistime_any t ht hm _)) ?_
  rintro _ w5 ⟨rfl, e5⟩
  have z5 := e5.size
  replace e := e.trans e5
  replace hb1 := e5.at hb1
  refine runl_ev (ev_not rfl) ?_
  refine runl_nil ?_
  refine run_cond_false rfl (rfl) ?_
  refine run_skip ?_
  refine run_seq ?_
  refine run_draw mo (fun w' => Ext w5 w') [] [(true, 0), (true, 1), (true, 2), (true, 3), (true, 4), (true, 5), (true, 8), (true, 9), (false, 6), (false, 7), (false, 10), (true, 11), (true, 12)] (by kernel_rfl) ?_
  intro wr3 er3
  have zr3 := er3.size
  have hsr3 := er3
  have ep := e.trans er3
  have hb1p := er3.at hb1
  refine rund_ev hsr3 rfl (ev_fieldAddr fld_37_0 rfl) ?_
  refine rund_ev hsr3 rfl (ev_load1 cell_3 rfl (fun wz hz => (cells_all (hz.at hb1)).pick 0 rfl rfl)) ?_
  refine rund_ev hsr3 rfl (ev_fieldAddr fld_37_1 rfl) ?_
  refine rund_ev hsr3 rfl (ev_load1 cell_3 rfl (fun wz hz => (cells_all (hz.at hb1)).pick 1 rfl rfl)) ?_
  refine rund_ev hsr3 rfl (ev_fieldAddr fld_37_2 rfl) ?_
  refine rund_ev hsr3 rfl (ev_load1 cell_3 rfl (fun wz hz => (cells_all (hz.at hb1)).pick 2 rfl rfl)) ?_
  refine rund_ev hsr3 rfl (ev_fieldAddr fld_37_3 rfl) ?_
  refine rund_ev hsr3 rfl (ev_sliceA arr_25 rfl) ?_
  refine rund_op rfl (t_buildSlice (out := [.int .i64 2, .int .i64 t.ver, .int .i64 t.exp, .int .i64 t.snap]) Tryz.underlying248 sz_3 zero_3 rfl rfl (by decide) (by decide) rfl (rfl)) ?_
  rintro _ w13 ⟨b13, rfl, hb13, e13, n13, l13⟩
  have z13 := e13.size
  replace ep := ep.trans e13
  replace hb1p := e13.at hb1p
  have hs13 := hsr3.trans e13
  refine ⟨hs13, ?_⟩
  have hb13p := hb13
  refine rund_op rfl (t_call call_116 rfl (rnums1_any [2, t.ver, t.exp, t.snap] _ _ _ _ (sl_lit (l := [2, t.ver, t.exp, t.snap]) (R := RInt) hb13p (pc rfl (pc rfl (pc rfl (pc rfl pn))))) (by simp))) ?_
  rintro v14 w14 ow14
  have E13 := ep
  have e14 := ow14.ext
  obtain ⟨xs, g, own, hpp, hxl, -, hg, hgl⟩ := ow14.open
  have hn4 := encNs_len [2, t.ver, t.exp, t.snap]
  simp only [List.length_cons, List.length_nil] at hn4
  have z14 := e14.size
  replace ep := ep.trans e14
  replace hb1p := e14.at hb1p
  replace hb13p := e14.at hb13p
  have hs14 := hs13.trans e14
  refine ⟨hs14, ?_⟩
  have ownp := own
  refine rund_op rfl (t_appendL (l := t.sum) (R := RByte) ef_29 rfl rfl ownp (sl_hashC ((cells_all hb1p).seg (hcells t.sum) 3 rfl (by rw [hcells_length, ht]; exact (List.take_of_length_le (by simp [hcells_length, ht])).symm)) ht) rbyte_len (fun x cs h => rbyte_one x cs h) (by unfold maxLen; omega) (by omega)) ?_
  rintro v17 w17 ⟨n17, g17, hnl17, hnp17, ap17⟩
  have o17 := OwnL.app flat_byte e14 hg (by omega) (hpp.mono fun _ _ _ hr => flat_byte _ _ _ _ hr) hxl hnp17 ap17 rfl ht
  skip
  have hsp17_ext := hs13.trans o17.ext
  refine ⟨hsp17_ext, ?_⟩
  refine rund_ev hsp17_ext rfl (ev_assign rfl) ?_
  refine rund_ev hsp17_ext rfl (ev_assign rfl) ?_
  refine rund_nil ?_
  refine run_ret_any Tryz.func56 (res2 Tryz.results56 rfl rfl) ?_
  refine ⟨v17, rfl, ?_⟩
  rw [show encP 2 isTimeP encTime t = encNs [2, t.ver, t.exp, t.snap] ++ t.sum by unfold encP encTime encNs; rw [if_pos hm]; simp]
  exact o17.from E13
theorem qdectime_any (t : TimeP) (ht : t.sum.length = 32) (hm : isTimeP t = true) (w : World) (a : Option Addr) (n c : Nat) (hl : SlAt 1 RByte w (.slice a n c) (encP 2 isTimeP encTime t)) (hc : (encP 2 isTimeP encTime t).length ≤ c) : Ret Tryz.prog 15 [.slice a n c] w fun r w' => r = .tuple #[.agg ⟨t.cells⟩, .int .i64 0] ∧ Ext w w' := by
  have e := ExtB.refl (fun _ => False) w
  have hl0 := hl
  obtain ⟨rfl, -⟩ := hl.at
  have hcl := TimeP.cells_length' ht
  obtain ⟨-, hv, hx, hs⟩ := time_may hm
  have hle : (encP 2 isTimeP encTime t).length ≤ 10000 := by
    have h1 := encTime_len ht
    have := encP_len (k := 2) (may := isTimeP) (enc := encTime) (x := t) (n := 100) fun _ => h1
    omega
  have hlr : encP 2 isTimeP encTime t = encN 2 ++ (encN t.ver ++ (encN t.exp ++ (encN t.snap ++ (t.sum ++ [])))) := by unfold encP encTime encNs; rw [if_pos hm]; simp
  obtain ⟨l, hll⟩ : ∃ l, l = encP 2 isTimeP encTime t := ⟨_, rfl⟩
  rw [← hll] at hl0 hc hle hlr ⊢
  refine ret_of_run Tryz.func15 rfl Tryz.ntmps15 rfl ?_
  refine run_seq ?_
  refine run_region rfl ?_
  refine runl_op (t_alloc zero_37 rfl) ?_
  rintro _ w2 ⟨b2, rfl, hb2, e2, n2, l2⟩
  have z2 := e2.size
  replace e := e.trans e2
  refine runl_ev (ev_assign rfl) ?_
  refine runl_nil ?_
  refine run_seq ?_
  refine run_region rfl ?_
  refine runl_ev (ev_move rfl) ?_
  refine runl_op (t_call call_53 rfl (freader_any 2 (by decide) (by decide) l _ hlr _ a _ c (hl0.ext RByte.stable e) hc (by omega))) ?_
  rintro _ w9 ⟨rb, v9, rfl, st⟩
  have e9 := st.ext
  have hrb := st.hrb
  have lrb := st.lt
  have z9 := e9.size
  replace e := e.trans e9
  replace hb2 := e9.at hb2
  refine runl_ev (ev_assign rfl) ?_
  refine runl_nil ?_
  refine run_seq ?_
  refine run_region rfl ?_
  refine runl_op (t_alloc zero_37 rfl) ?_
  rintro _ w5 ⟨b5, rfl, hb5, e5, n5, l5⟩
  have z5 := e5.size
  replace e := e.trans e5
  replace hb2 := e5.at hb2
  replace st := st.up e5
  refine runl_nil ?_
  refine run_seq ?_
  refine run_region rfl ?_
  refine runl_ev (ev_move rfl) ?_
  refine runl_op (t_call call_54 rfl (fnum_any st (by omega) (by omega))) ?_
  rintro _ w11 ⟨rfl, rp11⟩
  obtain ⟨v11, st11⟩ := rp11.1
  have z11 := rp11.2.size
  replace e := e.new1 rp11.2 (by omega)
  replace hb2 := rp11.2.at1 hb2 (by first | assumption | omega)
  replace hb5 := rp11.2.at1 hb5 (by first | assumption | omega)
  refine runl_ev (ev_fieldAddr fld_37_0 rfl) ?_
  refine runl_do (t_store1 sz_3 rfl rfl rfl rfl hb5 (by simp)) ?_
  rintro _ v3_3 ⟨hq3_3, e3_3, z3_3⟩
  replace e := e.new1 e3_3 (by omega)
  replace hb2 := e3_3.at1 hb2 (by first | assumption | omega)
  replace st11 := st11.own e3_3 (fun k hk h => by rcases hk with hk | hk <;> omega)
  replace hb5 := hq3_3
  clear hq3_3
  refine runl_nil ?_
  refine run_seq ?_
  refine run_region rfl ?_
  refine runl_ev (ev_move rfl) ?_
  refine runl_op (t_call call_54 rfl (fnum_any st11 (by omega) (by omega))) ?_
  rintro _ w14 ⟨rfl, rp14⟩
  obtain ⟨v14, st14⟩ := rp14.1
  have z14 := rp14.2.size
  replace e := e.new1 rp14.2 (by omega)
  replace hb2 := rp14.2.at1 hb2 (by first | assumption | omega)
  replace hb5 := rp14.2.at1 hb5 (by first | assumption | omega)
  refine runl_ev (ev_fieldAddr fld_37_1 rfl) ?_
  refine runl_do (t_store1 sz_3 rfl rfl rfl rfl hb5 (by simp)) ?_
  rintro _ v4_3 ⟨hq4_3, e4_3, z4_3⟩
  replace e := e.new1 e4_3 (by omega)
  replace hb2 := e4_3.at1 hb2 (by first | assumption | omega)
  replace st14 := st14.own e4_3 (fun k hk h => by rcases hk with hk | hk <;> omega)
  replace hb5 := hq4_3
  clear hq4_3
  refine runl_nil ?_
  refine run_seq ?_
  refine run_region rfl ?_
  refine runl_ev (ev_move rfl) ?_
  refine runl_op (t_call call_54 rfl (fnum_any st14 (by omega) (by omega))) ?_
  rintro _ w17 ⟨rfl, rp17⟩
  obtain ⟨v17, st17⟩ := rp17.1
  have z17 := rp17.2.size
  replace e := e.new1 rp17.2 (by omega)
  replace hb2 := rp17.2.at1 hb2 (by first | assumption | omega)
  replace hb5 := rp17.2.at1 hb5 (by first | assumption | omega)
  refine runl_ev (ev_fieldAddr fld_37_2 rfl) ?_
  refine runl_do (t_store1 sz_3 rfl rfl rfl rfl hb5 (by simp)) ?_
  rintro _ v5_3 ⟨hq5_3, e5_3, z5_3⟩
  replace e := e.new1 e5_3 (by omega)
  replace hb2 := e5_3.at1 hb2 (by first | assumption | omega)
  replace st17 := st17.own e5_3 (fun k hk h => by rcases hk with hk | hk <;> omega)
  replace hb5 := hq5_3
  clear hq5_3
  refine runl_nil ?_
  refine run_seq ?_
  refine run_region rfl ?_
  refine runl_ev (ev_move rfl) ?_
  refine runl_op (t_call call_55 rfl (fhash_any st17 ht)) ?_
  rintro _ w20 ⟨rfl, rp20⟩
  obtain ⟨v20, st20⟩ := rp20.1
  have z20 := rp20.2.size
  replace e := e.new1 rp20.2 (by omega)
  replace hb2 := rp20.2.at1 hb2 (by first | assumption | omega)
  replace hb5 := rp20.2.at1 hb5 (by first | assumption | omega)
  refine runl_ev (ev_fieldAddr fld_37_3 rfl) ?_
  refine runl_do (t_store sz_25 rfl rfl rfl (by rw [hcells_length, ht]) hb5 (by simp [hcells_length, ht]) (hcells_one t.sum)) ?_
  rintro _ v6_3 ⟨hq6_3, e6_3, z6_3⟩
  replace e := e.new1 e6_3 (by omega)
  replace hb2 := e6_3.at1 hb2 (by first | assumption | omega)
  replace st20 := st20.own e6_3 (fun k hk h => by rcases hk with hk | hk <;> omega)
  replace hb5 := hq6_3
  clear hq6_3
  refine runl_nil ?_
  simp only [Nat.zero_add] at hb5
  replace hb5 := hb5.trans (show _ = some (Obj.cells ⟨t.cells⟩ 37 (0, 0)) by rw [← time_cells ht]; rfl)
  refine run_seq ?_
  refine run_region rfl ?_
  refine runl_ev (ev_loadA agg_37 hcl rfl (eqw (cells_all hb5))) ?_
  refine runl_op (t_call call_56 rfl (qenctime_any t ht hm _)) ?_
  rintro _ w24 ⟨p24, rfl, o24⟩
  have e24 := o24.ext
  obtain ⟨a24, c24, rfl, hc24, sl24⟩ := o24.sl
  rw [← hll] at sl24
  have z24 := e24.size
  replace e := e.trans e24
  replace hb2 := e24.at hb2
  replace hb5 := e24.at hb5
  replace st20 := st20.up e24
  refine runl_ev (ev_move rfl) ?_
  refine runl_ev (ev_extract rfl rfl) ?_
  refine runl_ev (ev_extract rfl rfl) ?_
  refine runl_ev (ev_assign rfl) ?_
  refine runl_ev (ev_assign rfl) ?_
  refine runl_nil ?_
  refine run_seq ?_
  refine run_seq ?_
  refine run_region rfl ?_
  refine runl_ev (ev_move rfl) ?_
  refine runl_ev (ev_move rfl) ?_
  refine runl_ev (ev_move rfl) ?_
  refine runl_ev (ev_move rfl) ?_
  refine runl_op (t_call call_57 rfl (fjust_any st20 l a a24 _ c _ c24 (hl0.ext RByte.stable e) (by rw [hll]; rw [hll] at sl24; exact sl24))) ?_
  rintro _ w31 ⟨rfl, e31⟩
  have z31 := e31.size
  replace e := e.trans e31
  replace hb2 := e31.at hb2
  replace hb5 := e31.at hb5
  replace st20 := st20.up e31
  refine runl_ev (ev_not rfl) ?_
  refine runl_nil ?_
  refine run_cond_false rfl (rfl) ?_
  refine run_skip ?_
  refine run_seq ?_
  refine run_region rfl ?_
  refine runl_ev (ev_loadA agg_37 hcl rfl (eqw (cells_all hb5))) ?_
  refine runl_do (t_storeW sz_37 rfl rfl hcl rfl hb2 (TimeP.one' t)) ?_
  rintro _ v10_1 ⟨hq10_1, e10_1, z10_1⟩
  replace e := e.new1 e10_1 (by omega)
  replace hb5 := e10_1.at1 hb5 (by first | assumption | omega)
  replace hb2 := hq10_1
  clear hq10_1
  refine runl_ev (ev_assign rfl) ?_
  refine runl_nil ?_
  refine run_ret_any Tryz.func15 (resCT Tryz.results15 rfl (loadVar_agg agg_37 hcl (cells_all hb2)) rfl) ?_
  exact ⟨rfl, e⟩
end Go.Proofs.YtlgkdnmklgbhbaaGreatDoor
/- The walks of the reference's decoders of snapshots and targets, on what was written. -/
namespace Go.Proofs.YtlgkdnmklgbhbaaGreatDoor
open Go Go.Fw
set_option maxRecDepth 100000
def rtT (n : ByteArray) : Tgt := ⟨n, 0, List.replicate 32 0, ⟨#[]⟩, 0, ⟨#[]⟩⟩
theorem rtT_wf (n : ByteArray) : (rtT n).wf := by show (List.replicate 32 (0 : UInt8)).length = 32; simp
theorem tgt_s1 (t : Tgt) (v : Int) : t.cells.set 1 (.int .i64 v) = ({ t with size := v } : Tgt).cells := rfl
theorem tgt_s2 {t : Tgt} (h : t.wf) {s : List UInt8} (hs : s.length = 32) : splice t.cells 2 (hcells s) = ({ t with sum := s } : Tgt).cells := by
  have h1 : t.sum.length = 32 := h
  unfold splice Tgt.cells
  rw [hcells_length, hs]
  simp [hcells_length, h1, List.drop_append]
theorem tgt_s34 {t : Tgt} (h : t.wf) (v : ByteArray) : t.cells.set 34 (.string v) = ({ t with hw := v } : Tgt).cells := by
  have : t.sum.length = 32 := h
  simp [Tgt.cells, hcells_length, this, List.set_append]
theorem tgt_s35 {t : Tgt} (h : t.wf) (v : Int) : t.cells.set 35 (.int .i64 v) = ({ t with ctr := v } : Tgt).cells := by
  have : t.sum.length = 32 := h
  simp [Tgt.cells, hcells_length, this, List.set_append]
theorem tgt_s36 {t : Tgt} (h : t.wf) (v : ByteArray) : t.cells.set 36 (.string v) = ({ t with ecu := v } : Tgt).cells := by
  have : t.sum.length = 32 := h
  simp [Tgt.cells, hcells_length, this, List.set_append]
theorem tgt_may {t : Tgt} (h : isTgtB t = true) : (nameB t.name = true ∧ nameB t.hw = true ∧ numB t.ctr = true ∧ (t.ecu = ⟨#[]⟩ ∨ nameB t.ecu = true)) ∧ t.name.size ≤ 12 ∧ t.hw.size ≤ 12 ∧ t.ecu.size ≤ 12 ∧ 0 ≤ t.size ∧ t.size ≤ 512 ∧ 0 ≤ t.ctr ∧ t.ctr ≤ 1073741824 := by
  unfold isTgtB at h
  simp only [Bool.and_eq_true, Bool.or_eq_true, decide_eq_true_eq] at h
  obtain ⟨h1, h2, h3, h4, h5, h6⟩ := h
  have n1 := name_len h1
  have n2 := name_len h4
  have n3 : t.ecu.size ≤ 12 := by
    rcases h6 with h | h
    · rw [h]; decide
    · exact name_len h
  refine ⟨⟨h1, h4, h5, h6⟩, n1, n2, n3, h2, h3, ?_⟩
  simp only [numB, Bool.and_eq_true, decide_eq_true_eq] at h5
  exact h5

theorem qbytes_any {s : RS} {w0 w : World} {rb : Nat} {v : Value} {T : TypeId} (st : RSt T w0 w rb v s) (hok : s.ok) : Ret Tryz.prog 118 [.pointer (some ⟨rb, 0, none⟩)] w fun r w' => OwnG 5 1 RByte w s.bytes.1 r w' ∧ RP T w0 w rb s.bytes.2 w' := by
  have e := ExtB.refl (fun _ => False) w
  have lrb := st.lt
  have zst := st.ext.size
  have hrb := st.hrb
  have hlen := st.len
  refine ret_of_run Tryz.func118 rfl Tryz.ntmps118 rfl ?_
  refine run_seq ?_
  refine run_region rfl ?_
  refine runl_ev (ev_assign rfl) ?_
  refine runl_nil ?_
  refine run_seq ?_
  refine run_region rfl ?_
  refine runl_ev (ev_move rfl) ?_
  refine runl_op (t_call call_54 rfl (qnum_any (st.up e) hok)) ?_
  rintro _ w5 ⟨rfl, rp5⟩
  have rq5 := RP.from e rp5
  obtain ⟨v5, st5⟩ := rq5.1
  have eb := rq5.2
  have hr5 := st5.hr
  have z5 := rp5.2.size
  refine runl_ev (ev_assign rfl) ?_
  refine runl_nil ?_
  refine run_seq ?_
  refine run_seq ?_
  refine run_region rfl ?_
  refine runl_ev (ev_move rfl) ?_
  refine runl_ev (ev_nilCheck rfl) ?_
  refine runl_ev (ev_fieldAddr fld_129_1 rfl) ?_
  refine runl_ev (ev_load1 cell_4 rfl (eqw (cell_blk hr5 rfl))) ?_
  refine runl_nil ?_
  refine run_cond_split rfl (fun h0 => ?_) (fun h0 => ?_)
  · rw [bytes_bad hok h0]
    refine run_seq ?_
    refine run_region rfl ?_
    refine runl_ev (ev_assign rfl) ?_
    refine runl_nil ?_
    refine run_ret_any Tryz.func118 (res1 Tryz.results118 rfl) ?_
    exact ⟨OwnG.nil _ _, RP.of st5 eb⟩
  · refine run_skip ?_
    refine run_seq ?_
    refine run_region rfl ?_
    refine runl_ev (ev_move rfl) ?_
    refine runl_ev (ev_move rfl) ?_
    refine runl_op (t_call call_114 rfl (qraw_any st5 (ok_num hok) s.num.1)) ?_
    rintro r12 w12 ⟨ow12, rp12⟩
    have z12 := rp12.2.size
    have eb2 := eb.trans rp12.2
    refine runl_ev (ev_assign rfl) ?_
    refine runl_nil ?_
    refine run_ret_any Tryz.func118 (res1 Tryz.results118 rfl) ?_
    exact ⟨ow12.from (by omega), ⟨rp12.1, eb2⟩⟩
theorem qrdtext_any {s : RS} {w0 w : World} {rb : Nat} {v : Value} {T : TypeId} (st : RSt T w0 w rb v s) (hok : s.ok) : Ret Tryz.prog 58 [.pointer (some ⟨rb, 0, none⟩)] w fun r w' => r = .string s.text.1 ∧ RP T w0 w rb s.text.2 w' := by
  have e := ExtB.refl (fun _ => False) w
  have lrb := st.lt
  have zst := st.ext.size
  have hrb := st.hrb
  have hlen := st.len
  refine ret_of_run Tryz.func58 rfl Tryz.ntmps58 rfl ?_
  refine run_seq ?_
  refine run_region rfl ?_
  refine runl_ev (ev_assign rfl) ?_
  refine runl_nil ?_
  refine run_seq ?_
  refine run_region rfl ?_
  refine runl_ev (ev_move rfl) ?_
  refine runl_op (t_call call_118 rfl (qbytes_any (st.up e) hok)) ?_
  rintro r4 w4 ⟨og4, rp4⟩
  have rq4 := RP.from e rp4
  obtain ⟨a4, c4, rfl, -⟩ := og4.sl
  have z4 := rp4.2.size
  refine runl_ev (ev_convB (s.bytes.1) Tryz.underlying29 Tryz.underlying5 Tryz.underlying9 rfl (eqw (og4.slat))) ?_
  refine runl_ev (ev_assign rfl) ?_
  refine runl_nil ?_
  refine run_ret_any Tryz.func58 (res1 Tryz.results58 rfl) ?_
  exact ⟨rfl, rq4⟩
theorem qdecsnap_any (l : List UInt8) (w : World) (a : Option Addr) (n c : Nat) (hl : SlAt 1 RByte w (.slice a n c) l) (hc : l.length ≤ c) (hn : l.length ≤ 1099511627776) :
    Ret Tryz.prog 16 [.slice a n c] w fun r w' => ∃ cs, r = .tuple #[.agg ⟨cs⟩, .int .i64 (optE (decR 3 (RS.snap (min 17)) isSnapP (fun x => encN 3 ++ encSnap x) l))] ∧ RSnapF w.heap.size w' ((decR 3 (RS.snap (min 17)) isSnapP (fun x => encN 3 ++ encSnap x) l).getD .zero) cs ∧ Ext w w' := by
  have e := ExtB.refl (fun _ => False) w
  have hl0 := hl
  obtain ⟨rfl, -⟩ := hl.at
  obtain ⟨tq, htq⟩ : ∃ p, p = takenL RS.pin (min 17 (kindS 3 l).num.2.num.2.num.1.toNat) [] (kindS 3 l).num.2.num.2.num.2 := ⟨_, rfl⟩
  have hn0 := num_nonneg (kindS 3 l).num.2.num.2
  have hn1 := num_le (kindS 3 l).num.2.num.2
  obtain ⟨N, hN⟩ : ∃ N, N = (kindS 3 l).num.2.num.2.num.1 := ⟨_, rfl⟩
  rw [← hN] at htq hn0 hn1
  have hkok := ok_kind 3 l
  refine ret_of_run Tryz.func16 rfl Tryz.ntmps16 rfl ?_
  refine run_seq ?_
  refine run_region rfl ?_
  refine runl_op (t_alloc zero_42 rfl) ?_
  rintro _ w2 ⟨b2, rfl, hb2, e2, n2, l2⟩
  have z2 := e2.size
  replace e := e.trans e2
  refine runl_ev (ev_assign rfl) ?_
  refine runl_nil ?_
  refine run_seq ?_
  refine run_region rfl ?_
  refine runl_ev (ev_move rfl) ?_
  refine runl_op (t_call call_53 rfl (qreader_any l _ a _ c (hl0.ext RByte.stable e) hc hn 3)) ?_
  rintro _ w12 ⟨rb, v12, rfl, st⟩
  have e12 := st.ext
  have hrb := st.hrb
  have lrb := st.lt
  have z12 := e12.size
  replace e := e.trans e12
  replace hb2 := e12.at hb2
  refine runl_ev (ev_assign rfl) ?_
  refine runl_nil ?_
  refine run_seq ?_
  refine run_region rfl ?_
  refine runl_op (t_alloc zero_42 rfl) ?_
  rintro _ w5 ⟨b5, rfl, hb5, e5, n5, l5⟩
  have z5 := e5.size
  replace e := e.trans e5
  replace hb2 := e5.at hb2
  replace st := st.up e5
  refine runl_nil ?_
  refine run_seq ?_
  refine run_region rfl ?_
  refine runl_ev (ev_move rfl) ?_
  refine runl_op (t_call call_54 rfl (qnum_any st hkok)) ?_
  rintro _ w14 ⟨rfl, rp14⟩
  obtain ⟨v14, st14⟩ := rp14.1
  have z14 := rp14.2.size
  replace e := e.new1 rp14.2 (by omega)
  replace hb2 := rp14.2.at1 hb2 (by first | assumption | omega)
  replace hb5 := rp14.2.at1 hb5 (by first | assumption | omega)
  refine runl_ev (ev_fieldAddr fld_42_0 rfl) ?_
  refine runl_do (t_store1 sz_3 rfl rfl rfl rfl hb5 (by simp)) ?_
  rintro _ v3_3 ⟨hq3_3, e3_3, z3_3⟩
  replace e := e.new1 e3_3 (by omega)
  replace hb2 := e3_3.at1 hb2 (by first | assumption | omega)
  replace st14 := st14.own e3_3 (fun k hk h => by rcases hk with hk | hk <;> omega)
  replace hb5 := hq3_3
  clear hq3_3
  refine runl_nil ?_
  refine run_seq ?_
  refine run_region rfl ?_
  refine runl_ev (ev_move rfl) ?_
  refine runl_op (t_call call_54 rfl (qnum_any st14 (ok_num hkok))) ?_
  rintro _ w17 ⟨rfl, rp17⟩
  obtain ⟨v17, st17⟩ := rp17.1
  have z17 := rp17.2.size
  replace e := e.new1 rp17.2 (by omega)
  replace hb2 := rp17.2.at1 hb2 (by first | assumption | omega)
  replace hb5 := rp17.2.at1 hb5 (by first | assumption | omega)
  refine runl_ev (ev_fieldAddr fld_42_1 rfl) ?_
  refine runl_do (t_store1 sz_3 rfl rfl rfl rfl hb5 (by simp)) ?_
  rintro _ v4_3 ⟨hq4_3, e4_3, z4_3⟩
  replace e := e.new1 e4_3 (by omega)
  replace hb2 := e4_3.at1 hb2 (by first | assumption | omega)
  replace st17 := st17.own e4_3 (fun k hk h => by rcases hk with hk | hk <;> omega)
  replace hb5 := hq4_3
  clear hq4_3
  refine runl_nil ?_
  refine run_seq ?_
  refine run_region rfl ?_
  refine runl_ev (ev_move rfl) ?_
  refine runl_op (t_call call_54 rfl (qnum_any st17 (ok_num (ok_num hkok)))) ?_
  rintro _ w20 ⟨rfl, rp20⟩
  obtain ⟨v20, st20⟩ := rp20.1
  rw [← hN]
  have z20 := rp20.2.size
  replace e := e.new1 rp20.2 (by omega)
  replace hb2 := rp20.2.at1 hb2 (by first | assumption | omega)
  replace hb5 := rp20.2.at1 hb5 (by first | assumption | omega)
  refine runl_ev (ev_assign rfl) ?_
  refine runl_nil ?_
  refine run_seq ?_
  refine run_seq ?_
  refine run_region rfl ?_
  refine runl_ev (ev_assign rfl) ?_
  refine runl_nil ?_
  refine run_block ?_
  refine run_loop (ι := Nat × List PinP × RS × Value × Value) (fun x => [(0, .slice a l.length c), (2, .pointer (some ⟨b2, 0, none⟩)), (4, .pointer (some ⟨rb, 0, none⟩)), (5, .pointer (some ⟨b5, 0, none⟩)), (6, .int .i64 N), (7, .int .i64 (x.1 : Int))]) (fun x w1 => x.1 ≤ 17 ∧ (x.1 : Int) ≤ N ∧ x.2.1.length = x.1 ∧ takenL RS.pin (min 17 N.toNat - x.1) x.2.1 x.2.2.1 = tq ∧ x.2.2.1.ok ∧ OwnG 52 2 RPin w5 x.2.1 x.2.2.2.1 w1 ∧ RSt 129 w2 w1 rb x.2.2.2.2 x.2.2.1 ∧ Ext w w1 ∧ w1.heap[b5]? = some (.cells ⟨[.int .i64 (kindS 3 l).num.1, .int .i64 (kindS 3 l).num.2.num.1, x.2.2.2.1]⟩ 42 (0, 0)) ∧ w1.heap[b2]? = some (.cells ⟨snapZ⟩ 42 (0, 0)) ∧ w5.heap.size ≤ w1.heap.size ∧ ∀ p ∈ x.2.1, p.name.size ≤ 1099511627776) (fun x => 17 - x.1) ((0, [], (kindS 3 l).num.2.num.2.num.2, .slice none 0 0, v20)) ⟨rfl, rfl, rfl, rfl, rfl, rfl, trivial⟩ (⟨Nat.zero_le _, hn0, rfl, htq.symm, ok_num (ok_num (ok_num hkok)), OwnG.nil _ _, st20, e, hb5, hb2, by omega, fun p hp => by cases hp⟩) ?_
  clear hb2 hb5 st20 e
  intro ⟨i, acc, s1, vl, v1⟩ w1 ⟨hi, hin, hal, htk, hok1, ow, st1, e, hb5, hb2, hz5, hnb⟩ IH
  simp only at hi hin hal htk hok1 ow st1 hb5 hnb
  have hr1 := st1.hr
  have lb5 := lt_of_at hb5
  have lb2 := lt_of_at hb2
  have ze := e.size
  obtain ⟨xs, g, own, hpp, hxl, hg, hgl⟩ := ow.open
  obtain ⟨al, cl, rfl⟩ := own.shape
  refine run_seq ?_
  refine run_seq ?_
  have hcs : N ≤ (i : Int) ∨ ((i : Int) < N ∧ s1.bad = true) ∨ ((i : Int) < N ∧ s1.bad = false ∧ i = 17) ∨ ((i : Int) < N ∧ s1.bad = false ∧ i ≤ 16) := by
    cases s1.bad <;> simp <;> omega
  rcases hcs with h1 | ⟨h1, h2⟩ | ⟨h1, h2, rfl⟩ | ⟨h1, h2, h3⟩
  · have hfin : (acc, s1) = tq := by rw [← htk, show min 17 N.toNat - i = 0 by omega]; rfl
    refine run_region rfl ?_
    refine runl_ev (ev_move rfl) ?_
    refine runl_ev (ev_move rfl) ?_
    refine runl_ev (ev_lss rfl rfl) ?_
    refine runl_ev (ev_move rfl) ?_
    refine runl_no_g rfl rfl (decide_eq_false (by omega)) ?_
    refine runl_no_g rfl rfl (decide_eq_false (by omega)) ?_
    refine runl_no_g rfl rfl (decide_eq_false (by omega)) ?_
    refine runl_no_g rfl rfl (decide_eq_false (by omega)) ?_
    refine runl_no_g rfl rfl (decide_eq_false (by omega)) ?_
    refine runl_ev (ev_pick rfl rfl rfl (if_neg (by simp; omega))) ?_
    refine runl_ev (ev_move rfl) ?_
    refine runl_no_g rfl rfl (rfl) ?_
    refine runl_no_g rfl rfl (rfl) ?_
    refine runl_ev (ev_pick rfl rfl rfl (if_neg (by simp))) ?_
    refine runl_nil ?_
    refine run_cond_false rfl (rfl) ?_
    refine run_exit rfl ?_
    refine run_seq ?_
    have hen : RS.snap (min 17) (kindS 3 l) = (⟨(kindS 3 l).num.1, (kindS 3 l).num.2.num.1, acc⟩, s1) := by unfold RS.snap; rw [← hN, ← htq, ← hfin]
    have hF := rsnapF_of (kindS 3 l).num.1 (kindS 3 l).num.2.num.1 ow
    have xx : ExtB (fun k => k = b2) w1 w1 := ExtB.refl _ _
    refine run_region rfl ?_
    refine runl_ev (ev_loadA agg_42 rfl rfl (eqw (cells_all hb5))) ?_
    refine runl_op (t_call call_59 rfl (rencsnap_any _ _ _ hF.r (by show acc.length ≤ _; omega) hnb)) ?_
    rintro _ w51 ⟨p51, rfl, o51⟩
    have e51 := o51.ext
    obtain ⟨a51, c51, rfl, hc51, sl51⟩ := o51.sl
    have x51 := ExtB.refl (fun _ => False) w51
    have z51 := e51.size
    replace hb2 := e51.at hb2
    replace hb5 := e51.at hb5
    replace st1 := st1.up e51
    replace e := e.trans e51
    replace xx := xx.trans e51.toB
    refine runl_ev (ev_move rfl) ?_
    refine runl_ev (ev_extract rfl rfl) ?_
    refine runl_ev (ev_extract rfl rfl) ?_
    refine runl_ev (ev_assign rfl) ?_
    refine runl_ev (ev_assign rfl) ?_
    refine runl_nil ?_
    refine run_seq ?_
    refine run_seq ?_
    refine run_region rfl ?_
    refine runl_ev (ev_move rfl) ?_
    refine runl_ev (ev_move rfl) ?_
    refine runl_ev (ev_move rfl) ?_
    refine runl_ev (ev_move rfl) ?_
    refine runl_op (t_call call_57 rfl (qjust_any st1 l (encP 3 isSnapP encSnap ⟨(kindS 3 l).num.1, (kindS 3 l).num.2.num.1, acc⟩) _ a a51 _ c _ c51 (hl0.ext RByte.stable e) (sl51.ext RByte.stable x51))) ?_
    rintro _ w58 ⟨rfl, e58⟩
    have z58 := e58.size
    replace hb2 := e58.at hb2
    replace hb5 := e58.at hb5
    replace st1 := st1.up e58
    replace e := e.trans e58
    replace xx := xx.trans e58.toB
    replace x51 := x51.trans e58
    have hj := just_eq 3 isSnapP encSnap ⟨(kindS 3 l).num.1, (kindS 3 l).num.2.num.1, acc⟩ l s1.whole
    refine runl_ev (ev_not rfl) ?_
    refine runl_nil ?_
    refine run_cond_split rfl (fun h1 => ?_) (fun h1 => ?_)
    · have hd : decR 3 (RS.snap (min 17)) isSnapP (fun x => encN 3 ++ encSnap x) l = none := by unfold decR; rw [hen, if_neg]; rw [← hj]; intro hh; rw [hh] at h1; cases h1
      rw [hd]
      refine run_seq ?_
      refine run_region rfl ?_
      refine runl_ev (ev_build (out := snapZ) ps_42 zero_42 rfl rfl (rfl)) ?_
      refine runl_do (t_storeW sz_42 rfl rfl rfl rfl hb2 ((by simp [snapZ]))) ?_
      rintro _ v14_1 ⟨hq14_1, e14_1, z14_1⟩
      replace hb5 := e14_1.at1 hb5 (by first | assumption | omega)
      replace e := e.new1 e14_1 (by omega)
      replace xx := xx.newB1 e14_1 (by first | exact .inl (by omega) | exact .inr rfl | exact .inr (.inl rfl) | exact .inr (.inr (by omega)) | (right; omega))
      replace hb2 := hq14_1
      clear hq14_1
      refine runl_ev (ev_assign rfl) ?_
      refine runl_nil ?_
      refine run_ret_any Tryz.func16 (resCT Tryz.results16 rfl (loadVar_agg agg_42 rfl (cells_all hb2)) rfl) ?_
      first
        | exact ⟨_, rfl, snapZ_any _ _, e⟩
        | exact ⟨_, rfl, (hF.keep xx (fun k hk => by omega)).up (by omega), e⟩
    · have hd : decR 3 (RS.snap (min 17)) isSnapP (fun x => encN 3 ++ encSnap x) l = some ⟨(kindS 3 l).num.1, (kindS 3 l).num.2.num.1, acc⟩ := by unfold decR; rw [hen, if_pos]; rw [← hj]; exact of_not h1
      rw [hd]
      refine run_skip ?_
      refine run_seq ?_
      refine run_region rfl ?_
      refine runl_ev (ev_loadA agg_42 rfl rfl (eqw (cells_all hb5))) ?_
      refine runl_do (t_storeW sz_42 rfl rfl rfl rfl hb2 ((by simp))) ?_
      rintro _ v15_1 ⟨hq15_1, e15_1, z15_1⟩
      replace hb5 := e15_1.at1 hb5 (by first | assumption | omega)
      replace e := e.new1 e15_1 (by omega)
      replace xx := xx.newB1 e15_1 (by first | exact .inl (by omega) | exact .inr rfl | exact .inr (.inl rfl) | exact .inr (.inr (by omega)) | (right; omega))
      replace hb2 := hq15_1
      clear hq15_1
      refine runl_ev (ev_assign rfl) ?_
      refine runl_nil ?_
      refine run_ret_any Tryz.func16 (resCT Tryz.results16 rfl (loadVar_agg agg_42 rfl (cells_all hb2)) rfl) ?_
      first
        | exact ⟨_, rfl, snapZ_any _ _, e⟩
        | exact ⟨_, rfl, (hF.keep xx (fun k hk => by omega)).up (by omega), e⟩
  · have hfin : (acc, s1) = tq := by rw [← htk]; cases min 17 N.toNat - i <;> simp [takenL, h2]
    refine run_region rfl ?_
    refine runl_ev (ev_move rfl) ?_
    refine runl_ev (ev_move rfl) ?_
    refine runl_ev (ev_lss rfl rfl) ?_
    refine runl_ev (ev_move rfl) ?_
    refine runl_ev_g rfl rfl (decide_eq_true (by omega)) (ev_move rfl) ?_
    refine runl_ev_g rfl rfl (decide_eq_true (by omega)) (ev_nilCheck rfl) ?_
    refine runl_ev_g rfl rfl (decide_eq_true (by omega)) (ev_fieldAddr fld_129_1 rfl) ?_
    refine runl_ev_g rfl rfl (decide_eq_true (by omega)) (ev_load1 cell_4 rfl (eqw (cell_blk hr1 rfl))) ?_
    refine runl_ev_g rfl rfl (decide_eq_true (by omega)) (ev_not rfl) ?_
    refine runl_ev (ev_pick rfl rfl rfl (if_pos (decide_eq_true (by omega)))) ?_
    refine runl_ev (ev_move rfl) ?_
    refine runl_no_g rfl rfl (by rw [h2]) ?_
    refine runl_no_g rfl rfl (by rw [h2]) ?_
    refine runl_ev (ev_pick rfl rfl rfl (if_neg (by rw [h2]; simp))) ?_
    refine runl_nil ?_
    refine run_cond_false rfl (rfl) ?_
    refine run_exit rfl ?_
    refine run_seq ?_
    have hen : RS.snap (min 17) (kindS 3 l) = (⟨(kindS 3 l).num.1, (kindS 3 l).num.2.num.1, acc⟩, s1) := by unfold RS.snap; rw [← hN, ← htq, ← hfin]
    have hF := rsnapF_of (kindS 3 l).num.1 (kindS 3 l).num.2.num.1 ow
    have xx : ExtB (fun k => k = b2) w1 w1 := ExtB.refl _ _
    refine run_region rfl ?_
    refine runl_ev (ev_loadA agg_42 rfl rfl (eqw (cells_all hb5))) ?_
    refine runl_op (t_call call_59 rfl (rencsnap_any _ _ _ hF.r (by show acc.length ≤ _; omega) hnb)) ?_
    rintro _ w51 ⟨p51, rfl, o51⟩
    have e51 := o51.ext
    obtain ⟨a51, c51, rfl, hc51, sl51⟩ := o51.sl
    have x51 := ExtB.refl (fun _ => False) w51
    have z51 := e51.size
    replace hb2 := e51.at hb2
    replace hb5 := e51.at hb5
    replace st1 := st1.up e51
    replace e := e.trans e51
    replace xx := xx.trans e51.toB
    refine runl_ev (ev_move rfl) ?_
    refine runl_ev (ev_extract rfl rfl) ?_
    refine runl_ev (ev_extract rfl rfl) ?_
    refine runl_ev (ev_assign rfl) ?_
    refine runl_ev (ev_assign rfl) ?_
    refine runl_nil ?_
    refine run_seq ?_
    refine run_seq ?_
    refine run_region rfl ?_
    refine runl_ev (ev_move rfl) ?_
    refine runl_ev (ev_move rfl) ?_
    refine runl_ev (ev_move rfl) ?_
    refine runl_ev (ev_move rfl) ?_
    refine runl_op (t_call call_57 rfl (qjust_any st1 l (encP 3 isSnapP encSnap ⟨(kindS 3 l).num.1, (kindS 3 l).num.2.num.1, acc⟩) _ a a51 _ c _ c51 (hl0.ext RByte.stable e) (sl51.ext RByte.stable x51))) ?_
    rintro _ w58 ⟨rfl, e58⟩
    have z58 := e58.size
    replace hb2 := e58.at hb2
    replace hb5 := e58.at hb5
    replace st1 := st1.up e58
    replace e := e.trans e58
    replace xx := xx.trans e58.toB
    replace x51 := x51.trans e58
    have hj := just_eq 3 isSnapP encSnap ⟨(kindS 3 l).num.1, (kindS 3 l).num.2.num.1, acc⟩ l s1.whole
    refine runl_ev (ev_not rfl) ?_
    refine runl_nil ?_
    refine run_cond_split rfl (fun h1 => ?_) (fun h1 => ?_)
    · have hd : decR 3 (RS.snap (min 17)) isSnapP (fun x => encN 3 ++ encSnap x) l = none := by unfold decR; rw [hen, if_neg]; rw [← hj]; intro hh; rw [hh] at h1; cases h1
      rw [hd]
      refine run_seq ?_
      refine run_region rfl ?_
      refine runl_ev (ev_build (out := snapZ) ps_42 zero_42 rfl rfl (rfl)) ?_
      refine runl_do (t_storeW sz_42 rfl rfl rfl rfl hb2 ((by simp [snapZ]))) ?_
      rintro _ v14_1 ⟨hq14_1, e14_1, z14_1⟩
      replace hb5 := e14_1.at1 hb5 (by first | assumption | omega)
      replace e := e.new1 e14_1 (by omega)
      replace xx := xx.newB1 e14_1 (by first | exact .inl (by omega) | exact .inr rfl | exact .inr (.inl rfl) | exact .inr (.inr (by omega)) | (right; omega))
      replace hb2 := hq14_1
      clear hq14_1
      refine runl_ev (ev_assign rfl) ?_
      refine runl_nil ?_
      refine run_ret_any Tryz.func16 (resCT Tryz.results16 rfl (loadVar_agg agg_42 rfl (cells_all hb2)) rfl) ?_
      first
        | exact ⟨_, rfl, snapZ_any _ _, e⟩
        | exact ⟨_, rfl, (hF.keep xx (fun k hk => by omega)).up (by omega), e⟩
    · have hd : decR 3 (RS.snap (min 17)) isSnapP (fun x => encN 3 ++ encSnap x) l = some ⟨(kindS 3 l).num.1, (kindS 3 l).num.2.num.1, acc⟩ := by unfold decR; rw [hen, if_pos]; rw [← hj]; exact of_not h1
      rw [hd]
      refine run_skip ?_
      refine run_seq ?_
      refine run_region rfl ?_
      refine runl_ev (ev_loadA agg_42 rfl rfl (eqw (cells_all hb5))) ?_
      refine runl_do (t_storeW sz_42 rfl rfl rfl rfl hb2 ((by simp))) ?_
      rintro _ v15_1 ⟨hq15_1, e15_1, z15_1⟩
      replace hb5 := e15_1.at1 hb5 (by first | assumption | omega)
      replace e := e.new1 e15_1 (by omega)
      replace xx := xx.newB1 e15_1 (by first | exact .inl (by omega) | exact .inr rfl | exact .inr (.inl rfl) | exact .inr (.inr (by omega)) | (right; omega))
      replace hb2 := hq15_1
      clear hq15_1
      refine runl_ev (ev_assign rfl) ?_
      refine runl_nil ?_
      refine run_ret_any Tryz.func16 (resCT Tryz.results16 rfl (loadVar_agg agg_42 rfl (cells_all hb2)) rfl) ?_
      first
        | exact ⟨_, rfl, snapZ_any _ _, e⟩
        | exact ⟨_, rfl, (hF.keep xx (fun k hk => by omega)).up (by omega), e⟩
  · have hfin : (acc, s1) = tq := by rw [← htk, show min 17 N.toNat - 17 = 0 by omega]; rfl
    refine run_region rfl ?_
    refine runl_ev (ev_move rfl) ?_
    refine runl_ev (ev_move rfl) ?_
    refine runl_ev (ev_lss rfl rfl) ?_
    refine runl_ev (ev_move rfl) ?_
    refine runl_ev_g rfl rfl (decide_eq_true (by omega)) (ev_move rfl) ?_
    refine runl_ev_g rfl rfl (decide_eq_true (by omega)) (ev_nilCheck rfl) ?_
    refine runl_ev_g rfl rfl (decide_eq_true (by omega)) (ev_fieldAddr fld_129_1 rfl) ?_
    refine runl_ev_g rfl rfl (decide_eq_true (by omega)) (ev_load1 cell_4 rfl (eqw (cell_blk hr1 rfl))) ?_
    refine runl_ev_g rfl rfl (decide_eq_true (by omega)) (ev_not rfl) ?_
    refine runl_ev (ev_pick rfl rfl rfl (if_pos (decide_eq_true (by omega)))) ?_
    refine runl_ev (ev_move rfl) ?_
    refine runl_ev_g rfl rfl (by rw [h2]; rfl) (ev_move rfl) ?_
    refine runl_ev_g rfl rfl (by rw [h2]; rfl) (ev_leq rfl rfl) ?_
    refine runl_ev (ev_pick rfl rfl rfl (if_pos (by rw [h2]; rfl))) ?_
    refine runl_nil ?_
    refine run_cond_false rfl (decide_eq_false (by omega)) ?_
    refine run_exit rfl ?_
    refine run_seq ?_
    have hen : RS.snap (min 17) (kindS 3 l) = (⟨(kindS 3 l).num.1, (kindS 3 l).num.2.num.1, acc⟩, s1) := by unfold RS.snap; rw [← hN, ← htq, ← hfin]
    have hF := rsnapF_of (kindS 3 l).num.1 (kindS 3 l).num.2.num.1 ow
    have xx : ExtB (fun k => k = b2) w1 w1 := ExtB.refl _ _
    refine run_region rfl ?_
    refine runl_ev (ev_loadA agg_42 rfl rfl (eqw (cells_all hb5))) ?_
    refine runl_op (t_call call_59 rfl (rencsnap_any _ _ _ hF.r (by show acc.length ≤ _; omega) hnb)) ?_
    rintro _ w51 ⟨p51, rfl, o51⟩
    have e51 := o51.ext
    obtain ⟨a51, c51, rfl, hc51, sl51⟩ := o51.sl
    have x51 := ExtB.refl (fun _ => False) w51
    have z51 := e51.size
    replace hb2 := e51.at hb2
    replace hb5 := e51.at hb5
    replace st1 := st1.up e51
    replace e := e.trans e51
    replace xx := xx.trans e51.toB
    refine runl_ev (ev_move rfl) ?_
    refine runl_ev (ev_extract rfl rfl) ?_
    refine runl_ev (ev_extract rfl rfl) ?_
    refine runl_ev (ev_assign rfl) ?_
    refine runl_ev (ev_assign rfl) ?_
    refine runl_nil ?_
    refine run_seq ?_
    refine run_seq ?_
    refine run_region rfl ?_
    refine runl_ev (ev_move rfl) ?_
    refine runl_ev (ev_move rfl) ?_
    refine runl_ev (ev_move rfl) ?_
    refine runl_ev (ev_move rfl) ?_
    refine runl_op (t_call call_57 rfl (qjust_any st1 l (encP 3 isSnapP encSnap ⟨(kindS 3 l).num.1, (kindS 3 l).num.2.num.1, acc⟩) _ a a51 _ c _ c51 (hl0.ext RByte.stable e) (sl51.ext RByte.stable x51))) ?_
    rintro _ w58 ⟨rfl, e58⟩
    have z58 := e58.size
    replace hb2 := e58.at hb2
    replace hb5 := e58.at hb5
    replace st1 := st1.up e58
    replace e := e.trans e58
    replace xx := xx.trans e58.toB
    replace x51 := x51.trans e58
    have hj := just_eq 3 isSnapP encSnap ⟨(kindS 3 l).num.1, (kindS 3 l).num.2.num.1, acc⟩ l s1.whole
    refine runl_ev (ev_not rfl) ?_
    refine runl_nil ?_
    refine run_cond_split rfl (fun h1 => ?_) (fun h1 => ?_)
    · have hd : decR 3 (RS.snap (min 17)) isSnapP (fun x => encN 3 ++ encSnap x) l = none := by unfold decR; rw [hen, if_neg]; rw [← hj]; intro hh; rw [hh] at h1; cases h1
      rw [hd]
      refine run_seq ?_
      refine run_region rfl ?_
      refine runl_ev (ev_build (out := snapZ) ps_42 zero_42 rfl rfl (rfl)) ?_
      refine runl_do (t_storeW sz_42 rfl rfl rfl rfl hb2 ((by simp [snapZ]))) ?_
      rintro _ v14_1 ⟨hq14_1, e14_1, z14_1⟩
      replace hb5 := e14_1.at1 hb5 (by first | assumption | omega)
      replace e := e.new1 e14_1 (by omega)
      replace xx := xx.newB1 e14_1 (by first | exact .inl (by omega) | exact .inr rfl | exact .inr (.inl rfl) | exact .inr (.inr (by omega)) | (right; omega))
      replace hb2 := hq14_1
      clear hq14_1
      refine runl_ev (ev_assign rfl) ?_
      refine runl_nil ?_
      refine run_ret_any Tryz.func16 (resCT Tryz.results16 rfl (loadVar_agg agg_42 rfl (cells_all hb2)) rfl) ?_
      first
        | exact ⟨_, rfl, snapZ_any _ _, e⟩
        | exact ⟨_, rfl, (hF.keep xx (fun k hk => by omega)).up (by omega), e⟩
    · have hd : decR 3 (RS.snap (min 17)) isSnapP (fun x => encN 3 ++ encSnap x) l = some ⟨(kindS 3 l).num.1, (kindS 3 l).num.2.num.1, acc⟩ := by unfold decR; rw [hen, if_pos]; rw [← hj]; exact of_not h1
      rw [hd]
      refine run_skip ?_
      refine run_seq ?_
      refine run_region rfl ?_
      refine runl_ev (ev_loadA agg_42 rfl rfl (eqw (cells_all hb5))) ?_
      refine runl_do (t_storeW sz_42 rfl rfl rfl rfl hb2 ((by simp))) ?_
      rintro _ v15_1 ⟨hq15_1, e15_1, z15_1⟩
      replace hb5 := e15_1.at1 hb5 (by first | assumption | omega)
      replace e := e.new1 e15_1 (by omega)
      replace xx := xx.newB1 e15_1 (by first | exact .inl (by omega) | exact .inr rfl | exact .inr (.inl rfl) | exact .inr (.inr (by omega)) | (right; omega))
      replace hb2 := hq15_1
      clear hq15_1
      refine runl_ev (ev_assign rfl) ?_
      refine runl_nil ?_
      refine run_ret_any Tryz.func16 (resCT Tryz.results16 rfl (loadVar_agg agg_42 rfl (cells_all hb2)) rfl) ?_
      first
        | exact ⟨_, rfl, snapZ_any _ _, e⟩
        | exact ⟨_, rfl, (hF.keep xx (fun k hk => by omega)).up (by omega), e⟩
  · have htk1 : takenL RS.pin (min 17 N.toNat - (i + 1)) (acc ++ [s1.pin.1]) s1.pin.2 = tq := by rw [← htk, show min 17 N.toNat - i = (min 17 N.toNat - (i + 1)) + 1 by omega, takenL, if_neg (by rw [h2]; simp)]
    have hlen1 := st1.len
    have hbl := bytes_len s1
    have hnb1 : ∀ p ∈ acc ++ [s1.pin.1], p.name.size ≤ 1099511627776 := fun p hp => by
      rcases List.mem_append.1 hp with hp | hp
      · exact hnb p hp
      · obtain rfl := List.mem_singleton.1 hp
        have : s1.pin.1.name.size = s1.bytes.1.length := by show (ByteArray.mk s1.bytes.1.toArray).size = _; simp [ByteArray.size]
        omega
    refine run_region rfl ?_
    refine runl_ev (ev_move rfl) ?_
    refine runl_ev (ev_move rfl) ?_
    refine runl_ev (ev_lss rfl rfl) ?_
    refine runl_ev (ev_move rfl) ?_
    refine runl_ev_g rfl rfl (decide_eq_true (by omega)) (ev_move rfl) ?_
    refine runl_ev_g rfl rfl (decide_eq_true (by omega)) (ev_nilCheck rfl) ?_
    refine runl_ev_g rfl rfl (decide_eq_true (by omega)) (ev_fieldAddr fld_129_1 rfl) ?_
    refine runl_ev_g rfl rfl (decide_eq_true (by omega)) (ev_load1 cell_4 rfl (eqw (cell_blk hr1 rfl))) ?_
    refine runl_ev_g rfl rfl (decide_eq_true (by omega)) (ev_not rfl) ?_
    refine runl_ev (ev_pick rfl rfl rfl (if_pos (decide_eq_true (by omega)))) ?_
    refine runl_ev (ev_move rfl) ?_
    refine runl_ev_g rfl rfl (by rw [h2]; rfl) (ev_move rfl) ?_
    refine runl_ev_g rfl rfl (by rw [h2]; rfl) (ev_leq rfl rfl) ?_
    refine runl_ev (ev_pick rfl rfl rfl (if_pos (by rw [h2]; rfl))) ?_
    refine runl_nil ?_
    refine run_cond_true rfl (decide_eq_true (by omega)) ?_
    refine run_skip ?_
    refine run_seq ?_
    refine run_block ?_
    refine run_seq ?_
    refine run_region rfl ?_
    refine runl_ev (ev_move rfl) ?_
    refine runl_op (t_call call_58 rfl (qrdtext_any st1 hok1)) ?_
    rintro _ w38 ⟨rfl, rp38⟩
    obtain ⟨v38, st38⟩ := rp38.1
    have z38 := rp38.2.size
    replace hb2 := rp38.2.at1 hb2 (by first | assumption | omega)
    replace hb5 := rp38.2.at1 hb5 (by first | assumption | omega)
    replace own := own.ext1 rp38.2 (by first | assumption | omega)
    replace e := e.new1 rp38.2 (by omega)
    refine runl_ev (ev_build (out := [.string s1.text.1, .int .i64 0]) ps_52 zero_52 rfl rfl (rfl)) ?_
    refine runl_op (t_alloc zero_52 rfl) ?_
    rintro _ w8 ⟨b8, rfl, hb8, e8, n8, l8⟩
    have z8 := e8.size
    replace hb2 := e8.at hb2
    replace hb5 := e8.at hb5
    replace own := own.ext e8
    replace e := e.trans e8
    replace st38 := st38.up e8
    refine runl_do (t_storeW sz_52 rfl rfl rfl rfl hb8 ((by simp))) ?_
    rintro _ v9_4 ⟨hq9_4, e9_4, z9_4⟩
    replace hb2 := e9_4.at1 hb2 (by first | assumption | omega)
    replace hb5 := e9_4.at1 hb5 (by first | assumption | omega)
    replace own := own.ext1 e9_4 (by first | assumption | omega)
    replace e := e.new1 e9_4 (by omega)
    replace st38 := st38.own e9_4 (fun k hk h => by rcases hk with hk | hk <;> omega)
    replace hb8 := hq9_4
    clear hq9_4
    refine runl_nil ?_
    refine run_seq ?_
    refine run_region rfl ?_
    refine runl_ev (ev_move rfl) ?_
    refine runl_op (t_call call_54 rfl (qnum_any st38 (ok_text hok1))) ?_
    rintro _ w41 ⟨rfl, rp41⟩
    obtain ⟨v41, st41⟩ := rp41.1
    have z41 := rp41.2.size
    replace hb2 := rp41.2.at1 hb2 (by first | assumption | omega)
    replace hb5 := rp41.2.at1 hb5 (by first | assumption | omega)
    replace own := own.ext1 rp41.2 (by first | assumption | omega)
    replace e := e.new1 rp41.2 (by omega)
    replace hb8 := rp41.2.at1 hb8 (by first | assumption | omega)
    refine runl_ev (ev_fieldAddr fld_52_1 rfl) ?_
    refine runl_do (t_store1 sz_3 rfl rfl rfl rfl hb8 (by simp)) ?_
    rintro _ v10_3 ⟨hq10_3, e10_3, z10_3⟩
    replace hb2 := e10_3.at1 hb2 (by first | assumption | omega)
    replace hb5 := e10_3.at1 hb5 (by first | assumption | omega)
    replace own := own.ext1 e10_3 (by first | assumption | omega)
    replace e := e.new1 e10_3 (by omega)
    replace st41 := st41.own e10_3 (fun k hk h => by rcases hk with hk | hk <;> omega)
    replace hb8 := hq10_3
    clear hq10_3
    refine runl_nil ?_
    refine run_region rfl ?_
    refine runl_ev (ev_fieldAddr fld_42_2 rfl) ?_
    refine runl_ev (ev_load1 cell_40 rfl (eqw (cell_blk hb5 rfl))) ?_
    refine runl_ev (ev_loadA agg_52 rfl rfl (eqw (cells_all hb8))) ?_
    refine runl_op (t_buildSlice (out := [.string s1.pin.1.name, .int .i64 s1.pin.1.ver]) Tryz.underlying40 sz_52 zero_52 rfl rfl (by decide) (by decide) rfl (fill_one rfl rfl rfl)) ?_
    rintro _ w46 ⟨b46, rfl, hb46, e46, n46, l46⟩
    have z46 := e46.size
    replace hb2 := e46.at hb2
    replace hb5 := e46.at hb5
    replace own := own.ext e46
    replace e := e.trans e46
    replace hb8 := e46.at hb8
    replace st41 := st41.up e46
    refine runl_op (t_append (news := [.string s1.pin.1.name, .int .i64 s1.pin.1.ver]) ef_40 rfl rfl own rfl (cells_all hb46) (by simp) (by unfold maxLen; omega) (by omega)) ?_
    rintro v47 w47 ⟨g47, ap47⟩
    have z47 := ap47.ext.size
    replace hb2 := ap47.ext.atG hb2 (by first | assumption | omega)
    replace hb5 := ap47.ext.atG hb5 (by first | assumption | omega)
    replace e := e.newG ap47.ext (by omega)
    replace hb8 := ap47.ext.atG hb8 (by first | assumption | omega)
    replace st41 := st41.own ap47.ext (fun k hk h => by rcases hk with hk | hk <;> omega)
    have ow47 := OwnG.app flat_pin (l' := [s1.pin.1]) (w := w5) (by omega) hg (by omega) (hpp.mono fun _ _ _ hr => flat_pin _ _ _ _ hr) hxl (pc (w := w46) (x := s1.pin.1) (r := []) (cs := [.string s1.pin.1.name, .int .i64 s1.pin.1.ver]) rfl pn) ap47 rfl rfl
    obtain ⟨a47, c47, rfl, hc47, -, -⟩ := ow47.sl
    refine runl_ev (ev_fieldAddr fld_42_2 rfl) ?_
    refine runl_do (t_store1 sz_40 rfl rfl rfl rfl hb5 (by simp)) ?_
    rintro _ v11_6 ⟨hq11_6, e11_6, z11_6⟩
    replace hb2 := e11_6.at1 hb2 (by first | assumption | omega)
    replace e := e.new1 e11_6 (by omega)
    replace hb8 := e11_6.at1 hb8 (by first | assumption | omega)
    replace st41 := st41.own e11_6 (fun k hk h => by rcases hk with hk | hk <;> omega)
    replace hb5 := hq11_6
    clear hq11_6
    refine runl_nil ?_
    refine run_inBlock ?_
    refine run_region rfl ?_
    refine runl_ev (ev_move rfl) ?_
    refine runl_ev (ev_add rfl rfl (by omega) (by omega)) ?_
    refine runl_ev (ev_assign rfl) ?_
    refine runl_nil ?_
    exact IH (i + 1, acc ++ [s1.pin.1], s1.pin.2, _, v41) _ _ (by simp only; omega) ⟨rfl, rfl, rfl, rfl, rfl, rfl, trivial⟩ ⟨by show i + 1 ≤ 17; omega, by show ((i + 1 : Nat) : Int) ≤ N; omega, by show (acc ++ [_]).length = i + 1; simp [hal], htk1, ok_pin hok1, ow47.keep flat_pin e11_6 (fun k hk => .inl (by omega)), st41, e, hb5, hb2, by omega, hnb1⟩
theorem fdecsnap_any (x : SnapP) (hm : isSnapP x = true) (w : World) (a : Option Addr) (n c : Nat) (hl : SlAt 1 RByte w (.slice a n c) (encP 3 isSnapP encSnap x)) (hc : (encP 3 isSnapP encSnap x).length ≤ c) :
    Ret Tryz.prog 16 [.slice a n c] w fun r w' => ∃ cs, r = .tuple #[.agg ⟨cs⟩, .int .i64 0] ∧ RSnapF w.heap.size w' x cs ∧ Ext w w' := by
  have hle : (encP 3 isSnapP encSnap x).length ≤ 1099511627776 := by
    have := encP_len (k := 3) (may := isSnapP) (enc := encSnap) (x := x) (n := 1000) fun _ => encSnap_len hm
    omega
  have h := qdecsnap_any _ w a n c hl hc hle
  rw [dec_fwd (by decide) (by decide) hm (snap_fwd hm)] at h
  exact h
theorem ftext_any {s : ByteArray} {r : List UInt8} {w0 w : World} {rb : Nat} {vv : Value} {T : TypeId} (st : RSt T w0 w rb vv ⟨encText s ++ r, false⟩) (h : s.size ≤ 1000) : Ret Tryz.prog 58 [.pointer (some ⟨rb, 0, none⟩)] w fun x w' => x = .string s ∧ RP T w0 w rb ⟨r, false⟩ w' := by
  have h2 := qrdtext_any st (fun h => by cases h)
  rw [text_fwd (by omega)] at h2
  exact h2

theorem frdtgt_any (t : Tgt) (ht : t.wf) (hm : isTgtB t = true) {r : List UInt8} {w0 w : World} {rb : Nat} {vv : Value} {T : TypeId} (st0 : RSt T w0 w rb vv ⟨encTgt t ++ r, false⟩) : Ret Tryz.prog 60 [.pointer (some ⟨rb, 0, none⟩)] w fun x w' => x = .agg ⟨t.cells⟩ ∧ RP T w0 w rb ⟨r, false⟩ w' := by
  have st := st0
  rw [show encTgt t ++ r = encText t.name ++ (encN t.size ++ (t.sum ++ (encText t.hw ++ (encN t.ctr ++ (encText t.ecu ++ r))))) by simp [encTgt]] at st
  have eb := ExtB.refl (fun k => k = rb) w
  have lrb := st.lt
  have hrb := st.hrb
  obtain ⟨-, n1, n2, n3, q1, q2, q3, q4⟩ := tgt_may hm
  have hcl := Tgt.cells_length ht
  have h0 := rtT_wf t.name
  have h2 : ({ rtT t.name with size := t.size, sum := t.sum } : Tgt).wf := ht
  have h3 : ({ rtT t.name with size := t.size, sum := t.sum, hw := t.hw } : Tgt).wf := ht
  have h4 : ({ rtT t.name with size := t.size, sum := t.sum, hw := t.hw, ctr := t.ctr } : Tgt).wf := ht
  refine ret_of_run Tryz.func60 rfl Tryz.ntmps60 rfl ?_
  refine run_seq ?_
  refine run_region rfl ?_
  refine runl_op (t_alloc zero_82 rfl) ?_
  rintro _ w2 ⟨b2, rfl, hb2, e2, n2, l2⟩
  have z2 := e2.size
  replace eb := eb.trans e2.toB
  replace st := st.up e2
  refine runl_nil ?_
  refine run_seq ?_
  refine run_region rfl ?_
  refine runl_ev (ev_move rfl) ?_
  refine runl_op (t_call call_58 rfl (ftext_any st (by omega))) ?_
  rintro _ w5 ⟨rfl, rp5⟩
  obtain ⟨v5, st5⟩ := rp5.1
  have z5 := rp5.2.size
  replace eb := eb.newB1 rp5.2 (by first | exact .inl (by omega) | exact .inr rfl | exact .inr (.inl rfl) | exact .inr (.inr (by omega)) | (right; omega))
  replace hb2 := rp5.2.at1 hb2 (by first | assumption | omega)
  refine runl_ev (ev_build (out := (rtT t.name).cells) ps_82 zero_82 rfl rfl (rfl)) ?_
  refine runl_op (t_alloc zero_82 rfl) ?_
  rintro _ w3 ⟨b3, rfl, hb3, e3, n3, l3⟩
  have z3 := e3.size
  replace eb := eb.trans e3.toB
  replace hb2 := e3.at hb2
  replace st5 := st5.up e3
  refine runl_do (t_storeW sz_82 rfl rfl (Tgt.cells_length h0) (by decide) hb3 (Tgt.one _)) ?_
  rintro _ v1_4 ⟨hq1_4, e1_4, z1_4⟩
  replace eb := eb.newB1 e1_4 (by first | exact .inl (by omega) | exact .inr rfl | exact .inr (.inl rfl) | exact .inr (.inr (by omega)) | (right; omega))
  replace hb2 := e1_4.at1 hb2 (by first | assumption | omega)
  replace st5 := st5.own e1_4 (fun k hk h => by rcases hk with hk | hk <;> omega)
  replace hb3 := hq1_4
  clear hq1_4
  refine runl_nil ?_
  refine run_seq ?_
  refine run_region rfl ?_
  refine runl_ev (ev_move rfl) ?_
  refine runl_op (t_call call_54 rfl (fnum_any st5 (by omega) (by omega))) ?_
  rintro _ w8 ⟨rfl, rp8⟩
  obtain ⟨v8, st8⟩ := rp8.1
  have z8 := rp8.2.size
  replace eb := eb.newB1 rp8.2 (by first | exact .inl (by omega) | exact .inr rfl | exact .inr (.inl rfl) | exact .inr (.inr (by omega)) | (right; omega))
  replace hb2 := rp8.2.at1 hb2 (by first | assumption | omega)
  replace hb3 := rp8.2.at1 hb3 (by first | assumption | omega)
  refine runl_ev (ev_fieldAddr fld_82_1 rfl) ?_
  refine runl_do (t_store1 sz_3 rfl rfl rfl rfl hb3 (by rw [Tgt.cells_length h0]; decide)) ?_
  rintro _ v2_3 ⟨hq2_3, e2_3, z2_3⟩
  replace eb := eb.newB1 e2_3 (by first | exact .inl (by omega) | exact .inr rfl | exact .inr (.inl rfl) | exact .inr (.inr (by omega)) | (right; omega))
  replace hb2 := e2_3.at1 hb2 (by first | assumption | omega)
  replace st8 := st8.own e2_3 (fun k hk h => by rcases hk with hk | hk <;> omega)
  replace hb3 := hq2_3
  clear hq2_3
  refine runl_nil ?_
  rw [show (0 + 1 : Nat) = 1 from rfl, tgt_s1] at hb3
  refine run_seq ?_
  refine run_region rfl ?_
  refine runl_ev (ev_move rfl) ?_
  refine runl_op (t_call call_55 rfl (fhash_any st8 ht)) ?_
  rintro _ w11 ⟨rfl, rp11⟩
  obtain ⟨v11, st11⟩ := rp11.1
  have z11 := rp11.2.size
  replace eb := eb.newB1 rp11.2 (by first | exact .inl (by omega) | exact .inr rfl | exact .inr (.inl rfl) | exact .inr (.inr (by omega)) | (right; omega))
  replace hb2 := rp11.2.at1 hb2 (by first | assumption | omega)
  replace hb3 := rp11.2.at1 hb3 (by first | assumption | omega)
  refine runl_ev (ev_fieldAddr fld_82_2 rfl) ?_
  refine runl_do (t_store sz_25 rfl rfl rfl (by rw [hcells_length]; exact ht) hb3 (by rw [hcells_length, show t.sum.length = 32 from ht, Tgt.cells_length (show ({ rtT t.name with size := t.size } : Tgt).wf from h0)]; decide) (hcells_one t.sum)) ?_
  rintro _ v3_3 ⟨hq3_3, e3_3, z3_3⟩
  replace eb := eb.newB1 e3_3 (by first | exact .inl (by omega) | exact .inr rfl | exact .inr (.inl rfl) | exact .inr (.inr (by omega)) | (right; omega))
  replace hb2 := e3_3.at1 hb2 (by first | assumption | omega)
  replace st11 := st11.own e3_3 (fun k hk h => by rcases hk with hk | hk <;> omega)
  replace hb3 := hq3_3
  clear hq3_3
  refine runl_nil ?_
  rw [show (0 + 2 : Nat) = 2 from rfl, tgt_s2 (show ({ rtT t.name with size := t.size } : Tgt).wf from h0) ht] at hb3
  refine run_seq ?_
  refine run_region rfl ?_
  refine runl_ev (ev_move rfl) ?_
  refine runl_op (t_call call_58 rfl (ftext_any st11 (by omega))) ?_
  rintro _ w14 ⟨rfl, rp14⟩
  obtain ⟨v14, st14⟩ := rp14.1
  have z14 := rp14.2.size
  replace eb := eb.newB1 rp14.2 (by first | exact .inl (by omega) | exact .inr rfl | exact .inr (.inl rfl) | exact .inr (.inr (by omega)) | (right; omega))
  replace hb2 := rp14.2.at1 hb2 (by first | assumption | omega)
  replace hb3 := rp14.2.at1 hb3 (by first | assumption | omega)
  refine runl_ev (ev_fieldAddr fld_82_3 rfl) ?_
  refine runl_do (t_store1 sz_9 rfl rfl rfl rfl hb3 (by rw [Tgt.cells_length h2]; decide)) ?_
  rintro _ v4_3 ⟨hq4_3, e4_3, z4_3⟩
  replace eb := eb.newB1 e4_3 (by first | exact .inl (by omega) | exact .inr rfl | exact .inr (.inl rfl) | exact .inr (.inr (by omega)) | (right; omega))
  replace hb2 := e4_3.at1 hb2 (by first | assumption | omega)
  replace st14 := st14.own e4_3 (fun k hk h => by rcases hk with hk | hk <;> omega)
  replace hb3 := hq4_3
  clear hq4_3
  refine runl_nil ?_
  rw [show (0 + 34 : Nat) = 34 from rfl, tgt_s34 h2] at hb3
  refine run_seq ?_
  refine run_region rfl ?_
  refine runl_ev (ev_move rfl) ?_
  refine runl_op (t_call call_54 rfl (fnum_any st14 (by omega) (by omega))) ?_
  rintro _ w17 ⟨rfl, rp17⟩
  obtain ⟨v17, st17⟩ := rp17.1
  have z17 := rp17.2.size
  replace eb := eb.newB1 rp17.2 (by first | exact .inl (by omega) | exact .inr rfl | exact .inr (.inl rfl) | exact .inr (.inr (by omega)) | (right; omega))
  replace hb2 := rp17.2.at1 hb2 (by first | assumption | omega)
  replace hb3 := rp17.2.at1 hb3 (by first | assumption | omega)
  refine runl_ev (ev_fieldAddr fld_82_4 rfl) ?_
  refine runl_do (t_store1 sz_3 rfl rfl rfl rfl hb3 (by rw [Tgt.cells_length h3]; decide)) ?_
  rintro _ v5_3 ⟨hq5_3, e5_3, z5_3⟩
  replace eb := eb.newB1 e5_3 (by first | exact .inl (by omega) | exact .inr rfl | exact .inr (.inl rfl) | exact .inr (.inr (by omega)) | (right; omega))
  replace hb2 := e5_3.at1 hb2 (by first | assumption | omega)
  replace st17 := st17.own e5_3 (fun k hk h => by rcases hk with hk | hk <;> omega)
  replace hb3 := hq5_3
  clear hq5_3
  refine runl_nil ?_
  rw [show (0 + 35 : Nat) = 35 from rfl, tgt_s35 h3] at hb3
  refine run_seq ?_
  refine run_region rfl ?_
  refine runl_ev (ev_move rfl) ?_
  refine runl_op (t_call call_58 rfl (ftext_any st17 (by omega))) ?_
  rintro _ w20 ⟨rfl, rp20⟩
  obtain ⟨v20, st20⟩ := rp20.1
  have z20 := rp20.2.size
  replace eb := eb.newB1 rp20.2 (by first | exact .inl (by omega) | exact .inr rfl | exact .inr (.inl rfl) | exact .inr (.inr (by omega)) | (right; omega))
  replace hb2 := rp20.2.at1 hb2 (by first | assumption | omega)
  replace hb3 := rp20.2.at1 hb3 (by first | assumption | omega)
  refine runl_ev (ev_fieldAddr fld_82_5 rfl) ?_
  refine runl_do (t_store1 sz_9 rfl rfl rfl rfl hb3 (by rw [Tgt.cells_length h4]; decide)) ?_
  rintro _ v6_3 ⟨hq6_3, e6_3, z6_3⟩
  replace eb := eb.newB1 e6_3 (by first | exact .inl (by omega) | exact .inr rfl | exact .inr (.inl rfl) | exact .inr (.inr (by omega)) | (right; omega))
  replace hb2 := e6_3.at1 hb2 (by first | assumption | omega)
  replace st20 := st20.own e6_3 (fun k hk h => by rcases hk with hk | hk <;> omega)
  replace hb3 := hq6_3
  clear hq6_3
  refine runl_nil ?_
  rw [show (0 + 36 : Nat) = 36 from rfl, tgt_s36 h4] at hb3
  replace hb3 : _ = some (Obj.cells ⟨t.cells⟩ 82 (0, 0)) := hb3
  refine run_seq ?_
  refine run_region rfl ?_
  refine runl_ev (ev_loadA agg_82 hcl rfl (eqw (cells_all hb3))) ?_
  refine runl_do (t_storeW sz_82 rfl rfl hcl (by decide) hb2 (Tgt.one _)) ?_
  rintro _ v7_1 ⟨hq7_1, e7_1, z7_1⟩
  replace eb := eb.newB1 e7_1 (by first | exact .inl (by omega) | exact .inr rfl | exact .inr (.inl rfl) | exact .inr (.inr (by omega)) | (right; omega))
  replace hb3 := e7_1.at1 hb3 (by first | assumption | omega)
  replace st20 := st20.own e7_1 (fun k hk h => by rcases hk with hk | hk <;> omega)
  replace hb2 := hq7_1
  clear hq7_1
  refine runl_nil ?_
  refine run_ret_any Tryz.func60 (resC Tryz.results60 rfl (loadVar_agg agg_82 hcl (cells_all hb2))) ?_
  exact ⟨rfl, ⟨_, st20⟩, eb⟩
theorem qistgt_any (t : Tgt) (ht : t.wf) (hm : isTgtB t = true) (w : World) : Ret Tryz.prog 180 [.agg ⟨t.cells⟩] w fun v w' => v = .bool true ∧ Ext w w' := by
  have e := ExtB.refl (fun _ => False) w
  obtain ⟨⟨hn, hh, hc, hec⟩, n1, n2, n3, q1, q2, -⟩ := tgt_may hm
  refine ret_of_run Tryz.func180 rfl Tryz.ntmps180 rfl ?_
  refine run_seq ?_
  refine run_region rfl ?_
  refine runl_op (t_boxA rfl) ?_
  rintro _ w1 ⟨b1, rfl, hb1, e1, n1, l1⟩
  have z1 := e1.size
  replace e := e.trans e1
  refine runl_ev (ev_assign rfl) ?_
  refine runl_nil ?_
  refine run_seq ?_
  refine run_region rfl ?_
  refine runl_ev (ev_fieldAddr fld_82_0 rfl) ?_
  refine runl_ev (ev_load1 cell_9 rfl (eqw ((cells_all hb1).pick 0 rfl (Tgt.c0 _)))) ?_
  refine runl_op (t_call call_178 rfl (qname_any t.name _ (by omega))) ?_
  rintro _ w5 ⟨rfl, e5⟩
  rw [hn]
  have z5 := e5.size
  replace e := e.trans e5
  replace hb1 := e5.at hb1
  refine runl_ev (ev_move rfl) ?_
  refine runl_ev_g rfl rfl (rfl) (ev_fieldAddr fld_82_1 rfl) ?_
  refine runl_ev_g rfl rfl (rfl) (ev_load1 cell_3 rfl (eqw ((cells_all hb1).pick 1 rfl (Tgt.c1 _)))) ?_
  refine runl_ev_g rfl rfl (rfl) (ev_geq rfl rfl) ?_
  refine runl_ev (ev_pick rfl rfl rfl (if_pos (rfl))) ?_
  refine runl_ev (ev_move rfl) ?_
  refine runl_ev_g rfl rfl (decide_eq_true q1) (ev_fieldAddr fld_82_1 rfl) ?_
  refine runl_ev_g rfl rfl (decide_eq_true q1) (ev_load1 cell_3 rfl (eqw ((cells_all hb1).pick 1 rfl (Tgt.c1 _)))) ?_
  refine runl_ev_g rfl rfl (decide_eq_true q1) (ev_leq rfl rfl) ?_
  refine runl_ev (ev_pick rfl rfl rfl (if_pos (decide_eq_true q1))) ?_
  refine runl_ev (ev_move rfl) ?_
  refine runl_ev_g rfl rfl (decide_eq_true q2) (ev_fieldAddr fld_82_3 rfl) ?_
  refine runl_ev_g rfl rfl (decide_eq_true q2) (ev_load1 cell_9 rfl (eqw ((cells_all hb1).pick 34 rfl (Tgt.c34 ht)))) ?_
  refine runl_op_g rfl rfl (decide_eq_true q2) (t_call call_178 rfl (qname_any t.hw _ (by omega))) ?_
  rintro _ w19 ⟨rfl, e19⟩
  rw [hh]
  have z19 := e19.size
  replace e := e.trans e19
  replace hb1 := e19.at hb1
  refine runl_ev (ev_pick rfl rfl rfl (if_pos (decide_eq_true q2))) ?_
  refine runl_ev (ev_move rfl) ?_
  refine runl_ev_g rfl rfl (rfl) (ev_fieldAddr fld_82_4 rfl) ?_
  refine runl_ev_g rfl rfl (rfl) (ev_load1 cell_3 rfl (eqw ((cells_all hb1).pick 35 rfl (Tgt.c35 ht)))) ?_
  refine runl_op_g rfl rfl (rfl) (t_buildSlice (out := [.int .i64 t.ctr]) Tryz.underlying248 sz_3 zero_3 rfl rfl (by decide) (by decide) rfl (rfl)) ?_
  rintro _ w24 ⟨b24, rfl, hb24, e24, n24, l24⟩
  have z24 := e24.size
  replace e := e.trans e24
  replace hb1 := e24.at hb1
  refine runl_op_g rfl rfl (rfl) (t_call call_177 rfl (rnums_any [t.ctr] _ _ _ _ (sl_lit (l := [t.ctr]) (R := RInt) hb24 (pc rfl pn)) (by simp))) ?_
  rintro _ w25 ⟨rfl, e25⟩
  rw [show [t.ctr].all numB = true by simp [hc]]
  have z25 := e25.size
  replace e := e.trans e25
  replace hb1 := e25.at hb1
  replace hb24 := e25.at hb24
  by_cases hee : t.ecu = ⟨#[]⟩
  · refine runl_ev (ev_pick rfl rfl rfl (if_pos (rfl))) ?_
    refine runl_ev (ev_move rfl) ?_
    refine runl_ev_g rfl rfl (rfl) (ev_fieldAddr fld_82_5 rfl) ?_
    refine runl_ev_g rfl rfl (rfl) (ev_load1 cell_9 rfl (eqw ((cells_all hb1).pick 36 rfl (Tgt.c36 ht)))) ?_
    refine runl_ev_g rfl rfl (rfl) (ev_eqlS rfl rfl) ?_
    refine runl_ev_g rfl rfl (rfl) (ev_move rfl) ?_
    refine runl_no_g rfl rfl (decide_eq_true hee) ?_
    refine runl_no_g rfl rfl (decide_eq_true hee) ?_
    refine runl_no_g rfl rfl (decide_eq_true hee) ?_
    refine runl_ev_g rfl rfl (rfl) (ev_pick rfl rfl rfl (if_pos (decide_eq_true hee))) ?_
    refine runl_ev (ev_pick rfl rfl rfl (if_pos (rfl))) ?_
    refine runl_ev (ev_assign rfl) ?_
    refine runl_nil ?_
    refine run_ret_any Tryz.func180 (res1 Tryz.results180 rfl) ?_
    exact ⟨rfl, e⟩
  · refine runl_ev (ev_pick rfl rfl rfl (if_pos (rfl))) ?_
    refine runl_ev (ev_move rfl) ?_
    refine runl_ev_g rfl rfl (rfl) (ev_fieldAddr fld_82_5 rfl) ?_
    refine runl_ev_g rfl rfl (rfl) (ev_load1 cell_9 rfl (eqw ((cells_all hb1).pick 36 rfl (Tgt.c36 ht)))) ?_
    refine runl_ev_g rfl rfl (rfl) (ev_eqlS rfl rfl) ?_
    refine runl_ev_g rfl rfl (rfl) (ev_move rfl) ?_
    refine runl_ev_g rfl rfl (decide_eq_false hee) (ev_fieldAddr fld_82_5 rfl) ?_
    refine runl_ev_g rfl rfl (decide_eq_false hee) (ev_load1 cell_9 rfl (eqw ((cells_all hb1).pick 36 rfl (Tgt.c36 ht)))) ?_
    refine runl_op_g rfl rfl (decide_eq_false hee) (t_call call_178 rfl (qname_any t.ecu _ (by omega))) ?_
    rintro _ w34 ⟨rfl, e34⟩
    rw [hec.resolve_left hee]
    have z34 := e34.size
    replace e := e.trans e34
    replace hb1 := e34.at hb1
    replace hb24 := e34.at hb24
    refine runl_ev_g rfl rfl (rfl) (ev_pick rfl rfl rfl (if_neg (by simp [hee]))) ?_
    refine runl_ev (ev_pick rfl rfl rfl (if_pos (rfl))) ?_
    refine runl_ev (ev_assign rfl) ?_
    refine runl_nil ?_
    refine run_ret_any Tryz.func180 (res1 Tryz.results180 rfl) ?_
    exact ⟨rfl, e⟩
end Go.Proofs.YtlgkdnmklgbhbaaGreatDoor
/- The walks of what encodes targets in the reference. -/
namespace Go.Proofs.YtlgkdnmklgbhbaaGreatDoor
open Go Go.Fw
set_option maxRecDepth 100000
theorem tgts_rise {l : List Tgt} (h : isTgsB l = true) {k : Nat} (hk : k < l.length) : isTgtB l[k] = true ∧ (0 < k → riseB (l[k - 1]'(by omega)) l[k] = true) := by
  unfold isTgsB at h
  simp only [List.all_eq_true] at h
  have h2 := h k (List.mem_range.2 hk)
  rw [tgtAt_eq hk] at h2
  simp only [Bool.and_eq_true, Bool.or_eq_true, decide_eq_true_eq] at h2
  exact ⟨h2.1, fun h0 => h2.2.resolve_left (by omega)⟩

theorem qtarget_any (t : Tgt) (ht : t.wf) (hm : isTgtB t = true) (w : World) : Ret Tryz.prog 124 [.agg ⟨t.cells⟩] w (OwnB 5 w (encTgt t)) := by
  have e := ExtB.refl (fun _ => False) w
  obtain ⟨-, n1, n2, n3, q1, q2, q3, q4⟩ := tgt_may hm
  have hs32 : t.sum.length = 32 := ht
  have l1 := encText_len t.name
  have l2 := encText_len t.hw
  have l3 := encText_len t.ecu
  have l4 := encN_len t.size
  have l5 := encN_len t.ctr
  refine ret_of_run Tryz.func124 rfl Tryz.ntmps124 rfl ?_
  refine run_seq ?_
  refine run_region rfl ?_
  refine runl_op (t_boxA rfl) ?_
  rintro _ w1 ⟨b1, rfl, hb1, e1, n1, l1⟩
  have z1 := e1.size
  replace e := e.trans e1
  have lb1 := lt_of_at hb1
  have x := ExtB.refl (fun _ => False) w1
  refine runl_ev (ev_assign rfl) ?_
  refine runl_nil ?_
  refine run_seq ?_
  refine run_draw mo (fun w' => w'.heap[b1]? = some (.cells ⟨t.cells⟩ 82 (0, 0))) [] [(true, 0), (true, 1), (true, 3), (true, 4), (false, 2), (false, 5), (false, 6), (true, 7)] (by kernel_rfl) ?_
  intro wr1 er1
  have zr1 := er1.size
  have hsr1 : (fun w' => w'.heap[b1]? = some (.cells ⟨t.cells⟩ 82 (0, 0))) wr1 := (er1.at hb1)
  have ep := e.trans er1
  have hb1p := er1.at hb1
  have xp := x.trans er1
  refine rund_ev hsr1 rfl (ev_fieldAddr fld_82_0 rfl) ?_
  refine rund_ev hsr1 rfl (ev_load1 cell_9 rfl (fun wz hz => (cells_all hz).pick 0 rfl (Tgt.c0 _))) ?_
  refine rund_ev hsr1 rfl (ev_fieldAddr fld_82_1 rfl) ?_
  refine rund_ev hsr1 rfl (ev_load1 cell_3 rfl (fun wz hz => (cells_all hz).pick 1 rfl (Tgt.c1 _))) ?_
  refine rund_op rfl (t_call call_120 rfl (qtext_any t.name _ (by omega))) ?_
  rintro v6 w6 ow6
  have e6 := ow6.ext
  obtain ⟨xs6, g6, own6, hpp6, hxl6, -, hg6, hgl6⟩ := ow6.open
  have z6 := e6.size
  replace ep := ep.trans e6
  replace hb1p := e6.at hb1p
  replace xp := xp.trans e6
  have hs6 := hb1p
  refine ⟨hs6, ?_⟩
  have own6p := own6
  refine rund_op rfl (t_call call_121 rfl (rnum1_any t.size _)) ?_
  rintro v9 w9 ow9
  have e9 := ow9.ext
  have og9 := ow9.g
  obtain ⟨a9, c9, rfl, hc9, -, -⟩ := og9.sl
  have z9 := e9.size
  replace ep := ep.trans e9
  replace hb1p := e9.at hb1p
  replace xp := xp.trans e9
  replace own6p := own6p.ext e9
  have hs9 := hb1p
  refine ⟨hs9, ?_⟩
  have og9p := og9
  refine rund_op rfl (t_appendL (l := encN t.size) (R := RByte) ef_29 rfl rfl own6p og9p.slat rbyte_len (fun x cs h => rbyte_one x cs h) (by unfold maxLen; (try simp only [List.length_append]); omega) (by (try simp only [List.length_append]); omega)) ?_
  rintro v10 w10 ⟨n10, gg10, hnl10, hnp10, ap10⟩
  have og10 := OwnG.app flat_byte (w := w1) (by omega) (by omega : g6 = -1 ∨ (w1.heap.size : Int) ≤ g6) (by omega) (hpp6.mono fun _ _ _ hr => flat_byte _ _ _ _ hr) hxl6 hnp10 ap10 rfl rfl
  obtain ⟨xs10, g10, own10, hpp10, hxl10, hg10, hgl10⟩ := og10.open
  have z10 := ap10.ext.size
  replace ep := ep.newG ap10.ext (by omega)
  replace hb1p := ap10.ext.atG hb1p (by first | assumption | omega)
  replace xp := xp.newG ap10.ext (by omega)
  replace og9p := og9p.keep flat_byte ap10.ext (fun k hk => by first | exact .inl (by omega) | exact .inr (by omega))
  have hsp10_ext := hb1p
  refine ⟨hsp10_ext, ?_⟩
  have own10p := own10
  refine rund_ev hsp10_ext rfl (ev_assign rfl) ?_
  refine rund_nil ?_
  replace e := ep
  clear ep
  replace hb1 := hb1p
  clear hb1p
  replace x := xp
  clear xp
  replace own10 := own10p
  clear own10p
  refine run_seq ?_
  refine run_draw mo (fun w' => w'.heap[b1]? = some (.cells ⟨t.cells⟩ 82 (0, 0))) [] [(true, 0), (true, 1), (true, 2), (true, 4), (true, 5), (false, 3), (false, 6), (false, 7), (true, 8)] (by kernel_rfl) ?_
  intro wr2 er2
  have zr2 := er2.size
  have hsr2 : (fun w' => w'.heap[b1]? = some (.cells ⟨t.cells⟩ 82 (0, 0))) wr2 := (er2.at hb1)
  have ep := e.trans er2
  have hb1p := er2.at hb1
  have xp := x.trans er2
  have own10p := own10.ext er2
  refine rund_ev hsr2 rfl (ev_move rfl) ?_
  refine rund_ev hsr2 rfl (ev_fieldAddr fld_82_2 rfl) ?_
  refine rund_ev hsr2 rfl (ev_sliceA arr_25 rfl) ?_
  refine rund_ev hsr2 rfl (ev_fieldAddr fld_82_3 rfl) ?_
  refine rund_ev hsr2 rfl (ev_load1 cell_9 rfl (fun wz hz => (cells_all hz).pick 34 rfl (Tgt.c34 ht))) ?_
  refine rund_op rfl (t_appendL (l := t.sum) (R := RByte) ef_29 rfl rfl own10p (sl_hashC ((cells_all hb1p).seg (hcells t.sum) 2 rfl (Tgt.sumdrop' ht)) ht) rbyte_len (fun x cs h => rbyte_one x cs h) (by unfold maxLen; (try simp only [List.length_append]); omega) (by (try simp only [List.length_append]); omega)) ?_
  rintro v14 w14 ⟨n14, gg14, hnl14, hnp14, ap14⟩
  have og14 := OwnG.app flat_byte (w := w1) (by omega) (by omega : g10 = -1 ∨ (w1.heap.size : Int) ≤ g10) (by omega) (hpp10.mono fun _ _ _ hr => flat_byte _ _ _ _ hr) hxl10 hnp14 ap14 rfl ht
  obtain ⟨xs14, g14, own14, hpp14, hxl14, hg14, hgl14⟩ := og14.open
  have z14 := ap14.ext.size
  replace ep := ep.newG ap14.ext (by omega)
  replace hb1p := ap14.ext.atG hb1p (by first | assumption | omega)
  replace xp := xp.newG ap14.ext (by omega)
  have hsp14_ext := hb1p
  refine ⟨hsp14_ext, ?_⟩
  have own14p := own14
  refine rund_op rfl (t_call call_120 rfl (qtext_any t.hw _ (by omega))) ?_
  rintro v17 w17 ow17
  have e17 := ow17.ext
  have og17 := ow17.g
  obtain ⟨a17, c17, rfl, hc17, -, -⟩ := og17.sl
  have z17 := e17.size
  replace ep := ep.trans e17
  replace hb1p := e17.at hb1p
  replace xp := xp.trans e17
  replace own14p := own14p.ext e17
  have hs17 := hb1p
  refine ⟨hs17, ?_⟩
  have og17p := og17
  refine rund_op rfl (t_appendL (l := encText t.hw) (R := RByte) ef_29 rfl rfl own14p og17p.slat rbyte_len (fun x cs h => rbyte_one x cs h) (by unfold maxLen; (try simp only [List.length_append]); omega) (by (try simp only [List.length_append]); omega)) ?_
  rintro v18 w18 ⟨n18, gg18, hnl18, hnp18, ap18⟩
  have og18 := OwnG.app flat_byte (w := w1) (by omega) (by omega : g14 = -1 ∨ (w1.heap.size : Int) ≤ g14) (by omega) (hpp14.mono fun _ _ _ hr => flat_byte _ _ _ _ hr) hxl14 hnp18 ap18 rfl rfl
  obtain ⟨xs18, g18, own18, hpp18, hxl18, hg18, hgl18⟩ := og18.open
  have z18 := ap18.ext.size
  replace ep := ep.newG ap18.ext (by omega)
  replace hb1p := ap18.ext.atG hb1p (by first | assumption | omega)
  replace xp := xp.newG ap18.ext (by omega)
  replace og17p := og17p.keep flat_byte ap18.ext (fun k hk => by first | exact .inl (by omega) | exact .inr (by omega))
  have hsp18_ext := hb1p
  refine ⟨hsp18_ext, ?_⟩
  have own18p := own18
  refine rund_ev hsp18_ext rfl (ev_assign rfl) ?_
  refine rund_nil ?_
  replace e := ep
  clear ep
  replace hb1 := hb1p
  clear hb1p
  replace x := xp
  clear xp
  replace own18 := own18p
  clear own18p
  refine run_seq ?_
  refine run_draw mo (fun w' => w'.heap[b1]? = some (.cells ⟨t.cells⟩ 82 (0, 0))) [] [(true, 0), (true, 1), (true, 2), (true, 5), (true, 6), (false, 3), (false, 4), (false, 7), (false, 8), (true, 9)] (by kernel_rfl) ?_
  intro wr3 er3
  have zr3 := er3.size
  have hsr3 : (fun w' => w'.heap[b1]? = some (.cells ⟨t.cells⟩ 82 (0, 0))) wr3 := (er3.at hb1)
  have ep := e.trans er3
  have hb1p := er3.at hb1
  have xp := x.trans er3
  have own18p := own18.ext er3
  refine rund_ev hsr3 rfl (ev_move rfl) ?_
  refine rund_ev hsr3 rfl (ev_fieldAddr fld_82_4 rfl) ?_
  refine rund_ev hsr3 rfl (ev_load1 cell_3 rfl (fun wz hz => (cells_all hz).pick 35 rfl (Tgt.c35 ht))) ?_
  refine rund_ev hsr3 rfl (ev_fieldAddr fld_82_5 rfl) ?_
  refine rund_ev hsr3 rfl (ev_load1 cell_9 rfl (fun wz hz => (cells_all hz).pick 36 rfl (Tgt.c36 ht))) ?_
  refine rund_op rfl (t_call call_121 rfl (rnum1_any t.ctr _)) ?_
  rintro v22 w22 ow22
  have e22 := ow22.ext
  have og22 := ow22.g
  obtain ⟨a22, c22, rfl, hc22, -, -⟩ := og22.sl
  have z22 := e22.size
  replace ep := ep.trans e22
  replace hb1p := e22.at hb1p
  replace xp := xp.trans e22
  replace own18p := own18p.ext e22
  have hs22 := hb1p
  refine ⟨hs22, ?_⟩
  have og22p := og22
  refine rund_op rfl (t_appendL (l := encN t.ctr) (R := RByte) ef_29 rfl rfl own18p og22p.slat rbyte_len (fun x cs h => rbyte_one x cs h) (by unfold maxLen; (try simp only [List.length_append]); omega) (by (try simp only [List.length_append]); omega)) ?_
  rintro v23 w23 ⟨n23, gg23, hnl23, hnp23, ap23⟩
  have og23 := OwnG.app flat_byte (w := w1) (by omega) (by omega : g18 = -1 ∨ (w1.heap.size : Int) ≤ g18) (by omega) (hpp18.mono fun _ _ _ hr => flat_byte _ _ _ _ hr) hxl18 hnp23 ap23 rfl rfl
  obtain ⟨xs23, g23, own23, hpp23, hxl23, hg23, hgl23⟩ := og23.open
  have z23 := ap23.ext.size
  replace ep := ep.newG ap23.ext (by omega)
  replace hb1p := ap23.ext.atG hb1p (by first | assumption | omega)
  replace xp := xp.newG ap23.ext (by omega)
  replace og22p := og22p.keep flat_byte ap23.ext (fun k hk => by first | exact .inl (by omega) | exact .inr (by omega))
  have hsp23_ext := hb1p
  refine ⟨hsp23_ext, ?_⟩
  have own23p := own23
  refine rund_op rfl (t_call call_120 rfl (qtext_any t.ecu _ (by omega))) ?_
  rintro v26 w26 ow26
  have e26 := ow26.ext
  have og26 := ow26.g
  obtain ⟨a26, c26, rfl, hc26, -, -⟩ := og26.sl
  have z26 := e26.size
  replace ep := ep.trans e26
  replace hb1p := e26.at hb1p
  replace xp := xp.trans e26
  replace own23p := own23p.ext e26
  have hs26 := hb1p
  refine ⟨hs26, ?_⟩
  have og26p := og26
  refine rund_op rfl (t_appendL (l := encText t.ecu) (R := RByte) ef_29 rfl rfl own23p og26p.slat rbyte_len (fun x cs h => rbyte_one x cs h) (by unfold maxLen; (try simp only [List.length_append]); omega) (by (try simp only [List.length_append]); omega)) ?_
  rintro v27 w27 ⟨n27, gg27, hnl27, hnp27, ap27⟩
  have og27 := OwnG.app flat_byte (w := w1) (by omega) (by omega : g23 = -1 ∨ (w1.heap.size : Int) ≤ g23) (by omega) (hpp23.mono fun _ _ _ hr => flat_byte _ _ _ _ hr) hxl23 hnp27 ap27 rfl rfl
  obtain ⟨xs27, g27, own27, hpp27, hxl27, hg27, hgl27⟩ := og27.open
  have z27 := ap27.ext.size
  replace ep := ep.newG ap27.ext (by omega)
  replace hb1p := ap27.ext.atG hb1p (by first | assumption | omega)
  replace xp := xp.newG ap27.ext (by omega)
  replace og26p := og26p.keep flat_byte ap27.ext (fun k hk => by first | exact .inl (by omega) | exact .inr (by omega))
  have hsp27_ext := hb1p
  refine ⟨hsp27_ext, ?_⟩
  have own27p := own27
  refine rund_ev hsp27_ext rfl (ev_assign rfl) ?_
  refine rund_nil ?_
  replace e := ep
  clear ep
  replace hb1 := hb1p
  clear hb1p
  replace x := xp
  clear xp
  replace own27 := own27p
  clear own27p
  refine run_ret_any Tryz.func124 (res1 Tryz.results124 rfl) ?_
  rw [show encTgt t = encText t.name ++ encN t.size ++ t.sum ++ encText t.hw ++ encN t.ctr ++ encText t.ecu by simp [encTgt]]
  exact OwnL.from e1 (OwnG.l og27 x)
theorem qistgs_any (nm : ByteArray) (ve ex : Int) (x : List Tgt) (hnm : nameB nm = true) (hvv : verB ve = true) (hxx : numB ex = true) (hm : isTgsB x = true) (hn : x.length ≤ 16) (a : Option Addr) (c : Nat) (w : World) (hl : SlAt 37 RTgt w (.slice a x.length c) x) : Ret Tryz.prog 123 [.agg ⟨[.string nm, .int .i64 ve, .int .i64 ex, .slice a x.length c, .slice none 0 0]⟩] w fun v w' => v = .bool true ∧ Ext w w' := by
  have e := ExtB.refl (fun _ => False) w
  obtain ⟨-, hat⟩ := hl.at
  refine ret_of_run Tryz.func123 rfl Tryz.ntmps123 rfl ?_
  refine run_seq ?_
  refine run_region rfl ?_
  refine runl_op (t_boxA rfl) ?_
  rintro _ w1 ⟨b1, rfl, hb1, e1, n1, l1⟩
  have z1 := e1.size
  replace e := e.trans e1
  refine runl_ev (ev_assign rfl) ?_
  refine runl_nil ?_
  refine run_seq ?_
  refine run_seq ?_
  refine run_region rfl ?_
  refine runl_ev (ev_assign rfl) ?_
  refine runl_nil ?_
  refine run_block ?_
  refine run_loop (ι := Nat) (fun k => [(1, .pointer (some ⟨b1, 0, none⟩)), (3, .int .i64 (k : Int))]) (fun k w' => k ≤ x.length ∧ w'.heap[b1]? = some (.cells ⟨[.string nm, .int .i64 ve, .int .i64 ex, .slice a x.length c, .slice none 0 0]⟩ 48 (0, 0)) ∧ Ext w w') (fun k => x.length - k) (0) ⟨rfl, rfl, trivial⟩ (⟨Nat.zero_le _, hb1, e⟩) ?_
  clear e hb1
  intro k w1 ⟨hk, hb1, e⟩ IH
  have lb1 := lt_of_at hb1
  refine run_seq ?_
  refine run_seq ?_
  by_cases hkl : k < x.length
  · refine run_region rfl ?_
    refine runl_ev (ev_move rfl) ?_
    refine runl_ev (ev_fieldAddr fld_48_3 rfl) ?_
    refine runl_ev (ev_load1 cell_45 rfl (eqw ((cells_all hb1).pick 3 rfl rfl))) ?_
    refine runl_ev (ev_lenL sl_45 rfl) ?_
    refine runl_ev (ev_lss rfl rfl) ?_
    refine runl_ev (ev_move rfl) ?_
    refine runl_ev_g rfl rfl (decide_eq_true (by omega)) (ev_fieldAddr fld_48_3 rfl) ?_
    refine runl_ev_g rfl rfl (decide_eq_true (by omega)) (ev_load1 cell_45 rfl (eqw ((cells_all hb1).pick 3 rfl rfl))) ?_
    refine runl_ev_g rfl rfl (decide_eq_true (by omega)) (ev_lenL sl_45 rfl) ?_
    refine runl_ev_g rfl rfl (decide_eq_true (by omega)) (ev_leq rfl rfl) ?_
    refine runl_ev (ev_pick rfl rfl rfl (if_pos (decide_eq_true (by omega)))) ?_
    refine runl_nil ?_
    refine run_cond_true rfl (decide_eq_true (by omega)) ?_
    refine run_skip ?_
    refine run_seq ?_
    refine run_block ?_
    refine run_seq ?_
    by_cases hk0 : 0 < k
    · have hk1 : k < x.length := by omega
      obtain ⟨bA, oA, cA, rfl, ⟨hwA, rfl⟩, hcA⟩ := hat k hk1
      obtain ⟨htk, hrk⟩ := tgts_rise hm hk1
      obtain ⟨bB, oB, cB, hBe, ⟨hwB, hcs⟩, hcB⟩ := hat (k - 1) (by omega)
      subst hcs
      obtain ⟨rfl, rfl⟩ : bA = bB ∧ oA = oB := by injection hBe with q; injection q with q1 q2; exact ⟨q1, q2⟩
      have hr := hrk hk0
      refine run_draw mo (fun w' => Ext w1 w') [] [(true, 0), (true, 1), (true, 2), (true, 3), (true, 4), (false, 5), (true, 6), (true, 7), (true, 8), (true, 9), (true, 10), (true, 11), (true, 12), (true, 13), (true, 14), (true, 15), (true, 16), (true, 17), (true, 18), (true, 19), (true, 20), (true, 21), (false, 22), (true, 23), (true, 24), (true, 25)] (by kernel_rfl) ?_
      intro wr4 er4
      have zr4 := er4.size
      have hsr4 := er4
      have ep := e.trans er4
      have hb1p := er4.at hb1
      refine rund_ev hsr4 rfl (ev_fieldAddr fld_48_3 rfl) ?_
      refine rund_ev hsr4 rfl (ev_load1 cell_45 rfl (fun wz hz => (cells_all (hz.at hb1)).pick 3 rfl rfl)) ?_
      refine rund_ev hsr4 rfl (ev_move rfl) ?_
      refine rund_ev hsr4 rfl (ev_indexAddr (k := k) el_45 rfl rfl (by omega)) ?_
      refine rund_ev hsr4 rfl (ev_loadA agg_82 (Tgt.cells_length hwA) rfl (fun wz hz => hcA.ext (e.trans hz))) ?_
      refine rund_op rfl (t_call call_180 rfl (qistgt_any x[k] hwA htk _)) ?_
      rintro _ w25 ⟨rfl, e25⟩
      have z25 := e25.size
      replace ep := ep.trans e25
      replace hb1p := e25.at hb1p
      have hs25 := hsr4.trans e25
      refine ⟨hs25, ?_⟩
      refine rund_ev hs25 rfl (ev_not rfl) ?_
      refine rund_ev hs25 rfl (ev_move rfl) ?_
      refine rund_ev_g hs25 rfl rfl rfl (rfl) (ev_move rfl) ?_
      refine rund_ev_g hs25 rfl rfl rfl (rfl) (ev_gtr rfl rfl) ?_
      refine rund_ev_g hs25 rfl rfl rfl (rfl) (ev_move rfl) ?_
      refine rund_ev_g hs25 rfl rfl rfl (decide_eq_true (by omega)) (ev_fieldAddr fld_48_3 rfl) ?_
      refine rund_ev_g hs25 rfl rfl rfl (decide_eq_true (by omega)) (ev_load1 cell_45 rfl (fun wz hz => (cells_all (hz.at hb1)).pick 3 rfl rfl)) ?_
      refine rund_ev_g hs25 rfl rfl rfl (decide_eq_true (by omega)) (ev_move rfl) ?_
      refine rund_ev_g hs25 rfl rfl rfl (decide_eq_true (by omega)) (ev_subK (((k - 1 : Nat) : Int)) rfl rfl (by rw [show ((k : Nat) : Int) - 1 = ((k - 1 : Nat) : Int) by omega]; exact wrap_i64 (by omega) (by omega))) ?_
      refine rund_ev_g hs25 rfl rfl rfl (decide_eq_true (by omega)) (ev_indexAddr (k := k - 1) el_45 rfl rfl (by omega)) ?_
      refine rund_ev_g hs25 rfl rfl rfl (decide_eq_true (by omega)) (ev_loadA agg_82 (Tgt.cells_length hwB) rfl (fun wz hz => hcB.ext (e.trans hz))) ?_
      refine rund_ev_g hs25 rfl rfl rfl (decide_eq_true (by omega)) (ev_fieldAddr fld_48_3 rfl) ?_
      refine rund_ev_g hs25 rfl rfl rfl (decide_eq_true (by omega)) (ev_load1 cell_45 rfl (fun wz hz => (cells_all (hz.at hb1)).pick 3 rfl rfl)) ?_
      refine rund_ev_g hs25 rfl rfl rfl (decide_eq_true (by omega)) (ev_move rfl) ?_
      refine rund_ev_g hs25 rfl rfl rfl (decide_eq_true (by omega)) (ev_indexAddr (k := k) el_45 rfl rfl (by omega)) ?_
      refine rund_ev_g hs25 rfl rfl rfl (decide_eq_true (by omega)) (ev_loadA agg_82 (Tgt.cells_length hwA) rfl (fun wz hz => hcA.ext (e.trans hz))) ?_
      refine rund_op_g rfl rfl rfl (decide_eq_true (by omega)) (t_call call_35 rfl (before_any x[k - 1] x[k] hwB hwA _)) ?_
      rintro _ w42 ⟨rfl, e42⟩
      rw [hr]
      have z42 := e42.size
      replace ep := ep.trans e42
      replace hb1p := e42.at hb1p
      have hs42 := hs25.trans e42
      refine ⟨hs42, ?_⟩
      refine rund_ev_g hs42 rfl rfl rfl (decide_eq_true (by omega)) (ev_not rfl) ?_
      refine rund_ev_g hs42 rfl rfl rfl (rfl) (ev_pick rfl rfl rfl (if_pos (decide_eq_true (by omega)))) ?_
      refine rund_ev hs42 rfl (ev_pick rfl rfl rfl (if_neg (by simp))) ?_
      refine rund_nil ?_
      replace e := ep
      clear ep
      replace hb1 := hb1p
      clear hb1p
      refine run_cond_false rfl (rfl) ?_
      refine run_skip ?_
      refine run_inBlock ?_
      refine run_region rfl ?_
      refine runl_ev (ev_move rfl) ?_
      refine runl_ev (ev_add rfl rfl (by omega) (by omega)) ?_
      refine runl_ev (ev_assign rfl) ?_
      refine runl_nil ?_
      exact IH (k + 1) _ _ (by omega) ⟨rfl, rfl, trivial⟩ ⟨by omega, hb1, e⟩
    · have hk1 : k < x.length := by omega
      obtain ⟨bA, oA, cA, rfl, ⟨hwA, rfl⟩, hcA⟩ := hat k hk1
      obtain ⟨htk, hrk⟩ := tgts_rise hm hk1
      refine run_draw mo (fun w' => Ext w1 w') [] [(true, 0), (true, 1), (true, 2), (true, 3), (true, 4), (false, 5), (true, 6), (true, 7), (true, 8), (true, 9), (true, 10), (true, 11), (true, 12), (true, 13), (true, 14), (true, 15), (true, 16), (true, 17), (true, 18), (true, 19), (true, 20), (true, 21), (false, 22), (true, 23), (true, 24), (true, 25)] (by kernel_rfl) ?_
      intro wr4 er4
      have zr4 := er4.size
      have hsr4 := er4
      have ep := e.trans er4
      have hb1p := er4.at hb1
      refine rund_ev hsr4 rfl (ev_fieldAddr fld_48_3 rfl) ?_
      refine rund_ev hsr4 rfl (ev_load1 cell_45 rfl (fun wz hz => (cells_all (hz.at hb1)).pick 3 rfl rfl)) ?_
      refine rund_ev hsr4 rfl (ev_move rfl) ?_
      refine rund_ev hsr4 rfl (ev_indexAddr (k := k) el_45 rfl rfl (by omega)) ?_
      refine rund_ev hsr4 rfl (ev_loadA agg_82 (Tgt.cells_length hwA) rfl (fun wz hz => hcA.ext (e.trans hz))) ?_
      refine rund_op rfl (t_call call_180 rfl (qistgt_any x[k] hwA htk _)) ?_
      rintro _ w25 ⟨rfl, e25⟩
      have z25 := e25.size
      replace ep := ep.trans e25
      replace hb1p := e25.at hb1p
      have hs25 := hsr4.trans e25
      refine ⟨hs25, ?_⟩
      refine rund_ev hs25 rfl (ev_not rfl) ?_
      refine rund_ev hs25 rfl (ev_move rfl) ?_
      refine rund_ev_g hs25 rfl rfl rfl (rfl) (ev_move rfl) ?_
      refine rund_ev_g hs25 rfl rfl rfl (rfl) (ev_gtr rfl rfl) ?_
      refine rund_ev_g hs25 rfl rfl rfl (rfl) (ev_move rfl) ?_
      refine rund_no_g hs25 rfl rfl rfl (decide_eq_false (by omega)) ?_
      refine rund_no_g hs25 rfl rfl rfl (decide_eq_false (by omega)) ?_
      refine rund_no_g hs25 rfl rfl rfl (decide_eq_false (by omega)) ?_
      refine rund_no_g hs25 rfl rfl rfl (decide_eq_false (by omega)) ?_
      refine rund_no_g hs25 rfl rfl rfl (decide_eq_false (by omega)) ?_
      refine rund_no_g hs25 rfl rfl rfl (decide_eq_false (by omega)) ?_
      refine rund_no_g hs25 rfl rfl rfl (decide_eq_false (by omega)) ?_
      refine rund_no_g hs25 rfl rfl rfl (decide_eq_false (by omega)) ?_
      refine rund_no_g hs25 rfl rfl rfl (decide_eq_false (by omega)) ?_
      refine rund_no_g hs25 rfl rfl rfl (decide_eq_false (by omega)) ?_
      refine rund_no_g hs25 rfl rfl rfl (decide_eq_false (by omega)) ?_
      refine rund_no_gf rfl rfl rfl (decide_eq_false (by omega)) hs25 ?_
      refine rund_no_g hs25 rfl rfl rfl (decide_eq_false (by omega)) ?_
      refine rund_ev_g hs25 rfl rfl rfl (rfl) (ev_pick rfl rfl rfl (if_neg (by simp; omega))) ?_
      refine rund_ev hs25 rfl (ev_pick rfl rfl rfl (if_neg (by simp))) ?_
      refine rund_nil ?_
      replace e := ep
      clear ep
      replace hb1 := hb1p
      clear hb1p
      refine run_cond_false rfl (rfl) ?_
      refine run_skip ?_
      refine run_inBlock ?_
      refine run_region rfl ?_
      refine runl_ev (ev_move rfl) ?_
      refine runl_ev (ev_add rfl rfl (by omega) (by omega)) ?_
      refine runl_ev (ev_assign rfl) ?_
      refine runl_nil ?_
      exact IH (k + 1) _ _ (by omega) ⟨rfl, rfl, trivial⟩ ⟨by omega, hb1, e⟩
  · refine run_region rfl ?_
    refine runl_ev (ev_move rfl) ?_
    refine runl_ev (ev_fieldAddr fld_48_3 rfl) ?_
    refine runl_ev (ev_load1 cell_45 rfl (eqw ((cells_all hb1).pick 3 rfl rfl))) ?_
    refine runl_ev (ev_lenL sl_45 rfl) ?_
    refine runl_ev (ev_lss rfl rfl) ?_
    refine runl_ev (ev_move rfl) ?_
    refine runl_no_g rfl rfl (decide_eq_false (by omega)) ?_
    refine runl_no_g rfl rfl (decide_eq_false (by omega)) ?_
    refine runl_no_g rfl rfl (decide_eq_false (by omega)) ?_
    refine runl_no_g rfl rfl (decide_eq_false (by omega)) ?_
    refine runl_ev (ev_pick rfl rfl rfl (if_neg (by simp; omega))) ?_
    refine runl_nil ?_
    refine run_cond_false rfl (rfl) ?_
    refine run_exit rfl ?_
    refine run_seq ?_
    refine run_seq ?_
    refine run_region rfl ?_
    refine runl_ev (ev_assign rfl) ?_
    refine runl_nil ?_
    refine run_block ?_
    refine run_loop (ι := Unit) (fun _ => [(1, .pointer (some ⟨b1, 0, none⟩)), (4, .int .i64 0)]) (fun _ w' => w'.heap[b1]? = some (.cells ⟨[.string nm, .int .i64 ve, .int .i64 ex, .slice a x.length c, .slice none 0 0]⟩ 48 (0, 0)) ∧ Ext w w') (fun _ => 0) (()) ⟨rfl, rfl, trivial⟩ (⟨hb1, e⟩) ?_
    clear e hb1
    intro _ w2 ⟨hb1, e⟩ IH2
    refine run_seq ?_
    refine run_seq ?_
    refine run_region rfl ?_
    refine runl_ev (ev_move rfl) ?_
    refine runl_ev (ev_fieldAddr fld_48_4 rfl) ?_
    refine runl_ev (ev_load1 cell_46 rfl (eqw ((cells_all hb1).pick 4 rfl rfl))) ?_
    refine runl_ev (ev_lenL sl_46 rfl) ?_
    refine runl_ev (ev_lss rfl rfl) ?_
    refine runl_ev (ev_move rfl) ?_
    refine runl_no_g rfl rfl (by decide) ?_
    refine runl_no_g rfl rfl (by decide) ?_
    refine runl_no_g rfl rfl (by decide) ?_
    refine runl_no_g rfl rfl (by decide) ?_
    refine runl_ev (ev_pick rfl rfl rfl (if_neg (by decide))) ?_
    refine runl_nil ?_
    refine run_cond_false rfl (rfl) ?_
    refine run_exit rfl ?_
    refine run_seq ?_
    refine run_region rfl ?_
    refine runl_ev (ev_fieldAddr fld_48_0 rfl) ?_
    refine runl_ev (ev_load1 cell_9 rfl (eqw ((cells_all hb1).pick 0 rfl rfl))) ?_
    refine runl_op (t_call call_178 rfl (qname_any nm _ (by have := name_len hnm; omega))) ?_
    rintro _ w101 ⟨rfl, e101⟩
    rw [hnm]
    have z101 := e101.size
    replace e := e.trans e101
    replace hb1 := e101.at hb1
    refine runl_ev (ev_move rfl) ?_
    refine runl_ev_g rfl rfl (rfl) (ev_fieldAddr fld_48_1 rfl) ?_
    refine runl_ev_g rfl rfl (rfl) (ev_load1 cell_3 rfl (eqw ((cells_all hb1).pick 1 rfl rfl))) ?_
    refine runl_op_g rfl rfl (rfl) (t_call call_176 rfl (rver_any ve _)) ?_
    rintro _ w105 ⟨rfl, e105⟩
    rw [hvv]
    have z105 := e105.size
    replace e := e.trans e105
    replace hb1 := e105.at hb1
    refine runl_ev (ev_pick rfl rfl rfl (if_pos (rfl))) ?_
    refine runl_ev (ev_move rfl) ?_
    refine runl_ev_g rfl rfl (rfl) (ev_fieldAddr fld_48_2 rfl) ?_
    refine runl_ev_g rfl rfl (rfl) (ev_load1 cell_3 rfl (eqw ((cells_all hb1).pick 2 rfl rfl))) ?_
    refine runl_op_g rfl rfl (rfl) (t_buildSlice (out := [.int .i64 ex]) Tryz.underlying248 sz_3 zero_3 rfl rfl (by decide) (by decide) rfl (rfl)) ?_
    rintro _ w110 ⟨b110, rfl, hb110, e110, n110, l110⟩
    have z110 := e110.size
    replace e := e.trans e110
    replace hb1 := e110.at hb1
    refine runl_op_g rfl rfl (rfl) (t_call call_177 rfl (rnums_any [ex] _ _ _ _ (sl_lit (l := [ex]) (R := RInt) hb110 (pc rfl pn)) (by simp))) ?_
    rintro _ w111 ⟨rfl, e111⟩
    rw [show [ex].all numB = true by simp [hxx]]
    have z111 := e111.size
    replace e := e.trans e111
    replace hb1 := e111.at hb1
    replace hb110 := e111.at hb110
    refine runl_ev (ev_pick rfl rfl rfl (if_pos (rfl))) ?_
    refine runl_ev (ev_move rfl) ?_
    refine runl_ev_g rfl rfl (rfl) (ev_fieldAddr fld_48_3 rfl) ?_
    refine runl_ev_g rfl rfl (rfl) (ev_load1 cell_45 rfl (eqw ((cells_all hb1).pick 3 rfl rfl))) ?_
    refine runl_ev_g rfl rfl (rfl) (ev_lenL sl_45 rfl) ?_
    refine runl_ev_g rfl rfl (rfl) (ev_leq rfl rfl) ?_
    refine runl_ev (ev_pick rfl rfl rfl (if_pos (rfl))) ?_
    refine runl_ev (ev_move rfl) ?_
    refine runl_ev_g rfl rfl (decide_eq_true (by omega)) (ev_fieldAddr fld_48_4 rfl) ?_
    refine runl_ev_g rfl rfl (decide_eq_true (by omega)) (ev_load1 cell_46 rfl (eqw ((cells_all hb1).pick 4 rfl rfl))) ?_
    refine runl_ev_g rfl rfl (decide_eq_true (by omega)) (ev_lenL sl_46 rfl) ?_
    refine runl_ev_g rfl rfl (decide_eq_true (by omega)) (ev_leq rfl rfl) ?_
    refine runl_ev (ev_pick rfl rfl rfl (if_pos (decide_eq_true (by omega)))) ?_
    refine runl_ev (ev_assign rfl) ?_
    refine runl_nil ?_
    refine run_ret_any Tryz.func123 (res1 Tryz.results123 rfl) ?_
    exact ⟨rfl, e⟩
end Go.Proofs.YtlgkdnmklgbhbaaGreatDoor
/- The walks of what encodes and decodes targets in the reference, on what was written. -/
namespace Go.Proofs.YtlgkdnmklgbhbaaGreatDoor
open Go Go.Fw
set_option maxRecDepth 100000

theorem qenctgs_any (nm : ByteArray) (ve ex : Int) (x : List Tgt) (hnm : nameB nm = true) (hvv : verB ve = true) (hxx : numB ex = true) (hm : isTgsB x = true) (hn : x.length ≤ 16) (a : Option Addr) (c : Nat) (w : World) (hl : SlAt 37 RTgt w (.slice a x.length c) x) : Ret Tryz.prog 62 [.agg ⟨[.string nm, .int .i64 ve, .int .i64 ex, .slice a x.length c, .slice none 0 0]⟩] w fun v w' => ∃ p, v = .tuple #[p, .int .i64 0] ∧ OwnB 5 w (encP 4 isTgsB (encTg nm ve ex) x) p w' := by
  have e := ExtB.refl (fun _ => False) w
  have hl0 := hl
  obtain ⟨-, hat⟩ := hl.at
  have hwf := tgts_wf hl0
  have hn1 := name_len hnm
  have l0 := encN_len 4
  have l1 := encText_len nm
  have l2 := encNs_len [ve, ex, (x.length : Int)]
  simp only [List.length_cons, List.length_nil] at l2
  have htl := encTgts_len (l := x) fun t ht => tgt_len (tgts_is hm t ht) (hwf t ht)
  have htl2 : (x.flatMap encTgt).length ≤ 3200 := by have := Nat.mul_le_mul_right 200 hn; omega
  have l3 := encN_len 0
  refine ret_of_run Tryz.func62 rfl Tryz.ntmps62 rfl ?_
  refine run_seq ?_
  refine run_region rfl ?_
  refine runl_op (t_boxA rfl) ?_
  rintro _ w1 ⟨b1, rfl, hb1, e1, n1, l1⟩
  have z1 := e1.size
  replace e := e.trans e1
  have lb1 := lt_of_at hb1
  have y := ExtB.refl (fun _ => False) w1
  refine runl_ev (ev_assign rfl) ?_
  refine runl_ev (ev_assign rfl) ?_
  refine runl_nil ?_
  refine run_seq ?_
  refine run_seq ?_
  refine run_region rfl ?_
  refine runl_ev (ev_loadA agg_48 rfl rfl (eqw (cells_all hb1))) ?_
  refine runl_op (t_call call_123 rfl (qistgs_any nm ve ex x hnm hvv hxx hm hn a c _ (hl0.ext RTgt.stable e))) ?_
  rintro _ w8 ⟨rfl, e8⟩
  have z8 := e8.size
  replace e := e.trans e8
  replace hb1 := e8.at hb1
  replace y := y.trans e8
  refine runl_ev (ev_not rfl) ?_
  refine runl_nil ?_
  refine run_cond_false rfl (rfl) ?_
  refine run_skip ?_
  refine run_seq ?_
  refine run_draw mo (fun w' => w'.heap[b1]? = some (.cells ⟨[.string nm, .int .i64 ve, .int .i64 ex, .slice a x.length c, .slice none 0 0]⟩ 48 (0, 0))) [] [(true, 1), (true, 2), (false, 0), (false, 3), (false, 4), (true, 5)] (by kernel_rfl) ?_
  intro wr3 er3
  have zr3 := er3.size
  have hsr3 : (fun w' => w'.heap[b1]? = some (.cells ⟨[.string nm, .int .i64 ve, .int .i64 ex, .slice a x.length c, .slice none 0 0]⟩ 48 (0, 0))) wr3 := (er3.at hb1)
  have ep := e.trans er3
  have hb1p := er3.at hb1
  have yp := y.trans er3
  refine rund_ev hsr3 rfl (ev_fieldAddr fld_48_0 rfl) ?_
  refine rund_ev hsr3 rfl (ev_load1 cell_9 rfl (fun wz hz => (cells_all hz).pick 0 rfl rfl)) ?_
  refine rund_op rfl (t_call call_121 rfl (rnum1_any 4 _)) ?_
  rintro v10 w10 ow10
  have e10 := ow10.ext
  obtain ⟨xs10, g10, own10, hpp10, hxl10, -, hg10, hgl10⟩ := ow10.open
  have z10 := e10.size
  replace ep := ep.trans e10
  replace hb1p := e10.at hb1p
  replace yp := yp.trans e10
  have hs10 := hb1p
  refine ⟨hs10, ?_⟩
  have own10p := own10
  refine rund_op rfl (t_call call_120 rfl (qtext_any nm _ (by omega))) ?_
  rintro v13 w13 ow13
  have e13 := ow13.ext
  have og13 := ow13.g
  obtain ⟨a13, c13, rfl, hc13, -, -⟩ := og13.sl
  have z13 := e13.size
  replace ep := ep.trans e13
  replace hb1p := e13.at hb1p
  replace yp := yp.trans e13
  replace own10p := own10p.ext e13
  have hs13 := hb1p
  refine ⟨hs13, ?_⟩
  have og13p := og13
  refine rund_op rfl (t_appendL (l := encText nm) (R := RByte) ef_29 rfl rfl own10p og13p.slat rbyte_len (fun x cs h => rbyte_one x cs h) (by unfold maxLen; (try simp only [List.length_append]); omega) (by (try simp only [List.length_append]); omega)) ?_
  rintro v14 w14 ⟨n14, gg14, hnl14, hnp14, ap14⟩
  have og14 := OwnG.app flat_byte (w := w1) (by omega) (by omega : g10 = -1 ∨ (w1.heap.size : Int) ≤ g10) (by omega) (hpp10.mono fun _ _ _ hr => flat_byte _ _ _ _ hr) hxl10 hnp14 ap14 rfl rfl
  obtain ⟨xs14, g14, own14, hpp14, hxl14, hg14, hgl14⟩ := og14.open
  have z14 := ap14.ext.size
  replace ep := ep.newG ap14.ext (by omega)
  replace hb1p := ap14.ext.atG hb1p (by first | assumption | omega)
  replace yp := yp.newG ap14.ext (by omega)
  replace og13p := og13p.keep flat_byte ap14.ext (fun k hk => by first | exact .inl (by omega) | exact .inr (by omega))
  have hsp14_ext := hb1p
  refine ⟨hsp14_ext, ?_⟩
  have own14p := own14
  refine rund_ev hsp14_ext rfl (ev_assign rfl) ?_
  refine rund_nil ?_
  replace e := ep
  clear ep
  replace hb1 := hb1p
  clear hb1p
  replace y := yp
  clear yp
  replace own14 := own14p
  clear own14p
  refine run_seq ?_
  refine run_region rfl ?_
  refine runl_ev (ev_move rfl) ?_
  refine runl_ev (ev_fieldAddr fld_48_1 rfl) ?_
  refine runl_ev (ev_load1 cell_3 rfl (eqw ((cells_all hb1).pick 1 rfl rfl))) ?_
  refine runl_ev (ev_fieldAddr fld_48_2 rfl) ?_
  refine runl_ev (ev_load1 cell_3 rfl (eqw ((cells_all hb1).pick 2 rfl rfl))) ?_
  refine runl_ev (ev_fieldAddr fld_48_3 rfl) ?_
  refine runl_ev (ev_load1 cell_45 rfl (eqw ((cells_all hb1).pick 3 rfl rfl))) ?_
  refine runl_ev (ev_lenL sl_45 rfl) ?_
  refine runl_op (t_buildSlice (out := [.int .i64 ve, .int .i64 ex, .int .i64 (x.length : Int)]) Tryz.underlying248 sz_3 zero_3 rfl rfl (by decide) (by decide) rfl (rfl)) ?_
  rintro _ w23 ⟨b23, rfl, hb23, e23, n23, l23⟩
  have z23 := e23.size
  replace e := e.trans e23
  replace hb1 := e23.at hb1
  replace y := y.trans e23
  replace own14 := own14.ext e23
  refine runl_op (t_call call_116 rfl (rnums1_any [ve, ex, (x.length : Int)] _ _ _ _ (sl_lit (l := [ve, ex, (x.length : Int)]) (R := RInt) hb23 (pc rfl (pc rfl (pc rfl pn)))) (by simp))) ?_
  rintro v24 w24 ow24
  have e24 := ow24.ext
  have og24 := ow24.g
  obtain ⟨a24, c24, rfl, hc24, -, -⟩ := og24.sl
  have z24 := e24.size
  replace e := e.trans e24
  replace hb1 := e24.at hb1
  replace y := y.trans e24
  replace own14 := own14.ext e24
  replace hb23 := e24.at hb23
  refine runl_op (t_appendL (l := encNs [ve, ex, (x.length : Int)]) (R := RByte) ef_29 rfl rfl own14 og24.slat rbyte_len (fun x cs h => rbyte_one x cs h) (by unfold maxLen; (try simp only [List.length_append]); omega) (by (try simp only [List.length_append]); omega)) ?_
  rintro v25 w25 ⟨n25, gg25, hnl25, hnp25, ap25⟩
  have og25 := OwnG.app flat_byte (w := w1) (by omega) (by omega : g14 = -1 ∨ (w1.heap.size : Int) ≤ g14) (by omega) (hpp14.mono fun _ _ _ hr => flat_byte _ _ _ _ hr) hxl14 hnp25 ap25 rfl rfl
  obtain ⟨xs25, g25, own25, hpp25, hxl25, hg25, hgl25⟩ := og25.open
  have z25 := ap25.ext.size
  replace e := e.newG ap25.ext (by omega)
  replace hb1 := ap25.ext.atG hb1 (by first | assumption | omega)
  replace y := y.newG ap25.ext (by omega)
  replace og24 := og24.keep flat_byte ap25.ext (fun k hk => by first | exact .inl (by omega) | exact .inr (by omega))
  refine runl_ev (ev_assign rfl) ?_
  refine runl_nil ?_
  refine run_seq ?_
  refine run_seq ?_
  refine run_region rfl ?_
  refine runl_ev (ev_assign rfl) ?_
  refine runl_nil ?_
  refine run_block ?_
  refine run_loop (ι := Nat × Value) (fun y => [(1, .pointer (some ⟨b1, 0, none⟩)), (4, y.2), (5, .int .i64 (y.1 : Int))]) (fun y w' => y.1 ≤ x.length ∧ w'.heap[b1]? = some (.cells ⟨[.string nm, .int .i64 ve, .int .i64 ex, .slice a x.length c, .slice none 0 0]⟩ 48 (0, 0)) ∧ OwnB 5 w1 ((encN 4 ++ encText nm ++ encNs [ve, ex, (x.length : Int)]) ++ (x.take y.1).flatMap encTgt) y.2 w') (fun y => x.length - y.1) ((0, v25)) ⟨rfl, rfl, rfl, trivial⟩ (⟨Nat.zero_le _, hb1, by simpa using OwnG.l og25 y⟩) ?_
  clear e hb1 y
  intro ⟨k, v⟩ w2 ⟨hk, hb1, ow⟩ IH
  simp only at hk ow
  have y := ow.ext
  obtain ⟨xs, g, own, hpp, hxl, -, hg, hgl⟩ := ow.open
  have zy := y.size
  have htl0 := flat_take_le (f := encTgt) (l := x) k
  have hol : ((encN 4 ++ encText nm ++ encNs [ve, ex, (x.length : Int)]) ++ (x.take k).flatMap encTgt).length = ((encN 4 ++ encText nm ++ encNs [ve, ex, (x.length : Int)])).length + ((x.take k).flatMap encTgt).length := by rw [List.length_append]
  simp only [List.length_append] at hol
  refine run_seq ?_
  refine run_seq ?_
  refine run_region rfl ?_
  refine runl_ev (ev_move rfl) ?_
  refine runl_ev (ev_fieldAddr fld_48_3 rfl) ?_
  refine runl_ev (ev_load1 cell_45 rfl (eqw ((cells_all hb1).pick 3 rfl rfl))) ?_
  refine runl_ev (ev_lenL sl_45 rfl) ?_
  refine runl_ev (ev_lss rfl rfl) ?_
  refine runl_nil ?_
  refine run_dcond rfl (fun h1 => ?_) (fun h1 => ?_)
  · have hk1 : k < x.length := by omega
    obtain ⟨bA, oA, cA, rfl, ⟨hwA, rfl⟩, hcA⟩ := hat k hk1
    have htk := flat_take (f := encTgt) hk1
    have ht1 := (tgts_rise hm hk1).1
    have ht2 := tgt_len ht1 hwA
    refine run_skip ?_
    refine run_seq ?_
    refine run_block ?_
    refine run_region rfl ?_
    refine runl_ev (ev_move rfl) ?_
    refine runl_ev (ev_fieldAddr fld_48_3 rfl) ?_
    refine runl_ev (ev_load1 cell_45 rfl (eqw ((cells_all hb1).pick 3 rfl rfl))) ?_
    refine runl_ev (ev_move rfl) ?_
    refine runl_ev (ev_indexAddr (k := k) el_45 rfl rfl (by omega)) ?_
    refine runl_ev (ev_loadA agg_82 (Tgt.cells_length hwA) rfl (eqw (hcA.ext (e1.trans y)))) ?_
    refine runl_op (t_call call_124 rfl (qtarget_any x[k] hwA ht1 _)) ?_
    rintro v39 w39 ow39
    have e39 := ow39.ext
    have og39 := ow39.g
    obtain ⟨a39, c39, rfl, hc39, -, -⟩ := og39.sl
    have z39 := e39.size
    replace y := y.trans e39
    replace own := own.ext e39
    replace hb1 := e39.at hb1
    refine runl_op (t_appendL (l := encTgt x[k]) (R := RByte) ef_29 rfl rfl own og39.slat rbyte_len (fun x cs h => rbyte_one x cs h) (by unfold maxLen; (try simp only [List.length_append]); omega) (by (try simp only [List.length_append]); omega)) ?_
    rintro v40 w40 ⟨n40, gg40, hnl40, hnp40, ap40⟩
    have og40 := OwnG.app flat_byte (w := w1) (by omega) (by omega : g = -1 ∨ (w1.heap.size : Int) ≤ g) (by omega) (hpp.mono fun _ _ _ hr => flat_byte _ _ _ _ hr) hxl hnp40 ap40 rfl rfl
    obtain ⟨xs40, g40, own40, hpp40, hxl40, hg40, hgl40⟩ := og40.open
    have z40 := ap40.ext.size
    replace y := y.newG ap40.ext (by omega)
    replace hb1 := ap40.ext.atG hb1 (by first | assumption | omega)
    replace og39 := og39.keep flat_byte ap40.ext (fun k hk => by first | exact .inl (by omega) | exact .inr (by omega))
    refine runl_ev (ev_assign rfl) ?_
    refine runl_nil ?_
    refine run_inBlock ?_
    refine run_region rfl ?_
    refine runl_ev (ev_move rfl) ?_
    refine runl_ev (ev_add rfl rfl (by omega) (by omega)) ?_
    refine runl_ev (ev_assign rfl) ?_
    refine runl_nil ?_
    have ow40 := OwnG.l og40 y
    refine IH (k + 1, v40) _ _ (by simp only; omega) ⟨rfl, rfl, rfl, trivial⟩ ⟨hk1, hb1, ?_⟩
    simp only
    rw [htk]
    simpa only [List.append_assoc] using ow40
  · obtain rfl : k = x.length := by omega
    rw [List.take_length] at ow own hxl hpp
    refine run_exit rfl ?_
    refine run_seq ?_
    refine run_region rfl ?_
    refine runl_ev (ev_move rfl) ?_
    refine runl_ev (ev_fieldAddr fld_48_4 rfl) ?_
    refine runl_ev (ev_load1 cell_46 rfl (eqw ((cells_all hb1).pick 4 rfl rfl))) ?_
    refine runl_ev (ev_lenL sl_46 rfl) ?_
    refine runl_op (t_call call_121 rfl (rnum1_any 0 _)) ?_
    rintro v45 w45 ow45
    have e45 := ow45.ext
    have og45 := ow45.g
    obtain ⟨a45, c45, rfl, hc45, -, -⟩ := og45.sl
    have z45 := e45.size
    replace y := y.trans e45
    replace own := own.ext e45
    replace hb1 := e45.at hb1
    refine runl_op (t_appendL (l := encN 0) (R := RByte) ef_29 rfl rfl own og45.slat rbyte_len (fun x cs h => rbyte_one x cs h) (by unfold maxLen; (try simp only [List.length_append]); omega) (by (try simp only [List.length_append]); omega)) ?_
    rintro v46 w46 ⟨n46, gg46, hnl46, hnp46, ap46⟩
    have og46 := OwnG.app flat_byte (w := w1) (by omega) (by omega : g = -1 ∨ (w1.heap.size : Int) ≤ g) (by omega) (hpp.mono fun _ _ _ hr => flat_byte _ _ _ _ hr) hxl hnp46 ap46 rfl rfl
    obtain ⟨xs46, g46, own46, hpp46, hxl46, hg46, hgl46⟩ := og46.open
    have z46 := ap46.ext.size
    replace y := y.newG ap46.ext (by omega)
    replace hb1 := ap46.ext.atG hb1 (by first | assumption | omega)
    replace og45 := og45.keep flat_byte ap46.ext (fun k hk => by first | exact .inl (by omega) | exact .inr (by omega))
    refine runl_ev (ev_assign rfl) ?_
    refine runl_nil ?_
    refine run_seq ?_
    refine run_seq ?_
    refine run_region rfl ?_
    refine runl_ev (ev_assign rfl) ?_
    refine runl_nil ?_
    refine run_block ?_
    refine run_loop (ι := Unit) (fun _ => [(1, .pointer (some ⟨b1, 0, none⟩)), (4, v46), (6, .int .i64 0)]) (fun _ w' => w'.heap[b1]? = some (.cells ⟨[.string nm, .int .i64 ve, .int .i64 ex, .slice a x.length c, .slice none 0 0]⟩ 48 (0, 0)) ∧ OwnB 5 w1 ((encN 4 ++ encText nm ++ encNs [ve, ex, (x.length : Int)]) ++ x.flatMap encTgt ++ encN 0) v46 w') (fun _ => 0) (()) ⟨rfl, rfl, rfl, trivial⟩ (⟨hb1, OwnG.l og46 y⟩) ?_
    clear hb1
    intro _ w5 ⟨hb1, ow5⟩ IH2
    have y5 := ow5.ext
    refine run_seq ?_
    refine run_seq ?_
    refine run_region rfl ?_
    refine runl_ev (ev_move rfl) ?_
    refine runl_ev (ev_fieldAddr fld_48_4 rfl) ?_
    refine runl_ev (ev_load1 cell_46 rfl (eqw ((cells_all hb1).pick 4 rfl rfl))) ?_
    refine runl_ev (ev_lenL sl_46 rfl) ?_
    refine runl_ev (ev_lss rfl rfl) ?_
    refine runl_nil ?_
    refine run_cond_false rfl (by decide) ?_
    refine run_exit rfl ?_
    refine run_seq ?_
    refine run_region rfl ?_
    refine runl_ev (ev_move rfl) ?_
    refine runl_ev (ev_assign rfl) ?_
    refine runl_ev (ev_assign rfl) ?_
    refine runl_nil ?_
    refine run_ret_any Tryz.func62 (res2 Tryz.results62 rfl rfl) ?_
    refine ⟨_, rfl, ?_⟩
    rw [show encP 4 isTgsB (encTg nm ve ex) x = (encN 4 ++ encText nm ++ encNs [ve, ex, (x.length : Int)]) ++ x.flatMap encTgt ++ encN 0 by unfold encP encTg encNs; rw [if_pos hm]; simp]
    exact OwnL.from e1 ow5
end Go.Proofs.YtlgkdnmklgbhbaaGreatDoor
/- The walk of what decodes targets in the reference, on what was written. -/
namespace Go.Proofs.YtlgkdnmklgbhbaaGreatDoor
open Go Go.Fw
set_option maxRecDepth 100000
theorem take_add {α : Type} {x : List α} {k : Nat} (h : k < x.length) : x.take k ++ [x[k]] = x.take (k + 1) := by
  rw [List.take_add_one, List.getElem?_eq_getElem h]
  rfl

theorem fdectgs_any (nm : ByteArray) (ve ex : Int) (x : List Tgt) (hnm : nameB nm = true) (hvv : verB ve = true) (hxx : numB ex = true) (hm : isTgsB x = true) (hn : x.length ≤ 16) (hwf : ∀ t ∈ x, t.wf) (w : World) (a : Option Addr) (n c : Nat) (hl : SlAt 1 RByte w (.slice a n c) (encP 4 isTgsB (encTg nm ve ex) x)) (hc : (encP 4 isTgsB (encTg nm ve ex) x).length ≤ c) : Ret Tryz.prog 17 [.slice a n c] w fun r w' => ∃ v, r = .tuple #[.agg ⟨[.string nm, .int .i64 ve, .int .i64 ex, v, .slice none 0 0]⟩, .int .i64 0] ∧ OwnL 82 37 RTgt w x v w' := by
  have e := ExtB.refl (fun _ => False) w
  have hl0 := hl
  obtain ⟨rfl, -⟩ := hl.at
  have hn1 := name_len hnm
  have hve : 0 ≤ ve ∧ ve ≤ 1073741824 := by simp only [verB, Bool.and_eq_true, decide_eq_true_eq] at hvv; omega
  have hex : 0 ≤ ex ∧ ex ≤ 1073741824 := by simp only [numB, Bool.and_eq_true, decide_eq_true_eq] at hxx; omega
  have hle : (encP 4 isTgsB (encTg nm ve ex) x).length ≤ 20000 := by
    have := encP_len (k := 4) (may := isTgsB) (enc := encTg nm ve ex) (x := x) (n := 10000) fun h => encTg_len hnm h hwf hn
    omega
  have hlr : (encP 4 isTgsB (encTg nm ve ex) x) = encN 4 ++ (encText nm ++ (encN ve ++ (encN ex ++ (encN (x.length : Int) ++ (x.flatMap encTgt ++ encN 0))))) := by unfold encP encTg encNs; rw [if_pos hm]; simp
  obtain ⟨l, hll⟩ : ∃ l, l = (encP 4 isTgsB (encTg nm ve ex) x) := ⟨_, rfl⟩
  rw [← hll] at hl0 hc hle hlr ⊢
  refine ret_of_run Tryz.func17 rfl Tryz.ntmps17 rfl ?_
  refine run_seq ?_
  refine run_region rfl ?_
  refine runl_op (t_alloc zero_48 rfl) ?_
  rintro _ w2 ⟨b2, rfl, hb2, e2, n2, l2⟩
  have z2 := e2.size
  replace e := e.trans e2
  refine runl_ev (ev_assign rfl) ?_
  refine runl_nil ?_
  refine run_seq ?_
  refine run_region rfl ?_
  refine runl_ev (ev_move rfl) ?_
  refine runl_op (t_call call_53 rfl (freader_any 4 (by decide) (by decide) l _ hlr _ a _ c (hl0.ext RByte.stable e) hc (by omega))) ?_
  rintro _ w12 ⟨rb, v12, rfl, st⟩
  have e12 := st.ext
  have hrb := st.hrb
  have lrb := st.lt
  have z12 := e12.size
  replace e := e.trans e12
  replace hb2 := e12.at hb2
  refine runl_ev (ev_assign rfl) ?_
  refine runl_nil ?_
  refine run_seq ?_
  refine run_region rfl ?_
  refine runl_ev (ev_move rfl) ?_
  refine runl_op (t_call call_58 rfl (ftext_any st (by omega))) ?_
  rintro _ w14 ⟨rfl, rp14⟩
  obtain ⟨v14, st14⟩ := rp14.1
  have z14 := rp14.2.size
  replace e := e.new1 rp14.2 (by omega)
  replace hb2 := rp14.2.at1 hb2 (by first | assumption | omega)
  refine runl_ev (ev_build (out := [.string nm, .int .i64 0, .int .i64 0, .slice none 0 0, .slice none 0 0]) ps_48 zero_48 rfl rfl (rfl)) ?_
  refine runl_op (t_alloc zero_48 rfl) ?_
  rintro _ w5 ⟨b5, rfl, hb5, e5, n5, l5⟩
  have z5 := e5.size
  replace e := e.trans e5
  replace hb2 := e5.at hb2
  replace st14 := st14.up e5
  refine runl_do (t_storeW sz_48 rfl rfl rfl rfl hb5 ((by simp))) ?_
  rintro _ v2_4 ⟨hq2_4, e2_4, z2_4⟩
  replace e := e.new1 e2_4 (by omega)
  replace hb2 := e2_4.at1 hb2 (by first | assumption | omega)
  replace st14 := st14.own e2_4 (fun k hk h => by rcases hk with hk | hk <;> omega)
  replace hb5 := hq2_4
  clear hq2_4
  refine runl_nil ?_
  refine run_seq ?_
  refine run_region rfl ?_
  refine runl_ev (ev_move rfl) ?_
  refine runl_op (t_call call_54 rfl (fnum_any st14 (by omega) (by omega))) ?_
  rintro _ w17 ⟨rfl, rp17⟩
  obtain ⟨v17, st17⟩ := rp17.1
  have z17 := rp17.2.size
  replace e := e.new1 rp17.2 (by omega)
  replace hb2 := rp17.2.at1 hb2 (by first | assumption | omega)
  replace hb5 := rp17.2.at1 hb5 (by first | assumption | omega)
  refine runl_ev (ev_fieldAddr fld_48_1 rfl) ?_
  refine runl_do (t_store1 sz_3 rfl rfl rfl rfl hb5 (by simp)) ?_
  rintro _ v3_3 ⟨hq3_3, e3_3, z3_3⟩
  replace e := e.new1 e3_3 (by omega)
  replace hb2 := e3_3.at1 hb2 (by first | assumption | omega)
  replace st17 := st17.own e3_3 (fun k hk h => by rcases hk with hk | hk <;> omega)
  replace hb5 := hq3_3
  clear hq3_3
  refine runl_nil ?_
  refine run_seq ?_
  refine run_region rfl ?_
  refine runl_ev (ev_move rfl) ?_
  refine runl_op (t_call call_54 rfl (fnum_any st17 (by omega) (by omega))) ?_
  rintro _ w20 ⟨rfl, rp20⟩
  obtain ⟨v20, st20⟩ := rp20.1
  have z20 := rp20.2.size
  replace e := e.new1 rp20.2 (by omega)
  replace hb2 := rp20.2.at1 hb2 (by first | assumption | omega)
  replace hb5 := rp20.2.at1 hb5 (by first | assumption | omega)
  refine runl_ev (ev_fieldAddr fld_48_2 rfl) ?_
  refine runl_do (t_store1 sz_3 rfl rfl rfl rfl hb5 (by simp)) ?_
  rintro _ v4_3 ⟨hq4_3, e4_3, z4_3⟩
  replace e := e.new1 e4_3 (by omega)
  replace hb2 := e4_3.at1 hb2 (by first | assumption | omega)
  replace st20 := st20.own e4_3 (fun k hk h => by rcases hk with hk | hk <;> omega)
  replace hb5 := hq4_3
  clear hq4_3
  refine runl_nil ?_
  refine run_seq ?_
  refine run_region rfl ?_
  refine runl_ev (ev_move rfl) ?_
  refine runl_op (t_call call_54 rfl (fnum_any st20 (by omega) (by omega))) ?_
  rintro _ w23 ⟨rfl, rp23⟩
  obtain ⟨v23, st23⟩ := rp23.1
  have z23 := rp23.2.size
  replace e := e.new1 rp23.2 (by omega)
  replace hb2 := rp23.2.at1 hb2 (by first | assumption | omega)
  replace hb5 := rp23.2.at1 hb5 (by first | assumption | omega)
  refine runl_ev (ev_assign rfl) ?_
  refine runl_nil ?_
  refine run_seq ?_
  refine run_seq ?_
  refine run_region rfl ?_
  refine runl_ev (ev_assign rfl) ?_
  refine runl_nil ?_
  refine run_block ?_
  refine run_loop (ι := Nat × Value × Value) (fun y => [(0, .slice a l.length c), (2, .pointer (some ⟨b2, 0, none⟩)), (4, .pointer (some ⟨rb, 0, none⟩)), (5, .pointer (some ⟨b5, 0, none⟩)), (6, .int .i64 (x.length : Int)), (7, .int .i64 (y.1 : Int))]) (fun y w' => y.1 ≤ x.length ∧ OwnG 82 37 RTgt w5 (x.take y.1) y.2.1 w' ∧ RSt 129 w2 w' rb y.2.2 ⟨(x.drop y.1).flatMap encTgt ++ encN 0, false⟩ ∧ w'.heap[b5]? = some (.cells ⟨[.string nm, .int .i64 ve, .int .i64 ex, y.2.1, .slice none 0 0]⟩ 48 (0, 0)) ∧ w'.heap[b2]? = some (.cells ⟨[.string ⟨#[]⟩, .int .i64 0, .int .i64 0, .slice none 0 0, .slice none 0 0]⟩ 48 (0, 0)) ∧ Ext w w' ∧ w5.heap.size ≤ w'.heap.size) (fun y => x.length - y.1) ((0, .slice none 0 0, v23)) ⟨rfl, rfl, rfl, rfl, rfl, rfl, trivial⟩ (⟨Nat.zero_le _, OwnG.nil _ _, st23, hb5, hb2, e, by omega⟩) ?_
  clear hb2 hb5 st23 e
  intro ⟨k, vl, v1⟩ w1 ⟨hk, ow, st1, hb5, hb2, e, hz5⟩ IH
  simp only at hk ow st1 hb5
  have hr1 := st1.hr
  have lb5 := lt_of_at hb5
  have lb2 := lt_of_at hb2
  have ze := e.size
  obtain ⟨xs, g, own, hpp, hxl, hg, hgl⟩ := ow.open
  obtain ⟨al, cl, rfl⟩ := own.shape
  refine run_seq ?_
  refine run_seq ?_
  by_cases hkl : k < x.length
  · refine run_region rfl ?_
    refine runl_ev (ev_move rfl) ?_
    refine runl_ev (ev_move rfl) ?_
    refine runl_ev (ev_lss rfl rfl) ?_
    refine runl_ev (ev_move rfl) ?_
    refine runl_ev_g rfl rfl (decide_eq_true (by omega)) (ev_move rfl) ?_
    refine runl_ev_g rfl rfl (decide_eq_true (by omega)) (ev_nilCheck rfl) ?_
    refine runl_ev_g rfl rfl (decide_eq_true (by omega)) (ev_fieldAddr fld_129_1 rfl) ?_
    refine runl_ev_g rfl rfl (decide_eq_true (by omega)) (ev_load1 cell_4 rfl (eqw (cell_blk hr1 rfl))) ?_
    refine runl_ev_g rfl rfl (decide_eq_true (by omega)) (ev_not rfl) ?_
    refine runl_ev (ev_pick rfl rfl rfl (if_pos (decide_eq_true (by omega)))) ?_
    refine runl_ev (ev_move rfl) ?_
    refine runl_ev_g rfl rfl (rfl) (ev_move rfl) ?_
    refine runl_ev_g rfl rfl (rfl) (ev_leq rfl rfl) ?_
    refine runl_ev (ev_pick rfl rfl rfl (if_pos (rfl))) ?_
    refine runl_nil ?_
    refine run_cond_true rfl (decide_eq_true (by omega)) ?_
    have hk1 : k < x.length := hkl
    have hw1 := hwf _ (List.getElem_mem hk1)
    have ht1 := (tgts_rise hm hk1).1
    have hcl1 := Tgt.cells_length hw1
    rw [List.drop_eq_getElem_cons hk1, List.flatMap_cons, List.append_assoc] at st1
    refine run_skip ?_
    refine run_seq ?_
    refine run_block ?_
    refine run_draw mo (fun w' => ExtB (fun k => k = rb) w1 w') [5, 6, 7] [(true, 0), (true, 1), (true, 2), (false, 3), (false, 4), (false, 5), (false, 6), (false, 7)] (by kernel_rfl) ?_
    intro wr9 er9
    have zr9 := er9.size
    have hsr9 : (fun w' => ExtB (fun k => k = rb) w1 w') wr9 := er9.toB
    have hb2p := er9.at hb2
    have hb5p := er9.at hb5
    have ownp := own.ext er9
    have st1p := st1.up er9
    have ep := e.trans er9
    refine rund_ev hsr9 rfl (ev_fieldAddr fld_48_3 rfl) ?_
    refine rund_ev hsr9 rfl (ev_load1 cell_45 rfl (fun wz hz => (cells_all (hz.at1 hb5 (by omega))).pick 3 rfl rfl)) ?_
    refine rund_ev hsr9 rfl (ev_move rfl) ?_
    refine rund_op rfl (t_call call_60 rfl (frdtgt_any x[k] hw1 ht1 st1p)) ?_
    rintro _ w43 ⟨rfl, rp43⟩
    obtain ⟨v43, st43⟩ := rp43.1
    have z43 := rp43.2.size
    replace hb2p := rp43.2.at1 hb2p (by first | assumption | omega)
    replace hb5p := rp43.2.at1 hb5p (by first | assumption | omega)
    replace ownp := ownp.ext1 rp43.2 (by first | assumption | omega)
    replace ep := ep.new1 rp43.2 (by omega)
    have hsp43_2 := hsr9.newB1 rp43.2 (by first | exact .inl (by omega) | exact .inr rfl | (right; simp; done) | (right; simp; omega))
    refine ⟨hsp43_2, ?_⟩
    have st43p := st43
    refine rund_op rfl (t_buildSlice (out := x[k].cells) Tryz.underlying45 sz_82 zero_82 rfl rfl (by decide) (by decide) rfl (fill_one rfl hcl1 rfl)) ?_
    rintro _ w44 ⟨b44, rfl, hb44, e44, n44, l44⟩
    have z44 := e44.size
    replace hb2p := e44.at hb2p
    replace hb5p := e44.at hb5p
    replace ownp := ownp.ext e44
    replace ep := ep.trans e44
    replace st43p := st43p.up e44
    have hs44 := hsp43_2.trans e44.toB
    refine ⟨hs44, ?_⟩
    have hb44p := hb44
    refine rund_opT rfl rfl (t_append (news := x[k].cells) ef_45 rfl rfl ownp hcl1 (cells_all hb44p) (Tgt.one _) (by unfold maxLen; have := List.length_take_le k x; omega) (by have := List.length_take_le k x; omega)) ?_
    rintro v45 w45 ⟨g45, ap45⟩
    have ow45 := OwnG.app flat_tgt (l' := [x[k]]) (w := w5) (by omega) hg (by omega) (hpp.mono fun _ _ _ hr => flat_tgt _ _ _ _ hr) hxl (pc (w := w44) (x := x[k]) (r := []) (cs := x[k].cells) (by rw [List.take_of_length_le (Nat.le_of_eq hcl1)]; exact rtgt hw1) pn) ap45 rfl rfl
    obtain ⟨a45, c45, rfl, hc45, -, -⟩ := ow45.sl
    have z45 := ap45.ext.size
    replace hb2p := ap45.ext.atG hb2p (by first | assumption | omega)
    replace hb5p := ap45.ext.atG hb5p (by first | assumption | omega)
    replace ep := ep.newG ap45.ext (by omega)
    replace st43p := st43p.own ap45.ext (fun k hk h => by rcases hk with hk | hk <;> omega)
    refine rund_opT rfl rfl (opT_ev (ev_fieldAddr fld_48_3 rfl)) ?_
    rintro _ _ ⟨rfl, rfl⟩
    refine rund_doT rfl rfl (t_store1 sz_45 rfl rfl rfl rfl hb5p (by simp)) ?_
    rintro _ v9_7 ⟨hq9_7, e9_7, z9_7⟩
    replace hb2p := e9_7.at1 hb2p (by first | assumption | omega)
    replace ep := ep.new1 e9_7 (by omega)
    replace st43p := st43p.own e9_7 (fun k hk h => by rcases hk with hk | hk <;> omega)
    replace hb5p := hq9_7
    clear hq9_7
    refine rund_nil ?_
    replace hb2 := hb2p
    clear hb2p
    replace hb5 := hb5p
    clear hb5p
    replace e := ep
    clear ep
    replace st43 := st43p
    clear st43p
    refine run_inBlock ?_
    refine run_region rfl ?_
    refine runl_ev (ev_move rfl) ?_
    refine runl_ev (ev_add rfl rfl (by omega) (by omega)) ?_
    refine runl_ev (ev_assign rfl) ?_
    refine runl_nil ?_
    rw [take_add hk1] at ow45 hb5
    exact IH (k + 1, _, v43) _ _ (by simp only; omega) ⟨rfl, rfl, rfl, rfl, rfl, rfl, trivial⟩ ⟨hk1, ow45.keep flat_tgt e9_7 (fun k hk => .inl (by omega)), st43, hb5, hb2, e, by omega⟩
  · refine run_region rfl ?_
    refine runl_ev (ev_move rfl) ?_
    refine runl_ev (ev_move rfl) ?_
    refine runl_ev (ev_lss rfl rfl) ?_
    refine runl_ev (ev_move rfl) ?_
    refine runl_no_g rfl rfl (decide_eq_false (by omega)) ?_
    refine runl_no_g rfl rfl (decide_eq_false (by omega)) ?_
    refine runl_no_g rfl rfl (decide_eq_false (by omega)) ?_
    refine runl_no_g rfl rfl (decide_eq_false (by omega)) ?_
    refine runl_no_g rfl rfl (decide_eq_false (by omega)) ?_
    refine runl_ev (ev_pick rfl rfl rfl (if_neg (by simp; omega))) ?_
    refine runl_ev (ev_move rfl) ?_
    refine runl_no_g rfl rfl (rfl) ?_
    refine runl_no_g rfl rfl (rfl) ?_
    refine runl_ev (ev_pick rfl rfl rfl (if_neg (by simp))) ?_
    refine runl_nil ?_
    refine run_cond_false rfl (rfl) ?_
    refine run_exit rfl ?_
    refine run_seq ?_
    obtain rfl : k = x.length := by omega
    rw [List.drop_length, List.flatMap_nil, List.nil_append, ← List.append_nil (encN 0)] at st1
    rw [List.take_length] at ow own hb5 hpp hxl
    refine run_region rfl ?_
    refine runl_ev (ev_move rfl) ?_
    refine runl_op (t_call call_54 rfl (fnum_any st1 (by decide) (by decide))) ?_
    rintro _ w48 ⟨rfl, rp48⟩
    obtain ⟨v48, st48⟩ := rp48.1
    have z48 := rp48.2.size
    replace hb2 := rp48.2.at1 hb2 (by first | assumption | omega)
    replace hb5 := rp48.2.at1 hb5 (by first | assumption | omega)
    replace own := own.ext1 rp48.2 (by first | assumption | omega)
    replace e := e.new1 rp48.2 (by omega)
    refine runl_ev (ev_assign rfl) ?_
    refine runl_nil ?_
    refine run_seq ?_
    refine run_seq ?_
    refine run_region rfl ?_
    refine runl_ev (ev_assign rfl) ?_
    refine runl_nil ?_
    refine run_block ?_
    refine run_loop (ι := Unit) (fun _ => [(0, .slice a l.length c), (2, .pointer (some ⟨b2, 0, none⟩)), (4, .pointer (some ⟨rb, 0, none⟩)), (5, .pointer (some ⟨b5, 0, none⟩)), (6, .int .i64 0), (8, .int .i64 0)]) (fun _ w' => OwnG 82 37 RTgt w5 x (.slice al x.length cl) w' ∧ RSt 129 w2 w' rb v48 ⟨[], false⟩ ∧ w'.heap[b5]? = some (.cells ⟨[.string nm, .int .i64 ve, .int .i64 ex, .slice al x.length cl, .slice none 0 0]⟩ 48 (0, 0)) ∧ w'.heap[b2]? = some (.cells ⟨[.string ⟨#[]⟩, .int .i64 0, .int .i64 0, .slice none 0 0, .slice none 0 0]⟩ 48 (0, 0)) ∧ Ext w w' ∧ w5.heap.size ≤ w'.heap.size) (fun _ => 0) (()) ⟨rfl, rfl, rfl, rfl, rfl, rfl, trivial⟩ (⟨⟨xs, g, own, hpp.mono (fun _ _ _ h => flat_tgt _ _ _ _ h), hg, by omega⟩, st48, hb5, hb2, e, by omega⟩) ?_
    clear hb2 hb5 st48 e own hpp hxl hg hgl ow
    intro _ w6 ⟨ow, st48, hb5, hb2, e, hz5⟩ IH2
    have lb5 := lt_of_at hb5
    have lb2 := lt_of_at hb2
    have ze := e.size
    obtain ⟨xs, g, own, hpp, hxl, hg, hgl⟩ := ow.open
    refine run_seq ?_
    refine run_seq ?_
    refine run_region rfl ?_
    refine runl_ev (ev_move rfl) ?_
    refine runl_ev (ev_move rfl) ?_
    refine runl_ev (ev_lss rfl rfl) ?_
    refine runl_ev (ev_move rfl) ?_
    refine runl_no_g rfl rfl (by decide) ?_
    refine runl_no_g rfl rfl (by decide) ?_
    refine runl_no_g rfl rfl (by decide) ?_
    refine runl_no_g rfl rfl (by decide) ?_
    refine runl_no_g rfl rfl (by decide) ?_
    refine runl_ev (ev_pick rfl rfl rfl (if_neg (by decide))) ?_
    refine runl_ev (ev_move rfl) ?_
    refine runl_no_g rfl rfl (rfl) ?_
    refine runl_no_g rfl rfl (rfl) ?_
    refine runl_ev (ev_pick rfl rfl rfl (if_neg (by simp))) ?_
    refine runl_nil ?_
    refine run_cond_false rfl (rfl) ?_
    refine run_exit rfl ?_
    refine run_seq ?_
    refine run_region rfl ?_
    refine runl_ev (ev_loadA agg_48 rfl rfl (eqw (cells_all hb5))) ?_
    refine runl_op (t_call call_62 rfl (qenctgs_any nm ve ex x hnm hvv hxx hm hn al cl _ (own_slat own hpp rfl))) ?_
    rintro _ w74 ⟨p74, rfl, o74⟩
    have e74 := o74.ext
    obtain ⟨a74, c74, rfl, hc74, sl74⟩ := o74.sl
    rw [← hll] at sl74
    have z74 := e74.size
    replace hb2 := e74.at hb2
    replace hb5 := e74.at hb5
    replace own := own.ext e74
    replace st48 := st48.up e74
    replace e := e.trans e74
    refine runl_ev (ev_move rfl) ?_
    refine runl_ev (ev_extract rfl rfl) ?_
    refine runl_ev (ev_extract rfl rfl) ?_
    refine runl_ev (ev_assign rfl) ?_
    refine runl_ev (ev_assign rfl) ?_
    refine runl_nil ?_
    refine run_seq ?_
    refine run_seq ?_
    refine run_region rfl ?_
    refine runl_ev (ev_move rfl) ?_
    refine runl_ev (ev_move rfl) ?_
    refine runl_ev (ev_move rfl) ?_
    refine runl_ev (ev_move rfl) ?_
    refine runl_op (t_call call_57 rfl (fjust_any st48 l a a74 _ c _ c74 (hl0.ext RByte.stable e) (by rw [hll]; rw [hll] at sl74; exact sl74))) ?_
    rintro _ w81 ⟨rfl, e81⟩
    have z81 := e81.size
    replace hb2 := e81.at hb2
    replace hb5 := e81.at hb5
    replace own := own.ext e81
    replace st48 := st48.up e81
    replace e := e.trans e81
    refine runl_ev (ev_not rfl) ?_
    refine runl_nil ?_
    refine run_cond_false rfl (rfl) ?_
    refine run_skip ?_
    refine run_seq ?_
    refine run_region rfl ?_
    refine runl_ev (ev_loadA agg_48 rfl rfl (eqw (cells_all hb5))) ?_
    refine runl_do (t_storeW sz_48 rfl rfl rfl rfl hb2 ((by simp))) ?_
    rintro _ v18_1 ⟨hq18_1, e18_1, z18_1⟩
    replace hb5 := e18_1.at1 hb5 (by first | assumption | omega)
    replace own := own.ext1 e18_1 (by first | assumption | omega)
    replace e := e.new1 e18_1 (by omega)
    replace hb2 := hq18_1
    clear hq18_1
    refine runl_ev (ev_assign rfl) ?_
    refine runl_nil ?_
    refine run_ret_any Tryz.func17 (resCT Tryz.results17 rfl (loadVar_agg agg_48 rfl (cells_all hb2)) rfl) ?_
    exact ⟨_, rfl, xs, g, own, hpp.mono (fun _ _ _ h => flat_tgt _ _ _ _ h), e, by omega, by omega⟩
end Go.Proofs.YtlgkdnmklgbhbaaGreatDoor
/- What is handed out, once more: with the room of its rows. -/
namespace Go.Proofs.YtlgkdnmklgbhbaaGreatDoor
open Go Go.Fw
set_option maxRecDepth 100000
/-- An envelope in memory whose body's row has room for it. -/
def REnvC (w : World) (E : EnvP) (cs : List Value) : Prop := REnv w E cs ∧ ∃ a c r, cs = [.slice a E.body.length c, r] ∧ E.body.length ≤ c
theorem REnvC.stable : Stable REnvC := fun _ _ _ _ he h => ⟨REnv.stable _ _ _ _ he h.1, h.2⟩
theorem REnvG.c {lo : Nat} {g : Int} {w : World} {x : EnvP} {cs : List Value} (h : REnvG lo g w x cs) : REnvC w x cs := by
  have hr := h.r
  obtain ⟨v, a', c', h1, h2, h3, h4⟩ := h
  obtain ⟨a, c, hv, h5, h6, _⟩ := h2
  exact ⟨hr, a, c, _, by rw [h1, hv], h6⟩
theorem REnvF.c {lo : Nat} {w : World} {x : EnvP} {cs : List Value} (h : REnvF lo w x cs) : REnvC w x cs := by
  have hr := h.r
  obtain ⟨v, a', c', h1, h2, h3, h4⟩ := h
  obtain ⟨a, c, hv, h5, h6, _⟩ := h2
  exact ⟨hr, a, c, _, by rw [h1, hv], h6⟩
theorem fz_envC {lo : Nat} {w : World} {E : EnvP} {cs : List Value} (h : REnvF lo w E cs) : Fz (fun k => k < lo ∨ w.heap.size ≤ k) (fun w => REnvC w E cs) w := fun _ e' => REnvF.c (h.keep e' (fun _ h => h))
theorem fz_rowsC {T : TypeId} {lo : Nat} {w0 w : World} {l : List EnvP} {v : Value} (h : OwnN T 2 (REnvG lo) w0 l v w) (hl : lo ≤ w0.heap.size) : Fz (fun k => k < lo ∨ w.heap.size ≤ k) (fun w => SlAt 2 REnvC w v l) w := fun w' e' => by
  obtain ⟨xs, g, h1, h2, _⟩ := h.keep (REnvG.nest lo) e' (fun k hk => hk) hl
  exact own_slat h1 (h2.mono fun _ _ _ h => h.c) rfl
def BundleD (S : RepoS) (cs : List Value) (w : World) : Prop := ∃ ra rc t0 t1 s0 s1 ta tc, cs = [.slice ra S.roots.length rc, t0, t1, s0, s1, .slice ta S.tgts.length tc] ∧ SlAt 2 REnvC w (.slice ra S.roots.length rc) S.roots ∧ REnvC w S.time [t0, t1] ∧ REnvC w S.snap [s0, s1] ∧ SlAt 2 REnvC w (.slice ta S.tgts.length tc) S.tgts

theorem bundleD_repo {F : Nat → Prop} {rb : Nat} {S : RepoS} {w : World} (h : RepoAt F rb S w) (hB : S.Bnd) : Ret Tryz.prog 14 [.pointer (some ⟨rb, 0, none⟩)] w fun v w' => ∃ cs, v = .agg ⟨cs⟩ ∧ Fz (fun k => k < w.heap.size ∨ w'.heap.size ≤ k) (BundleD S cs) w' ∧ Ext w w' := by
  have e := ExtB.refl (fun _ => False) w
  obtain ⟨k0, k1, lg, rg, gg, fc, lc, lv, rv, t0, t1, s0, s1, tv, gv, lx, rx, gx, r⟩ := h
  have hA : (hcells S.seed).length = 32 := by rw [hcells_length]; exact r.sd
  have hb := r.hb
  have lrb := r.sep.rb_lt
  obtain ⟨-, -, hT, hS, hG⟩ := r.hz.here
  have hR := own_slat r.orr r.pr.here rfl
  obtain ⟨ra, rc, rfl⟩ := r.orr.shape
  obtain ⟨ta, tc, rfl⟩ : ∃ a c, tv = .slice a S.tgts.length c := by obtain ⟨a, c, h, _⟩ := hG; exact ⟨a, c, h⟩
  refine ret_of_run Tryz.func14 rfl Tryz.ntmps14 rfl ?_
  refine run_seq ?_
  refine run_region rfl ?_
  refine runl_op (t_alloc zero_34 rfl) ?_
  rintro _ w2 ⟨b2, rfl, hb2, e2, n2, l2⟩
  have z2 := e2.size
  replace e := e.trans e2
  replace hb := e2.at hb
  refine runl_nil ?_
  refine run_seq ?_
  refine run_seq ?_
  refine run_region rfl ?_
  refine runl_ev (ev_move rfl) ?_
  refine runl_ev (ev_eqlPn Tryz.underlying22 rfl rfl) ?_
  refine runl_nil ?_
  refine run_cond_false rfl (rfl) ?_
  refine run_skip ?_
  refine run_seq ?_
  refine run_draw mo (fun w' => Ext w2 w') [25] [(true, 0), (true, 1), (true, 2), (true, 3), (true, 4), (true, 6), (true, 7), (true, 8), (true, 9), (true, 10), (true, 12), (true, 13), (true, 14), (true, 15), (true, 16), (true, 18), (true, 19), (true, 20), (true, 21), (true, 22), (false, 5), (false, 11), (false, 17), (false, 23), (true, 24), (false, 25)] (by kernel_rfl) ?_
  intro wr3 er3
  have zr3 := er3.size
  have hsr3 := er3
  have ep := e.trans er3
  have hbp := er3.at hb
  have hb2p := er3.at hb2
  refine rund_ev hsr3 rfl (ev_move rfl) ?_
  refine rund_ev hsr3 rfl (ev_nilCheck rfl) ?_
  refine rund_ev hsr3 rfl (ev_fieldAddr fld_108_7 rfl) ?_
  refine rund_ev hsr3 rfl (ev_fieldAddr fld_34_0 rfl) ?_
  refine rund_ev hsr3 rfl (ev_load1 cell_28 rfl (fun wz hz => (cells_all (hz.at hb)).pick 57 (by omega) (rc_57 hA r.fl r.ll))) ?_
  refine rund_ev hsr3 rfl (ev_move rfl) ?_
  refine rund_ev hsr3 rfl (ev_nilCheck rfl) ?_
  refine rund_ev hsr3 rfl (ev_fieldAddr fld_108_7 rfl) ?_
  refine rund_ev hsr3 rfl (ev_fieldAddr fld_34_1 rfl) ?_
  refine rund_ev hsr3 rfl (ev_loadA agg_32 rfl rfl (fun wz hz => (cells_all (hz.at hb)).seg [t0, t1] 58 (by omega) (rc_time hA r.fl r.ll))) ?_
  refine rund_ev hsr3 rfl (ev_move rfl) ?_
  refine rund_ev hsr3 rfl (ev_nilCheck rfl) ?_
  refine rund_ev hsr3 rfl (ev_fieldAddr fld_108_7 rfl) ?_
  refine rund_ev hsr3 rfl (ev_fieldAddr fld_34_2 rfl) ?_
  refine rund_ev hsr3 rfl (ev_loadA agg_32 rfl rfl (fun wz hz => (cells_all (hz.at hb)).seg [s0, s1] 60 (by omega) (rc_snap hA r.fl r.ll))) ?_
  refine rund_ev hsr3 rfl (ev_move rfl) ?_
  refine rund_ev hsr3 rfl (ev_nilCheck rfl) ?_
  refine rund_ev hsr3 rfl (ev_fieldAddr fld_108_7 rfl) ?_
  refine rund_ev hsr3 rfl (ev_fieldAddr fld_34_3 rfl) ?_
  refine rund_ev hsr3 rfl (ev_load1 cell_28 rfl (fun wz hz => (cells_all (hz.at hb)).pick 62 (by omega) (rc_62 hA r.fl r.ll))) ?_
  refine rund_op rfl (t_call call_51 rfl (envelopes_any S.roots hB.roots (Nat.le_trans hB.nr (by decide)) ra _ rc _ (hR.ext REnv.stable ep))) ?_
  rintro v11 w11 ⟨ow11, e11⟩
  obtain ⟨a11, c11, rfl⟩ := ow11.shape
  have f11 := fz_rowsC ow11 (Nat.le_refl _)
  have z11 := e11.size
  replace ep := ep.trans e11
  replace hbp := e11.at hbp
  replace hb2p := e11.at hb2p
  have hs11 := hsr3.trans e11
  refine ⟨hs11, ?_⟩
  have f11p := f11
  refine rund_op rfl (t_call call_52 rfl (envelope_any S.time hB.time _ _ (REnv.stable _ _ _ _ ep hT))) ?_
  rintro _ w17 ⟨c17, rfl, re17, e17⟩
  obtain ⟨x17, y17, rfl⟩ := renv_two re17.r
  have f17 := fz_envC re17
  have o17 := renv_one re17.r
  have z17 := e17.size
  replace ep := ep.trans e17
  replace hbp := e17.at hbp
  replace hb2p := e17.at hb2p
  replace f11p := f11p.step e17 (fun _ _ h => h.elim)
  have hs17 := hs11.trans e17
  refine ⟨hs17, ?_⟩
  have f17p := f17
  refine rund_op rfl (t_call call_52 rfl (envelope_any S.snap hB.snap _ _ (REnv.stable _ _ _ _ ep hS))) ?_
  rintro _ w23 ⟨c23, rfl, re23, e23⟩
  obtain ⟨x23, y23, rfl⟩ := renv_two re23.r
  have f23 := fz_envC re23
  have o23 := renv_one re23.r
  have z23 := e23.size
  replace ep := ep.trans e23
  replace hbp := e23.at hbp
  replace hb2p := e23.at hb2p
  replace f11p := f11p.step e23 (fun _ _ h => h.elim)
  replace f17p := f17p.step e23 (fun _ _ h => h.elim)
  have hs23 := hs17.trans e23
  refine ⟨hs23, ?_⟩
  have f23p := f23
  refine rund_op rfl (t_call call_51 rfl (envelopes_any S.tgts hB.tgts (Nat.le_trans hB.nt (by decide)) ta _ tc _ (hG.ext REnv.stable ep))) ?_
  rintro v29 w29 ⟨ow29, e29⟩
  obtain ⟨a29, c29, rfl⟩ := ow29.shape
  have f29 := fz_rowsC ow29 (Nat.le_refl _)
  have z29 := e29.size
  replace ep := ep.trans e29
  replace hbp := e29.at hbp
  replace hb2p := e29.at hb2p
  replace f11p := f11p.step e29 (fun _ _ h => h.elim)
  replace f17p := f17p.step e29 (fun _ _ h => h.elim)
  replace f23p := f23p.step e29 (fun _ _ h => h.elim)
  have hs29 := hs23.trans e29
  refine ⟨hs29, ?_⟩
  have f29p := f29
  refine rund_ev hs29 rfl (ev_build (out := [.slice a11 S.roots.length c11, x17, y17, x23, y23, .slice a29 S.tgts.length c29]) ps_34 zero_34 rfl rfl (fill_bundle rfl rfl rfl rfl rfl rfl rfl)) ?_
  refine rund_doT rfl rfl (t_storeW sz_34 rfl rfl rfl rfl hb2p ((fun v hv => by simp only [List.mem_cons, List.not_mem_nil, or_false] at hv o17 o23; rcases hv with rfl | rfl | rfl | rfl | rfl | rfl; rfl; exact o17 _ (.inl rfl); exact o17 _ (.inr rfl); exact o23 _ (.inl rfl); exact o23 _ (.inr rfl); rfl))) ?_
  rintro _ v3_25 ⟨hq3_25, e3_25, z3_25⟩
  replace ep := ep.new1 e3_25 (by omega)
  replace hbp := e3_25.at1 hbp (by first | assumption | omega)
  replace f11p := f11p.step e3_25 (fun k hk0 hk => by exact .inl (by omega))
  replace f17p := f17p.step e3_25 (fun k hk0 hk => by exact .inl (by omega))
  replace f23p := f23p.step e3_25 (fun k hk0 hk => by exact .inl (by omega))
  replace f29p := f29p.step e3_25 (fun k hk0 hk => by exact .inl (by omega))
  replace hb2p := hq3_25
  clear hq3_25
  refine rund_nil ?_
  replace e := ep
  clear ep
  replace hb := hbp
  clear hbp
  replace hb2 := hb2p
  clear hb2p
  replace f11 := f11p
  clear f11p
  replace f17 := f17p
  clear f17p
  replace f23 := f23p
  clear f23p
  replace f29 := f29p
  clear f29p
  refine run_ret_any Tryz.func14 (resC Tryz.results14 rfl (loadVar_agg agg_34 rfl (cells_all hb2))) ?_
  refine ⟨_, rfl, ?_, e⟩
  have g11 := f11.turn (M' := fun k => k < w.heap.size ∨ v3_25.heap.size ≤ k) (ExtB.refl _ _) (fun k hk => by omega)
  have g17 := f17.turn (M' := fun k => k < w.heap.size ∨ v3_25.heap.size ≤ k) (ExtB.refl _ _) (fun k hk => by omega)
  have g23 := f23.turn (M' := fun k => k < w.heap.size ∨ v3_25.heap.size ≤ k) (ExtB.refl _ _) (fun k hk => by omega)
  have g29 := f29.turn (M' := fun k => k < w.heap.size ∨ v3_25.heap.size ≤ k) (ExtB.refl _ _) (fun k hk => by omega)
  exact fun w' e' => ⟨_, _, _, _, _, _, _, _, rfl, g11 w' e', g17 w' e', g23 w' e', g29 w' e'⟩
end Go.Proofs.YtlgkdnmklgbhbaaGreatDoor
/- The walk of the law on what each signing's versions are. -/
namespace Go.Proofs.YtlgkdnmklgbhbaaGreatDoor
open Go Go.Fw
set_option maxRecDepth 100000
structure VInv (k : Nat) (S : RepoS) : Prop where
  u1 : S.used1 = 3 * k
  l0 : S.l = []
  sg : S.signed = k
  bk : S.book = []
  bd : S.Bnd
theorem VInv.new (s : List UInt8) : VInv 0 (RepoS.new s) := ⟨rfl, rfl, rfl, rfl, bnd_new s⟩
theorem VInv.sign {k : Nat} {S : RepoS} (h : VInv k S) (ends : Int) : VInv (k + 1) (S.sign ends) := ⟨by have := h.u1; show S.used1 + 3 = _; omega, h.l0, by have := h.sg; show S.signed + 1 = _; omega, by show S.book ++ S.l = []; rw [h.bk, h.l0]; rfl, bnd_sign h.bd (fun t ht => by rw [h.l0] at ht; cases ht) (by rw [h.l0]; decide) _⟩
theorem env_body {w : World} {E : EnvP} {x y : Value} {l : List UInt8} (h : REnvC w E [x, y]) (hl : E.body = l) : ∃ a c, x = .slice a l.length c ∧ SlAt 1 RByte w (.slice a l.length c) l ∧ l.length ≤ c ∧ y.oneCell' = true := by
  subst hl
  obtain ⟨⟨a, c, a', c', h1, h2, h3⟩, a2, c2, r2, h4, h5⟩ := h
  simp only [List.cons.injEq, and_true] at h1 h4
  obtain ⟨rfl, rfl⟩ := h1
  obtain ⟨h6, _⟩ := h4
  injection h6 with h7 h8 h9
  exact ⟨a, c, rfl, h2, by rw [h9]; exact h5, rfl⟩
theorem snap_one {v e : Int} (hv : verB v = true) (he : numB e = true) : isSnapP ⟨v, e, [⟨topB, v⟩]⟩ = true := by
  have h0 : pinAt [⟨topB, v⟩] 0 = true := by rw [pinAt_eq (by simp)]; simp [top_name, hv]
  unfold isSnapP
  simp [List.range_succ, h0, hv, he]
theorem sb_eq2 (S : RepoS) (ends : Int) : S.sb ends = encP 3 isSnapP encSnap ⟨((S.signed + 1 : Nat) : Int), ends, [⟨topB, ((S.signed + 1 : Nat) : Int)⟩]⟩ := by unfold RepoS.sb; rfl
theorem tb_eq2 (S : RepoS) (ends : Int) : S.tb ends = encP 4 isTgsB (encTg topB ((S.signed + 1 : Nat) : Int) ends) S.l := by unfold RepoS.tb; rfl
theorem tm_may {S : RepoS} {ends : Int} (hv : verB ((S.signed + 1 : Nat) : Int) = true) (he : numB ends = true) : isTimeP (S.tm ends) = true := by
  unfold RepoS.tm isTimeP
  simp only [hv, he, Bool.and_self]

theorem lawVersions_any (n life : Int) (w : World) : Ret Tryz.prog 3 [.int .i64 n, .int .i64 life] w fun r w' => r = .bool true ∧ Ext w w' := by
  have e := ExtB.refl (fun _ => False) w
  refine ret_of_run Tryz.func3 rfl Tryz.ntmps3 rfl ?_
  refine run_seq ?_
  refine run_region rfl ?_
  refine runl_ev (ev_assign rfl) ?_
  refine runl_nil ?_
  refine run_seq ?_
  refine run_seq ?_
  rcases (show n < 1 ∨ (¬ n < 1 ∧ n > 5) ∨ (¬ n < 1 ∧ ¬ n > 5 ∧ life < 0) ∨ (¬ n < 1 ∧ ¬ n > 5 ∧ ¬ life < 0 ∧ life > 1000) ∨ (¬ n < 1 ∧ ¬ n > 5 ∧ ¬ life < 0 ∧ ¬ life > 1000) by omega) with h1 | ⟨h1, h2⟩ | ⟨h1, h2, h3⟩ | ⟨h1, h2, h3, h4⟩ | ⟨h1, h2, h3, h4⟩
  · refine run_region rfl ?_
    refine runl_ev (ev_move rfl) ?_
    refine runl_ev (ev_lss rfl rfl) ?_
    refine runl_ev (ev_move rfl) ?_
    refine runl_no_g rfl rfl (decide_eq_true h1) ?_
    refine runl_no_g rfl rfl (decide_eq_true h1) ?_
    refine runl_ev (ev_pick rfl rfl rfl (if_pos (decide_eq_true h1))) ?_
    refine runl_ev (ev_move rfl) ?_
    refine runl_no_g rfl rfl (rfl) ?_
    refine runl_no_g rfl rfl (rfl) ?_
    refine runl_ev (ev_pick rfl rfl rfl (if_pos (rfl))) ?_
    refine runl_ev (ev_move rfl) ?_
    refine runl_no_g rfl rfl (rfl) ?_
    refine runl_no_g rfl rfl (rfl) ?_
    refine runl_ev (ev_pick rfl rfl rfl (if_pos (rfl))) ?_
    refine runl_nil ?_
    refine run_cond_true rfl (rfl) ?_
    refine run_seq ?_
    refine run_region rfl ?_
    refine runl_ev (ev_assign rfl) ?_
    refine runl_nil ?_
    refine run_ret_any Tryz.func3 (res1 Tryz.results3 rfl) ?_
    exact ⟨rfl, e⟩
  · refine run_region rfl ?_
    refine runl_ev (ev_move rfl) ?_
    refine runl_ev (ev_lss rfl rfl) ?_
    refine runl_ev (ev_move rfl) ?_
    refine runl_ev_g rfl rfl (decide_eq_false h1) (ev_move rfl) ?_
    refine runl_ev_g rfl rfl (decide_eq_false h1) (ev_gtr rfl rfl) ?_
    refine runl_ev (ev_pick rfl rfl rfl (if_neg (by simp [h1]))) ?_
    refine runl_ev (ev_move rfl) ?_
    refine runl_no_g rfl rfl (decide_eq_true h2) ?_
    refine runl_no_g rfl rfl (decide_eq_true h2) ?_
    refine runl_ev (ev_pick rfl rfl rfl (if_pos (decide_eq_true h2))) ?_
    refine runl_ev (ev_move rfl) ?_
    refine runl_no_g rfl rfl (rfl) ?_
    refine runl_no_g rfl rfl (rfl) ?_
    refine runl_ev (ev_pick rfl rfl rfl (if_pos (rfl))) ?_
    refine runl_nil ?_
    refine run_cond_true rfl (rfl) ?_
    refine run_seq ?_
    refine run_region rfl ?_
    refine runl_ev (ev_assign rfl) ?_
    refine runl_nil ?_
    refine run_ret_any Tryz.func3 (res1 Tryz.results3 rfl) ?_
    exact ⟨rfl, e⟩
  · refine run_region rfl ?_
    refine runl_ev (ev_move rfl) ?_
    refine runl_ev (ev_lss rfl rfl) ?_
    refine runl_ev (ev_move rfl) ?_
    refine runl_ev_g rfl rfl (decide_eq_false h1) (ev_move rfl) ?_
    refine runl_ev_g rfl rfl (decide_eq_false h1) (ev_gtr rfl rfl) ?_
    refine runl_ev (ev_pick rfl rfl rfl (if_neg (by simp [h1]))) ?_
    refine runl_ev (ev_move rfl) ?_
    refine runl_ev_g rfl rfl (decide_eq_false h2) (ev_move rfl) ?_
    refine runl_ev_g rfl rfl (decide_eq_false h2) (ev_lss rfl rfl) ?_
    refine runl_ev (ev_pick rfl rfl rfl (if_neg (by simp; omega))) ?_
    refine runl_ev (ev_move rfl) ?_
    refine runl_no_g rfl rfl (decide_eq_true h3) ?_
    refine runl_no_g rfl rfl (decide_eq_true h3) ?_
    refine runl_ev (ev_pick rfl rfl rfl (if_pos (decide_eq_true h3))) ?_
    refine runl_nil ?_
    refine run_cond_true rfl (rfl) ?_
    refine run_seq ?_
    refine run_region rfl ?_
    refine runl_ev (ev_assign rfl) ?_
    refine runl_nil ?_
    refine run_ret_any Tryz.func3 (res1 Tryz.results3 rfl) ?_
    exact ⟨rfl, e⟩
  · refine run_region rfl ?_
    refine runl_ev (ev_move rfl) ?_
    refine runl_ev (ev_lss rfl rfl) ?_
    refine runl_ev (ev_move rfl) ?_
    refine runl_ev_g rfl rfl (decide_eq_false h1) (ev_move rfl) ?_
    refine runl_ev_g rfl rfl (decide_eq_false h1) (ev_gtr rfl rfl) ?_
    refine runl_ev (ev_pick rfl rfl rfl (if_neg (by simp [h1]))) ?_
    refine runl_ev (ev_move rfl) ?_
    refine runl_ev_g rfl rfl (decide_eq_false h2) (ev_move rfl) ?_
    refine runl_ev_g rfl rfl (decide_eq_false h2) (ev_lss rfl rfl) ?_
    refine runl_ev (ev_pick rfl rfl rfl (if_neg (by simp; omega))) ?_
    refine runl_ev (ev_move rfl) ?_
    refine runl_ev_g rfl rfl (decide_eq_false h3) (ev_move rfl) ?_
    refine runl_ev_g rfl rfl (decide_eq_false h3) (ev_gtr rfl rfl) ?_
    refine runl_ev (ev_pick rfl rfl rfl (if_neg (by simp; omega))) ?_
    refine runl_nil ?_
    refine run_cond_true rfl (decide_eq_true h4) ?_
    refine run_seq ?_
    refine run_region rfl ?_
    refine runl_ev (ev_assign rfl) ?_
    refine runl_nil ?_
    refine run_ret_any Tryz.func3 (res1 Tryz.results3 rfl) ?_
    exact ⟨rfl, e⟩
  · refine run_region rfl ?_
    refine runl_ev (ev_move rfl) ?_
    refine runl_ev (ev_lss rfl rfl) ?_
    refine runl_ev (ev_move rfl) ?_
    refine runl_ev_g rfl rfl (decide_eq_false h1) (ev_move rfl) ?_
    refine runl_ev_g rfl rfl (decide_eq_false h1) (ev_gtr rfl rfl) ?_
    refine runl_ev (ev_pick rfl rfl rfl (if_neg (by simp [h1]))) ?_
    refine runl_ev (ev_move rfl) ?_
    refine runl_ev_g rfl rfl (decide_eq_false h2) (ev_move rfl) ?_
    refine runl_ev_g rfl rfl (decide_eq_false h2) (ev_lss rfl rfl) ?_
    refine runl_ev (ev_pick rfl rfl rfl (if_neg (by simp; omega))) ?_
    refine runl_ev (ev_move rfl) ?_
    refine runl_ev_g rfl rfl (decide_eq_false h3) (ev_move rfl) ?_
    refine runl_ev_g rfl rfl (decide_eq_false h3) (ev_gtr rfl rfl) ?_
    refine runl_ev (ev_pick rfl rfl rfl (if_neg (by simp; omega))) ?_
    refine runl_nil ?_
    refine run_cond_false rfl (decide_eq_false h4) ?_
    obtain ⟨m, rfl⟩ : ∃ m : Nat, n = m := ⟨n.toNat, by omega⟩
    have hm5 : m ≤ 5 := by omega
    refine run_skip ?_
    refine run_seq ?_
    refine run_region rfl ?_
    refine runl_ev (ev_build (out := hcells (hash1 3)) ps_25 zero_25 rfl rfl (rfl)) ?_
    refine runl_op (t_call call_12 rfl (reponew_any (hash1 3) rfl _)) ?_
    rintro _ w29 ⟨rb, rfl, at29, e29⟩
    have zz := e.size
    have z29 := e29.size
    replace e := e.trans e29
    refine runl_ev (ev_assign rfl) ?_
    refine runl_nil ?_
    refine run_seq ?_
    refine run_seq ?_
    refine run_region rfl ?_
    refine runl_ev (ev_move rfl) ?_
    refine runl_ev (ev_eqlPn Tryz.underlying22 rfl rfl) ?_
    refine runl_nil ?_
    refine run_cond_false rfl (rfl) ?_
    refine run_skip ?_
    refine run_seq ?_
    refine run_seq ?_
    refine run_region rfl ?_
    refine runl_ev (ev_assign rfl) ?_
    refine runl_nil ?_
    refine run_block ?_
    refine run_loop (ι := Nat × (Nat → Prop) × RepoS) (fun x => [(0, .int .i64 (m : Int)), (1, .int .i64 life), (5, .pointer (some ⟨rb, 0, none⟩)), (6, .int .i64 ((x.1 + 1 : Nat) : Int))]) (fun x w' => x.1 ≤ m ∧ RepoAt x.2.1 rb x.2.2 w' ∧ VInv x.1 x.2.2 ∧ (∀ k, x.2.1 k → w.heap.size ≤ k) ∧ Ext w w') (fun x => m - x.1) ((0, _, RepoS.new (hash1 3))) ⟨rfl, rfl, rfl, rfl, trivial⟩ (⟨Nat.zero_le _, at29, VInv.new _, fun k hk => (by have := hk.1; omega), e⟩) ?_
    clear e at29
    intro ⟨k, F, S⟩ w1 ⟨hk, at1, iv, hFw, e⟩ IH
    simp only at hk at1 iv hFw
    obtain ⟨u1, u2, u3, u4, u5⟩ := iv
    have iv : VInv k S := ⟨u1, u2, u3, u4, u5⟩
    refine run_seq ?_
    refine run_seq ?_
    refine run_region rfl ?_
    refine runl_ev (ev_move rfl) ?_
    refine runl_ev (ev_move rfl) ?_
    refine runl_ev (ev_leq rfl rfl) ?_
    refine runl_nil ?_
    refine run_dcond rfl (fun h5 => ?_) (fun h5 => ?_)
    · have hk1 : k + 1 ≤ m := by omega
      have hvv : verB ((S.signed + 1 : Nat) : Int) = true := by simp [verB]; omega
      have hee : numB (((k + 1 : Nat) : Int) + life) = true := by simp only [numB, Bool.and_eq_true, decide_eq_true_eq]; omega
      refine run_skip ?_
      refine run_seq ?_
      refine run_block ?_
      refine run_seq ?_
      refine run_seq ?_
      refine run_region rfl ?_
      refine runl_ev (ev_move rfl) ?_
      refine runl_ev (ev_move rfl) ?_
      refine runl_ev (ev_move rfl) ?_
      refine runl_op (t_call call_13 rfl (sign_repo at1 ((k + 1 : Nat) : Int) life (by omega) (by omega) (by omega) (by omega) (by rw [u2]; decide) (by omega) (by rw [u4]; decide))) ?_
      rintro _ w40 ⟨rfl, F40, at40, e40, hF40⟩
      have z40 := e40.size
      have ze := e.size
      have eN : Ext w w40 := e.new e40 (fun k hk => hFw k hk)
      have fw40 : ∀ k, F40 k → w.heap.size ≤ k := fun k hk => (hF40 k hk).elim (hFw k) (fun h => by omega)
      replace e := eN
      refine runl_ev (ev_neqI rfl rfl) ?_
      refine runl_nil ?_
      refine run_cond_false rfl (by simp) ?_
      refine run_skip ?_
      refine run_seq ?_
      refine run_region rfl ?_
      refine runl_ev (ev_move rfl) ?_
      refine runl_op (t_call call_14 rfl (bundleD_repo at40 (iv.sign _).bd)) ?_
      rintro _ w43 ⟨c43, rfl, f43, e43⟩
      obtain ⟨ra, rc, t0, t1, s0, s1, ta, tc, rfl, hR, hT, hS, hG⟩ := f43.here
      obtain ⟨aT, cT, rfl, slT, hcT, o1⟩ := env_body hT (mb_eq S (((k + 1 : Nat) : Int) + life))
      obtain ⟨aS, cS, rfl, slS, hcS, o2⟩ := env_body hS (sb_eq2 S (((k + 1 : Nat) : Int) + life))
      obtain ⟨bG, oG, cG, rfl, hrG, hcG⟩ := hG.at.2 0 (by show 0 < 1; decide)
      obtain ⟨x1, y1, rfl⟩ := renv_two hrG.1
      obtain ⟨aG, cG2, rfl, slG, hcG2, o3⟩ := env_body hrG (tb_eq2 S (((k + 1 : Nat) : Int) + life))
      have y := ExtB.refl (fun _ => False) w43
      have z43 := e43.size
      replace e := e.trans e43
      refine runl_op (t_alloc zero_34 rfl) ?_
      rintro _ w7 ⟨b7, rfl, hb7, e7, n7, l7⟩
      have z7 := e7.size
      replace e := e.trans e7
      replace y := y.trans e7
      refine runl_do (t_storeW sz_34 rfl rfl rfl rfl hb7 ((fun v hv => by simp only [List.mem_cons, List.not_mem_nil, or_false] at hv; rcases hv with rfl | rfl | rfl | rfl | rfl | rfl; rfl; rfl; exact o1; rfl; exact o2; rfl))) ?_
      rintro _ v11_3 ⟨hq11_3, e11_3, z11_3⟩
      replace e := e.new1 e11_3 (by omega)
      replace y := y.new1 e11_3 (by omega)
      replace hb7 := hq11_3
      clear hq11_3
      refine runl_nil ?_
      refine run_seq ?_
      refine run_seq ?_
      refine run_region rfl ?_
      refine runl_ev (ev_fieldAddr fld_34_3 rfl) ?_
      refine runl_ev (ev_load1 cell_28 rfl (eqw ((cells_all hb7).pick 5 rfl rfl))) ?_
      refine runl_ev (ev_lenL sl_28 rfl) ?_
      refine runl_ev (ev_neqI rfl rfl) ?_
      refine runl_nil ?_
      refine run_cond_false rfl (by simp [RepoS.sign]) ?_
      refine run_skip ?_
      refine run_seq ?_
      refine run_region rfl ?_
      refine runl_ev (ev_fieldAddr fld_34_1 rfl) ?_
      refine runl_ev (ev_fieldAddr fld_32_0 rfl) ?_
      refine runl_ev (ev_load1 cell_29 rfl (eqw ((cells_all hb7).pick 1 rfl rfl))) ?_
      refine runl_op (t_call call_15 rfl (qdectime_any (S.tm (((k + 1 : Nat) : Int) + life)) (tm_sum S _) (tm_may hvv hee) _ aT _ cT (slT.ext RByte.stable y) hcT)) ?_
      rintro _ w52 ⟨rfl, e52⟩
      have z52 := e52.size
      replace e := e.trans e52
      replace y := y.trans e52
      replace hb7 := e52.at hb7
      refine runl_ev (ev_move rfl) ?_
      refine runl_ev (ev_extract rfl rfl) ?_
      refine runl_ev (ev_extract rfl rfl) ?_
      refine runl_op (t_alloc zero_37 rfl) ?_
      rintro _ w8 ⟨b8, rfl, hb8, e8, n8, l8⟩
      have z8 := e8.size
      replace e := e.trans e8
      replace y := y.trans e8
      replace hb7 := e8.at hb7
      refine runl_do (t_storeW sz_37 rfl rfl (TimeP.cells_length' (tm_sum S _)) rfl hb8 (TimeP.one' _)) ?_
      rintro _ v14_8 ⟨hq14_8, e14_8, z14_8⟩
      replace e := e.new1 e14_8 (by omega)
      replace y := y.new1 e14_8 (by omega)
      replace hb7 := e14_8.at1 hb7 (by first | assumption | omega)
      replace hb8 := hq14_8
      clear hq14_8
      refine runl_ev (ev_assign rfl) ?_
      refine runl_nil ?_
      refine run_seq ?_
      refine run_region rfl ?_
      refine runl_ev (ev_fieldAddr fld_34_2 rfl) ?_
      refine runl_ev (ev_fieldAddr fld_32_0 rfl) ?_
      refine runl_ev (ev_load1 cell_29 rfl (eqw ((cells_all hb7).pick 3 rfl rfl))) ?_
      refine runl_op (t_call call_16 rfl (fdecsnap_any _ (snap_one hvv hee) _ aS _ cS (slS.ext RByte.stable y) hcS)) ?_
      rintro _ w59 ⟨c59, rfl, kf59, e59⟩
      obtain ⟨pa, pcc, rfl, sp59⟩ := kf59.r
      obtain ⟨bP, oP, cP, rfl, hrP, hcP⟩ := sp59.at.2 0 (by show 0 < 1; decide)
      obtain rfl := hrP
      have y59 := ExtB.refl (fun _ => False) w59
      have z59 := e59.size
      replace e := e.trans e59
      replace y := y.trans e59
      replace hb7 := e59.at hb7
      replace hb8 := e59.at hb8
      refine runl_ev (ev_move rfl) ?_
      refine runl_ev (ev_extract rfl rfl) ?_
      refine runl_ev (ev_extract rfl rfl) ?_
      refine runl_op (t_alloc zero_42 rfl) ?_
      rintro _ w10 ⟨b10, rfl, hb10, e10, n10, l10⟩
      have z10 := e10.size
      replace e := e.trans e10
      replace y := y.trans e10
      replace hb7 := e10.at hb7
      replace hb8 := e10.at hb8
      replace y59 := y59.trans e10
      refine runl_do (t_storeW sz_42 rfl rfl rfl rfl hb10 ((by simp))) ?_
      rintro _ v15_8 ⟨hq15_8, e15_8, z15_8⟩
      replace e := e.new1 e15_8 (by omega)
      replace y := y.new1 e15_8 (by omega)
      replace hb7 := e15_8.at1 hb7 (by first | assumption | omega)
      replace hb8 := e15_8.at1 hb8 (by first | assumption | omega)
      replace y59 := y59.new1 e15_8 (by omega)
      replace hb10 := hq15_8
      clear hq15_8
      refine runl_ev (ev_assign rfl) ?_
      refine runl_nil ?_
      refine run_seq ?_
      refine run_region rfl ?_
      refine runl_ev (ev_fieldAddr fld_34_3 rfl) ?_
      refine runl_ev (ev_load1 cell_28 rfl (eqw ((cells_all hb7).pick 5 rfl rfl))) ?_
      refine runl_ev (ev_indexAddr (k := 0) el_28 rfl rfl (by show 0 < 1; decide)) ?_
      refine runl_ev (ev_fieldAddr fld_32_0 rfl) ?_
      refine runl_ev (ev_load1 cell_29 rfl (eqw ((hcG.ext y).pick 0 rfl rfl))) ?_
      refine runl_op (t_call call_17 rfl (fdectgs_any topB ((S.signed + 1 : Nat) : Int) _ S.l top_name hvv hee (by rw [u2]; rfl) (by rw [u2]; decide) (fun t ht => by rw [u2] at ht; cases ht) _ aG _ cG2 (slG.ext RByte.stable y) hcG2)) ?_
      rintro _ w68 ⟨v68, rfl, o68⟩
      have e68 := o68.ext
      obtain ⟨la, lc, rfl, -, -⟩ := o68.sl
      have z68 := e68.size
      replace e := e.trans e68
      replace y := y.trans e68
      replace hb7 := e68.at hb7
      replace hb8 := e68.at hb8
      replace y59 := y59.trans e68
      replace hb10 := e68.at hb10
      refine runl_ev (ev_move rfl) ?_
      refine runl_ev (ev_extract rfl rfl) ?_
      refine runl_ev (ev_extract rfl rfl) ?_
      refine runl_op (t_alloc zero_48 rfl) ?_
      rintro _ w12 ⟨b12, rfl, hb12, e12, n12, l12⟩
      have z12 := e12.size
      replace e := e.trans e12
      replace y := y.trans e12
      replace hb7 := e12.at hb7
      replace hb8 := e12.at hb8
      replace y59 := y59.trans e12
      replace hb10 := e12.at hb10
      refine runl_do (t_storeW sz_48 rfl rfl rfl rfl hb12 ((by simp))) ?_
      rintro _ v16_10 ⟨hq16_10, e16_10, z16_10⟩
      replace e := e.new1 e16_10 (by omega)
      replace y := y.new1 e16_10 (by omega)
      replace hb7 := e16_10.at1 hb7 (by first | assumption | omega)
      replace hb8 := e16_10.at1 hb8 (by first | assumption | omega)
      replace y59 := y59.new1 e16_10 (by omega)
      replace hb10 := e16_10.at1 hb10 (by first | assumption | omega)
      replace hb12 := hq16_10
      clear hq16_10
      refine runl_ev (ev_assign rfl) ?_
      refine runl_nil ?_
      refine run_seq ?_
      refine run_region rfl ?_
      refine runl_ev (ev_move rfl) ?_
      refine runl_ev (ev_move rfl) ?_
      refine runl_ev (ev_add rfl rfl (by omega) (by omega)) ?_
      refine runl_ev (ev_move rfl) ?_
      refine runl_ev (ev_add rfl rfl (by omega) (by omega)) ?_
      refine runl_ev (ev_neqI rfl rfl) ?_
      refine runl_ev (ev_move rfl) ?_
      refine runl_ev_g rfl rfl (by simp [u3, topB]) (ev_fieldAddr fld_37_0 rfl) ?_
      refine runl_ev_g rfl rfl (by simp [u3, topB]) (ev_load1 cell_3 rfl (eqw ((cells_all hb8).pick 0 rfl (by rw [tm_cells]; rfl)))) ?_
      refine runl_ev_g rfl rfl (by simp [u3, topB]) (ev_move rfl) ?_
      refine runl_ev_g rfl rfl (by simp [u3, topB]) (ev_neqI rfl rfl) ?_
      refine runl_ev (ev_pick rfl rfl rfl (if_neg (by simp [u3, topB]))) ?_
      refine runl_ev (ev_move rfl) ?_
      refine runl_ev_g rfl rfl (by simp [u3, topB]) (ev_fieldAddr fld_42_0 rfl) ?_
      refine runl_ev_g rfl rfl (by simp [u3, topB]) (ev_load1 cell_3 rfl (eqw ((cells_all hb10).pick 0 rfl rfl))) ?_
      refine runl_ev_g rfl rfl (by simp [u3, topB]) (ev_move rfl) ?_
      refine runl_ev_g rfl rfl (by simp [u3, topB]) (ev_neqI rfl rfl) ?_
      refine runl_ev (ev_pick rfl rfl rfl (if_neg (by simp [u3, topB]))) ?_
      refine runl_ev (ev_move rfl) ?_
      refine runl_ev_g rfl rfl (by simp [u3, topB]) (ev_fieldAddr fld_48_1 rfl) ?_
      refine runl_ev_g rfl rfl (by simp [u3, topB]) (ev_load1 cell_3 rfl (eqw ((cells_all hb12).pick 1 rfl rfl))) ?_
      refine runl_ev_g rfl rfl (by simp [u3, topB]) (ev_move rfl) ?_
      refine runl_ev_g rfl rfl (by simp [u3, topB]) (ev_neqI rfl rfl) ?_
      refine runl_ev (ev_pick rfl rfl rfl (if_neg (by simp [u3, topB]))) ?_
      refine runl_ev (ev_move rfl) ?_
      refine runl_ev_g rfl rfl (by simp [u3, topB]) (ev_fieldAddr fld_37_2 rfl) ?_
      refine runl_ev_g rfl rfl (by simp [u3, topB]) (ev_load1 cell_3 rfl (eqw ((cells_all hb8).pick 2 rfl (by rw [tm_cells]; rfl)))) ?_
      refine runl_ev_g rfl rfl (by simp [u3, topB]) (ev_move rfl) ?_
      refine runl_ev_g rfl rfl (by simp [u3, topB]) (ev_neqI rfl rfl) ?_
      refine runl_ev (ev_pick rfl rfl rfl (if_neg (by simp [u3, topB]))) ?_
      refine runl_ev (ev_move rfl) ?_
      refine runl_ev_g rfl rfl (by simp [u3, topB]) (ev_fieldAddr fld_37_1 rfl) ?_
      refine runl_ev_g rfl rfl (by simp [u3, topB]) (ev_load1 cell_3 rfl (eqw ((cells_all hb8).pick 1 rfl (by rw [tm_cells]; rfl)))) ?_
      refine runl_ev_g rfl rfl (by simp [u3, topB]) (ev_move rfl) ?_
      refine runl_ev_g rfl rfl (by simp [u3, topB]) (ev_move rfl) ?_
      refine runl_ev_g rfl rfl (by simp [u3, topB]) (ev_add rfl rfl (by omega) (by omega)) ?_
      refine runl_ev_g rfl rfl (by simp [u3, topB]) (ev_neqI rfl rfl) ?_
      refine runl_ev (ev_pick rfl rfl rfl (if_neg (by simp [u3, topB]))) ?_
      refine runl_ev (ev_move rfl) ?_
      refine runl_ev_g rfl rfl (by simp [u3, topB]) (ev_fieldAddr fld_48_0 rfl) ?_
      refine runl_ev_g rfl rfl (by simp [u3, topB]) (ev_load1 cell_9 rfl (eqw ((cells_all hb12).pick 0 rfl rfl))) ?_
      refine runl_ev_g rfl rfl (by simp [u3, topB]) (ev_neqS rfl rfl) ?_
      refine runl_ev (ev_pick rfl rfl rfl (if_neg (by simp [u3, topB]))) ?_
      refine runl_ev (ev_move rfl) ?_
      refine runl_ev_g rfl rfl (by simp [u3, topB]) (ev_fieldAddr fld_42_2 rfl) ?_
      refine runl_ev_g rfl rfl (by simp [u3, topB]) (ev_load1 cell_40 rfl (eqw ((cells_all hb10).pick 2 rfl rfl))) ?_
      refine runl_ev_g rfl rfl (by simp [u3, topB]) (ev_lenL sl_40 rfl) ?_
      refine runl_ev_g rfl rfl (by simp [u3, topB]) (ev_neqI rfl rfl) ?_
      refine runl_ev (ev_pick rfl rfl rfl (if_neg (by simp [u3, topB]))) ?_
      refine runl_ev (ev_move rfl) ?_
      refine runl_ev_g rfl rfl (by simp [u3, topB]) (ev_fieldAddr fld_42_2 rfl) ?_
      refine runl_ev_g rfl rfl (by simp [u3, topB]) (ev_load1 cell_40 rfl (eqw ((cells_all hb10).pick 2 rfl rfl))) ?_
      refine runl_ev_g rfl rfl (by simp [u3, topB]) (ev_indexAddr (k := 0) el_40 rfl rfl (by show 0 < 1; decide)) ?_
      refine runl_ev_g rfl rfl (by simp [u3, topB]) (ev_fieldAddr fld_52_1 rfl) ?_
      refine runl_ev_g rfl rfl (by simp [u3, topB]) (ev_load1 cell_3 rfl (eqw ((hcP.ext y59).pick 1 rfl rfl))) ?_
      refine runl_ev_g rfl rfl (by simp [u3, topB]) (ev_move rfl) ?_
      refine runl_ev_g rfl rfl (by simp [u3, topB]) (ev_neqI rfl rfl) ?_
      refine runl_ev (ev_pick rfl rfl rfl (if_neg (by simp [u3, topB]))) ?_
      refine runl_nil ?_
      refine run_cond_false rfl (by simp [u3]) ?_
      refine run_skip ?_
      refine run_inBlock ?_
      refine run_region rfl ?_
      refine runl_ev (ev_move rfl) ?_
      refine runl_ev (ev_add rfl rfl (by omega) (by omega)) ?_
      refine runl_ev (ev_assign rfl) ?_
      refine runl_nil ?_
      exact IH (k + 1, F40, S.sign (((k + 1 : Nat) : Int) + life)) _ _ (by simp only; omega) ⟨rfl, rfl, rfl, rfl, trivial⟩ ⟨hk1, (at40.ext e43).ext y, iv.sign _, fw40, e⟩
    · refine run_exit rfl ?_
      refine run_seq ?_
      refine run_region rfl ?_
      refine runl_op (t_call call_18 rfl (known16_any _)) ?_
      rintro _ w129 ⟨rfl, e129⟩
      have z129 := e129.size
      replace e := e.trans e129
      refine runl_ev (ev_assign rfl) ?_
      refine runl_nil ?_
      refine run_ret_any Tryz.func3 (res1 Tryz.results3 rfl) ?_
      exact ⟨rfl, e⟩
end Go.Proofs.YtlgkdnmklgbhbaaGreatDoor
