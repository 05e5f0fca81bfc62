/- The walks of what decodes snapshots. -/
import Derived.Test.YtcmbiaibocdfeaaDoorWireSN
import Derived.Test.YtcmbiaibocdfeaaDoorWireS1
import Derived.Test.YtcmbiaibocdfeaaDoorWire6
namespace Go.Proofs.YtcmbiaibocdfeaaDoor
open Go Go.Fw
set_option maxRecDepth 100000

theorem rdtext_any {s : RS} {w0 w : World} {rb : Nat} {v : Value} {T : TypeId} (st : RSt T w0 w rb v s) : Ret Tryd.prog 82 [.agg ⟨[.pointer (some ⟨rb, 0, none⟩)]⟩] w fun r w' => r = .string s.text.1 ∧ RP T w0 w rb s.text.2 w' := by
  have e := ExtB.refl (fun _ => False) w
  have lrb := st.lt
  have zst := st.ext.size
  have hrb := st.hrb
  have hlen := st.len
  refine ret_of_run Tryd.func82 rfl Tryd.ntmps82 rfl ?_
  refine run_seq ?_
  refine run_region rfl ?_
  refine runl_op (t_boxA rfl) ?_
  rintro _ w1 ⟨b1, rfl, hb1, e1, n1, l1⟩
  have z1 := e1.size
  replace e := e.trans e1
  refine runl_ev (ev_assign rfl) ?_
  refine runl_nil ?_
  refine run_seq ?_
  refine run_region rfl ?_
  refine runl_ev (ev_fieldAddr fld_79_0 rfl) ?_
  refine runl_ev (ev_load1 cell_77 rfl (eqw (cell_blk hb1 rfl))) ?_
  refine runl_op (t_call call_89 rfl (rbytes_any (st.up e))) ?_
  rintro r5 w5 ⟨⟨g5, own5, hg5, hgl5⟩, rp5⟩
  have rq5 := RP.from e rp5
  have og5 := ownG_of own5 hg5 hgl5
  obtain ⟨a5, c5, rfl, -⟩ := og5.sl
  have z5 := rp5.2.size
  replace hb1 := rp5.2.at1 hb1 (by omega)
  refine runl_ev (ev_convB (s.bytes.1) Tryd.underlying24 Tryd.underlying5 Tryd.underlying9 rfl (eqw (og5.slat))) ?_
  refine runl_ev (ev_assign rfl) ?_
  refine runl_nil ?_
  refine run_ret_any Tryd.func82 (res1 Tryd.results82 rfl) ?_
  exact ⟨rfl, rq5⟩
theorem rdpin_any {s : RS} {w0 w : World} {rb : Nat} {v : Value} {T : TypeId} (st : RSt T w0 w rb v s) : Ret Tryd.prog 63 [.agg ⟨[.pointer (some ⟨rb, 0, none⟩)]⟩] w fun r w' => r = .agg ⟨[.string s.pin.1.name, .int .i64 s.pin.1.ver]⟩ ∧ RP T w0 w rb s.pin.2 w' := by
  have e := ExtB.refl (fun _ => False) w
  have lrb := st.lt
  have zst := st.ext.size
  have hrb := st.hrb
  have hlen := st.len
  refine ret_of_run Tryd.func63 rfl Tryd.ntmps63 rfl ?_
  refine run_seq ?_
  refine run_region rfl ?_
  refine runl_op (t_boxA rfl) ?_
  rintro _ w1 ⟨b1, rfl, hb1, e1, n1, l1⟩
  have z1 := e1.size
  replace e := e.trans e1
  refine runl_op (t_alloc zero_38 rfl) ?_
  rintro _ w2 ⟨b2, rfl, hb2, e2, n2, l2⟩
  have z2 := e2.size
  replace e := e.trans e2
  replace hb1 := e2.at hb1
  refine runl_nil ?_
  refine run_seq ?_
  refine run_draw mo (fun w' => ExtB (fun k => k = rb) w2 w') [6] [(true, 0), (true, 2), (true, 3), (false, 1), (false, 4), (true, 5), (false, 6)] (by kernel_rfl) ?_
  intro wr1 er1
  have zr1 := er1.size
  have hsr1 : (fun w' => ExtB (fun k => k = rb) w2 w') wr1 := er1.toB
  have ep := e.trans er1
  have hb1p := er1.at hb1
  have hb2p := er1.at hb2
  refine rund_ev hsr1 rfl (ev_loadA agg_79 rfl rfl (fun wz hz => cells_all (hz.at1 hb1 (by omega)))) ?_
  refine rund_ev hsr1 rfl (ev_fieldAddr fld_79_0 rfl) ?_
  refine rund_ev hsr1 rfl (ev_load1 cell_77 rfl (fun wz hz => cell_blk (hz.at1 hb1 (by omega)) rfl)) ?_
  refine rund_op rfl (t_call call_82 rfl (rdtext_any (st.up ep))) ?_
  rintro _ w4 ⟨rfl, rp4⟩
  have rq4 := RP.from ep rp4
  obtain ⟨v4, st4⟩ := rq4.1
  have eb4 := rq4.2
  have z4 := rp4.2.size
  replace hb1p := rp4.2.at1 hb1p (by omega)
  replace hb2p := rp4.2.at1 hb2p (by omega)
  have hsp4_2 := hsr1.newB1 rp4.2 (by first | exact .inl (by omega) | exact .inr rfl | (right; simp; done) | (right; simp; omega))
  refine ⟨hsp4_2, ?_⟩
  have st4p := st4
  have eb4p := eb4
  refine rund_op rfl (t_call call_60 rfl (rnum_any st4p)) ?_
  rintro _ w7 ⟨rfl, rp7⟩
  obtain ⟨v7, st7⟩ := rp7.1
  have z7 := rp7.2.size
  replace hb1p := rp7.2.at1 hb1p (by omega)
  replace hb2p := rp7.2.at1 hb2p (by omega)
  replace eb4p := eb4p.newB1 rp7.2 (by first | exact .inl (by omega) | exact .inr rfl | exact .inr (.inl rfl) | exact .inr (.inr (by omega)))
  have hsp7_2 := hsp4_2.newB1 rp7.2 (by first | exact .inl (by omega) | exact .inr rfl | (right; simp; done) | (right; simp; omega))
  refine ⟨hsp7_2, ?_⟩
  have st7p := st7
  refine rund_ev hsp7_2 rfl (ev_build (out := [.string s.text.1, .int .i64 s.text.2.num.1]) ps_38 zero_38 rfl rfl (rfl)) ?_
  refine rund_doT rfl rfl (t_storeW sz_38 rfl rfl rfl rfl hb2p ((by simp))) ?_
  rintro _ v1_6 ⟨hq1_6, e1_6, z1_6⟩
  replace hb1p := e1_6.at1 hb1p (by omega)
  replace eb4p := eb4p.newB1 e1_6 (by first | exact .inl (by omega) | exact .inr rfl | exact .inr (.inl rfl) | exact .inr (.inr (by omega)))
  replace st7p := st7p.own e1_6 (fun k hk h => by rcases hk with hk | hk <;> omega)
  replace hb2p := hq1_6
  clear hq1_6
  refine rund_nil ?_
  replace hb1 := hb1p
  clear hb1p
  replace hb2 := hb2p
  clear hb2p
  replace eb4 := eb4p
  clear eb4p
  replace st7 := st7p
  clear st7p
  refine run_ret_any Tryd.func63 (resC Tryd.results63 rfl (loadVar_agg agg_38 rfl (cells_all hb2))) ?_
  exact ⟨rfl, RP.of st7 eb4⟩
theorem rtakenP_any {s : RS} {w0 w : World} {rb : Nat} {v : Value} {T : TypeId} (st : RSt T w0 w rb v s) : Ret Tryd.prog 62 [.agg ⟨[.pointer (some ⟨rb, 0, none⟩)]⟩, .func (.func 63) #[] #[]] w fun r w' => OwnG 38 2 RPin w (takenL RS.pin s.num.1.toNat [] s.num.2).1 r w' ∧ RP T w0 w rb (takenL RS.pin s.num.1.toNat [] s.num.2).2 w' := by
  have e := ExtB.refl (fun _ => False) w
  have lrb := st.lt
  have zst := st.ext.size
  have hrb := st.hrb
  have hlen := st.len
  have hn0 := num_nonneg s
  have hn1 := num_le s
  refine ret_of_run Tryd.func62 rfl Tryd.ntmps62 rfl ?_
  refine run_seq ?_
  refine run_region rfl ?_
  refine runl_op (t_boxA rfl) ?_
  rintro _ w2 ⟨b2, rfl, hb2, e2, n2, l2⟩
  have z2 := e2.size
  replace e := e.trans e2
  refine runl_ev (ev_assign rfl) ?_
  refine runl_nil ?_
  refine run_seq ?_
  refine run_region rfl ?_
  refine runl_ev (ev_assign rfl) ?_
  refine runl_nil ?_
  refine run_seq ?_
  refine run_seq ?_
  refine run_region rfl ?_
  refine runl_ev (ev_fieldAddr fld_79_0 rfl) ?_
  refine runl_ev (ev_load1 cell_77 rfl (eqw (cell_blk hb2 rfl))) ?_
  refine runl_op (t_call call_60 rfl (rnum_any (st.up e))) ?_
  rintro _ w9 ⟨rfl, rp9⟩
  have rq9 := RP.from e rp9
  obtain ⟨v9, st9⟩ := rq9.1
  have eb9 := rq9.2
  have hu9 : s.num.2.rest.length ≤ s.rest.length := num_used s
  have z9 := rp9.2.size
  replace hb2 := rp9.2.at1 hb2 (by omega)
  refine runl_ev (ev_assign rfl) ?_
  refine runl_nil ?_
  refine run_block ?_
  refine run_loop (ι := Nat × List PinP × RS × Value × Value) (fun x => [(1, .func (.func 63) #[] #[]), (2, .pointer (some ⟨b2, 0, none⟩)), (5, x.2.2.2.1), (6, .int .i64 (x.1 : Int))]) (fun x w1 => x.1 ≤ 4611686018427387904 ∧ takenL RS.pin x.1 x.2.1 x.2.2.1 = takenL RS.pin s.num.1.toNat [] s.num.2 ∧ (x.2.2.1.bad = false → x.2.1.length + x.2.2.1.rest.length ≤ s.rest.length) ∧ OwnG 38 2 RPin w2 x.2.1 x.2.2.2.1 w1 ∧ RSt T w0 w1 rb x.2.2.2.2 x.2.2.1 ∧ ExtB (fun k => k = rb) w w1 ∧ w1.heap[b2]? = some (.cells ⟨[.pointer (some ⟨rb, 0, none⟩)]⟩ 79 (0, 0)) ∧ w2.heap.size ≤ w1.heap.size) (fun x => x.1) ((s.num.1.toNat, [], s.num.2, .slice none 0 0, v9)) ⟨rfl, rfl, rfl, by show some (Value.int .i64 s.num.1) = some (Value.int .i64 ((s.num.1.toNat : Nat) : Int)); rw [Int.toNat_of_nonneg hn0], trivial⟩ (⟨by show s.num.1.toNat ≤ _; omega, rfl, fun _ => by simpa using hu9, OwnG.nil _ _, st9, eb9, hb2, z9⟩) ?_
  clear st9 eb9 hb2 rq9 rp9
  intro ⟨m, acc, s1, vl, v1⟩ w1 ⟨hm, htk, hcnt, ow, st1, eb, hb2, hz2⟩ IH
  simp only at hm htk hcnt ow st1
  have lb2 := lt_of_at hb2
  have zeb := eb.size
  obtain ⟨xs, g, own, hpp, hxl, hg, hgl⟩ := ow.open
  have hrl := st1.len
  refine run_seq ?_
  refine run_seq ?_
  rcases m with _ | m
  · have hfin : (acc, s1) = takenL RS.pin s.num.1.toNat [] s.num.2 := htk
    refine run_region rfl ?_
    refine runl_ev (ev_move rfl) ?_
    refine runl_ev (ev_gtr rfl rfl) ?_
    refine runl_ev (ev_move rfl) ?_
    refine runl_no_g rfl rfl (rfl) ?_
    refine runl_no_g rfl rfl (rfl) ?_
    refine runl_no_g rfl rfl (rfl) ?_
    refine runl_ev (ev_pick rfl rfl rfl (if_neg (by simp))) ?_
    refine runl_nil ?_
    refine run_cond_false rfl (rfl) ?_
    refine run_exit rfl ?_
    refine run_seq ?_
    refine run_region rfl ?_
    refine runl_ev (ev_move rfl) ?_
    refine runl_ev (ev_assign rfl) ?_
    refine runl_nil ?_
    refine run_ret_any Tryd.func62 (res1 Tryd.results62 rfl) ?_
    rw [← hfin]
    exact ⟨ow.from (by omega), RP.of st1 eb⟩
  · refine run_region rfl ?_
    refine runl_ev (ev_move rfl) ?_
    refine runl_ev (ev_gtr rfl rfl) ?_
    refine runl_ev (ev_move rfl) ?_
    refine runl_ev_g rfl rfl (decide_eq_true (by omega)) (ev_fieldAddr fld_79_0 rfl) ?_
    refine runl_ev_g rfl rfl (decide_eq_true (by omega)) (ev_load1 cell_77 rfl (eqw (cell_blk hb2 rfl))) ?_
    refine runl_op_g rfl rfl (decide_eq_true (by omega)) (t_call call_81 rfl (rgood_any st1)) ?_
    rintro _ w15 ⟨rfl, e15⟩
    have z15 := e15.size
    replace hb2 := e15.at hb2
    replace own := own.ext e15
    replace st1 := st1.up e15
    replace eb := eb.trans e15.toB
    cases hbad : s1.bad
    · have hcnt1 := hcnt hbad
      have htk1 : takenL RS.pin m (acc ++ [(RS.pin s1).1]) (RS.pin s1).2 = takenL RS.pin s.num.1.toNat [] s.num.2 := by rw [← htk, takenL, if_neg (by rw [hbad]; simp)]
      refine runl_ev (ev_pick rfl rfl rfl (if_pos (decide_eq_true (by omega)))) ?_
      refine runl_nil ?_
      refine run_cond_true rfl (rfl) ?_
      refine run_skip ?_
      refine run_seq ?_
      refine run_block ?_
      refine run_region rfl ?_
      refine runl_ev (ev_move rfl) ?_
      refine runl_ev (ev_move rfl) ?_
      refine runl_ev (ev_loadA agg_79 rfl rfl (eqw (cells_all hb2))) ?_
      refine runl_op (t_callv call_63 rfl rfl (rdpin_any st1)) ?_
      rintro _ w22 ⟨rfl, rp22⟩
      have z22 := rp22.2.size
      replace hb2 := rp22.2.at1 hb2 (by omega)
      replace own := own.ext1 rp22.2 (by omega)
      replace eb := eb.trans rp22.2
      obtain ⟨v22, st22⟩ := rp22.1
      have hcnt2 : s1.pin.2.bad = false → (acc ++ [s1.pin.1]).length + s1.pin.2.rest.length ≤ s.rest.length := fun h => by have := pin_used h; simp only [List.length_append, List.length_singleton]; omega
      refine runl_op (t_buildSlice (out := [.string s1.pin.1.name, .int .i64 s1.pin.1.ver]) Tryd.underlying33 sz_38 zero_38 rfl rfl (by decide) (by decide) rfl (fill_one rfl rfl rfl)) ?_
      rintro _ w23 ⟨b23, rfl, hb23, e23, n23, l23⟩
      have z23 := e23.size
      replace hb2 := e23.at hb2
      replace own := own.ext e23
      replace eb := eb.trans e23.toB
      replace st22 := st22.up e23
      refine runl_op (t_append (news := [.string s1.pin.1.name, .int .i64 s1.pin.1.ver]) ef_33 rfl rfl own rfl (cells_all hb23) (by simp) (by unfold maxLen; omega) (by omega)) ?_
      rintro v24 w24 ⟨g24, ap24⟩
      have z24 := ap24.ext.size
      replace hb2 := ap24.ext.atG hb2 (by omega)
      replace eb := eb.newBG ap24.ext (fun k hk => by first | exact .inl (by omega) | exact .inr hk | exact .inr (.inr hk) | exact .inr (.inr (by omega)))
      replace st22 := st22.own ap24.ext (fun k hk h => by rcases hk with hk | hk <;> omega)
      replace hb23 := ap24.ext.atG hb23 (by omega)
      have ow24 := OwnG.app flat_pin (l' := [s1.pin.1]) (by omega) hg (by omega) (hpp.mono fun _ _ _ hr => flat_pin _ _ _ _ hr) hxl (pc (w := w23) (x := s1.pin.1) (r := []) (cs := [.string s1.pin.1.name, .int .i64 s1.pin.1.ver]) rfl pn) ap24 rfl rfl
      refine runl_ev (ev_assign rfl) ?_
      refine runl_nil ?_
      refine run_inBlock ?_
      refine run_region rfl ?_
      refine runl_ev (ev_move rfl) ?_
      refine runl_ev (ev_subK ((m : Int)) rfl rfl (by rw [show (((m + 1 : Nat) : Int) - 1) = m by omega]; exact wrap_i64 (by omega) (by omega))) ?_
      refine runl_ev (ev_assign rfl) ?_
      refine runl_nil ?_
      exact IH (m, acc ++ [(RS.pin s1).1], (RS.pin s1).2, v24, v22) _ _ (by simp only; omega) ⟨rfl, rfl, rfl, rfl, trivial⟩ ⟨by show m ≤ _; omega, htk1, hcnt2, ow24, st22, eb, hb2, by omega⟩
    · have hfin : (acc, s1) = takenL RS.pin s.num.1.toNat [] s.num.2 := by rw [← htk, takenL, if_pos hbad]
      refine runl_ev (ev_pick rfl rfl rfl (if_pos (decide_eq_true (by omega)))) ?_
      refine runl_nil ?_
      refine run_cond_false rfl (rfl) ?_
      refine run_exit rfl ?_
      refine run_seq ?_
      refine run_region rfl ?_
      refine runl_ev (ev_move rfl) ?_
      refine runl_ev (ev_assign rfl) ?_
      refine runl_nil ?_
      refine run_ret_any Tryd.func62 (res1 Tryd.results62 rfl) ?_
      rw [← hfin]
      exact ⟨(OwnG.up (flat_pin).stable ow e15).from (by omega), RP.of st1 eb⟩
theorem rdsnap_any {s : RS} {w0 w : World} {rb : Nat} {v : Value} {T : TypeId} (st : RSt T w0 w rb v s) : Ret Tryd.prog 33 [.agg ⟨[.pointer (some ⟨rb, 0, none⟩)]⟩] w fun r w' => ∃ cs, r = .agg ⟨cs⟩ ∧ RSnapF w.heap.size w' (RS.snap id s).1 cs ∧ RP T w0 w rb (RS.snap id s).2 w' := by
  have e := ExtB.refl (fun _ => False) w
  have lrb := st.lt
  have zst := st.ext.size
  have hrb := st.hrb
  have hlen := st.len
  refine ret_of_run Tryd.func33 rfl Tryd.ntmps33 rfl ?_
  refine run_seq ?_
  refine run_region rfl ?_
  refine runl_op (t_boxA rfl) ?_
  rintro _ w1 ⟨b1, rfl, hb1, e1, n1, l1⟩
  have z1 := e1.size
  replace e := e.trans e1
  refine runl_op (t_alloc zero_35 rfl) ?_
  rintro _ w2 ⟨b2, rfl, hb2, e2, n2, l2⟩
  have z2 := e2.size
  replace e := e.trans e2
  replace hb1 := e2.at hb1
  refine runl_nil ?_
  refine run_seq ?_
  refine run_draw mo (fun w' => ExtB (fun k => k = rb) w2 w') [9] [(true, 0), (true, 1), (true, 3), (true, 4), (true, 6), (false, 2), (false, 5), (false, 7), (true, 8), (false, 9)] (by kernel_rfl) ?_
  intro wr1 er1
  have zr1 := er1.size
  have hsr1 : (fun w' => ExtB (fun k => k = rb) w2 w') wr1 := er1.toB
  have ep := e.trans er1
  have hb1p := er1.at hb1
  have hb2p := er1.at hb2
  refine rund_ev hsr1 rfl (ev_fieldAddr fld_79_0 rfl) ?_
  refine rund_ev hsr1 rfl (ev_load1 cell_77 rfl (fun wz hz => cell_blk (hz.at1 hb1 (by omega)) rfl)) ?_
  refine rund_ev hsr1 rfl (ev_fieldAddr fld_79_0 rfl) ?_
  refine rund_ev hsr1 rfl (ev_load1 cell_77 rfl (fun wz hz => cell_blk (hz.at1 hb1 (by omega)) rfl)) ?_
  refine rund_ev hsr1 rfl (ev_loadA agg_79 rfl rfl (fun wz hz => cells_all (hz.at1 hb1 (by omega)))) ?_
  refine rund_op rfl (t_call call_60 rfl (rnum_any (st.up ep))) ?_
  rintro _ w5 ⟨rfl, rp5⟩
  have rq5 := RP.from ep rp5
  obtain ⟨v5, st5⟩ := rq5.1
  have eb5 := rq5.2
  have z5 := rp5.2.size
  replace hb1p := rp5.2.at1 hb1p (by omega)
  replace hb2p := rp5.2.at1 hb2p (by omega)
  have hsp5_2 := hsr1.newB1 rp5.2 (by first | exact .inl (by omega) | exact .inr rfl | (right; simp; done) | (right; simp; omega))
  refine ⟨hsp5_2, ?_⟩
  have st5p := st5
  have eb5p := eb5
  refine rund_op rfl (t_call call_60 rfl (rnum_any st5p)) ?_
  rintro _ w8 ⟨rfl, rp8⟩
  obtain ⟨v8, st8⟩ := rp8.1
  have z8 := rp8.2.size
  replace hb1p := rp8.2.at1 hb1p (by omega)
  replace hb2p := rp8.2.at1 hb2p (by omega)
  replace eb5p := eb5p.newB1 rp8.2 (by first | exact .inl (by omega) | exact .inr rfl | exact .inr (.inl rfl) | exact .inr (.inr (by omega)))
  have hsp8_2 := hsp5_2.newB1 rp8.2 (by first | exact .inl (by omega) | exact .inr rfl | (right; simp; done) | (right; simp; omega))
  refine ⟨hsp8_2, ?_⟩
  have st8p := st8
  refine rund_op rfl (t_call call_62 rfl (rtakenP_any st8p)) ?_
  rintro r10 w10 ⟨ow10, rp10⟩
  obtain ⟨v10, st10⟩ := rp10.1
  have z10 := rp10.2.size
  replace hb1p := rp10.2.at1 hb1p (by omega)
  replace hb2p := rp10.2.at1 hb2p (by omega)
  replace eb5p := eb5p.newB1 rp10.2 (by first | exact .inl (by omega) | exact .inr rfl | exact .inr (.inl rfl) | exact .inr (.inr (by omega)))
  have hsp10_2 := hsp8_2.newB1 rp10.2 (by first | exact .inl (by omega) | exact .inr rfl | (right; simp; done) | (right; simp; omega))
  refine ⟨hsp10_2, ?_⟩
  have st10p := st10
  have kf := (rsnapF_of s.num.1 s.num.2.num.1 ow10).up (by omega : w2.heap.size ≤ _)
  obtain ⟨a10, c10, rfl, -⟩ := ow10.sl
  refine rund_ev hsp10_2 rfl (ev_build (out := [.int .i64 s.num.1, .int .i64 s.num.2.num.1, .slice a10 (takenL RS.pin s.num.2.num.2.num.1.toNat [] s.num.2.num.2.num.2).1.length c10]) ps_35 zero_35 rfl rfl (rfl)) ?_
  refine rund_doT rfl rfl (t_storeW sz_35 rfl rfl rfl rfl hb2p ((by simp))) ?_
  rintro _ v1_9 ⟨hq1_9, e1_9, z1_9⟩
  replace hb1p := e1_9.at1 hb1p (by omega)
  replace eb5p := eb5p.newB1 e1_9 (by first | exact .inl (by omega) | exact .inr rfl | exact .inr (.inl rfl) | exact .inr (.inr (by omega)))
  replace st10p := st10p.own e1_9 (fun k hk h => by rcases hk with hk | hk <;> omega)
  replace hb2p := hq1_9
  clear hq1_9
  refine rund_nil ?_
  replace hb1 := hb1p
  clear hb1p
  replace hb2 := hb2p
  clear hb2p
  replace eb5 := eb5p
  clear eb5p
  replace st10 := st10p
  clear st10p
  refine run_ret_any Tryd.func33 (resC Tryd.results33 rfl (loadVar_agg agg_35 rfl (cells_all hb2))) ?_
  exact ⟨_, rfl, (kf.keep e1_9 (fun k hk => by omega)).up (by omega), RP.of st10 eb5⟩
theorem decodedS_any (l : List UInt8) (w : World) (a : Option Addr) (n c : Nat) (hl : SlAt 1 RByte w (.slice a n c) l) (hn : l.length ≤ 1099511627776) (kind : Int) :
    Ret Tryd.prog 32 [.slice a n c, .int .i64 kind, .func (.func 33) #[] #[], .func (.func 24) #[] #[]] w fun r w' => ∃ cs, r = .tuple #[.agg ⟨cs⟩, .int .i64 (optE (decP kind (RS.snap id) isSnapP l))] ∧ RSnapF w.heap.size w' ((decP kind (RS.snap id) isSnapP l).getD SnapP.zero) cs ∧ Ext w w' := by
  have e := ExtB.refl (fun _ => False) w
  refine ret_of_run Tryd.func32 rfl Tryd.ntmps32 rfl ?_
  refine run_seq ?_
  refine run_region rfl ?_
  refine runl_op (t_alloc zero_35 rfl) ?_
  rintro _ w8 ⟨b8, rfl, hb8, e8, n8, l8⟩
  have z8 := e8.size
  replace e := e.trans e8
  refine runl_ev (ev_assign rfl) ?_
  refine runl_nil ?_
  refine run_seq ?_
  refine run_region rfl ?_
  refine runl_ev (ev_move rfl) ?_
  refine runl_op (t_call call_59 rfl (newreader_any l _ a n c (hl.ext RByte.stable e) hn)) ?_
  rintro _ w14 ⟨rb, wq, vq, rfl, eq4, st⟩
  have e14 := Ext.tr eq4 st.ext
  have hrb := st.hrb
  have zq := eq4.size
  have lrb := st.lt
  have zq2 := st.ext.size
  have z14 := e14.size
  replace e := e.trans e14
  replace hb8 := e14.at hb8
  refine runl_ev (ev_build (out := [.pointer (some ⟨rb, 0, none⟩)]) ps_79 zero_79 rfl rfl (rfl)) ?_
  refine runl_op (t_alloc zero_79 rfl) ?_
  rintro _ w10 ⟨b10, rfl, hb10, e10, n10, l10⟩
  have z10 := e10.size
  replace e := e.trans e10
  replace hb8 := e10.at hb8
  replace st := st.up e10
  refine runl_do (t_storeW sz_79 rfl rfl rfl rfl hb10 (by simp)) ?_
  rintro _ v1_4 ⟨hq1_4, e1_4, z1_4⟩
  replace e := e.new1 e1_4 (by omega)
  replace hb8 := e1_4.at1 hb8 (by omega)
  replace st := st.own e1_4 (fun k hk h => by rcases hk with hk | hk <;> omega)
  replace hb10 := hq1_4
  clear hq1_4
  refine runl_nil ?_
  refine run_seq ?_
  refine run_region rfl ?_
  refine runl_op (t_alloc zero_35 rfl) ?_
  rintro _ w11 ⟨b11, rfl, hb11, e11, n11, l11⟩
  have z11 := e11.size
  replace e := e.trans e11
  replace hb8 := e11.at hb8
  replace st := st.up e11
  replace hb10 := e11.at hb10
  refine runl_nil ?_
  refine run_seq ?_
  refine run_seq ?_
  refine run_region rfl ?_
  refine runl_ev (ev_fieldAddr fld_79_0 rfl) ?_
  refine runl_ev (ev_load1 cell_77 rfl (eqw (cell_blk hb10 rfl))) ?_
  refine runl_op (t_call call_60 rfl (rnum_any st)) ?_
  rintro _ w18 ⟨rfl, rp18⟩
  obtain ⟨v18, st18⟩ := rp18.1
  have z18 := rp18.2.size
  replace e := e.new1 rp18.2 (by omega)
  replace hb8 := rp18.2.at1 hb8 (by omega)
  replace hb10 := rp18.2.at1 hb10 (by omega)
  replace hb11 := rp18.2.at1 hb11 (by omega)
  refine runl_ev (ev_move rfl) ?_
  refine runl_ev (ev_neqI rfl rfl) ?_
  refine runl_nil ?_
  refine run_dcond rfl (fun h0 => ?_) (fun h0 => ?_)
  · have hd : decP kind (RS.snap id) isSnapP l = none := by unfold decP; rw [if_pos h0]
    rw [hd]
    refine run_seq ?_
    refine run_region rfl ?_
    refine runl_ev (ev_loadA agg_35 rfl rfl (eqw (cells_all hb11))) ?_
    refine runl_do (t_storeW sz_35 rfl rfl rfl rfl hb8 ((by first | exact rsnap_one kf24.r | simp))) ?_
    rintro _ v4_1 ⟨hq4_1, e4_1, z4_1⟩
    replace e := e.new1 e4_1 (by omega)
    replace hb10 := e4_1.at1 hb10 (by omega)
    replace hb11 := e4_1.at1 hb11 (by omega)
    replace hb8 := hq4_1
    clear hq4_1
    refine runl_ev (ev_assign rfl) ?_
    refine runl_nil ?_
    refine run_ret_any Tryd.func32 (resCT Tryd.results32 rfl (loadVar_agg agg_35 rfl (cells_all hb8)) rfl) ?_
    exact ⟨_, rfl, snapZ_any _ _, e⟩
  · refine run_skip ?_
    refine run_seq ?_
    refine run_region rfl ?_
    refine runl_ev (ev_move rfl) ?_
    refine runl_ev (ev_loadA agg_79 rfl rfl (eqw (cells_all hb10))) ?_
    refine runl_op (t_callv call_33 rfl rfl (rdsnap_any st18)) ?_
    rintro _ w24 h24
    generalize htt : (RS.snap id) (RS.mk l false).num.2 = tt at h24
    obtain ⟨c24, rfl, kf24, rp24⟩ := h24
    obtain ⟨v24, st24⟩ := rp24.1
    have hc24 := rsnap_len kf24.r
    have x24 : ExtB (fun k => k = b8) w24 w24 := ExtB.refl _ _
    have z24 := rp24.2.size
    replace e := e.new1 rp24.2 (by omega)
    replace hb8 := rp24.2.at1 hb8 (by omega)
    replace hb10 := rp24.2.at1 hb10 (by omega)
    replace hb11 := rp24.2.at1 hb11 (by omega)
    refine runl_op (t_alloc zero_35 rfl) ?_
    rintro _ w12 ⟨b12, rfl, hb12, e12, n12, l12⟩
    have z12 := e12.size
    replace e := e.trans e12
    replace hb8 := e12.at hb8
    replace hb10 := e12.at hb10
    replace hb11 := e12.at hb11
    replace st24 := st24.up e12
    replace x24 := x24.trans e12.toB
    refine runl_do (t_storeW sz_35 rfl rfl hc24 rfl hb12 ((by first | exact rsnap_one kf24.r | simp))) ?_
    rintro _ v5_4 ⟨hq5_4, e5_4, z5_4⟩
    replace e := e.new1 e5_4 (by omega)
    replace hb8 := e5_4.at1 hb8 (by omega)
    replace hb10 := e5_4.at1 hb10 (by omega)
    replace hb11 := e5_4.at1 hb11 (by omega)
    replace st24 := st24.own e5_4 (fun k hk h => by rcases hk with hk | hk <;> omega)
    replace x24 := x24.newB1 e5_4 (by first | exact .inl (by omega) | exact .inr rfl | exact .inr (.inl rfl) | exact .inr (.inr (by omega)))
    replace hb12 := hq5_4
    clear hq5_4
    refine runl_nil ?_
    refine run_seq ?_
    refine run_seq ?_
    refine run_region rfl ?_
    refine runl_ev (ev_fieldAddr fld_79_0 rfl) ?_
    refine runl_ev (ev_load1 cell_77 rfl (eqw (cell_blk hb10 rfl))) ?_
    refine runl_op (t_call call_61 rfl (rwhole_any st24)) ?_
    rintro _ w27 ⟨rfl, e27⟩
    have z27 := e27.size
    replace e := e.trans e27
    replace hb8 := e27.at hb8
    replace hb10 := e27.at hb10
    replace hb11 := e27.at hb11
    replace st24 := st24.up e27
    replace x24 := x24.trans e27.toB
    replace hb12 := e27.at hb12
    cases hw : tt.2.whole
    · refine runl_ev (ev_not rfl) ?_
      refine runl_ev (ev_move rfl) ?_
      refine runl_no_g rfl rfl (rfl) ?_
      refine runl_no_g rfl rfl (rfl) ?_
      refine runl_no_g rfl rfl (rfl) ?_
      refine runl_no_g rfl rfl (rfl) ?_
      refine runl_ev (ev_pick rfl rfl rfl (if_pos (rfl))) ?_
      refine runl_nil ?_
      refine run_cond_true rfl (rfl) ?_
      have hd : decP kind (RS.snap id) isSnapP l = none := by unfold decP; rw [if_neg h0, htt, if_neg (by rw [hw]; simp)]
      rw [hd]
      refine run_seq ?_
      refine run_region rfl ?_
      refine runl_ev (ev_loadA agg_35 rfl rfl (eqw (cells_all hb11))) ?_
      refine runl_do (t_storeW sz_35 rfl rfl rfl rfl hb8 ((by first | exact rsnap_one kf24.r | simp))) ?_
      rintro _ v7_1 ⟨hq7_1, e7_1, z7_1⟩
      replace e := e.new1 e7_1 (by omega)
      replace hb10 := e7_1.at1 hb10 (by omega)
      replace hb11 := e7_1.at1 hb11 (by omega)
      replace x24 := x24.newB1 e7_1 (by first | exact .inl (by omega) | exact .inr rfl | exact .inr (.inl rfl) | exact .inr (.inr (by omega)))
      replace hb12 := e7_1.at1 hb12 (by omega)
      replace hb8 := hq7_1
      clear hq7_1
      refine runl_ev (ev_assign rfl) ?_
      refine runl_nil ?_
      refine run_ret_any Tryd.func32 (resCT Tryd.results32 rfl (loadVar_agg agg_35 rfl (cells_all hb8)) rfl) ?_
      exact ⟨_, rfl, snapZ_any _ _, e⟩
    · refine runl_ev (ev_not rfl) ?_
      refine runl_ev (ev_move rfl) ?_
      refine runl_ev_g rfl rfl (rfl) (ev_move rfl) ?_
      refine runl_ev_g rfl rfl (rfl) (ev_loadA agg_35 hc24 rfl (eqw (cells_all hb12))) ?_
      refine runl_op_g rfl rfl (rfl) (t_callv call_24 rfl rfl (issnap_any _ _ _ (kf24.keep x24 (fun k hk => by omega)).r (by have := snap_cnt (RS.mk l false).num.2; have h2 := num_used (RS.mk l false); rw [htt] at this; simp only at h2; omega))) ?_
      rintro _ w32 ⟨rfl, e32⟩
      have z32 := e32.size
      replace e := e.trans e32
      replace hb8 := e32.at hb8
      replace hb10 := e32.at hb10
      replace hb11 := e32.at hb11
      replace x24 := x24.trans e32.toB
      replace hb12 := e32.at hb12
      refine runl_ev_g rfl rfl (rfl) (ev_not rfl) ?_
      refine runl_ev (ev_pick rfl rfl rfl (if_neg (by simp))) ?_
      refine runl_nil ?_
      refine run_cond_split rfl (fun h1 => ?_) (fun h1 => ?_)
      · have hm : isSnapP tt.1 = false := by simpa using h1
        have hd : decP kind (RS.snap id) isSnapP l = none := by unfold decP; rw [if_neg h0, htt, if_neg (by rw [hm]; simp)]
        rw [hd]
        refine run_seq ?_
        refine run_region rfl ?_
        refine runl_ev (ev_loadA agg_35 rfl rfl (eqw (cells_all hb11))) ?_
        refine runl_do (t_storeW sz_35 rfl rfl rfl rfl hb8 ((by first | exact rsnap_one kf24.r | simp))) ?_
        rintro _ v7_1 ⟨hq7_1, e7_1, z7_1⟩
        replace e := e.new1 e7_1 (by omega)
        replace hb10 := e7_1.at1 hb10 (by omega)
        replace hb11 := e7_1.at1 hb11 (by omega)
        replace x24 := x24.newB1 e7_1 (by first | exact .inl (by omega) | exact .inr rfl | exact .inr (.inl rfl) | exact .inr (.inr (by omega)))
        replace hb12 := e7_1.at1 hb12 (by omega)
        replace hb8 := hq7_1
        clear hq7_1
        refine runl_ev (ev_assign rfl) ?_
        refine runl_nil ?_
        refine run_ret_any Tryd.func32 (resCT Tryd.results32 rfl (loadVar_agg agg_35 rfl (cells_all hb8)) rfl) ?_
        exact ⟨_, rfl, snapZ_any _ _, e⟩
      · have hm : isSnapP tt.1 = true := by simpa using h1
        have hd : decP kind (RS.snap id) isSnapP l = some tt.1 := by unfold decP; rw [if_neg h0, htt, if_pos (by rw [hw, hm]; rfl)]
        rw [hd]
        refine run_skip ?_
        refine run_seq ?_
        refine run_region rfl ?_
        refine runl_ev (ev_loadA agg_35 hc24 rfl (eqw (cells_all hb12))) ?_
        refine runl_do (t_storeW sz_35 rfl rfl hc24 rfl hb8 ((by first | exact rsnap_one kf24.r | simp))) ?_
        rintro _ v8_1 ⟨hq8_1, e8_1, z8_1⟩
        replace e := e.new1 e8_1 (by omega)
        replace hb10 := e8_1.at1 hb10 (by omega)
        replace hb11 := e8_1.at1 hb11 (by omega)
        replace x24 := x24.newB1 e8_1 (by first | exact .inl (by omega) | exact .inr rfl | exact .inr (.inl rfl) | exact .inr (.inr (by omega)))
        replace hb12 := e8_1.at1 hb12 (by omega)
        replace hb8 := hq8_1
        clear hq8_1
        refine runl_ev (ev_assign rfl) ?_
        refine runl_nil ?_
        refine run_ret_any Tryd.func32 (resCT Tryd.results32 rfl (loadVar_agg agg_35 hc24 (cells_all hb8)) rfl) ?_
        exact ⟨_, rfl, (kf24.keep x24 (fun k hk => by omega)).up (by omega), e⟩
theorem decsnap_any (l : List UInt8) (w : World) (a : Option Addr) (n c : Nat) (hl : SlAt 1 RByte w (.slice a n c) l) (hn : l.length ≤ 1099511627776) :
    Ret Tryd.prog 12 [.slice a n c] w fun r w' => ∃ cs, r = .tuple #[.agg ⟨cs⟩, .int .i64 (optE (decP 3 (RS.snap id) isSnapP l))] ∧ RSnapF w.heap.size w' ((decP 3 (RS.snap id) isSnapP l).getD SnapP.zero) cs ∧ Ext w w' := by
  have e := ExtB.refl (fun _ => False) w
  refine ret_of_run Tryd.func12 rfl Tryd.ntmps12 rfl ?_
  refine run_seq ?_
  refine run_region rfl ?_
  refine runl_op (t_alloc zero_35 rfl) ?_
  rintro _ w2 ⟨b2, rfl, hb2, e2, n2, l2⟩
  have z2 := e2.size
  replace e := e.trans e2
  refine runl_ev (ev_assign rfl) ?_
  refine runl_nil ?_
  refine run_seq ?_
  refine run_region rfl ?_
  refine runl_ev (ev_move rfl) ?_
  refine runl_op (t_call call_32 rfl (decodedS_any l _ a n c (hl.ext RByte.stable e) hn 3)) ?_
  rintro _ w5 ⟨c5, rfl, kf5, e5⟩
  have hc5 := rsnap_len kf5.r
  have z5 := e5.size
  replace e := e.trans e5
  replace hb2 := e5.at hb2
  refine runl_ev (ev_extract rfl rfl) ?_
  refine runl_ev (ev_extract rfl rfl) ?_
  refine runl_do (t_storeW sz_35 rfl rfl hc5 rfl hb2 (rsnap_one kf5.r)) ?_
  rintro _ v1_4 ⟨hq1_4, e1_4, z1_4⟩
  replace e := e.new1 e1_4 (by omega)
  replace hb2 := hq1_4
  clear hq1_4
  refine runl_ev (ev_assign rfl) ?_
  refine runl_nil ?_
  refine run_ret_any Tryd.func12 (resCT Tryd.results12 rfl (loadVar_agg agg_35 hc5 (cells_all hb2)) rfl) ?_
  exact ⟨_, rfl, (kf5.keep e1_4 (fun k hk => by omega)).up (by omega), e⟩
end Go.Proofs.YtcmbiaibocdfeaaDoor
