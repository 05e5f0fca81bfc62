/- The walks of what decodes snapshots in the reference, and of the law on snapshots. -/
import Derived.Test.YtcmbiaibocdfeaaDoorWireS2
import Derived.Test.YtcmbiaibocdfeaaDoorWireS3
import Derived.Test.YtcmbiaibocdfeaaDoorWire9
namespace Go.Proofs.YtcmbiaibocdfeaaDoor
open Go Go.Fw
set_option maxRecDepth 100000
theorem eqPin (p : PinP) : EqV Tryd.prog 10000 38 (.agg ⟨[.string p.name, .int .i64 p.ver]⟩) (.agg ⟨[.string p.name, .int .i64 p.ver]⟩) true := by
  have h := eqv_struct (d := 9999) (xs := [.string p.name, .int .i64 p.ver]) (ys := [.string p.name, .int .i64 p.ver]) Tryd.underlying38 st_38
    (eqf_cons rfl (part1 cell_9 rfl) (part1 cell_9 rfl) (eqv_string Tryd.underlying9)
    (eqf_cons rfl (part1 cell_3 rfl) (part1 cell_3 rfl) (eqv_int Tryd.underlying3) eqf_nil))
  simpa using h

theorem qbytes_any {s : RS} {w0 w : World} {rb : Nat} {v : Value} {T : TypeId} (st : RSt T w0 w rb v s) (hok : s.ok) : Ret Tryd.prog 66 [.pointer (some ⟨rb, 0, none⟩)] w fun r w' => OwnG 5 1 RByte w s.bytes.1 r w' ∧ RP T w0 w rb s.bytes.2 w' := by
  have e := ExtB.refl (fun _ => False) w
  have lrb := st.lt
  have zst := st.ext.size
  have hrb := st.hrb
  have hlen := st.len
  refine ret_of_run Tryd.func66 rfl Tryd.ntmps66 rfl ?_
  refine run_seq ?_
  refine run_region rfl ?_
  refine runl_ev (ev_assign rfl) ?_
  refine runl_nil ?_
  refine run_seq ?_
  refine run_region rfl ?_
  refine runl_ev (ev_move rfl) ?_
  refine runl_op (t_call call_35 rfl (qnum_any (st.up e) hok)) ?_
  rintro _ w5 ⟨rfl, rp5⟩
  have rq5 := RP.from e rp5
  obtain ⟨v5, st5⟩ := rq5.1
  have eb := rq5.2
  have hr5 := st5.hr
  have z5 := rp5.2.size
  refine runl_ev (ev_assign rfl) ?_
  refine runl_nil ?_
  refine run_seq ?_
  refine run_seq ?_
  refine run_region rfl ?_
  refine runl_ev (ev_move rfl) ?_
  refine runl_ev (ev_nilCheck rfl) ?_
  refine runl_ev (ev_fieldAddr fld_84_1 rfl) ?_
  refine runl_ev (ev_load1 cell_4 rfl (eqw (cell_blk hr5 rfl))) ?_
  refine runl_nil ?_
  refine run_cond_split rfl (fun h0 => ?_) (fun h0 => ?_)
  · rw [bytes_bad hok h0]
    refine run_seq ?_
    refine run_region rfl ?_
    refine runl_ev (ev_assign rfl) ?_
    refine runl_nil ?_
    refine run_ret_any Tryd.func66 (res1 Tryd.results66 rfl) ?_
    exact ⟨OwnG.nil _ _, RP.of st5 eb⟩
  · refine run_skip ?_
    refine run_seq ?_
    refine run_region rfl ?_
    refine runl_ev (ev_move rfl) ?_
    refine runl_ev (ev_move rfl) ?_
    refine runl_op (t_call call_65 rfl (qraw_any st5 (ok_num hok) s.num.1)) ?_
    rintro r12 w12 ⟨ow12, rp12⟩
    have z12 := rp12.2.size
    have eb2 := eb.trans rp12.2
    refine runl_ev (ev_assign rfl) ?_
    refine runl_nil ?_
    refine run_ret_any Tryd.func66 (res1 Tryd.results66 rfl) ?_
    exact ⟨ow12.from (by omega), ⟨rp12.1, eb2⟩⟩
theorem qrdtext_any {s : RS} {w0 w : World} {rb : Nat} {v : Value} {T : TypeId} (st : RSt T w0 w rb v s) (hok : s.ok) : Ret Tryd.prog 36 [.pointer (some ⟨rb, 0, none⟩)] w fun r w' => r = .string s.text.1 ∧ RP T w0 w rb s.text.2 w' := by
  have e := ExtB.refl (fun _ => False) w
  have lrb := st.lt
  have zst := st.ext.size
  have hrb := st.hrb
  have hlen := st.len
  refine ret_of_run Tryd.func36 rfl Tryd.ntmps36 rfl ?_
  refine run_seq ?_
  refine run_region rfl ?_
  refine runl_ev (ev_assign rfl) ?_
  refine runl_nil ?_
  refine run_seq ?_
  refine run_region rfl ?_
  refine runl_ev (ev_move rfl) ?_
  refine runl_op (t_call call_66 rfl (qbytes_any (st.up e) hok)) ?_
  rintro r4 w4 ⟨og4, rp4⟩
  have rq4 := RP.from e rp4
  obtain ⟨a4, c4, rfl, -⟩ := og4.sl
  have z4 := rp4.2.size
  refine runl_ev (ev_convB (s.bytes.1) Tryd.underlying24 Tryd.underlying5 Tryd.underlying9 rfl (eqw (og4.slat))) ?_
  refine runl_ev (ev_assign rfl) ?_
  refine runl_nil ?_
  refine run_ret_any Tryd.func36 (res1 Tryd.results36 rfl) ?_
  exact ⟨rfl, rq4⟩
theorem qdecsnap_any (l : List UInt8) (w : World) (a : Option Addr) (n c : Nat) (hl : SlAt 1 RByte w (.slice a n c) l) (hc : l.length ≤ c) (hn : l.length ≤ 1099511627776) :
    Ret Tryd.prog 13 [.slice a n c] w fun r w' => ∃ cs, r = .tuple #[.agg ⟨cs⟩, .int .i64 (optE (decR 3 (RS.snap (min 17)) isSnapP (fun x => encN 3 ++ encSnap x) l))] ∧ RSnapF w.heap.size w' ((decR 3 (RS.snap (min 17)) isSnapP (fun x => encN 3 ++ encSnap x) l).getD .zero) cs ∧ Ext w w' := by
  have e := ExtB.refl (fun _ => False) w
  have hl0 := hl
  obtain ⟨rfl, -⟩ := hl.at
  obtain ⟨tq, htq⟩ : ∃ p, p = takenL RS.pin (min 17 (kindS 3 l).num.2.num.2.num.1.toNat) [] (kindS 3 l).num.2.num.2.num.2 := ⟨_, rfl⟩
  have hn0 := num_nonneg (kindS 3 l).num.2.num.2
  have hn1 := num_le (kindS 3 l).num.2.num.2
  obtain ⟨N, hN⟩ : ∃ N, N = (kindS 3 l).num.2.num.2.num.1 := ⟨_, rfl⟩
  rw [← hN] at htq hn0 hn1
  have hkok := ok_kind 3 l
  refine ret_of_run Tryd.func13 rfl Tryd.ntmps13 rfl ?_
  refine run_seq ?_
  refine run_region rfl ?_
  refine runl_op (t_alloc zero_35 rfl) ?_
  rintro _ w2 ⟨b2, rfl, hb2, e2, n2, l2⟩
  have z2 := e2.size
  replace e := e.trans e2
  refine runl_ev (ev_assign rfl) ?_
  refine runl_nil ?_
  refine run_seq ?_
  refine run_region rfl ?_
  refine runl_ev (ev_move rfl) ?_
  refine runl_op (t_call call_34 rfl (qreader_any l _ a _ c (hl0.ext RByte.stable e) hc hn 3)) ?_
  rintro _ w12 ⟨rb, v12, rfl, st⟩
  have e12 := st.ext
  have hrb := st.hrb
  have lrb := st.lt
  have z12 := e12.size
  replace e := e.trans e12
  replace hb2 := e12.at hb2
  refine runl_ev (ev_assign rfl) ?_
  refine runl_nil ?_
  refine run_seq ?_
  refine run_region rfl ?_
  refine runl_op (t_alloc zero_35 rfl) ?_
  rintro _ w5 ⟨b5, rfl, hb5, e5, n5, l5⟩
  have z5 := e5.size
  replace e := e.trans e5
  replace hb2 := e5.at hb2
  replace st := st.up e5
  refine runl_nil ?_
  refine run_seq ?_
  refine run_region rfl ?_
  refine runl_ev (ev_move rfl) ?_
  refine runl_op (t_call call_35 rfl (qnum_any st hkok)) ?_
  rintro _ w14 ⟨rfl, rp14⟩
  obtain ⟨v14, st14⟩ := rp14.1
  have z14 := rp14.2.size
  replace e := e.new1 rp14.2 (by omega)
  replace hb2 := rp14.2.at1 hb2 (by omega)
  replace hb5 := rp14.2.at1 hb5 (by omega)
  refine runl_ev (ev_fieldAddr fld_35_0 rfl) ?_
  refine runl_do (t_store1 sz_3 rfl rfl rfl rfl hb5 (by simp)) ?_
  rintro _ v3_3 ⟨hq3_3, e3_3, z3_3⟩
  replace e := e.new1 e3_3 (by omega)
  replace hb2 := e3_3.at1 hb2 (by omega)
  replace st14 := st14.own e3_3 (fun k hk h => by rcases hk with hk | hk <;> omega)
  replace hb5 := hq3_3
  clear hq3_3
  refine runl_nil ?_
  refine run_seq ?_
  refine run_region rfl ?_
  refine runl_ev (ev_move rfl) ?_
  refine runl_op (t_call call_35 rfl (qnum_any st14 (ok_num hkok))) ?_
  rintro _ w17 ⟨rfl, rp17⟩
  obtain ⟨v17, st17⟩ := rp17.1
  have z17 := rp17.2.size
  replace e := e.new1 rp17.2 (by omega)
  replace hb2 := rp17.2.at1 hb2 (by omega)
  replace hb5 := rp17.2.at1 hb5 (by omega)
  refine runl_ev (ev_fieldAddr fld_35_1 rfl) ?_
  refine runl_do (t_store1 sz_3 rfl rfl rfl rfl hb5 (by simp)) ?_
  rintro _ v4_3 ⟨hq4_3, e4_3, z4_3⟩
  replace e := e.new1 e4_3 (by omega)
  replace hb2 := e4_3.at1 hb2 (by omega)
  replace st17 := st17.own e4_3 (fun k hk h => by rcases hk with hk | hk <;> omega)
  replace hb5 := hq4_3
  clear hq4_3
  refine runl_nil ?_
  refine run_seq ?_
  refine run_region rfl ?_
  refine runl_ev (ev_move rfl) ?_
  refine runl_op (t_call call_35 rfl (qnum_any st17 (ok_num (ok_num hkok)))) ?_
  rintro _ w20 ⟨rfl, rp20⟩
  obtain ⟨v20, st20⟩ := rp20.1
  rw [← hN]
  have z20 := rp20.2.size
  replace e := e.new1 rp20.2 (by omega)
  replace hb2 := rp20.2.at1 hb2 (by omega)
  replace hb5 := rp20.2.at1 hb5 (by omega)
  refine runl_ev (ev_assign rfl) ?_
  refine runl_nil ?_
  refine run_seq ?_
  refine run_seq ?_
  refine run_region rfl ?_
  refine runl_ev (ev_assign rfl) ?_
  refine runl_nil ?_
  refine run_block ?_
  refine run_loop (ι := Nat × List PinP × RS × Value × Value) (fun x => [(0, .slice a l.length c), (2, .pointer (some ⟨b2, 0, none⟩)), (4, .pointer (some ⟨rb, 0, none⟩)), (5, .pointer (some ⟨b5, 0, none⟩)), (6, .int .i64 N), (7, .int .i64 (x.1 : Int))]) (fun x w1 => x.1 ≤ 17 ∧ (x.1 : Int) ≤ N ∧ x.2.1.length = x.1 ∧ takenL RS.pin (min 17 N.toNat - x.1) x.2.1 x.2.2.1 = tq ∧ x.2.2.1.ok ∧ OwnG 38 2 RPin w5 x.2.1 x.2.2.2.1 w1 ∧ RSt 84 w2 w1 rb x.2.2.2.2 x.2.2.1 ∧ Ext w w1 ∧ w1.heap[b5]? = some (.cells ⟨[.int .i64 (kindS 3 l).num.1, .int .i64 (kindS 3 l).num.2.num.1, x.2.2.2.1]⟩ 35 (0, 0)) ∧ w1.heap[b2]? = some (.cells ⟨snapZ⟩ 35 (0, 0)) ∧ w5.heap.size ≤ w1.heap.size ∧ ∀ p ∈ x.2.1, p.name.size ≤ 1099511627776) (fun x => 17 - x.1) ((0, [], (kindS 3 l).num.2.num.2.num.2, .slice none 0 0, v20)) ⟨rfl, rfl, rfl, rfl, rfl, rfl, trivial⟩ (⟨Nat.zero_le _, hn0, rfl, htq.symm, ok_num (ok_num (ok_num hkok)), OwnG.nil _ _, st20, e, hb5, hb2, by omega, fun p hp => by cases hp⟩) ?_
  clear hb2 hb5 st20 e
  intro ⟨i, acc, s1, vl, v1⟩ w1 ⟨hi, hin, hal, htk, hok1, ow, st1, e, hb5, hb2, hz5, hnb⟩ IH
  simp only at hi hin hal htk hok1 ow st1 hb5 hnb
  have hr1 := st1.hr
  have lb5 := lt_of_at hb5
  have lb2 := lt_of_at hb2
  have ze := e.size
  obtain ⟨xs, g, own, hpp, hxl, hg, hgl⟩ := ow.open
  obtain ⟨al, cl, rfl⟩ := own.shape
  refine run_seq ?_
  refine run_seq ?_
  have hcs : N ≤ (i : Int) ∨ ((i : Int) < N ∧ s1.bad = true) ∨ ((i : Int) < N ∧ s1.bad = false ∧ i = 17) ∨ ((i : Int) < N ∧ s1.bad = false ∧ i ≤ 16) := by
    cases s1.bad <;> simp <;> omega
  rcases hcs with h1 | ⟨h1, h2⟩ | ⟨h1, h2, rfl⟩ | ⟨h1, h2, h3⟩
  · have hfin : (acc, s1) = tq := by rw [← htk, show min 17 N.toNat - i = 0 by omega]; rfl
    refine run_region rfl ?_
    refine runl_ev (ev_move rfl) ?_
    refine runl_ev (ev_move rfl) ?_
    refine runl_ev (ev_lss rfl rfl) ?_
    refine runl_ev (ev_move rfl) ?_
    refine runl_no_g rfl rfl (decide_eq_false (by omega)) ?_
    refine runl_no_g rfl rfl (decide_eq_false (by omega)) ?_
    refine runl_no_g rfl rfl (decide_eq_false (by omega)) ?_
    refine runl_no_g rfl rfl (decide_eq_false (by omega)) ?_
    refine runl_no_g rfl rfl (decide_eq_false (by omega)) ?_
    refine runl_ev (ev_pick rfl rfl rfl (if_neg (by simp; omega))) ?_
    refine runl_ev (ev_move rfl) ?_
    refine runl_no_g rfl rfl (rfl) ?_
    refine runl_no_g rfl rfl (rfl) ?_
    refine runl_ev (ev_pick rfl rfl rfl (if_neg (by simp))) ?_
    refine runl_nil ?_
    refine run_cond_false rfl (rfl) ?_
    refine run_exit rfl ?_
    refine run_seq ?_
    have hen : RS.snap (min 17) (kindS 3 l) = (⟨(kindS 3 l).num.1, (kindS 3 l).num.2.num.1, acc⟩, s1) := by unfold RS.snap; rw [← hN, ← htq, ← hfin]
    have hF := rsnapF_of (kindS 3 l).num.1 (kindS 3 l).num.2.num.1 ow
    have xx : ExtB (fun k => k = b2) w1 w1 := ExtB.refl _ _
    refine run_region rfl ?_
    refine runl_ev (ev_loadA agg_35 rfl rfl (eqw (cells_all hb5))) ?_
    refine runl_op (t_call call_11 rfl (rencsnap_any _ _ _ hF.r (by show acc.length ≤ _; omega) hnb)) ?_
    rintro _ w51 ⟨p51, rfl, o51⟩
    have e51 := o51.ext
    obtain ⟨a51, c51, rfl, hc51, sl51⟩ := o51.sl
    have x51 := ExtB.refl (fun _ => False) w51
    have z51 := e51.size
    replace hb2 := e51.at hb2
    replace hb5 := e51.at hb5
    replace st1 := st1.up e51
    replace e := e.trans e51
    replace xx := xx.trans e51.toB
    refine runl_ev (ev_move rfl) ?_
    refine runl_ev (ev_extract rfl rfl) ?_
    refine runl_ev (ev_extract rfl rfl) ?_
    refine runl_ev (ev_assign rfl) ?_
    refine runl_ev (ev_assign rfl) ?_
    refine runl_nil ?_
    refine run_seq ?_
    refine run_seq ?_
    refine run_region rfl ?_
    refine runl_ev (ev_move rfl) ?_
    refine runl_ev (ev_move rfl) ?_
    refine runl_ev (ev_move rfl) ?_
    refine runl_ev (ev_move rfl) ?_
    refine runl_op (t_call call_37 rfl (qjust_any st1 l (encP 3 isSnapP encSnap ⟨(kindS 3 l).num.1, (kindS 3 l).num.2.num.1, acc⟩) _ a a51 _ c _ c51 (hl0.ext RByte.stable e) (sl51.ext RByte.stable x51))) ?_
    rintro _ w58 ⟨rfl, e58⟩
    have z58 := e58.size
    replace hb2 := e58.at hb2
    replace hb5 := e58.at hb5
    replace st1 := st1.up e58
    replace e := e.trans e58
    replace xx := xx.trans e58.toB
    replace x51 := x51.trans e58
    have hj := just_eq 3 isSnapP encSnap ⟨(kindS 3 l).num.1, (kindS 3 l).num.2.num.1, acc⟩ l s1.whole
    refine runl_ev (ev_not rfl) ?_
    refine runl_nil ?_
    refine run_cond_split rfl (fun h1 => ?_) (fun h1 => ?_)
    · have hd : decR 3 (RS.snap (min 17)) isSnapP (fun x => encN 3 ++ encSnap x) l = none := by unfold decR; rw [hen, if_neg]; rw [← hj]; intro hh; rw [hh] at h1; cases h1
      rw [hd]
      refine run_seq ?_
      refine run_region rfl ?_
      refine runl_ev (ev_build (out := snapZ) ps_35 zero_35 rfl rfl (rfl)) ?_
      refine runl_do (t_storeW sz_35 rfl rfl rfl rfl hb2 ((by simp [snapZ]))) ?_
      rintro _ v14_1 ⟨hq14_1, e14_1, z14_1⟩
      replace hb5 := e14_1.at1 hb5 (by omega)
      replace e := e.new1 e14_1 (by omega)
      replace xx := xx.newB1 e14_1 (by first | exact .inl (by omega) | exact .inr rfl | exact .inr (.inl rfl) | exact .inr (.inr (by omega)))
      replace hb2 := hq14_1
      clear hq14_1
      refine runl_ev (ev_assign rfl) ?_
      refine runl_nil ?_
      refine run_ret_any Tryd.func13 (resCT Tryd.results13 rfl (loadVar_agg agg_35 rfl (cells_all hb2)) rfl) ?_
      first
        | exact ⟨_, rfl, snapZ_any _ _, e⟩
        | exact ⟨_, rfl, (hF.keep xx (fun k hk => by omega)).up (by omega), e⟩
    · have hd : decR 3 (RS.snap (min 17)) isSnapP (fun x => encN 3 ++ encSnap x) l = some ⟨(kindS 3 l).num.1, (kindS 3 l).num.2.num.1, acc⟩ := by unfold decR; rw [hen, if_pos]; rw [← hj]; exact of_not h1
      rw [hd]
      refine run_skip ?_
      refine run_seq ?_
      refine run_region rfl ?_
      refine runl_ev (ev_loadA agg_35 rfl rfl (eqw (cells_all hb5))) ?_
      refine runl_do (t_storeW sz_35 rfl rfl rfl rfl hb2 ((by simp))) ?_
      rintro _ v15_1 ⟨hq15_1, e15_1, z15_1⟩
      replace hb5 := e15_1.at1 hb5 (by omega)
      replace e := e.new1 e15_1 (by omega)
      replace xx := xx.newB1 e15_1 (by first | exact .inl (by omega) | exact .inr rfl | exact .inr (.inl rfl) | exact .inr (.inr (by omega)))
      replace hb2 := hq15_1
      clear hq15_1
      refine runl_ev (ev_assign rfl) ?_
      refine runl_nil ?_
      refine run_ret_any Tryd.func13 (resCT Tryd.results13 rfl (loadVar_agg agg_35 rfl (cells_all hb2)) rfl) ?_
      first
        | exact ⟨_, rfl, snapZ_any _ _, e⟩
        | exact ⟨_, rfl, (hF.keep xx (fun k hk => by omega)).up (by omega), e⟩
  · have hfin : (acc, s1) = tq := by rw [← htk]; cases min 17 N.toNat - i <;> simp [takenL, h2]
    refine run_region rfl ?_
    refine runl_ev (ev_move rfl) ?_
    refine runl_ev (ev_move rfl) ?_
    refine runl_ev (ev_lss rfl rfl) ?_
    refine runl_ev (ev_move rfl) ?_
    refine runl_ev_g rfl rfl (decide_eq_true (by omega)) (ev_move rfl) ?_
    refine runl_ev_g rfl rfl (decide_eq_true (by omega)) (ev_nilCheck rfl) ?_
    refine runl_ev_g rfl rfl (decide_eq_true (by omega)) (ev_fieldAddr fld_84_1 rfl) ?_
    refine runl_ev_g rfl rfl (decide_eq_true (by omega)) (ev_load1 cell_4 rfl (eqw (cell_blk hr1 rfl))) ?_
    refine runl_ev_g rfl rfl (decide_eq_true (by omega)) (ev_not rfl) ?_
    refine runl_ev (ev_pick rfl rfl rfl (if_pos (decide_eq_true (by omega)))) ?_
    refine runl_ev (ev_move rfl) ?_
    refine runl_no_g rfl rfl (by rw [h2]) ?_
    refine runl_no_g rfl rfl (by rw [h2]) ?_
    refine runl_ev (ev_pick rfl rfl rfl (if_neg (by rw [h2]; simp))) ?_
    refine runl_nil ?_
    refine run_cond_false rfl (rfl) ?_
    refine run_exit rfl ?_
    refine run_seq ?_
    have hen : RS.snap (min 17) (kindS 3 l) = (⟨(kindS 3 l).num.1, (kindS 3 l).num.2.num.1, acc⟩, s1) := by unfold RS.snap; rw [← hN, ← htq, ← hfin]
    have hF := rsnapF_of (kindS 3 l).num.1 (kindS 3 l).num.2.num.1 ow
    have xx : ExtB (fun k => k = b2) w1 w1 := ExtB.refl _ _
    refine run_region rfl ?_
    refine runl_ev (ev_loadA agg_35 rfl rfl (eqw (cells_all hb5))) ?_
    refine runl_op (t_call call_11 rfl (rencsnap_any _ _ _ hF.r (by show acc.length ≤ _; omega) hnb)) ?_
    rintro _ w51 ⟨p51, rfl, o51⟩
    have e51 := o51.ext
    obtain ⟨a51, c51, rfl, hc51, sl51⟩ := o51.sl
    have x51 := ExtB.refl (fun _ => False) w51
    have z51 := e51.size
    replace hb2 := e51.at hb2
    replace hb5 := e51.at hb5
    replace st1 := st1.up e51
    replace e := e.trans e51
    replace xx := xx.trans e51.toB
    refine runl_ev (ev_move rfl) ?_
    refine runl_ev (ev_extract rfl rfl) ?_
    refine runl_ev (ev_extract rfl rfl) ?_
    refine runl_ev (ev_assign rfl) ?_
    refine runl_ev (ev_assign rfl) ?_
    refine runl_nil ?_
    refine run_seq ?_
    refine run_seq ?_
    refine run_region rfl ?_
    refine runl_ev (ev_move rfl) ?_
    refine runl_ev (ev_move rfl) ?_
    refine runl_ev (ev_move rfl) ?_
    refine runl_ev (ev_move rfl) ?_
    refine runl_op (t_call call_37 rfl (qjust_any st1 l (encP 3 isSnapP encSnap ⟨(kindS 3 l).num.1, (kindS 3 l).num.2.num.1, acc⟩) _ a a51 _ c _ c51 (hl0.ext RByte.stable e) (sl51.ext RByte.stable x51))) ?_
    rintro _ w58 ⟨rfl, e58⟩
    have z58 := e58.size
    replace hb2 := e58.at hb2
    replace hb5 := e58.at hb5
    replace st1 := st1.up e58
    replace e := e.trans e58
    replace xx := xx.trans e58.toB
    replace x51 := x51.trans e58
    have hj := just_eq 3 isSnapP encSnap ⟨(kindS 3 l).num.1, (kindS 3 l).num.2.num.1, acc⟩ l s1.whole
    refine runl_ev (ev_not rfl) ?_
    refine runl_nil ?_
    refine run_cond_split rfl (fun h1 => ?_) (fun h1 => ?_)
    · have hd : decR 3 (RS.snap (min 17)) isSnapP (fun x => encN 3 ++ encSnap x) l = none := by unfold decR; rw [hen, if_neg]; rw [← hj]; intro hh; rw [hh] at h1; cases h1
      rw [hd]
      refine run_seq ?_
      refine run_region rfl ?_
      refine runl_ev (ev_build (out := snapZ) ps_35 zero_35 rfl rfl (rfl)) ?_
      refine runl_do (t_storeW sz_35 rfl rfl rfl rfl hb2 ((by simp [snapZ]))) ?_
      rintro _ v14_1 ⟨hq14_1, e14_1, z14_1⟩
      replace hb5 := e14_1.at1 hb5 (by omega)
      replace e := e.new1 e14_1 (by omega)
      replace xx := xx.newB1 e14_1 (by first | exact .inl (by omega) | exact .inr rfl | exact .inr (.inl rfl) | exact .inr (.inr (by omega)))
      replace hb2 := hq14_1
      clear hq14_1
      refine runl_ev (ev_assign rfl) ?_
      refine runl_nil ?_
      refine run_ret_any Tryd.func13 (resCT Tryd.results13 rfl (loadVar_agg agg_35 rfl (cells_all hb2)) rfl) ?_
      first
        | exact ⟨_, rfl, snapZ_any _ _, e⟩
        | exact ⟨_, rfl, (hF.keep xx (fun k hk => by omega)).up (by omega), e⟩
    · have hd : decR 3 (RS.snap (min 17)) isSnapP (fun x => encN 3 ++ encSnap x) l = some ⟨(kindS 3 l).num.1, (kindS 3 l).num.2.num.1, acc⟩ := by unfold decR; rw [hen, if_pos]; rw [← hj]; exact of_not h1
      rw [hd]
      refine run_skip ?_
      refine run_seq ?_
      refine run_region rfl ?_
      refine runl_ev (ev_loadA agg_35 rfl rfl (eqw (cells_all hb5))) ?_
      refine runl_do (t_storeW sz_35 rfl rfl rfl rfl hb2 ((by simp))) ?_
      rintro _ v15_1 ⟨hq15_1, e15_1, z15_1⟩
      replace hb5 := e15_1.at1 hb5 (by omega)
      replace e := e.new1 e15_1 (by omega)
      replace xx := xx.newB1 e15_1 (by first | exact .inl (by omega) | exact .inr rfl | exact .inr (.inl rfl) | exact .inr (.inr (by omega)))
      replace hb2 := hq15_1
      clear hq15_1
      refine runl_ev (ev_assign rfl) ?_
      refine runl_nil ?_
      refine run_ret_any Tryd.func13 (resCT Tryd.results13 rfl (loadVar_agg agg_35 rfl (cells_all hb2)) rfl) ?_
      first
        | exact ⟨_, rfl, snapZ_any _ _, e⟩
        | exact ⟨_, rfl, (hF.keep xx (fun k hk => by omega)).up (by omega), e⟩
  · have hfin : (acc, s1) = tq := by rw [← htk, show min 17 N.toNat - 17 = 0 by omega]; rfl
    refine run_region rfl ?_
    refine runl_ev (ev_move rfl) ?_
    refine runl_ev (ev_move rfl) ?_
    refine runl_ev (ev_lss rfl rfl) ?_
    refine runl_ev (ev_move rfl) ?_
    refine runl_ev_g rfl rfl (decide_eq_true (by omega)) (ev_move rfl) ?_
    refine runl_ev_g rfl rfl (decide_eq_true (by omega)) (ev_nilCheck rfl) ?_
    refine runl_ev_g rfl rfl (decide_eq_true (by omega)) (ev_fieldAddr fld_84_1 rfl) ?_
    refine runl_ev_g rfl rfl (decide_eq_true (by omega)) (ev_load1 cell_4 rfl (eqw (cell_blk hr1 rfl))) ?_
    refine runl_ev_g rfl rfl (decide_eq_true (by omega)) (ev_not rfl) ?_
    refine runl_ev (ev_pick rfl rfl rfl (if_pos (decide_eq_true (by omega)))) ?_
    refine runl_ev (ev_move rfl) ?_
    refine runl_ev_g rfl rfl (by rw [h2]; rfl) (ev_move rfl) ?_
    refine runl_ev_g rfl rfl (by rw [h2]; rfl) (ev_leq rfl rfl) ?_
    refine runl_ev (ev_pick rfl rfl rfl (if_pos (by rw [h2]; rfl))) ?_
    refine runl_nil ?_
    refine run_cond_false rfl (decide_eq_false (by omega)) ?_
    refine run_exit rfl ?_
    refine run_seq ?_
    have hen : RS.snap (min 17) (kindS 3 l) = (⟨(kindS 3 l).num.1, (kindS 3 l).num.2.num.1, acc⟩, s1) := by unfold RS.snap; rw [← hN, ← htq, ← hfin]
    have hF := rsnapF_of (kindS 3 l).num.1 (kindS 3 l).num.2.num.1 ow
    have xx : ExtB (fun k => k = b2) w1 w1 := ExtB.refl _ _
    refine run_region rfl ?_
    refine runl_ev (ev_loadA agg_35 rfl rfl (eqw (cells_all hb5))) ?_
    refine runl_op (t_call call_11 rfl (rencsnap_any _ _ _ hF.r (by show acc.length ≤ _; omega) hnb)) ?_
    rintro _ w51 ⟨p51, rfl, o51⟩
    have e51 := o51.ext
    obtain ⟨a51, c51, rfl, hc51, sl51⟩ := o51.sl
    have x51 := ExtB.refl (fun _ => False) w51
    have z51 := e51.size
    replace hb2 := e51.at hb2
    replace hb5 := e51.at hb5
    replace st1 := st1.up e51
    replace e := e.trans e51
    replace xx := xx.trans e51.toB
    refine runl_ev (ev_move rfl) ?_
    refine runl_ev (ev_extract rfl rfl) ?_
    refine runl_ev (ev_extract rfl rfl) ?_
    refine runl_ev (ev_assign rfl) ?_
    refine runl_ev (ev_assign rfl) ?_
    refine runl_nil ?_
    refine run_seq ?_
    refine run_seq ?_
    refine run_region rfl ?_
    refine runl_ev (ev_move rfl) ?_
    refine runl_ev (ev_move rfl) ?_
    refine runl_ev (ev_move rfl) ?_
    refine runl_ev (ev_move rfl) ?_
    refine runl_op (t_call call_37 rfl (qjust_any st1 l (encP 3 isSnapP encSnap ⟨(kindS 3 l).num.1, (kindS 3 l).num.2.num.1, acc⟩) _ a a51 _ c _ c51 (hl0.ext RByte.stable e) (sl51.ext RByte.stable x51))) ?_
    rintro _ w58 ⟨rfl, e58⟩
    have z58 := e58.size
    replace hb2 := e58.at hb2
    replace hb5 := e58.at hb5
    replace st1 := st1.up e58
    replace e := e.trans e58
    replace xx := xx.trans e58.toB
    replace x51 := x51.trans e58
    have hj := just_eq 3 isSnapP encSnap ⟨(kindS 3 l).num.1, (kindS 3 l).num.2.num.1, acc⟩ l s1.whole
    refine runl_ev (ev_not rfl) ?_
    refine runl_nil ?_
    refine run_cond_split rfl (fun h1 => ?_) (fun h1 => ?_)
    · have hd : decR 3 (RS.snap (min 17)) isSnapP (fun x => encN 3 ++ encSnap x) l = none := by unfold decR; rw [hen, if_neg]; rw [← hj]; intro hh; rw [hh] at h1; cases h1
      rw [hd]
      refine run_seq ?_
      refine run_region rfl ?_
      refine runl_ev (ev_build (out := snapZ) ps_35 zero_35 rfl rfl (rfl)) ?_
      refine runl_do (t_storeW sz_35 rfl rfl rfl rfl hb2 ((by simp [snapZ]))) ?_
      rintro _ v14_1 ⟨hq14_1, e14_1, z14_1⟩
      replace hb5 := e14_1.at1 hb5 (by omega)
      replace e := e.new1 e14_1 (by omega)
      replace xx := xx.newB1 e14_1 (by first | exact .inl (by omega) | exact .inr rfl | exact .inr (.inl rfl) | exact .inr (.inr (by omega)))
      replace hb2 := hq14_1
      clear hq14_1
      refine runl_ev (ev_assign rfl) ?_
      refine runl_nil ?_
      refine run_ret_any Tryd.func13 (resCT Tryd.results13 rfl (loadVar_agg agg_35 rfl (cells_all hb2)) rfl) ?_
      first
        | exact ⟨_, rfl, snapZ_any _ _, e⟩
        | exact ⟨_, rfl, (hF.keep xx (fun k hk => by omega)).up (by omega), e⟩
    · have hd : decR 3 (RS.snap (min 17)) isSnapP (fun x => encN 3 ++ encSnap x) l = some ⟨(kindS 3 l).num.1, (kindS 3 l).num.2.num.1, acc⟩ := by unfold decR; rw [hen, if_pos]; rw [← hj]; exact of_not h1
      rw [hd]
      refine run_skip ?_
      refine run_seq ?_
      refine run_region rfl ?_
      refine runl_ev (ev_loadA agg_35 rfl rfl (eqw (cells_all hb5))) ?_
      refine runl_do (t_storeW sz_35 rfl rfl rfl rfl hb2 ((by simp))) ?_
      rintro _ v15_1 ⟨hq15_1, e15_1, z15_1⟩
      replace hb5 := e15_1.at1 hb5 (by omega)
      replace e := e.new1 e15_1 (by omega)
      replace xx := xx.newB1 e15_1 (by first | exact .inl (by omega) | exact .inr rfl | exact .inr (.inl rfl) | exact .inr (.inr (by omega)))
      replace hb2 := hq15_1
      clear hq15_1
      refine runl_ev (ev_assign rfl) ?_
      refine runl_nil ?_
      refine run_ret_any Tryd.func13 (resCT Tryd.results13 rfl (loadVar_agg agg_35 rfl (cells_all hb2)) rfl) ?_
      first
        | exact ⟨_, rfl, snapZ_any _ _, e⟩
        | exact ⟨_, rfl, (hF.keep xx (fun k hk => by omega)).up (by omega), e⟩
  · have htk1 : takenL RS.pin (min 17 N.toNat - (i + 1)) (acc ++ [s1.pin.1]) s1.pin.2 = tq := by rw [← htk, show min 17 N.toNat - i = (min 17 N.toNat - (i + 1)) + 1 by omega, takenL, if_neg (by rw [h2]; simp)]
    have hlen1 := st1.len
    have hbl := bytes_len s1
    have hnb1 : ∀ p ∈ acc ++ [s1.pin.1], p.name.size ≤ 1099511627776 := fun p hp => by
      rcases List.mem_append.1 hp with hp | hp
      · exact hnb p hp
      · obtain rfl := List.mem_singleton.1 hp
        have : s1.pin.1.name.size = s1.bytes.1.length := by show (ByteArray.mk s1.bytes.1.toArray).size = _; simp [ByteArray.size]
        omega
    refine run_region rfl ?_
    refine runl_ev (ev_move rfl) ?_
    refine runl_ev (ev_move rfl) ?_
    refine runl_ev (ev_lss rfl rfl) ?_
    refine runl_ev (ev_move rfl) ?_
    refine runl_ev_g rfl rfl (decide_eq_true (by omega)) (ev_move rfl) ?_
    refine runl_ev_g rfl rfl (decide_eq_true (by omega)) (ev_nilCheck rfl) ?_
    refine runl_ev_g rfl rfl (decide_eq_true (by omega)) (ev_fieldAddr fld_84_1 rfl) ?_
    refine runl_ev_g rfl rfl (decide_eq_true (by omega)) (ev_load1 cell_4 rfl (eqw (cell_blk hr1 rfl))) ?_
    refine runl_ev_g rfl rfl (decide_eq_true (by omega)) (ev_not rfl) ?_
    refine runl_ev (ev_pick rfl rfl rfl (if_pos (decide_eq_true (by omega)))) ?_
    refine runl_ev (ev_move rfl) ?_
    refine runl_ev_g rfl rfl (by rw [h2]; rfl) (ev_move rfl) ?_
    refine runl_ev_g rfl rfl (by rw [h2]; rfl) (ev_leq rfl rfl) ?_
    refine runl_ev (ev_pick rfl rfl rfl (if_pos (by rw [h2]; rfl))) ?_
    refine runl_nil ?_
    refine run_cond_true rfl (decide_eq_true (by omega)) ?_
    refine run_skip ?_
    refine run_seq ?_
    refine run_block ?_
    refine run_seq ?_
    refine run_region rfl ?_
    refine runl_ev (ev_move rfl) ?_
    refine runl_op (t_call call_36 rfl (qrdtext_any st1 hok1)) ?_
    rintro _ w38 ⟨rfl, rp38⟩
    obtain ⟨v38, st38⟩ := rp38.1
    have z38 := rp38.2.size
    replace hb2 := rp38.2.at1 hb2 (by omega)
    replace hb5 := rp38.2.at1 hb5 (by omega)
    replace own := own.ext1 rp38.2 (by omega)
    replace e := e.new1 rp38.2 (by omega)
    refine runl_ev (ev_build (out := [.string s1.text.1, .int .i64 0]) ps_38 zero_38 rfl rfl (rfl)) ?_
    refine runl_op (t_alloc zero_38 rfl) ?_
    rintro _ w8 ⟨b8, rfl, hb8, e8, n8, l8⟩
    have z8 := e8.size
    replace hb2 := e8.at hb2
    replace hb5 := e8.at hb5
    replace own := own.ext e8
    replace e := e.trans e8
    replace st38 := st38.up e8
    refine runl_do (t_storeW sz_38 rfl rfl rfl rfl hb8 ((by simp))) ?_
    rintro _ v9_4 ⟨hq9_4, e9_4, z9_4⟩
    replace hb2 := e9_4.at1 hb2 (by omega)
    replace hb5 := e9_4.at1 hb5 (by omega)
    replace own := own.ext1 e9_4 (by omega)
    replace e := e.new1 e9_4 (by omega)
    replace st38 := st38.own e9_4 (fun k hk h => by rcases hk with hk | hk <;> omega)
    replace hb8 := hq9_4
    clear hq9_4
    refine runl_nil ?_
    refine run_seq ?_
    refine run_region rfl ?_
    refine runl_ev (ev_move rfl) ?_
    refine runl_op (t_call call_35 rfl (qnum_any st38 (ok_text hok1))) ?_
    rintro _ w41 ⟨rfl, rp41⟩
    obtain ⟨v41, st41⟩ := rp41.1
    have z41 := rp41.2.size
    replace hb2 := rp41.2.at1 hb2 (by omega)
    replace hb5 := rp41.2.at1 hb5 (by omega)
    replace own := own.ext1 rp41.2 (by omega)
    replace e := e.new1 rp41.2 (by omega)
    replace hb8 := rp41.2.at1 hb8 (by omega)
    refine runl_ev (ev_fieldAddr fld_38_1 rfl) ?_
    refine runl_do (t_store1 sz_3 rfl rfl rfl rfl hb8 (by simp)) ?_
    rintro _ v10_3 ⟨hq10_3, e10_3, z10_3⟩
    replace hb2 := e10_3.at1 hb2 (by omega)
    replace hb5 := e10_3.at1 hb5 (by omega)
    replace own := own.ext1 e10_3 (by omega)
    replace e := e.new1 e10_3 (by omega)
    replace st41 := st41.own e10_3 (fun k hk h => by rcases hk with hk | hk <;> omega)
    replace hb8 := hq10_3
    clear hq10_3
    refine runl_nil ?_
    refine run_region rfl ?_
    refine runl_ev (ev_fieldAddr fld_35_2 rfl) ?_
    refine runl_ev (ev_load1 cell_33 rfl (eqw (cell_blk hb5 rfl))) ?_
    refine runl_ev (ev_loadA agg_38 rfl rfl (eqw (cells_all hb8))) ?_
    refine runl_op (t_buildSlice (out := [.string s1.pin.1.name, .int .i64 s1.pin.1.ver]) Tryd.underlying33 sz_38 zero_38 rfl rfl (by decide) (by decide) rfl (fill_one rfl rfl rfl)) ?_
    rintro _ w46 ⟨b46, rfl, hb46, e46, n46, l46⟩
    have z46 := e46.size
    replace hb2 := e46.at hb2
    replace hb5 := e46.at hb5
    replace own := own.ext e46
    replace e := e.trans e46
    replace hb8 := e46.at hb8
    replace st41 := st41.up e46
    refine runl_op (t_append (news := [.string s1.pin.1.name, .int .i64 s1.pin.1.ver]) ef_33 rfl rfl own rfl (cells_all hb46) (by simp) (by unfold maxLen; omega) (by omega)) ?_
    rintro v47 w47 ⟨g47, ap47⟩
    have z47 := ap47.ext.size
    replace hb2 := ap47.ext.atG hb2 (by omega)
    replace hb5 := ap47.ext.atG hb5 (by omega)
    replace e := e.newG ap47.ext (by omega)
    replace hb8 := ap47.ext.atG hb8 (by omega)
    replace st41 := st41.own ap47.ext (fun k hk h => by rcases hk with hk | hk <;> omega)
    have ow47 := OwnG.app flat_pin (l' := [s1.pin.1]) (w := w5) (by omega) hg (by omega) (hpp.mono fun _ _ _ hr => flat_pin _ _ _ _ hr) hxl (pc (w := w46) (x := s1.pin.1) (r := []) (cs := [.string s1.pin.1.name, .int .i64 s1.pin.1.ver]) rfl pn) ap47 rfl rfl
    obtain ⟨a47, c47, rfl, hc47, -, -⟩ := ow47.sl
    refine runl_ev (ev_fieldAddr fld_35_2 rfl) ?_
    refine runl_do (t_store1 sz_33 rfl rfl rfl rfl hb5 (by simp)) ?_
    rintro _ v11_6 ⟨hq11_6, e11_6, z11_6⟩
    replace hb2 := e11_6.at1 hb2 (by omega)
    replace e := e.new1 e11_6 (by omega)
    replace hb8 := e11_6.at1 hb8 (by omega)
    replace st41 := st41.own e11_6 (fun k hk h => by rcases hk with hk | hk <;> omega)
    replace hb5 := hq11_6
    clear hq11_6
    refine runl_nil ?_
    refine run_inBlock ?_
    refine run_region rfl ?_
    refine runl_ev (ev_move rfl) ?_
    refine runl_ev (ev_add rfl rfl (by omega) (by omega)) ?_
    refine runl_ev (ev_assign rfl) ?_
    refine runl_nil ?_
    exact IH (i + 1, acc ++ [s1.pin.1], s1.pin.2, _, v41) _ _ (by simp only; omega) ⟨rfl, rfl, rfl, rfl, rfl, rfl, trivial⟩ ⟨by show i + 1 ≤ 17; omega, by show ((i + 1 : Nat) : Int) ≤ N; omega, by show (acc ++ [_]).length = i + 1; simp [hal], htk1, ok_pin hok1, ow47.keep flat_pin e11_6 (fun k hk => .inl (by omega)), st41, e, hb5, hb2, by omega, hnb1⟩
theorem qsamesnap_any (x : SnapP) (cs cs2 : List Value) (w : World) (h1 : RSnap w x cs) (h2 : RSnap w x cs2) (hn : x.pins.length ≤ 1099511627776) : Ret Tryd.prog 14 [.agg ⟨cs⟩, .agg ⟨cs2⟩] w fun r w' => r = .bool true ∧ Ext w w' := by
  have e := ExtB.refl (fun _ => False) w
  obtain ⟨a, c, rfl, hp⟩ := h1
  obtain ⟨a3, c3, rfl, hp3⟩ := h2
  refine ret_of_run Tryd.func14 rfl Tryd.ntmps14 rfl ?_
  refine run_seq ?_
  refine run_region rfl ?_
  refine runl_op (t_boxA rfl) ?_
  rintro _ w2 ⟨b2, rfl, hb2, e2, n2, l2⟩
  have z2 := e2.size
  replace e := e.trans e2
  refine runl_op (t_boxA rfl) ?_
  rintro _ w3 ⟨b3, rfl, hb3, e3, n3, l3⟩
  have z3 := e3.size
  replace e := e.trans e3
  replace hb2 := e3.at hb2
  refine runl_ev (ev_assign rfl) ?_
  refine runl_nil ?_
  refine run_seq ?_
  refine run_seq ?_
  refine run_region rfl ?_
  refine runl_ev (ev_fieldAddr fld_35_0 rfl) ?_
  refine runl_ev (ev_load1 cell_3 rfl (eqw (cell_blk hb2 rfl))) ?_
  refine runl_ev (ev_fieldAddr fld_35_0 rfl) ?_
  refine runl_ev (ev_load1 cell_3 rfl (eqw (cell_blk hb3 rfl))) ?_
  refine runl_ev (ev_neqI rfl rfl) ?_
  refine runl_ev (ev_move rfl) ?_
  refine runl_ev_g rfl rfl (by simp) (ev_fieldAddr fld_35_1 rfl) ?_
  refine runl_ev_g rfl rfl (by simp) (ev_load1 cell_3 rfl (eqw (cell_blk hb2 rfl))) ?_
  refine runl_ev_g rfl rfl (by simp) (ev_fieldAddr fld_35_1 rfl) ?_
  refine runl_ev_g rfl rfl (by simp) (ev_load1 cell_3 rfl (eqw (cell_blk hb3 rfl))) ?_
  refine runl_ev_g rfl rfl (by simp) (ev_neqI rfl rfl) ?_
  refine runl_ev (ev_pick rfl rfl rfl (if_neg (by simp))) ?_
  refine runl_ev (ev_move rfl) ?_
  refine runl_ev_g rfl rfl (by simp) (ev_fieldAddr fld_35_2 rfl) ?_
  refine runl_ev_g rfl rfl (by simp) (ev_load1 cell_33 rfl (eqw (cell_blk hb2 rfl))) ?_
  refine runl_ev_g rfl rfl (by simp) (ev_lenL sl_33 rfl) ?_
  refine runl_ev_g rfl rfl (by simp) (ev_fieldAddr fld_35_2 rfl) ?_
  refine runl_ev_g rfl rfl (by simp) (ev_load1 cell_33 rfl (eqw (cell_blk hb3 rfl))) ?_
  refine runl_ev_g rfl rfl (by simp) (ev_lenL sl_33 rfl) ?_
  refine runl_ev_g rfl rfl (by simp) (ev_neqI rfl rfl) ?_
  refine runl_ev (ev_pick rfl rfl rfl (if_neg (by simp))) ?_
  refine runl_nil ?_
  refine run_cond_false rfl (by simp) ?_
  refine run_skip ?_
  refine run_seq ?_
  refine run_seq ?_
  refine run_region rfl ?_
  refine runl_ev (ev_assign rfl) ?_
  refine runl_nil ?_
  refine run_block ?_
  refine run_loop (ι := Nat) (fun k => [(2, .pointer (some ⟨b2, 0, none⟩)), (3, .pointer (some ⟨b3, 0, none⟩)), (5, .int .i64 (k : Int))]) (fun k w' => k ≤ x.pins.length ∧ w'.heap[b2]? = some (.cells ⟨[.int .i64 x.ver, .int .i64 x.exp, .slice a x.pins.length c]⟩ 35 (0, 0)) ∧ w'.heap[b3]? = some (.cells ⟨[.int .i64 x.ver, .int .i64 x.exp, .slice a3 x.pins.length c3]⟩ 35 (0, 0)) ∧ Ext w w') (fun k => x.pins.length - k) (0) ⟨rfl, rfl, rfl, trivial⟩ (⟨Nat.zero_le _, hb2, hb3, e⟩) ?_
  clear e hb2 hb3
  intro k w1 ⟨hk, hb2, hb3, e⟩ IH
  refine run_seq ?_
  refine run_seq ?_
  refine run_region rfl ?_
  refine runl_ev (ev_move rfl) ?_
  refine runl_ev (ev_fieldAddr fld_35_2 rfl) ?_
  refine runl_ev (ev_load1 cell_33 rfl (eqw (cell_blk hb2 rfl))) ?_
  refine runl_ev (ev_lenL sl_33 rfl) ?_
  refine runl_ev (ev_lss rfl rfl) ?_
  refine runl_nil ?_
  refine run_dcond rfl (fun h1 => ?_) (fun h1 => ?_)
  · have hk1 : k < x.pins.length := by omega
    obtain ⟨bA, oA, cA, rfl, hrA, hcA⟩ := hp.at.2 k hk1
    obtain rfl := hrA
    obtain ⟨bB, oB, cB, rfl, hrB, hcB⟩ := hp3.at.2 k hk1
    obtain rfl := hrB
    refine run_skip ?_
    refine run_seq ?_
    refine run_block ?_
    refine run_seq ?_
    refine run_draw mo (fun w' => Ext w1 w') [] [(true, 0), (true, 1), (true, 2), (true, 3), (true, 4), (true, 5), (true, 6), (true, 7), (true, 8), (true, 9), (true, 10)] (by kernel_rfl) ?_
    intro wr6 er6
    have zr6 := er6.size
    have hsr6 := er6
    refine rund_ev hsr6 rfl (ev_fieldAddr fld_35_2 rfl) ?_
    refine rund_ev hsr6 rfl (ev_load1 cell_33 rfl (fun wz hz => cell_blk (hz.at hb2) rfl)) ?_
    refine rund_ev hsr6 rfl (ev_move rfl) ?_
    refine rund_ev hsr6 rfl (ev_indexAddr el_33 rfl rfl (by omega)) ?_
    refine rund_ev hsr6 rfl (ev_loadA agg_38 rfl rfl (fun wz hz => hcA.ext (e.trans hz))) ?_
    refine rund_ev hsr6 rfl (ev_fieldAddr fld_35_2 rfl) ?_
    refine rund_ev hsr6 rfl (ev_load1 cell_33 rfl (fun wz hz => cell_blk (hz.at hb3) rfl)) ?_
    refine rund_ev hsr6 rfl (ev_move rfl) ?_
    refine rund_ev hsr6 rfl (ev_indexAddr el_33 rfl rfl (by omega)) ?_
    refine rund_ev hsr6 rfl (ev_loadA agg_38 rfl rfl (fun wz hz => hcB.ext (e.trans hz))) ?_
    refine rund_ev hsr6 rfl (ev_neqA rfl rfl eg_38 (eqPin x.pins[k])) ?_
    refine rund_nil ?_
    replace e := e.trans er6
    replace hb2 := er6.at hb2
    replace hb3 := er6.at hb3
    refine run_cond_false rfl (rfl) ?_
    refine run_skip ?_
    refine run_inBlock ?_
    refine run_region rfl ?_
    refine runl_ev (ev_move rfl) ?_
    refine runl_ev (ev_add rfl rfl (by omega) (by omega)) ?_
    refine runl_ev (ev_assign rfl) ?_
    refine runl_nil ?_
    exact IH (k + 1) _ _ (by omega) ⟨rfl, rfl, rfl, trivial⟩ ⟨by omega, hb2, hb3, e⟩
  · refine run_exit rfl ?_
    refine run_seq ?_
    refine run_region rfl ?_
    refine runl_ev (ev_assign rfl) ?_
    refine runl_nil ?_
    refine run_ret_any Tryd.func14 (res1 Tryd.results14 rfl) ?_
    exact ⟨rfl, e⟩
theorem lawSnaps_any (x : SnapP) (cs : List Value) (w : World) (hx : RSnap w x cs) (hnl : x.pins.length ≤ 1048576) (hnb : ∀ p ∈ x.pins, p.name.size ≤ 1048576) (l : List UInt8) (a : Option Addr) (n c : Nat) (hl : SlAt 1 RByte w (.slice a n c) l) (hc : l.length ≤ c) (hln : l.length ≤ 1048576) (nm : ByteArray) (hnm : nm.size ≤ 1048576) :
    Ret Tryd.prog 5 [.agg ⟨cs⟩, .slice a n c, .string nm] w fun v w' => v = .bool true ∧ Ext w w' := by
  have e := ExtB.refl (fun _ => False) w
  have hl0 := hl
  obtain ⟨rfl, -⟩ := hl.at
  have hcl := rsnap_len hx
  have hx0 := hx
  obtain ⟨aP, cP, rfl, hpi⟩ := hx
  have hnb2 : ∀ p ∈ x.pins, p.name.size ≤ 1099511627776 := fun p hp => by have := hnb p hp; omega
  refine ret_of_run Tryd.func5 rfl Tryd.ntmps5 rfl ?_
  refine run_seq ?_
  refine run_region rfl ?_
  refine runl_op (t_boxA rfl) ?_
  rintro _ w3 ⟨b3, rfl, hb3, e3, n3, l3⟩
  have z3 := e3.size
  replace e := e.trans e3
  refine runl_ev (ev_assign rfl) ?_
  refine runl_nil ?_
  refine run_seq ?_
  refine run_seq ?_
  have hcs : (40 : Int) < (x.pins.length : Int) ∨ (¬ (40 : Int) < (x.pins.length : Int) ∧ (1000 : Int) < (l.length : Int)) ∨ (¬ (40 : Int) < (x.pins.length : Int) ∧ ¬ (1000 : Int) < (l.length : Int)) := by omega
  rcases hcs with q1 | ⟨q1, q2⟩ | ⟨q1, q2⟩
  · refine run_region rfl ?_
    refine runl_ev (ev_fieldAddr fld_35_2 rfl) ?_
    refine runl_ev (ev_load1 cell_33 rfl (eqw (cell_blk hb3 rfl))) ?_
    refine runl_ev (ev_lenL sl_33 rfl) ?_
    refine runl_ev (ev_gtr rfl rfl) ?_
    refine runl_ev (ev_move rfl) ?_
    refine runl_no_g rfl rfl (decide_eq_true q1) ?_
    refine runl_no_g rfl rfl (decide_eq_true q1) ?_
    refine runl_no_g rfl rfl (decide_eq_true q1) ?_
    refine runl_ev (ev_pick rfl rfl rfl (if_pos (decide_eq_true q1))) ?_
    refine runl_ev (ev_move rfl) ?_
    refine runl_no_g rfl rfl (rfl) ?_
    refine runl_no_g rfl rfl (rfl) ?_
    refine runl_no_g rfl rfl (rfl) ?_
    refine runl_ev (ev_pick rfl rfl rfl (if_pos (rfl))) ?_
    refine runl_nil ?_
    refine run_cond_true rfl (rfl) ?_
    refine run_seq ?_
    refine run_region rfl ?_
    refine runl_ev (ev_assign rfl) ?_
    refine runl_nil ?_
    refine run_ret_any Tryd.func5 (res1 Tryd.results5 rfl) ?_
    exact ⟨rfl, e⟩
  · refine run_region rfl ?_
    refine runl_ev (ev_fieldAddr fld_35_2 rfl) ?_
    refine runl_ev (ev_load1 cell_33 rfl (eqw (cell_blk hb3 rfl))) ?_
    refine runl_ev (ev_lenL sl_33 rfl) ?_
    refine runl_ev (ev_gtr rfl rfl) ?_
    refine runl_ev (ev_move rfl) ?_
    refine runl_ev_g rfl rfl (decide_eq_false q1) (ev_move rfl) ?_
    refine runl_ev_g rfl rfl (decide_eq_false q1) (ev_lenL sl_24 rfl) ?_
    refine runl_ev_g rfl rfl (decide_eq_false q1) (ev_gtr rfl rfl) ?_
    refine runl_ev (ev_pick rfl rfl rfl (if_neg (by rw [decide_eq_false q1]; simp))) ?_
    refine runl_ev (ev_move rfl) ?_
    refine runl_no_g rfl rfl (decide_eq_true q2) ?_
    refine runl_no_g rfl rfl (decide_eq_true q2) ?_
    refine runl_no_g rfl rfl (decide_eq_true q2) ?_
    refine runl_ev (ev_pick rfl rfl rfl (if_pos (decide_eq_true q2))) ?_
    refine runl_nil ?_
    refine run_cond_true rfl (rfl) ?_
    refine run_seq ?_
    refine run_region rfl ?_
    refine runl_ev (ev_assign rfl) ?_
    refine runl_nil ?_
    refine run_ret_any Tryd.func5 (res1 Tryd.results5 rfl) ?_
    exact ⟨rfl, e⟩
  · refine run_region rfl ?_
    refine runl_ev (ev_fieldAddr fld_35_2 rfl) ?_
    refine runl_ev (ev_load1 cell_33 rfl (eqw (cell_blk hb3 rfl))) ?_
    refine runl_ev (ev_lenL sl_33 rfl) ?_
    refine runl_ev (ev_gtr rfl rfl) ?_
    refine runl_ev (ev_move rfl) ?_
    refine runl_ev_g rfl rfl (decide_eq_false q1) (ev_move rfl) ?_
    refine runl_ev_g rfl rfl (decide_eq_false q1) (ev_lenL sl_24 rfl) ?_
    refine runl_ev_g rfl rfl (decide_eq_false q1) (ev_gtr rfl rfl) ?_
    refine runl_ev (ev_pick rfl rfl rfl (if_neg (by rw [decide_eq_false q1]; simp))) ?_
    refine runl_ev (ev_move rfl) ?_
    refine runl_ev_g rfl rfl (decide_eq_false q2) (ev_move rfl) ?_
    refine runl_ev_g rfl rfl (decide_eq_false q2) (ev_lenS str_9 rfl) ?_
    refine runl_ev_g rfl rfl (decide_eq_false q2) (ev_gtr rfl rfl) ?_
    refine runl_ev (ev_pick rfl rfl rfl (if_neg (by rw [decide_eq_false q2]; simp))) ?_
    refine runl_nil ?_
    refine run_dcond rfl (fun h0 => ?_) (fun h0 => ?_)
    · refine run_seq ?_
      refine run_region rfl ?_
      refine runl_ev (ev_assign rfl) ?_
      refine runl_nil ?_
      refine run_ret_any Tryd.func5 (res1 Tryd.results5 rfl) ?_
      exact ⟨rfl, e⟩
    · refine run_skip ?_
      refine run_seq ?_
      refine run_seq ?_
      refine run_region rfl ?_
      refine runl_ev (ev_assign rfl) ?_
      refine runl_nil ?_
      refine run_block ?_
      refine run_loop (ι := Nat) (fun k => [(1, .slice a l.length c), (2, .string nm), (3, .pointer (some ⟨b3, 0, none⟩)), (7, .int .i64 (k : Int))]) (fun k w' => k ≤ x.pins.length ∧ w'.heap[b3]? = some (.cells ⟨[.int .i64 x.ver, .int .i64 x.exp, .slice aP x.pins.length cP]⟩ 35 (0, 0)) ∧ Ext w w') (fun k => x.pins.length - k) (0) ⟨rfl, rfl, rfl, rfl, trivial⟩ (⟨Nat.zero_le _, hb3, e⟩) ?_
      clear e hb3
      intro k w1 ⟨hk, hb3, e⟩ IH
      have ze := e.size
      have lb3 := lt_of_at hb3
      refine run_seq ?_
      refine run_seq ?_
      refine run_region rfl ?_
      refine runl_ev (ev_move rfl) ?_
      refine runl_ev (ev_fieldAddr fld_35_2 rfl) ?_
      refine runl_ev (ev_load1 cell_33 rfl (eqw (cell_blk hb3 rfl))) ?_
      refine runl_ev (ev_lenL sl_33 rfl) ?_
      refine runl_ev (ev_lss rfl rfl) ?_
      refine runl_nil ?_
      refine run_dcond rfl (fun h1 => ?_) (fun h1 => ?_)
      · have hk1 : k < x.pins.length := by omega
        obtain ⟨bA, oA, cA, rfl, hrA, hcA⟩ := hpi.at.2 k hk1
        obtain rfl := hrA
        refine run_skip ?_
        refine run_seq ?_
        refine run_block ?_
        refine run_seq ?_
        refine run_region rfl ?_
        refine runl_ev (ev_fieldAddr fld_35_2 rfl) ?_
        refine runl_ev (ev_load1 cell_33 rfl (eqw (cell_blk hb3 rfl))) ?_
        refine runl_ev (ev_move rfl) ?_
        refine runl_ev (ev_indexAddr el_33 rfl rfl (by omega)) ?_
        refine runl_ev (ev_fieldAddr fld_38_0 rfl) ?_
        refine runl_ev (ev_load1 cell_9 rfl (eqw ((hcA.ext e).pick 0 rfl rfl))) ?_
        refine runl_ev (ev_lenS str_9 rfl) ?_
        refine runl_ev (ev_gtr rfl rfl) ?_
        refine runl_nil ?_
        refine run_dcond rfl (fun h2 => ?_) (fun h2 => ?_)
        · refine run_seq ?_
          refine run_region rfl ?_
          refine runl_ev (ev_assign rfl) ?_
          refine runl_nil ?_
          refine run_ret_any Tryd.func5 (res1 Tryd.results5 rfl) ?_
          exact ⟨rfl, e⟩
        · refine run_skip ?_
          refine run_inBlock ?_
          refine run_region rfl ?_
          refine runl_ev (ev_move rfl) ?_
          refine runl_ev (ev_add rfl rfl (by omega) (by omega)) ?_
          refine runl_ev (ev_assign rfl) ?_
          refine runl_nil ?_
          exact IH (k + 1) _ _ (by omega) ⟨rfl, rfl, rfl, rfl, trivial⟩ ⟨by omega, hb3, e⟩
      · refine run_exit rfl ?_
        refine run_seq ?_
        refine run_region rfl ?_
        refine runl_ev (ev_loadA agg_35 rfl rfl (eqw (cells_all hb3))) ?_
        refine runl_op (t_call call_10 rfl (encsnap_any x _ _ (RSnap.stable _ _ _ _ e hx0) (by omega))) ?_
        rintro _ w47 ⟨p47, rfl, o47⟩
        have e47 := o47.ext
        obtain ⟨a47, c47, rfl, hc47, sl47⟩ := o47.sl
        have x47 := ExtB.refl (fun _ => False) w47
        have z47 := e47.size
        replace e := e.trans e47
        replace hb3 := e47.at hb3
        refine runl_ev (ev_move rfl) ?_
        refine runl_ev (ev_extract rfl rfl) ?_
        refine runl_ev (ev_extract rfl rfl) ?_
        refine runl_ev (ev_assign rfl) ?_
        refine runl_ev (ev_assign rfl) ?_
        refine runl_nil ?_
        refine run_seq ?_
        refine run_region rfl ?_
        refine runl_ev (ev_loadA agg_35 rfl rfl (eqw (cells_all hb3))) ?_
        refine runl_op (t_call call_11 rfl (rencsnap_any x _ _ (RSnap.stable _ _ _ _ e hx0) (by omega) hnb2)) ?_
        rintro _ w52 ⟨p52, rfl, o52⟩
        have e52 := o52.ext
        obtain ⟨a52, c52, rfl, hc52, sl52⟩ := o52.sl
        have x52 := ExtB.refl (fun _ => False) w52
        have z52 := e52.size
        replace e := e.trans e52
        replace hb3 := e52.at hb3
        replace x47 := x47.trans e52
        refine runl_ev (ev_move rfl) ?_
        refine runl_ev (ev_extract rfl rfl) ?_
        refine runl_ev (ev_extract rfl rfl) ?_
        refine runl_ev (ev_assign rfl) ?_
        refine runl_ev (ev_assign rfl) ?_
        refine runl_nil ?_
        refine run_seq ?_
        refine run_region rfl ?_
        refine runl_op (t_buildSlice0 Tryd.underlying24 sz_5) ?_
        rintro _ w56 ⟨b56, rfl, hb56, e56, n56, l56⟩
        have z56 := e56.size
        replace e := e.trans e56
        replace hb3 := e56.at hb3
        replace x47 := x47.trans e56
        replace x52 := x52.trans e56
        refine runl_ev (ev_move rfl) ?_
        refine runl_op (t_appendL (l := l) (R := RByte) ef_24 rfl rfl (own_lit (n := 0) hb56 (by unfold maxLen; omega) rfl) (hl0.ext RByte.stable e) rbyte_len (fun x cs h => rbyte_one x cs h) (by unfold maxLen; omega) (by omega)) ?_
        rintro v58 w58 ⟨n58, g58, hnl58, hnp58, ap58⟩
        have ow58 := OwnG.app flat_byte (l := []) (xs := []) (w := w) (by omega) (.inr (by omega)) (by omega) pn rfl hnp58 ap58 rfl rfl
        rw [List.nil_append] at ow58
        obtain ⟨a58, c58, rfl, hc58, sl58, -⟩ := ow58.sl
        have z58 := ap58.ext.size
        replace e := e.newG ap58.ext (by omega)
        replace hb3 := ap58.ext.atG hb3 (by omega)
        replace x47 := x47.newG ap58.ext (by omega)
        replace x52 := x52.newG ap58.ext (by omega)
        refine runl_op (t_call call_12 rfl (decsnap_any l _ a58 _ c58 sl58 (by omega))) ?_
        rintro _ w59 ⟨c59, rfl, kf59, e59⟩
        rw [dec_snap] at kf59 ⊢
        have hc59 := rsnap_len kf59.r
        have x59 := ExtB.refl (fun _ => False) w59
        have z59 := e59.size
        replace e := e.trans e59
        replace hb3 := e59.at hb3
        replace x47 := x47.trans e59
        replace x52 := x52.trans e59
        refine runl_ev (ev_move rfl) ?_
        refine runl_ev (ev_extract rfl rfl) ?_
        refine runl_ev (ev_extract rfl rfl) ?_
        refine runl_op (t_alloc zero_35 rfl) ?_
        rintro _ w12 ⟨b12, rfl, hb12, e12, n12, l12⟩
        have z12 := e12.size
        replace e := e.trans e12
        replace hb3 := e12.at hb3
        replace x47 := x47.trans e12
        replace x52 := x52.trans e12
        replace x59 := x59.trans e12
        refine runl_do (t_storeW sz_35 rfl rfl hc59 rfl hb12 (rsnap_one kf59.r)) ?_
        rintro _ v10_8 ⟨hq10_8, e10_8, z10_8⟩
        replace e := e.new1 e10_8 (by omega)
        replace hb3 := e10_8.at1 hb3 (by omega)
        replace x47 := x47.new1 e10_8 (by omega)
        replace x52 := x52.new1 e10_8 (by omega)
        replace x59 := x59.new1 e10_8 (by omega)
        replace hb12 := hq10_8
        clear hq10_8
        refine runl_ev (ev_assign rfl) ?_
        refine runl_nil ?_
        refine run_seq ?_
        refine run_region rfl ?_
        refine runl_ev (ev_move rfl) ?_
        refine runl_op (t_call call_13 rfl (qdecsnap_any l _ a _ c (hl0.ext RByte.stable e) hc (by omega))) ?_
        rintro _ w64 h64
        have hcnt : ∀ y, decR 3 (RS.snap (min 17)) isSnapP (fun x => encN 3 ++ encSnap x) l = some y → isSnapP y = true := fun y hy => by
          unfold decR at hy
          split at hy
          · rename_i hh; cases hy; simp only [Bool.and_eq_true] at hh; exact hh.2.1
          · cases hy
        generalize decR 3 (RS.snap (min 17)) isSnapP (fun x => encN 3 ++ encSnap x) l = dd at kf59 hcnt h64 ⊢
        obtain ⟨c64, rfl, kf64, e64⟩ := h64
        have hc64 := rsnap_len kf64.r
        have x64 := ExtB.refl (fun _ => False) w64
        have z64 := e64.size
        replace e := e.trans e64
        replace hb3 := e64.at hb3
        replace x47 := x47.trans e64
        replace x52 := x52.trans e64
        replace x59 := x59.trans e64
        replace hb12 := e64.at hb12
        refine runl_ev (ev_move rfl) ?_
        refine runl_ev (ev_extract rfl rfl) ?_
        refine runl_ev (ev_extract rfl rfl) ?_
        refine runl_op (t_alloc zero_35 rfl) ?_
        rintro _ w14 ⟨b14, rfl, hb14, e14, n14, l14⟩
        have z14 := e14.size
        replace e := e.trans e14
        replace hb3 := e14.at hb3
        replace x47 := x47.trans e14
        replace x52 := x52.trans e14
        replace x59 := x59.trans e14
        replace hb12 := e14.at hb12
        replace x64 := x64.trans e14
        refine runl_do (t_storeW sz_35 rfl rfl hc64 rfl hb14 (rsnap_one kf64.r)) ?_
        rintro _ v11_6 ⟨hq11_6, e11_6, z11_6⟩
        replace e := e.new1 e11_6 (by omega)
        replace hb3 := e11_6.at1 hb3 (by omega)
        replace x47 := x47.new1 e11_6 (by omega)
        replace x52 := x52.new1 e11_6 (by omega)
        replace x59 := x59.new1 e11_6 (by omega)
        replace hb12 := e11_6.at1 hb12 (by omega)
        replace x64 := x64.new1 e11_6 (by omega)
        replace hb14 := hq11_6
        clear hq11_6
        refine runl_ev (ev_assign rfl) ?_
        refine runl_nil ?_
        refine run_seq ?_
        have hpd : (dd.getD .zero).pins.length ≤ 1099511627776 := by
          cases hq : dd with
          | none => exact Nat.zero_le _
          | some y =>
            have hy := hcnt y hq
            unfold isSnapP at hy
            simp only [Bool.and_eq_true, decide_eq_true_eq] at hy
            show y.pins.length ≤ _
            omega
        refine run_region rfl ?_
        refine runl_ev (ev_move rfl) ?_
        refine runl_ev (ev_convB (encP 3 isSnapP encSnap x) Tryd.underlying24 Tryd.underlying5 Tryd.underlying9 rfl (eqw (sl47.ext RByte.stable x47))) ?_
        refine runl_ev (ev_move rfl) ?_
        refine runl_ev (ev_convB (encP 3 isSnapP encSnap x) Tryd.underlying24 Tryd.underlying5 Tryd.underlying9 rfl (eqw (sl52.ext RByte.stable x52))) ?_
        refine runl_ev (ev_eqlS rfl rfl) ?_
        refine runl_ev (ev_move rfl) ?_
        refine runl_ev_g rfl rfl (by simp) (ev_move rfl) ?_
        refine runl_ev_g rfl rfl (by simp) (ev_move rfl) ?_
        refine runl_ev_g rfl rfl (by simp) (ev_eqlI rfl rfl) ?_
        refine runl_ev (ev_pick rfl rfl rfl (if_pos (by simp))) ?_
        refine runl_ev (ev_move rfl) ?_
        refine runl_ev_g rfl rfl (by simp) (ev_loadA agg_35 hc59 rfl (eqw (cells_all hb12))) ?_
        refine runl_ev_g rfl rfl (by simp) (ev_loadA agg_35 hc64 rfl (eqw (cells_all hb14))) ?_
        refine runl_op_g rfl rfl (by simp) (t_call call_14 rfl (qsamesnap_any _ _ _ _ (RSnap.stable _ _ _ _ x59 kf59.r) (RSnap.stable _ _ _ _ x64 kf64.r) hpd)) ?_
        rintro _ w80 ⟨rfl, e80⟩
        have z80 := e80.size
        replace e := e.trans e80
        replace hb3 := e80.at hb3
        replace x47 := x47.trans e80
        replace x52 := x52.trans e80
        replace x59 := x59.trans e80
        replace hb12 := e80.at hb12
        replace x64 := x64.trans e80
        replace hb14 := e80.at hb14
        refine runl_ev (ev_pick rfl rfl rfl (if_pos (by simp))) ?_
        refine runl_ev (ev_move rfl) ?_
        refine runl_ev_g rfl rfl (rfl) (ev_move rfl) ?_
        refine runl_ev_g rfl rfl (rfl) (ev_move rfl) ?_
        refine runl_ev_g rfl rfl (rfl) (ev_eqlI rfl rfl) ?_
        refine runl_ev (ev_pick rfl rfl rfl (if_pos (rfl))) ?_
        refine runl_ev (ev_move rfl) ?_
        refine runl_ev_g rfl rfl (by simp) (ev_move rfl) ?_
        refine runl_op_g rfl rfl (by simp) (t_call call_7 rfl (name_any nm _)) ?_
        rintro _ w89 ⟨rfl, e89⟩
        have z89 := e89.size
        replace e := e.trans e89
        replace hb3 := e89.at hb3
        replace x47 := x47.trans e89
        replace x52 := x52.trans e89
        replace x59 := x59.trans e89
        replace hb12 := e89.at hb12
        replace x64 := x64.trans e89
        replace hb14 := e89.at hb14
        refine runl_ev_g rfl rfl (by simp) (ev_move rfl) ?_
        refine runl_op_g rfl rfl (by simp) (t_call call_15 rfl (qname_any nm _ (by omega))) ?_
        rintro _ w91 ⟨rfl, e91⟩
        have z91 := e91.size
        replace e := e.trans e91
        replace hb3 := e91.at hb3
        replace x47 := x47.trans e91
        replace x52 := x52.trans e91
        replace x59 := x59.trans e91
        replace hb12 := e91.at hb12
        replace x64 := x64.trans e91
        replace hb14 := e91.at hb14
        refine runl_ev_g rfl rfl (by simp) (ev_eqlB Tryd.underlying4 rfl rfl) ?_
        refine runl_ev (ev_pick rfl rfl rfl (if_pos (by simp))) ?_
        refine runl_ev (ev_move rfl) ?_
        refine runl_op_g rfl rfl (by simp) (t_call call_8 rfl (known_any _)) ?_
        rintro _ w95 ⟨rfl, e95⟩
        have z95 := e95.size
        replace e := e.trans e95
        replace hb3 := e95.at hb3
        replace x47 := x47.trans e95
        replace x52 := x52.trans e95
        replace x59 := x59.trans e95
        replace hb12 := e95.at hb12
        replace x64 := x64.trans e95
        replace hb14 := e95.at hb14
        refine runl_ev (ev_pick rfl rfl rfl (if_pos (by simp))) ?_
        refine runl_ev (ev_assign rfl) ?_
        refine runl_nil ?_
        refine run_ret_any Tryd.func5 (res1 Tryd.results5 rfl) ?_
        exact ⟨rfl, e⟩
end Go.Proofs.YtcmbiaibocdfeaaDoor
