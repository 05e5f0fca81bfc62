/- The walks of wire's reader: digests, keys, roots. -/
import Derived.Test.YtcmbiaibocdfeaaReadP
import Derived.Test.YtcmbiaibocdfeaaWire2
import Derived.Test.YtcmbiaibocdfeaaWire4
namespace Go.Proofs.Ytcmbiaibocdfeaa
open Go Go.Fw
set_option maxRecDepth 100000

theorem newreader_any (l : List UInt8) (w : World) (a : Option Addr) (n c : Nat) (hl : SlAt 1 RByte w (.slice a n c) l) (hn : l.length ≤ 1099511627776) :
    Ret Try.prog 58 [.slice a n c] w fun r w' => ∃ rb w4 v, r = .pointer (some ⟨rb, 0, none⟩) ∧ Ext w w4 ∧ RSt 130 w4 w' rb v ⟨l, false⟩ := by
  have e := ExtB.refl (fun _ => False) w
  refine ret_of_run Try.func58 rfl Try.ntmps58 rfl ?_
  refine run_seq ?_
  refine run_region rfl ?_
  refine runl_ev (ev_assign rfl) ?_
  refine runl_nil ?_
  refine run_seq ?_
  refine run_region rfl ?_
  refine runl_ev (ev_move rfl) ?_
  refine runl_op (t_call call_77 rfl (clone_any l w a n c hl hn)) ?_
  rintro r4 w4 ⟨g4, own, e4, hg4, hgl4⟩
  obtain ⟨a4, c4, rfl⟩ := own.shape
  have hc4 : l.length ≤ c4 := by
    rcases own.cells with ⟨h, h0, _⟩ | ⟨cap, b, _, h, _, h1, _⟩
    · omega
    · injection h with q1 q2 q3
      omega
  have sl4 := own_bytes own
  have z4 := e4.size
  replace e := e.trans e4
  refine runl_ev (ev_build (out := [.slice a4 l.length c4, .bool false]) ps_130 zero_130 rfl rfl (rfl)) ?_
  refine runl_op (t_boxA rfl) ?_
  rintro _ w6 ⟨b6, rfl, hb6, e6, n6, l6⟩
  have z6 := e6.size
  replace e := e.trans e6
  refine runl_ev (ev_assign rfl) ?_
  refine runl_nil ?_
  refine run_ret_any Try.func58 (res1 Try.results58 rfl) ?_
  exact ⟨b6, w4, _, rfl, e4, hb6, sl4, ⟨a4, c4, rfl, hc4⟩, e6, n6, hn⟩
theorem rdhash_any {s : RS} {w0 w : World} {rb : Nat} {v : Value} {T : TypeId} (st : RSt T w0 w rb v s) : Ret Try.prog 82 [.agg ⟨[.pointer (some ⟨rb, 0, none⟩)]⟩] w fun r w' => r = .agg ⟨hcells s.hash.1⟩ ∧ RP T w0 w rb s.hash.2 w' := by
  have e := ExtB.refl (fun _ => False) w
  have lrb := st.lt
  have zst := st.ext.size
  have hrb := st.hrb
  have hlen := st.len
  have h32 : (s.raw 32).1.length ≤ 32 := by rcases raw32 s with h | h <;> simp [h]
  refine ret_of_run Try.func82 rfl Try.ntmps82 rfl ?_
  refine run_seq ?_
  refine run_region rfl ?_
  refine runl_op (t_boxA rfl) ?_
  rintro _ w1 ⟨b1, rfl, hb1, e1, n1, l1⟩
  have z1 := e1.size
  replace e := e.trans e1
  refine runl_op (t_alloc zero_81 rfl) ?_
  rintro _ w2 ⟨b2, rfl, hb2, e2, n2, l2⟩
  have z2 := e2.size
  replace e := e.trans e2
  replace hb1 := e2.at hb1
  refine runl_nil ?_
  refine run_seq ?_
  refine run_draw mo (fun w' => ExtB (fun k => k = rb) w2 w') [4] [(true, 0), (true, 1), (true, 2), (false, 3), (false, 4)] (by kernel_rfl) ?_
  intro wr1 er1
  have zr1 := er1.size
  have hsr1 : (fun w' => ExtB (fun k => k = rb) w2 w') wr1 := er1.toB
  have ep := e.trans er1
  have hb1p := er1.at hb1
  have hb2p := er1.at hb2
  refine rund_ev hsr1 rfl (ev_sliceA arr_81 rfl) ?_
  refine rund_ev hsr1 rfl (ev_fieldAddr fld_72_0 rfl) ?_
  refine rund_ev hsr1 rfl (ev_load1 cell_70 rfl (fun wz hz => cell_blk (hz.at1 hb1 (by omega)) rfl)) ?_
  refine rund_op rfl (t_call call_85 rfl (rraw_any (st.up ep) 32)) ?_
  rintro r6 w6 ⟨⟨g6, own6, hg6, hgl6⟩, rp6⟩
  have z6 := rp6.2.size
  replace hb1p := rp6.2.at1 hb1p (by omega)
  replace hb2p := rp6.2.at1 hb2p (by omega)
  have rq6 := RP.from ep rp6
  obtain ⟨a6, c6, rfl⟩ := own6.shape
  have sl6 := own_bytes own6
  have hs6 := hsr1.trans rp6.2
  refine ⟨hs6, ?_⟩
  refine rund_opT rfl rfl (t_copyB Try.underlying28 sz_5 rfl rfl hb2p h32 sl6 (by simp; omega)) ?_
  rintro _ w7 ⟨rfl, hq7, e7, z7⟩
  replace hb1p := e7.at1 hb1p (by omega)
  replace hb2p := hq7
  obtain ⟨v6, st6⟩ := rq6.1
  replace st6 := st6.own e7 (fun k hk h => by rcases hk with hk | hk <;> omega)
  have eb := rq6.2.newB1 e7 (.inl (by omega))
  refine rund_nil ?_
  replace hb1 := hb1p
  clear hb1p
  replace hb2 := hb2p
  clear hb2p
  replace hb2 : _ = some (Obj.cells ⟨hcells s.hash.1⟩ _ _) := (hash_of s) ▸ hb2
  refine run_seq ?_
  refine run_region rfl ?_
  refine runl_ev (ev_loadA agg_81 (by rw [hcells_length, hash_len]) rfl (eqw (cells_all hb2))) ?_
  refine runl_do (t_storeW sz_81 rfl rfl (by rw [hcells_length, hash_len]) (by rw [hcells_length, hash_len]) hb2 (hcells_one _)) ?_
  rintro _ v2_1 ⟨hq2_1, e2_1, z2_1⟩
  replace hb1 := e2_1.at1 hb1 (by omega)
  replace hb2 := hq2_1
  clear hq2_1
  refine runl_nil ?_
  refine run_ret_any Try.func82 (resC Try.results82 rfl (loadVar_agg agg_81 (by rw [hcells_length, hash_len]) (cells_all hb2))) ?_
  exact ⟨rfl, RP.of (st6.own e2_1 (fun k hk h => by rcases hk with hk | hk <;> omega)) (eb.newB1 e2_1 (.inl (by omega)))⟩
theorem rtakenH_any {s : RS} {w0 w : World} {rb : Nat} {v : Value} {T : TypeId} (st : RSt T w0 w rb v s) : Ret Try.prog 81 [.agg ⟨[.pointer (some ⟨rb, 0, none⟩)]⟩, .func (.func 82) #[] #[]] w fun r w' => OwnG 81 32 RHash w (takenL RS.hash s.num.1.toNat [] s.num.2).1 r w' ∧ RP T w0 w rb (takenL RS.hash s.num.1.toNat [] s.num.2).2 w' := by
  have e := ExtB.refl (fun _ => False) w
  have lrb := st.lt
  have zst := st.ext.size
  have hrb := st.hrb
  have hlen := st.len
  have hn0 := num_nonneg s
  have hn1 := num_le s
  refine ret_of_run Try.func81 rfl Try.ntmps81 rfl ?_
  refine run_seq ?_
  refine run_region rfl ?_
  refine runl_op (t_boxA rfl) ?_
  rintro _ w2 ⟨b2, rfl, hb2, e2, n2, l2⟩
  have z2 := e2.size
  replace e := e.trans e2
  refine runl_ev (ev_assign rfl) ?_
  refine runl_nil ?_
  refine run_seq ?_
  refine run_region rfl ?_
  refine runl_ev (ev_assign rfl) ?_
  refine runl_nil ?_
  refine run_seq ?_
  refine run_seq ?_
  refine run_region rfl ?_
  refine runl_ev (ev_fieldAddr fld_72_0 rfl) ?_
  refine runl_ev (ev_load1 cell_70 rfl (eqw (cell_blk hb2 rfl))) ?_
  refine runl_op (t_call call_59 rfl (rnum_any (st.up e))) ?_
  rintro _ w9 ⟨rfl, rp9⟩
  have rq9 := RP.from e rp9
  obtain ⟨v9, st9⟩ := rq9.1
  have eb9 := rq9.2
  have hu9 : s.num.2.rest.length ≤ s.rest.length := num_used s
  have z9 := rp9.2.size
  replace hb2 := rp9.2.at1 hb2 (by omega)
  refine runl_ev (ev_assign rfl) ?_
  refine runl_nil ?_
  refine run_block ?_
  refine run_loop (ι := Nat × List (List UInt8) × RS × Value × Value) (fun x => [(1, .func (.func 82) #[] #[]), (2, .pointer (some ⟨b2, 0, none⟩)), (5, x.2.2.2.1), (6, .int .i64 (x.1 : Int))]) (fun x w1 => x.1 ≤ 4611686018427387904 ∧ takenL RS.hash x.1 x.2.1 x.2.2.1 = takenL RS.hash s.num.1.toNat [] s.num.2 ∧ (x.2.2.1.bad = false → x.2.1.length + x.2.2.1.rest.length ≤ s.rest.length) ∧ OwnG 81 32 RHash w2 x.2.1 x.2.2.2.1 w1 ∧ RSt T w0 w1 rb x.2.2.2.2 x.2.2.1 ∧ ExtB (fun k => k = rb) w w1 ∧ w1.heap[b2]? = some (.cells ⟨[.pointer (some ⟨rb, 0, none⟩)]⟩ 72 (0, 0)) ∧ w2.heap.size ≤ w1.heap.size) (fun x => x.1) ((s.num.1.toNat, [], s.num.2, .slice none 0 0, v9)) ⟨rfl, rfl, rfl, by show some (Value.int .i64 s.num.1) = some (Value.int .i64 ((s.num.1.toNat : Nat) : Int)); rw [Int.toNat_of_nonneg hn0], trivial⟩ (⟨by show s.num.1.toNat ≤ _; omega, rfl, fun _ => by simpa using hu9, OwnG.nil _ _, st9, eb9, hb2, z9⟩) ?_
  clear st9 eb9 hb2 rq9 rp9
  intro ⟨m, acc, s1, vl, v1⟩ w1 ⟨hm, htk, hcnt, ow, st1, eb, hb2, hz2⟩ IH
  simp only at hm htk hcnt ow st1
  have lb2 := lt_of_at hb2
  have zeb := eb.size
  obtain ⟨xs, g, own, hpp, hxl, hg, hgl⟩ := ow.open
  have hrl := st1.len
  refine run_seq ?_
  refine run_seq ?_
  rcases m with _ | m
  · have hfin : (acc, s1) = takenL RS.hash s.num.1.toNat [] s.num.2 := htk
    refine run_region rfl ?_
    refine runl_ev (ev_move rfl) ?_
    refine runl_ev (ev_gtr rfl rfl) ?_
    refine runl_ev (ev_move rfl) ?_
    refine runl_no_g rfl rfl (rfl) ?_
    refine runl_no_g rfl rfl (rfl) ?_
    refine runl_no_g rfl rfl (rfl) ?_
    refine runl_ev (ev_pick rfl rfl rfl (if_neg (by simp))) ?_
    refine runl_nil ?_
    refine run_cond_false rfl (rfl) ?_
    refine run_exit rfl ?_
    refine run_seq ?_
    refine run_region rfl ?_
    refine runl_ev (ev_move rfl) ?_
    refine runl_ev (ev_assign rfl) ?_
    refine runl_nil ?_
    refine run_ret_any Try.func81 (res1 Try.results81 rfl) ?_
    rw [← hfin]
    exact ⟨ow.from (by omega), RP.of st1 eb⟩
  · refine run_region rfl ?_
    refine runl_ev (ev_move rfl) ?_
    refine runl_ev (ev_gtr rfl rfl) ?_
    refine runl_ev (ev_move rfl) ?_
    refine runl_ev_g rfl rfl (decide_eq_true (by omega)) (ev_fieldAddr fld_72_0 rfl) ?_
    refine runl_ev_g rfl rfl (decide_eq_true (by omega)) (ev_load1 cell_70 rfl (eqw (cell_blk hb2 rfl))) ?_
    refine runl_op_g rfl rfl (decide_eq_true (by omega)) (t_call call_80 rfl (rgood_any st1)) ?_
    rintro _ w15 ⟨rfl, e15⟩
    have z15 := e15.size
    replace hb2 := e15.at hb2
    replace own := own.ext e15
    replace st1 := st1.up e15
    replace eb := eb.trans e15.toB
    cases hbad : s1.bad
    · have hcnt1 := hcnt hbad
      have htk1 : takenL RS.hash m (acc ++ [(RS.hash s1).1]) (RS.hash s1).2 = takenL RS.hash s.num.1.toNat [] s.num.2 := by rw [← htk, takenL, if_neg (by rw [hbad]; simp)]
      refine runl_ev (ev_pick rfl rfl rfl (if_pos (decide_eq_true (by omega)))) ?_
      refine runl_nil ?_
      refine run_cond_true rfl (rfl) ?_
      refine run_skip ?_
      refine run_seq ?_
      refine run_block ?_
      refine run_region rfl ?_
      refine runl_ev (ev_move rfl) ?_
      refine runl_ev (ev_move rfl) ?_
      refine runl_ev (ev_loadA agg_72 rfl rfl (eqw (cells_all hb2))) ?_
      refine runl_op (t_callv call_82 rfl rfl (rdhash_any st1)) ?_
      rintro _ w22 ⟨rfl, rp22⟩
      have z22 := rp22.2.size
      replace hb2 := rp22.2.at1 hb2 (by omega)
      replace own := own.ext1 rp22.2 (by omega)
      replace eb := eb.trans rp22.2
      obtain ⟨v22, st22⟩ := rp22.1
      have hcnt2 : s1.hash.2.bad = false → (acc ++ [s1.hash.1]).length + s1.hash.2.rest.length ≤ s.rest.length := fun h => by have := hash_used h; simp only [List.length_append, List.length_singleton]; omega
      refine runl_op (t_buildSlice (out := hcells s1.hash.1) Try.underlying22 sz_81 zero_81 rfl rfl (by decide) (by decide) rfl (fill_one rfl (by rw [hcells_length, hash_len]) rfl)) ?_
      rintro _ w23 ⟨b23, rfl, hb23, e23, n23, l23⟩
      have z23 := e23.size
      replace hb2 := e23.at hb2
      replace own := own.ext e23
      replace eb := eb.trans e23.toB
      replace st22 := st22.up e23
      refine runl_op (t_append (news := hcells s1.hash.1) ef_22 rfl rfl own (by rw [hcells_length, hash_len]) (cells_all hb23) (hcells_one _) (by unfold maxLen; omega) (by omega)) ?_
      rintro v24 w24 ⟨g24, ap24⟩
      have z24 := ap24.ext.size
      replace hb2 := ap24.ext.atG hb2 (by omega)
      replace eb := eb.newBG ap24.ext (fun k hk => by first | exact .inl (by omega) | exact .inr hk | exact .inr (.inr hk) | exact .inr (.inr (by omega)))
      replace st22 := st22.own ap24.ext (fun k hk h => by rcases hk with hk | hk <;> omega)
      replace hb23 := ap24.ext.atG hb23 (by omega)
      have ow24 := OwnG.app flat_hash (l' := [s1.hash.1]) (by omega) hg (by omega) (hpp.mono fun _ _ _ hr => flat_hash _ _ _ _ hr) hxl (pc (w := w23) ⟨hash_len _, by rw [List.take_of_length_le (by rw [hcells_length, hash_len]; exact Nat.le_refl _)]⟩ pn) ap24 rfl rfl
      refine runl_ev (ev_assign rfl) ?_
      refine runl_nil ?_
      refine run_inBlock ?_
      refine run_region rfl ?_
      refine runl_ev (ev_move rfl) ?_
      refine runl_ev (ev_subK ((m : Int)) rfl rfl (by rw [show (((m + 1 : Nat) : Int) - 1) = m by omega]; exact wrap_i64 (by omega) (by omega))) ?_
      refine runl_ev (ev_assign rfl) ?_
      refine runl_nil ?_
      exact IH (m, acc ++ [(RS.hash s1).1], (RS.hash s1).2, v24, v22) _ _ (by simp only; omega) ⟨rfl, rfl, rfl, rfl, trivial⟩ ⟨by show m ≤ _; omega, htk1, hcnt2, ow24, st22, eb, hb2, by omega⟩
    · have hfin : (acc, s1) = takenL RS.hash s.num.1.toNat [] s.num.2 := by rw [← htk, takenL, if_pos hbad]
      refine runl_ev (ev_pick rfl rfl rfl (if_pos (decide_eq_true (by omega)))) ?_
      refine runl_nil ?_
      refine run_cond_false rfl (rfl) ?_
      refine run_exit rfl ?_
      refine run_seq ?_
      refine run_region rfl ?_
      refine runl_ev (ev_move rfl) ?_
      refine runl_ev (ev_assign rfl) ?_
      refine runl_nil ?_
      refine run_ret_any Try.func81 (res1 Try.results81 rfl) ?_
      rw [← hfin]
      exact ⟨(OwnG.up (flat_hash).stable ow e15).from (by omega), RP.of st1 eb⟩
theorem rdkeys_any {s : RS} {w0 w : World} {rb : Nat} {v : Value} {T : TypeId} (st : RSt T w0 w rb v s) : Ret Try.prog 61 [.agg ⟨[.pointer (some ⟨rb, 0, none⟩)]⟩] w fun r w' => ∃ cs, r = .agg ⟨cs⟩ ∧ RKeysF w.heap.size w' (s.keys id).1 cs ∧ RP T w0 w rb (s.keys id).2 w' := by
  have e := ExtB.refl (fun _ => False) w
  have lrb := st.lt
  have zst := st.ext.size
  have hrb := st.hrb
  have hlen := st.len
  refine ret_of_run Try.func61 rfl Try.ntmps61 rfl ?_
  refine run_seq ?_
  refine run_region rfl ?_
  refine runl_op (t_boxA rfl) ?_
  rintro _ w1 ⟨b1, rfl, hb1, e1, n1, l1⟩
  have z1 := e1.size
  replace e := e.trans e1
  refine runl_op (t_alloc zero_24 rfl) ?_
  rintro _ w2 ⟨b2, rfl, hb2, e2, n2, l2⟩
  have z2 := e2.size
  replace e := e.trans e2
  replace hb1 := e2.at hb1
  refine runl_nil ?_
  refine run_seq ?_
  refine run_draw mo (fun w' => ExtB (fun k => k = rb) w2 w') [6] [(true, 0), (true, 2), (true, 3), (false, 1), (false, 4), (true, 5), (false, 6)] (by kernel_rfl) ?_
  intro wr1 er1
  have zr1 := er1.size
  have hsr1 : (fun w' => ExtB (fun k => k = rb) w2 w') wr1 := er1.toB
  have ep := e.trans er1
  have hb1p := er1.at hb1
  have hb2p := er1.at hb2
  refine rund_ev hsr1 rfl (ev_loadA agg_72 rfl rfl (fun wz hz => cells_all (hz.at1 hb1 (by omega)))) ?_
  refine rund_ev hsr1 rfl (ev_fieldAddr fld_72_0 rfl) ?_
  refine rund_ev hsr1 rfl (ev_load1 cell_70 rfl (fun wz hz => cell_blk (hz.at1 hb1 (by omega)) rfl)) ?_
  refine rund_op rfl (t_call call_81 rfl (rtakenH_any (st.up ep))) ?_
  rintro r4 w4 ⟨ow4, rp4⟩
  have z4 := rp4.2.size
  replace hb1p := rp4.2.at1 hb1p (by omega)
  replace hb2p := rp4.2.at1 hb2p (by omega)
  have rq4 := RP.from ep rp4
  obtain ⟨v4, st4⟩ := rq4.1
  have eb4 := rq4.2
  have hs4 := hsr1.trans rp4.2
  refine ⟨hs4, ?_⟩
  refine rund_op rfl (t_call call_59 rfl (rnum_any st4)) ?_
  rintro _ w7 ⟨rfl, rp7⟩
  have z7 := rp7.2.size
  replace hb1p := rp7.2.at1 hb1p (by omega)
  replace hb2p := rp7.2.at1 hb2p (by omega)
  obtain ⟨v7, st7⟩ := rp7.1
  have eb7 := eb4.trans rp7.2
  have ow7 := ow4.keep flat_hash rp7.2 (fun k h => .inl (by omega))
  obtain ⟨a7, c7, rfl, -⟩ := ow7.sl
  have hkf := (rkeysF_of (takenL RS.hash s.num.1.toNat [] s.num.2).2.num.1 ow7)
  have hs7 := hs4.trans rp7.2
  refine ⟨hs7, ?_⟩
  refine rund_ev hs7 rfl (ev_build (out := [.slice a7 (takenL RS.hash s.num.1.toNat [] s.num.2).1.length c7, .int .i64 (takenL RS.hash s.num.1.toNat [] s.num.2).2.num.1]) ps_24 zero_24 rfl rfl (rfl)) ?_
  refine rund_doT rfl rfl (t_storeW sz_24 rfl rfl rfl rfl hb2p (by simp)) ?_
  rintro _ v1_6 ⟨hq1_6, e1_6, z1_6⟩
  replace hb1p := e1_6.at1 hb1p (by omega)
  replace hb2p := hq1_6
  clear hq1_6
  refine rund_nil ?_
  replace hb1 := hb1p
  clear hb1p
  replace hb2 := hb2p
  clear hb2p
  refine run_ret_any Try.func61 (resC Try.results61 rfl (loadVar_agg agg_24 rfl (cells_all hb2))) ?_
  exact ⟨_, rfl, (hkf.keep e1_6 (fun k hk => by omega)).up (by omega), RP.of (st7.own e1_6 (fun k hk h => by rcases hk with hk | hk <;> omega)) (eb7.newB1 e1_6 (.inl (by omega)))⟩
end Go.Proofs.Ytcmbiaibocdfeaa
