/- The walks of what the reference decodes, and of the law on roots. -/
import Derived.Test.YtcmbiaibocdfeaaWire8
import Derived.Test.YtcmbiaibocdfeaaWire7
namespace Go.Proofs.Ytcmbiaibocdfeaa
open Go Go.Fw
set_option maxRecDepth 100000

theorem qhash_any {s : RS} {w0 w : World} {rb : Nat} {v : Value} {T : TypeId} (st : RSt T w0 w rb v s) (hok : s.ok) : Ret Try.prog 46 [.pointer (some ⟨rb, 0, none⟩)] w fun r w' => r = .agg ⟨hcells s.hash.1⟩ ∧ RP T w0 w rb s.hash.2 w' := by
  have e := ExtB.refl (fun _ => False) w
  have lrb := st.lt
  have zst := st.ext.size
  have hrb := st.hrb
  have hlen := st.len
  have h32 : (s.raw 32).1.length ≤ 32 := by rcases raw32 s with h | h <;> simp [h]
  refine ret_of_run Try.func46 rfl Try.ntmps46 rfl ?_
  refine run_seq ?_
  refine run_region rfl ?_
  refine runl_op (t_alloc zero_81 rfl) ?_
  rintro _ w2 ⟨b2, rfl, hb2, e2, n2, l2⟩
  have z2 := e2.size
  replace e := e.trans e2
  refine runl_nil ?_
  refine run_seq ?_
  refine run_region rfl ?_
  refine runl_op (t_alloc zero_81 rfl) ?_
  rintro _ w3 ⟨b3, rfl, hb3, e3, n3, l3⟩
  have z3 := e3.size
  replace e := e.trans e3
  replace hb2 := e3.at hb2
  refine runl_nil ?_
  refine run_seq ?_
  refine run_draw mo (fun w' => ExtB (fun k => k = rb) w3 w') [3] [(true, 0), (true, 1), (false, 2), (false, 3)] (by kernel_rfl) ?_
  intro wr2 er2
  have zr2 := er2.size
  have hsr2 : (fun w' => ExtB (fun k => k = rb) w3 w') wr2 := er2.toB
  have ep := e.trans er2
  have hb2p := er2.at hb2
  have hb3p := er2.at hb3
  refine rund_ev hsr2 rfl (ev_sliceA arr_81 rfl) ?_
  refine rund_ev hsr2 rfl (ev_move rfl) ?_
  refine rund_op rfl (t_call call_63 rfl (qraw_any (st.up ep) hok 32)) ?_
  rintro r6 w6 ⟨ow6, rp6⟩
  obtain ⟨a6, c6, rfl, hc6, sl6, -⟩ := ow6.sl
  have z6 := rp6.2.size
  replace hb2p := rp6.2.at1 hb2p (by omega)
  replace hb3p := rp6.2.at1 hb3p (by omega)
  have hsp6_2 := hsr2.newB1 rp6.2 (by first | exact .inl (by omega) | exact .inr rfl | (right; simp; done) | (right; simp; omega))
  refine ⟨hsp6_2, ?_⟩
  have rq6 := RP.from ep rp6
  refine rund_opT rfl rfl (t_copyB Try.underlying28 sz_5 rfl rfl hb3p h32 sl6 (by simp; omega)) ?_
  rintro _ w7 ⟨rfl, hq7, e7, z7⟩
  replace hb2p := e7.at1 hb2p (by omega)
  replace hb3p := hq7
  obtain ⟨v6, st6⟩ := rq6.1
  replace st6 := st6.own e7 (fun k hk h => by rcases hk with hk | hk <;> omega)
  have eb := rq6.2.newB1 e7 (.inl (by omega))
  refine rund_nil ?_
  replace hb2 := hb2p
  clear hb2p
  replace hb3 := hb3p
  clear hb3p
  replace hb3 : _ = some (Obj.cells ⟨hcells s.hash.1⟩ _ _) := (hash_of s) ▸ hb3
  refine run_seq ?_
  refine run_region rfl ?_
  refine runl_ev (ev_loadA agg_81 (by rw [hcells_length, hash_len]) rfl (eqw (cells_all hb3))) ?_
  refine runl_do (t_storeW sz_81 rfl rfl (by rw [hcells_length, hash_len]) rfl hb2 (hcells_one _)) ?_
  rintro _ v3_1 ⟨hq3_1, e3_1, z3_1⟩
  replace hb3 := e3_1.at1 hb3 (by omega)
  replace hb2 := hq3_1
  clear hq3_1
  refine runl_nil ?_
  refine run_ret_any Try.func46 (resC Try.results46 rfl (loadVar_agg agg_81 (by rw [hcells_length, hash_len]) (cells_all hb2))) ?_
  exact ⟨rfl, RP.of (st6.own e3_1 (fun k hk h => by rcases hk with hk | hk <;> omega)) (eb.newB1 e3_1 (.inl (by omega)))⟩
theorem qkeys_any {s : RS} {w0 w : World} {rb : Nat} {v : Value} {T : TypeId} (st : RSt T w0 w rb v s) (hok : s.ok) : Ret Try.prog 30 [.pointer (some ⟨rb, 0, none⟩)] w fun r w' => ∃ cs, r = .agg ⟨cs⟩ ∧ RKeysF w.heap.size w' (s.keys (min 5)).1 cs ∧ RP T w0 w rb (s.keys (min 5)).2 w' := by
  have e := ExtB.refl (fun _ => False) w
  have lrb := st.lt
  have zst := st.ext.size
  have hrb := st.hrb
  have hlen := st.len
  have hn0 := num_nonneg s
  have hn1 := num_le s
  refine ret_of_run Try.func30 rfl Try.ntmps30 rfl ?_
  refine run_seq ?_
  refine run_region rfl ?_
  refine runl_op (t_alloc zero_24 rfl) ?_
  rintro _ w2 ⟨b2, rfl, hb2, e2, n2, l2⟩
  have z2 := e2.size
  replace e := e.trans e2
  refine runl_nil ?_
  refine run_seq ?_
  refine run_region rfl ?_
  refine runl_op (t_alloc zero_24 rfl) ?_
  rintro _ w3 ⟨b3, rfl, hb3, e3, n3, l3⟩
  have z3 := e3.size
  replace e := e.trans e3
  replace hb2 := e3.at hb2
  refine runl_nil ?_
  refine run_seq ?_
  refine run_region rfl ?_
  refine runl_ev (ev_move rfl) ?_
  refine runl_op (t_call call_29 rfl (qnum_any (st.up e) hok)) ?_
  rintro _ w7 ⟨rfl, rp7⟩
  have rq7 := RP.from e rp7
  obtain ⟨v7, st7⟩ := rq7.1
  have eb7 := rq7.2
  have z7 := rp7.2.size
  replace hb2 := rp7.2.at1 hb2 (by omega)
  replace hb3 := rp7.2.at1 hb3 (by omega)
  refine runl_ev (ev_assign rfl) ?_
  refine runl_nil ?_
  refine run_seq ?_
  refine run_seq ?_
  refine run_region rfl ?_
  refine runl_ev (ev_assign rfl) ?_
  refine runl_nil ?_
  refine run_block ?_
  refine run_loop (ι := Nat × List (List UInt8) × RS × Value × Value) (fun x => [(0, .pointer (some ⟨rb, 0, none⟩)), (2, .pointer (some ⟨b2, 0, none⟩)), (3, .pointer (some ⟨b3, 0, none⟩)), (4, .int .i64 s.num.1), (5, .int .i64 (x.1 : Int))]) (fun x w1 => x.1 ≤ 5 ∧ (x.1 : Int) ≤ s.num.1 ∧ x.2.1.length = x.1 ∧ takenL RS.hash (min 5 s.num.1.toNat - x.1) x.2.1 x.2.2.1 = takenL RS.hash (min 5 s.num.1.toNat) [] s.num.2 ∧ x.2.2.1.ok ∧ OwnG 81 32 RHash w3 x.2.1 x.2.2.2.1 w1 ∧ RSt T w0 w1 rb x.2.2.2.2 x.2.2.1 ∧ ExtB (fun k => k = rb) w w1 ∧ w1.heap[b3]? = some (.cells ⟨[x.2.2.2.1, .int .i64 0]⟩ 24 (0, 0)) ∧ w1.heap[b2]? = some (.cells ⟨[.slice none 0 0, .int .i64 0]⟩ 24 (0, 0)) ∧ w3.heap.size ≤ w1.heap.size) (fun x => 5 - x.1) ((0, [], s.num.2, .slice none 0 0, v7)) ⟨rfl, rfl, rfl, rfl, rfl, trivial⟩ (⟨Nat.zero_le _, hn0, rfl, rfl, ok_num hok, OwnG.nil _ _, st7, eb7, hb3, hb2, z7⟩) ?_
  clear hb2 hb3 st7 eb7 rq7 rp7
  intro ⟨i, acc, s1, vl, v1⟩ w1 ⟨hi, hin, hal, htk, hok1, ow, st1, eb, hb3, hb2, hz3⟩ IH
  simp only at hi hin hal htk hok1 ow st1 hb3 hz3
  have hr1 := st1.hr
  have lb2 := lt_of_at hb2
  obtain ⟨xs, g, own, hpp, hxl, hg, hgl⟩ := ow.open
  obtain ⟨al, cl, rfl⟩ := own.shape
  refine run_seq ?_
  refine run_seq ?_
  have hcs : s.num.1 ≤ (i : Int) ∨ ((i : Int) < s.num.1 ∧ s1.bad = true) ∨ ((i : Int) < s.num.1 ∧ s1.bad = false ∧ i = 5) ∨ ((i : Int) < s.num.1 ∧ s1.bad = false ∧ i ≤ 4) := by
    cases s1.bad <;> simp <;> omega
  rcases hcs with h1 | ⟨h1, h2⟩ | ⟨h1, h2, rfl⟩ | ⟨h1, h2, h3⟩
  · have hfin : (acc, s1) = takenL RS.hash (min 5 s.num.1.toNat) [] s.num.2 := by rw [← htk, show min 5 s.num.1.toNat - i = 0 by omega]; rfl
    refine run_region rfl ?_
    refine runl_ev (ev_move rfl) ?_
    refine runl_ev (ev_move rfl) ?_
    refine runl_ev (ev_lss rfl rfl) ?_
    refine runl_ev (ev_move rfl) ?_
    refine runl_no_g rfl rfl (decide_eq_false (by omega)) ?_
    refine runl_no_g rfl rfl (decide_eq_false (by omega)) ?_
    refine runl_no_g rfl rfl (decide_eq_false (by omega)) ?_
    refine runl_no_g rfl rfl (decide_eq_false (by omega)) ?_
    refine runl_no_g rfl rfl (decide_eq_false (by omega)) ?_
    refine runl_ev (ev_pick rfl rfl rfl (if_neg (by simp; omega))) ?_
    refine runl_ev (ev_move rfl) ?_
    refine runl_no_g rfl rfl (rfl) ?_
    refine runl_no_g rfl rfl (rfl) ?_
    refine runl_ev (ev_pick rfl rfl rfl (if_neg (by simp))) ?_
    refine runl_nil ?_
    refine run_cond_false rfl (rfl) ?_
    refine run_exit rfl ?_
    refine run_seq ?_
    refine run_region rfl ?_
    refine runl_ev (ev_move rfl) ?_
    refine runl_op (t_call call_29 rfl (qnum_any st1 hok1)) ?_
    rintro _ w32 ⟨rfl, rp32⟩
    obtain ⟨v32, st32⟩ := rp32.1
    have ow32 := ow.keep flat_hash rp32.2 (fun k hk => .inl (by omega))
    have hkf := rkeysF_of s1.num.1 ow32
    have z32 := rp32.2.size
    replace hb2 := rp32.2.at1 hb2 (by omega)
    replace hb3 := rp32.2.at1 hb3 (by omega)
    replace own := own.ext1 rp32.2 (by omega)
    replace eb := eb.trans rp32.2
    refine runl_ev (ev_fieldAddr fld_24_1 rfl) ?_
    refine runl_do (t_store1 sz_3 rfl rfl rfl rfl hb3 (by simp)) ?_
    rintro _ v7_3 ⟨hq7_3, e7_3, z7_3⟩
    replace hb2 := e7_3.at1 hb2 (by omega)
    replace eb := eb.newB1 e7_3 (by first | exact .inl (by omega) | exact .inr rfl | exact .inr (.inl rfl) | exact .inr (.inr (by omega)))
    replace st32 := st32.own e7_3 (fun k hk h => by rcases hk with hk | hk <;> omega)
    replace hb3 := hq7_3
    clear hq7_3
    refine runl_nil ?_
    refine run_seq ?_
    refine run_region rfl ?_
    refine runl_ev (ev_loadA agg_24 rfl rfl (eqw (cells_all hb3))) ?_
    refine runl_do (t_storeW sz_24 rfl rfl rfl rfl hb2 ((by simp))) ?_
    rintro _ v8_1 ⟨hq8_1, e8_1, z8_1⟩
    replace hb3 := e8_1.at1 hb3 (by omega)
    replace eb := eb.newB1 e8_1 (by first | exact .inl (by omega) | exact .inr rfl | exact .inr (.inl rfl) | exact .inr (.inr (by omega)))
    replace st32 := st32.own e8_1 (fun k hk h => by rcases hk with hk | hk <;> omega)
    replace hb2 := hq8_1
    clear hq8_1
    refine runl_nil ?_
    refine run_ret_any Try.func30 (resC Try.results30 rfl (loadVar_agg agg_24 rfl (cells_all hb2))) ?_
    have hk : s.keys (min 5) = (⟨acc, s1.num.1⟩, s1.num.2) := by unfold RS.keys; rw [← hfin]
    rw [hk]
    exact ⟨_, rfl, ((hkf.keep e7_3 (fun k hk => by omega)).keep e8_1 (fun k hk => by omega)).up (by omega), RP.of st32 eb⟩
  · have hfin : (acc, s1) = takenL RS.hash (min 5 s.num.1.toNat) [] s.num.2 := by rw [← htk]; cases min 5 s.num.1.toNat - i <;> simp [takenL, h2]
    refine run_region rfl ?_
    refine runl_ev (ev_move rfl) ?_
    refine runl_ev (ev_move rfl) ?_
    refine runl_ev (ev_lss rfl rfl) ?_
    refine runl_ev (ev_move rfl) ?_
    refine runl_ev_g rfl rfl (decide_eq_true (by omega)) (ev_move rfl) ?_
    refine runl_ev_g rfl rfl (decide_eq_true (by omega)) (ev_nilCheck rfl) ?_
    refine runl_ev_g rfl rfl (decide_eq_true (by omega)) (ev_fieldAddr fld_100_1 rfl) ?_
    refine runl_ev_g rfl rfl (decide_eq_true (by omega)) (ev_load1 cell_4 rfl (eqw (cell_blk hr1 rfl))) ?_
    refine runl_ev_g rfl rfl (decide_eq_true (by omega)) (ev_not rfl) ?_
    refine runl_ev (ev_pick rfl rfl rfl (if_pos (decide_eq_true (by omega)))) ?_
    refine runl_ev (ev_move rfl) ?_
    refine runl_no_g rfl rfl (by rw [h2]) ?_
    refine runl_no_g rfl rfl (by rw [h2]) ?_
    refine runl_ev (ev_pick rfl rfl rfl (if_neg (by rw [h2]; simp))) ?_
    refine runl_nil ?_
    refine run_cond_false rfl (rfl) ?_
    refine run_exit rfl ?_
    refine run_seq ?_
    refine run_region rfl ?_
    refine runl_ev (ev_move rfl) ?_
    refine runl_op (t_call call_29 rfl (qnum_any st1 hok1)) ?_
    rintro _ w32 ⟨rfl, rp32⟩
    obtain ⟨v32, st32⟩ := rp32.1
    have ow32 := ow.keep flat_hash rp32.2 (fun k hk => .inl (by omega))
    have hkf := rkeysF_of s1.num.1 ow32
    have z32 := rp32.2.size
    replace hb2 := rp32.2.at1 hb2 (by omega)
    replace hb3 := rp32.2.at1 hb3 (by omega)
    replace own := own.ext1 rp32.2 (by omega)
    replace eb := eb.trans rp32.2
    refine runl_ev (ev_fieldAddr fld_24_1 rfl) ?_
    refine runl_do (t_store1 sz_3 rfl rfl rfl rfl hb3 (by simp)) ?_
    rintro _ v7_3 ⟨hq7_3, e7_3, z7_3⟩
    replace hb2 := e7_3.at1 hb2 (by omega)
    replace eb := eb.newB1 e7_3 (by first | exact .inl (by omega) | exact .inr rfl | exact .inr (.inl rfl) | exact .inr (.inr (by omega)))
    replace st32 := st32.own e7_3 (fun k hk h => by rcases hk with hk | hk <;> omega)
    replace hb3 := hq7_3
    clear hq7_3
    refine runl_nil ?_
    refine run_seq ?_
    refine run_region rfl ?_
    refine runl_ev (ev_loadA agg_24 rfl rfl (eqw (cells_all hb3))) ?_
    refine runl_do (t_storeW sz_24 rfl rfl rfl rfl hb2 ((by simp))) ?_
    rintro _ v8_1 ⟨hq8_1, e8_1, z8_1⟩
    replace hb3 := e8_1.at1 hb3 (by omega)
    replace eb := eb.newB1 e8_1 (by first | exact .inl (by omega) | exact .inr rfl | exact .inr (.inl rfl) | exact .inr (.inr (by omega)))
    replace st32 := st32.own e8_1 (fun k hk h => by rcases hk with hk | hk <;> omega)
    replace hb2 := hq8_1
    clear hq8_1
    refine runl_nil ?_
    refine run_ret_any Try.func30 (resC Try.results30 rfl (loadVar_agg agg_24 rfl (cells_all hb2))) ?_
    have hk : s.keys (min 5) = (⟨acc, s1.num.1⟩, s1.num.2) := by unfold RS.keys; rw [← hfin]
    rw [hk]
    exact ⟨_, rfl, ((hkf.keep e7_3 (fun k hk => by omega)).keep e8_1 (fun k hk => by omega)).up (by omega), RP.of st32 eb⟩
  · have hfin : (acc, s1) = takenL RS.hash (min 5 s.num.1.toNat) [] s.num.2 := by rw [← htk, show min 5 s.num.1.toNat - 5 = 0 by omega]; rfl
    refine run_region rfl ?_
    refine runl_ev (ev_move rfl) ?_
    refine runl_ev (ev_move rfl) ?_
    refine runl_ev (ev_lss rfl rfl) ?_
    refine runl_ev (ev_move rfl) ?_
    refine runl_ev_g rfl rfl (decide_eq_true (by omega)) (ev_move rfl) ?_
    refine runl_ev_g rfl rfl (decide_eq_true (by omega)) (ev_nilCheck rfl) ?_
    refine runl_ev_g rfl rfl (decide_eq_true (by omega)) (ev_fieldAddr fld_100_1 rfl) ?_
    refine runl_ev_g rfl rfl (decide_eq_true (by omega)) (ev_load1 cell_4 rfl (eqw (cell_blk hr1 rfl))) ?_
    refine runl_ev_g rfl rfl (decide_eq_true (by omega)) (ev_not rfl) ?_
    refine runl_ev (ev_pick rfl rfl rfl (if_pos (decide_eq_true (by omega)))) ?_
    refine runl_ev (ev_move rfl) ?_
    refine runl_ev_g rfl rfl (by rw [h2]; rfl) (ev_move rfl) ?_
    refine runl_ev_g rfl rfl (by rw [h2]; rfl) (ev_leq rfl rfl) ?_
    refine runl_ev (ev_pick rfl rfl rfl (if_pos (by rw [h2]; rfl))) ?_
    refine runl_nil ?_
    refine run_cond_false rfl (decide_eq_false (by omega)) ?_
    refine run_exit rfl ?_
    refine run_seq ?_
    refine run_region rfl ?_
    refine runl_ev (ev_move rfl) ?_
    refine runl_op (t_call call_29 rfl (qnum_any st1 hok1)) ?_
    rintro _ w32 ⟨rfl, rp32⟩
    obtain ⟨v32, st32⟩ := rp32.1
    have ow32 := ow.keep flat_hash rp32.2 (fun k hk => .inl (by omega))
    have hkf := rkeysF_of s1.num.1 ow32
    have z32 := rp32.2.size
    replace hb2 := rp32.2.at1 hb2 (by omega)
    replace hb3 := rp32.2.at1 hb3 (by omega)
    replace own := own.ext1 rp32.2 (by omega)
    replace eb := eb.trans rp32.2
    refine runl_ev (ev_fieldAddr fld_24_1 rfl) ?_
    refine runl_do (t_store1 sz_3 rfl rfl rfl rfl hb3 (by simp)) ?_
    rintro _ v7_3 ⟨hq7_3, e7_3, z7_3⟩
    replace hb2 := e7_3.at1 hb2 (by omega)
    replace eb := eb.newB1 e7_3 (by first | exact .inl (by omega) | exact .inr rfl | exact .inr (.inl rfl) | exact .inr (.inr (by omega)))
    replace st32 := st32.own e7_3 (fun k hk h => by rcases hk with hk | hk <;> omega)
    replace hb3 := hq7_3
    clear hq7_3
    refine runl_nil ?_
    refine run_seq ?_
    refine run_region rfl ?_
    refine runl_ev (ev_loadA agg_24 rfl rfl (eqw (cells_all hb3))) ?_
    refine runl_do (t_storeW sz_24 rfl rfl rfl rfl hb2 ((by simp))) ?_
    rintro _ v8_1 ⟨hq8_1, e8_1, z8_1⟩
    replace hb3 := e8_1.at1 hb3 (by omega)
    replace eb := eb.newB1 e8_1 (by first | exact .inl (by omega) | exact .inr rfl | exact .inr (.inl rfl) | exact .inr (.inr (by omega)))
    replace st32 := st32.own e8_1 (fun k hk h => by rcases hk with hk | hk <;> omega)
    replace hb2 := hq8_1
    clear hq8_1
    refine runl_nil ?_
    refine run_ret_any Try.func30 (resC Try.results30 rfl (loadVar_agg agg_24 rfl (cells_all hb2))) ?_
    have hk : s.keys (min 5) = (⟨acc, s1.num.1⟩, s1.num.2) := by unfold RS.keys; rw [← hfin]
    rw [hk]
    exact ⟨_, rfl, ((hkf.keep e7_3 (fun k hk => by omega)).keep e8_1 (fun k hk => by omega)).up (by omega), RP.of st32 eb⟩
  · have htk1 : takenL RS.hash (min 5 s.num.1.toNat - (i + 1)) (acc ++ [s1.hash.1]) s1.hash.2 = takenL RS.hash (min 5 s.num.1.toNat) [] s.num.2 := by rw [← htk, show min 5 s.num.1.toNat - i = (min 5 s.num.1.toNat - (i + 1)) + 1 by omega, takenL, if_neg (by rw [h2]; simp)]
    refine run_region rfl ?_
    refine runl_ev (ev_move rfl) ?_
    refine runl_ev (ev_move rfl) ?_
    refine runl_ev (ev_lss rfl rfl) ?_
    refine runl_ev (ev_move rfl) ?_
    refine runl_ev_g rfl rfl (decide_eq_true (by omega)) (ev_move rfl) ?_
    refine runl_ev_g rfl rfl (decide_eq_true (by omega)) (ev_nilCheck rfl) ?_
    refine runl_ev_g rfl rfl (decide_eq_true (by omega)) (ev_fieldAddr fld_100_1 rfl) ?_
    refine runl_ev_g rfl rfl (decide_eq_true (by omega)) (ev_load1 cell_4 rfl (eqw (cell_blk hr1 rfl))) ?_
    refine runl_ev_g rfl rfl (decide_eq_true (by omega)) (ev_not rfl) ?_
    refine runl_ev (ev_pick rfl rfl rfl (if_pos (decide_eq_true (by omega)))) ?_
    refine runl_ev (ev_move rfl) ?_
    refine runl_ev_g rfl rfl (by rw [h2]; rfl) (ev_move rfl) ?_
    refine runl_ev_g rfl rfl (by rw [h2]; rfl) (ev_leq rfl rfl) ?_
    refine runl_ev (ev_pick rfl rfl rfl (if_pos (by rw [h2]; rfl))) ?_
    refine runl_nil ?_
    refine run_cond_true rfl (decide_eq_true (by omega)) ?_
    refine run_skip ?_
    refine run_seq ?_
    refine run_block ?_
    refine run_draw mo (fun w' => ExtB (fun k => k = rb ∨ (k : Int) = g) w1 w') [7] [(true, 0), (true, 1), (true, 2), (false, 3), (false, 4), (false, 5), (true, 6), (false, 7)] (by kernel_rfl) ?_
    intro wr6 er6
    have zr6 := er6.size
    have hsr6 : (fun w' => ExtB (fun k => k = rb ∨ (k : Int) = g) w1 w') wr6 := er6.toB
    have hb2p := er6.at hb2
    have hb3p := er6.at hb3
    have ownp := own.ext er6
    have st1p := st1.up er6
    have ebp := eb.trans er6.toB
    refine rund_ev hsr6 rfl (ev_fieldAddr fld_24_0 rfl) ?_
    refine rund_ev hsr6 rfl (ev_load1 cell_22 rfl (fun wz hz => cell_blk (hz.at hb3 (fun h => by rcases h with h | h <;> omega)) rfl)) ?_
    refine rund_ev hsr6 rfl (ev_move rfl) ?_
    refine rund_op rfl (t_call call_46 rfl (qhash_any st1p hok1)) ?_
    rintro _ w27 ⟨rfl, rp27⟩
    obtain ⟨v27, st27⟩ := rp27.1
    have z27 := rp27.2.size
    replace hb2p := rp27.2.at1 hb2p (by omega)
    replace hb3p := rp27.2.at1 hb3p (by omega)
    replace ownp := ownp.ext1 rp27.2 (by omega)
    replace ebp := ebp.newB1 rp27.2 (by first | exact .inl (by omega) | exact .inr rfl | exact .inr (.inl rfl) | exact .inr (.inr (by omega)))
    have hsp27_2 := hsr6.newB1 rp27.2 (by first | exact .inl (by omega) | exact .inr rfl | (right; simp; done) | (right; simp; omega))
    refine ⟨hsp27_2, ?_⟩
    have st27p := st27
    refine rund_op rfl (t_buildSlice (out := hcells s1.hash.1) Try.underlying22 sz_81 zero_81 rfl rfl (by decide) (by decide) rfl (fill_one rfl (by rw [hcells_length, hash_len]) rfl)) ?_
    rintro _ w28 ⟨b28, rfl, hb28, e28, n28, l28⟩
    have z28 := e28.size
    replace hb2p := e28.at hb2p
    replace hb3p := e28.at hb3p
    replace ownp := ownp.ext e28
    replace ebp := ebp.trans e28.toB
    replace st27p := st27p.up e28
    have hs28 := hsp27_2.trans e28.toB
    refine ⟨hs28, ?_⟩
    have hb28p := hb28
    refine rund_op rfl (t_append (news := hcells s1.hash.1) ef_22 rfl rfl ownp (by rw [hcells_length, hash_len]) (cells_all hb28p) (hcells_one _) (by unfold maxLen; omega) (by omega)) ?_
    rintro v29 w29 ⟨g29, ap29⟩
    have z29 := ap29.ext.size
    replace hb2p := ap29.ext.atG hb2p (by omega)
    replace hb3p := ap29.ext.atG hb3p (by omega)
    replace ebp := ebp.newBG ap29.ext (fun k hk => by first | exact .inl (by omega) | exact .inr hk | exact .inr (.inr hk) | exact .inr (.inr (by omega)))
    replace st27p := st27p.own ap29.ext (fun k hk h => by rcases hk with hk | hk <;> omega)
    replace hb28p := ap29.ext.atG hb28p (by omega)
    have hsp29_ext := hs28.newBG ap29.ext (fun k hk => by first | exact .inr hk | exact .inr (.inr hk) | exact .inl (by omega))
    refine ⟨hsp29_ext, ?_⟩
    have ow29 := OwnG.app flat_hash (l' := [s1.hash.1]) (by omega) hg (by omega) (hpp.mono fun _ _ _ hr => flat_hash _ _ _ _ hr) hxl (pc (w := w28) ⟨hash_len _, by rw [List.take_of_length_le (by rw [hcells_length, hash_len]; exact Nat.le_refl _)]⟩ pn) ap29 rfl rfl
    obtain ⟨a29, c29, rfl, hc29, -, -⟩ := ow29.sl
    refine rund_ev hsp29_ext rfl (ev_fieldAddr fld_24_0 rfl) ?_
    refine rund_doT rfl rfl (t_store1 sz_22 rfl rfl rfl rfl hb3p (by simp)) ?_
    rintro _ v6_7 ⟨hq6_7, e6_7, z6_7⟩
    replace hb2p := e6_7.at1 hb2p (by omega)
    replace ebp := ebp.newB1 e6_7 (by first | exact .inl (by omega) | exact .inr rfl | exact .inr (.inl rfl) | exact .inr (.inr (by omega)))
    replace st27p := st27p.own e6_7 (fun k hk h => by rcases hk with hk | hk <;> omega)
    replace hb3p := hq6_7
    clear hq6_7
    refine rund_nil ?_
    replace hb2 := hb2p
    clear hb2p
    replace hb3 := hb3p
    clear hb3p
    replace eb := ebp
    clear ebp
    replace st27 := st27p
    clear st27p
    refine run_inBlock ?_
    refine run_region rfl ?_
    refine runl_ev (ev_move rfl) ?_
    refine runl_ev (ev_add rfl rfl (by omega) (by omega)) ?_
    refine runl_ev (ev_assign rfl) ?_
    refine runl_nil ?_
    exact IH (i + 1, acc ++ [s1.hash.1], s1.hash.2, _, v27) _ _ (by simp only; omega) ⟨rfl, rfl, rfl, rfl, rfl, trivial⟩ ⟨by show i + 1 ≤ 5; omega, by show ((i + 1 : Nat) : Int) ≤ _; omega, by show (acc ++ [_]).length = i + 1; simp [hal], htk1, ok_hash hok1, ow29.keep flat_hash e6_7 (fun k hk => .inl (by omega)), st27, eb, hb3, hb2, by omega⟩
theorem qreader_any (l : List UInt8) (w : World) (a : Option Addr) (n c : Nat) (hl : SlAt 1 RByte w (.slice a n c) l) (hc : l.length ≤ c) (hn : l.length ≤ 1099511627776) (kind : Int) :
    Ret Try.prog 28 [.slice a n c, .int .i64 kind] w fun r w' => ∃ rb v, r = .pointer (some ⟨rb, 0, none⟩) ∧ RSt 100 w w' rb v (kindS kind l) := by
  have e := ExtB.refl (fun _ => False) w
  obtain ⟨rfl, -⟩ := hl.at
  refine ret_of_run Try.func28 rfl Try.ntmps28 rfl ?_
  refine run_seq ?_
  refine run_region rfl ?_
  refine runl_ev (ev_assign rfl) ?_
  refine runl_nil ?_
  refine run_seq ?_
  refine run_region rfl ?_
  refine runl_ev (ev_move rfl) ?_
  refine runl_ev (ev_build (out := [.slice a l.length c, .bool false]) ps_100 zero_100 rfl rfl (rfl)) ?_
  refine runl_op (t_boxA rfl) ?_
  rintro _ w8 ⟨b8, rfl, hb8, e8, n8, l8⟩
  have z8 := e8.size
  replace e := e.trans e8
  have st : RSt 100 w w8 b8 _ ⟨l, false⟩ := ⟨hb8, hl, ⟨a, c, rfl, hc⟩, e, n8, hn⟩
  refine runl_ev (ev_assign rfl) ?_
  refine runl_nil ?_
  refine run_seq ?_
  refine run_seq ?_
  refine run_region rfl ?_
  refine runl_ev (ev_move rfl) ?_
  refine runl_op (t_call call_29 rfl (qnum_any st (fun h => by cases h))) ?_
  rintro _ w10 ⟨rfl, rp10⟩
  obtain ⟨v10, st10⟩ := rp10.1
  have z10 := rp10.2.size
  replace e := e.new1 rp10.2 (by omega)
  refine runl_ev (ev_move rfl) ?_
  refine runl_ev (ev_neqI rfl rfl) ?_
  refine runl_nil ?_
  refine run_dcond rfl (fun h0 => ?_) (fun h0 => ?_)
  · have hk : kindS kind l = .fail := by unfold kindS; rw [if_pos h0]
    rw [hk]
    refine run_region rfl ?_
    refine runl_ev (ev_move rfl) ?_
    refine runl_op (t_call call_62 rfl (qbad_any st10)) ?_
    rintro _ w14 ⟨rfl, rp14⟩
    obtain ⟨v14, st14⟩ := rp14.1
    have z14 := rp14.2.size
    replace e := e.new1 rp14.2 (by omega)
    refine runl_nil ?_
    refine run_seq ?_
    refine run_region rfl ?_
    refine runl_ev (ev_move rfl) ?_
    refine runl_ev (ev_assign rfl) ?_
    refine runl_nil ?_
    refine run_ret_any Try.func28 (res1 Try.results28 rfl) ?_
    exact ⟨b8, v14, rfl, st14⟩
  · have hk : kindS kind l = (RS.mk l false).num.2 := by unfold kindS; rw [if_neg h0]
    rw [hk]
    refine run_skip ?_
    refine run_seq ?_
    refine run_region rfl ?_
    refine runl_ev (ev_move rfl) ?_
    refine runl_ev (ev_assign rfl) ?_
    refine runl_nil ?_
    refine run_ret_any Try.func28 (res1 Try.results28 rfl) ?_
    exact ⟨b8, v10, rfl, st10⟩
theorem qjust_any {s : RS} {w0 w : World} {rb : Nat} {v : Value} {T : TypeId} (st : RSt T w0 w rb v s) (l l2 : List UInt8) (ee : Int) (a a2 : Option Addr) (n c n2 c2 : Nat) (hl : SlAt 1 RByte w (.slice a n c) l) (hl2 : SlAt 1 RByte w (.slice a2 n2 c2) l2) :
    Ret Try.prog 31 [.pointer (some ⟨rb, 0, none⟩), .slice a n c, .slice a2 n2 c2, .int .i64 ee] w fun r w' => r = .bool (s.whole && (decide (ee = 0) && decide (l = l2))) ∧ Ext w w' := by
  have e := ExtB.refl (fun _ => False) w
  refine ret_of_run Try.func31 rfl Try.ntmps31 rfl ?_
  refine run_seq ?_
  refine run_region rfl ?_
  refine runl_ev (ev_assign rfl) ?_
  refine runl_nil ?_
  refine run_seq ?_
  refine run_region rfl ?_
  refine runl_ev (ev_move rfl) ?_
  refine runl_op (t_call call_64 rfl (qwhole_any st)) ?_
  rintro _ w10 ⟨rfl, e10⟩
  have z10 := e10.size
  replace e := e.trans e10
  cases hw : s.whole
  · refine runl_ev (ev_move rfl) ?_
    refine runl_no_g rfl rfl (rfl) ?_
    refine runl_no_g rfl rfl (rfl) ?_
    refine runl_ev (ev_pick rfl rfl rfl (if_neg (by simp))) ?_
    refine runl_ev (ev_move rfl) ?_
    refine runl_no_g rfl rfl (rfl) ?_
    refine runl_no_g rfl rfl (rfl) ?_
    refine runl_no_g rfl rfl (rfl) ?_
    refine runl_no_g rfl rfl (rfl) ?_
    refine runl_no_g rfl rfl (rfl) ?_
    refine runl_ev (ev_pick rfl rfl rfl (if_neg (by simp))) ?_
    refine runl_ev (ev_assign rfl) ?_
    refine runl_nil ?_
    refine run_ret_any Try.func31 (res1 Try.results31 rfl) ?_
    exact ⟨rfl, e⟩
  · refine runl_ev (ev_move rfl) ?_
    refine runl_ev_g rfl rfl (rfl) (ev_move rfl) ?_
    refine runl_ev_g rfl rfl (rfl) (ev_eqlI rfl rfl) ?_
    refine runl_ev (ev_pick rfl rfl rfl (if_pos (rfl))) ?_
    by_cases he : ee = 0
    · refine runl_ev (ev_move rfl) ?_
      refine runl_ev_g rfl rfl (decide_eq_true he) (ev_move rfl) ?_
      refine runl_ev_g rfl rfl (decide_eq_true he) (ev_convB (l) Try.underlying28 Try.underlying5 Try.underlying9 rfl (eqw (hl.ext RByte.stable e))) ?_
      refine runl_ev_g rfl rfl (decide_eq_true he) (ev_move rfl) ?_
      refine runl_ev_g rfl rfl (decide_eq_true he) (ev_convB (l2) Try.underlying28 Try.underlying5 Try.underlying9 rfl (eqw (hl2.ext RByte.stable e))) ?_
      refine runl_ev_g rfl rfl (decide_eq_true he) (ev_eqlS rfl rfl) ?_
      refine runl_ev (ev_pick rfl rfl rfl (if_pos (decide_eq_true he))) ?_
      refine runl_ev (ev_assign rfl) ?_
      refine runl_nil ?_
      refine run_ret_any Try.func31 (res1 Try.results31 rfl) ?_
      refine ⟨?_, e⟩
      rw [decide_eq_true he, decide_eq_decide.2 str_eq]
      rfl
    · refine runl_ev (ev_move rfl) ?_
      refine runl_no_g rfl rfl (decide_eq_false he) ?_
      refine runl_no_g rfl rfl (decide_eq_false he) ?_
      refine runl_no_g rfl rfl (decide_eq_false he) ?_
      refine runl_no_g rfl rfl (decide_eq_false he) ?_
      refine runl_no_g rfl rfl (decide_eq_false he) ?_
      refine runl_ev (ev_pick rfl rfl rfl (if_neg (by simp [he]))) ?_
      refine runl_ev (ev_assign rfl) ?_
      refine runl_nil ?_
      refine run_ret_any Try.func31 (res1 Try.results31 rfl) ?_
      exact ⟨by rw [decide_eq_false he]; rfl, e⟩
end Go.Proofs.Ytcmbiaibocdfeaa
