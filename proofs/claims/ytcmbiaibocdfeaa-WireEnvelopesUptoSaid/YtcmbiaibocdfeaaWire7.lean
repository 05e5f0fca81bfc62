/- The walks of what decodes a root. -/
import Derived.Test.YtcmbiaibocdfeaaWire6
import Derived.Test.YtcmbiaibocdfeaaFwT
namespace Go.Proofs.Ytcmbiaibocdfeaa
open Go Go.Fw
set_option maxRecDepth 100000
theorem root_set {a b : Value} {ks z cs : List Value} {k : Nat} (h : ks.length = 2 * k) (hc : cs.length = 2) : splice (a :: b :: (ks ++ z)) (0 + 2 + k * 2) cs = a :: b :: ((ks ++ cs) ++ z.drop 2) := by
  have := splice_app (pre := a :: b :: ks) (z := z) (vs := cs) (o := 0 + 2 + k * 2) (by simp only [List.length_cons]; omega)
  rw [hc] at this
  simpa using this

theorem rdroot_any {s : RS} {w0 w : World} {rb : Nat} {v : Value} {T : TypeId} (st : RSt T w0 w rb v s) : Ret Try.prog 27 [.agg ⟨[.pointer (some ⟨rb, 0, none⟩)]⟩] w fun r w' => ∃ cs, r = .agg ⟨cs⟩ ∧ RRootF w.heap.size w' (s.root id).1 cs ∧ RP T w0 w rb (s.root id).2 w' := by
  have e := ExtB.refl (fun _ => False) w
  have lrb := st.lt
  have zst := st.ext.size
  have hrb := st.hrb
  have hlen := st.len
  refine ret_of_run Try.func27 rfl Try.ntmps27 rfl ?_
  refine run_seq ?_
  refine run_region rfl ?_
  refine runl_op (t_boxA rfl) ?_
  rintro _ w1 ⟨b1, rfl, hb1, e1, n1, l1⟩
  have z1 := e1.size
  replace e := e.trans e1
  refine runl_op (t_alloc zero_27 rfl) ?_
  rintro _ w2 ⟨b2, rfl, hb2, e2, n2, l2⟩
  have z2 := e2.size
  replace e := e.trans e2
  replace hb1 := e2.at hb1
  refine runl_nil ?_
  refine run_cut1 (ι := Nat × Value) (fun x => [(1, .pointer (some ⟨b1, 0, none⟩)), (2, .pointer (some ⟨b2, 0, none⟩)), (3, .pointer (some ⟨x.1, 0, none⟩))]) (fun x w3 => w3.heap[x.1]? = some (.cells ⟨.int .i64 s.num.1 :: .int .i64 s.num.2.num.1 :: [.slice none 0 0, .int .i64 0, .slice none 0 0, .int .i64 0, .slice none 0 0, .int .i64 0, .slice none 0 0, .int .i64 0]⟩ 27 (0, 0)) ∧ w3.heap[b1]? = some (.cells ⟨[.pointer (some ⟨rb, 0, none⟩)]⟩ 72 (0, 0)) ∧ w3.heap[b2]? = some (.cells ⟨rootZ⟩ 27 (0, 0)) ∧ RSt T w0 w3 rb x.2 s.num.2.num.2 ∧ ExtB (fun k => k = rb) w w3 ∧ w2.heap.size ≤ x.1) ?_ ?_
  · clear hb1 hb2 e
    intro ⟨b3, v10⟩ w3 ⟨hb3, hb1, hb2, st10, eb10, n3⟩
    simp only at hb3 st10 n3
    have l3 := lt_of_at hb3
    refine run_seq ?_
    refine run_seq ?_
    refine run_region rfl ?_
    refine runl_ev (ev_move rfl) ?_
    refine runl_nil ?_
    refine run_block ?_
    refine run_loop (ι := Nat × List KeysP × RS × Value × List Value × List Value) (fun x => [(1, .pointer (some ⟨b1, 0, none⟩)), (2, .pointer (some ⟨b2, 0, none⟩)), (3, .pointer (some ⟨b3, 0, none⟩)), (12, .int .i64 (x.1 : Int))]) (fun x w1 => x.1 ≤ 4 ∧ x.2.1.length = x.1 ∧ rowsA (RS.keys id) (4 - x.1) x.2.1 x.2.2.1 = rowsA (RS.keys id) 4 [] s.num.2.num.2 ∧ x.2.2.2.2.1.length = 2 * x.1 ∧ x.2.2.2.2.2.length = 8 - 2 * x.1 ∧ Parts 2 (RKeysF w3.heap.size) w1 x.2.1 x.2.2.2.2.1 ∧ w1.heap[b3]? = some (.cells ⟨.int .i64 s.num.1 :: .int .i64 s.num.2.num.1 :: (x.2.2.2.2.1 ++ x.2.2.2.2.2)⟩ 27 (0, 0)) ∧ w1.heap[b1]? = some (.cells ⟨[.pointer (some ⟨rb, 0, none⟩)]⟩ 72 (0, 0)) ∧ w1.heap[b2]? = some (.cells ⟨rootZ⟩ 27 (0, 0)) ∧ RSt T w0 w1 rb x.2.2.2.1 x.2.2.1 ∧ ExtB (fun k => k = rb) w w1 ∧ w3.heap.size ≤ w1.heap.size) (fun x => 4 - x.1) ((0, [], s.num.2.num.2, v10, [], [.slice none 0 0, .int .i64 0, .slice none 0 0, .int .i64 0, .slice none 0 0, .int .i64 0, .slice none 0 0, .int .i64 0])) ⟨rfl, rfl, rfl, rfl, trivial⟩ (⟨Nat.zero_le _, rfl, rfl, rfl, rfl, trivial, hb3, hb1, hb2, st10, eb10, by omega⟩) ?_
    clear hb1 hb2 hb3 st10 eb10
    intro ⟨k, acc, s1, v1, ks, zs⟩ w1 ⟨hk, hal, hrw, hkz, hzz, hP, hb3, hb1, hb2, st1, eb, hz3⟩ IH
    simp only at hk hal hrw hkz hzz hP hb3 st1 hz3
    refine run_seq ?_
    refine run_region rfl ?_
    refine runl_ev (ev_lss rfl rfl) ?_
    refine runl_nil ?_
    refine run_seq ?_
    refine run_dcond rfl (fun h0 => ?_) (fun h0 => ?_)
    · have hrw1 : rowsA (RS.keys id) (4 - (k + 1)) (acc ++ [(RS.keys id s1).1]) (RS.keys id s1).2 = rowsA (RS.keys id) 4 [] s.num.2.num.2 := by rw [← hrw, show 4 - k = (4 - (k + 1)) + 1 by omega]; rfl
      refine run_skip ?_
      refine run_seq ?_
      refine run_block ?_
      refine run_seq ?_
      refine run_region rfl ?_
      refine runl_ev (ev_move rfl) ?_
      refine runl_ev (ev_assign rfl) ?_
      refine runl_nil ?_
      refine run_region rfl ?_
      refine runl_ev (ev_move rfl) ?_
      refine runl_ev (ev_loadA agg_72 rfl rfl (eqw (cells_all hb1))) ?_
      refine runl_op (t_call call_61 rfl (rdkeys_any st1)) ?_
      rintro _ w17 ⟨c17, rfl, kf17, rp17⟩
      obtain ⟨v17, st17⟩ := rp17.1
      have hc17 := rkeys_len _ _ _ kf17.r
      replace kf17 := kf17.up (by omega : w3.heap.size ≤ _)
      have z17 := rp17.2.size
      replace hb1 := rp17.2.at1 hb1 (by omega)
      replace hb2 := rp17.2.at1 hb2 (by omega)
      replace hb3 := rp17.2.at1 hb3 (by omega)
      replace hP := hP.mono (fun _ _ _ h => h.keep rp17.2 (fun k hk => by omega))
      replace eb := eb.trans rp17.2
      refine runl_ev (ev_fieldAddr fld_27_2 rfl) ?_
      refine runl_ev (ev_indexAddrA arr_25 rfl rfl (by omega)) ?_
      refine runl_do (t_store sz_24 rfl rfl rfl hc17 hb3 (by rw [hc17]; simp only [List.length_cons, List.length_append]; omega) (rkeys_one _ _ kf17.r)) ?_
      rintro _ v5_5 ⟨hq5_5, e5_5, z5_5⟩
      replace hb1 := e5_5.at1 hb1 (by omega)
      replace hb2 := e5_5.at1 hb2 (by omega)
      replace eb := eb.newB1 e5_5 (by first | exact .inl (by omega) | exact .inr rfl | exact .inr (.inl rfl) | exact .inr (.inr (by omega)))
      replace st17 := st17.own e5_5 (fun k hk h => by rcases hk with hk | hk <;> omega)
      replace hb3 := hq5_5
      clear hq5_5
      refine runl_nil ?_
      replace hb3 := (root_set hkz hc17) ▸ hb3
      have hP2 := Parts.app hP (by omega) (pc (x := (RS.keys id s1).1) (r := []) (cs := c17) (by rw [List.take_of_length_le (by omega)]; exact kf17) pn)
      replace hP2 := hP2.mono (fun _ _ _ h => h.keep e5_5 (fun k hk => by omega))
      refine run_inBlock ?_
      refine run_region rfl ?_
      refine runl_ev (ev_add rfl rfl (by omega) (by omega)) ?_
      refine runl_ev (ev_move rfl) ?_
      refine runl_nil ?_
      exact IH (k + 1, acc ++ [(RS.keys id s1).1], (RS.keys id s1).2, v17, ks ++ c17, zs.drop 2) _ _ (by simp only; omega) ⟨rfl, rfl, rfl, rfl, trivial⟩ ⟨by show k + 1 ≤ 4; omega, by show (acc ++ [_]).length = k + 1; simp [hal], hrw1, by show (ks ++ c17).length = 2 * (k + 1); rw [List.length_append]; omega, by show (zs.drop 2).length = 8 - 2 * (k + 1); rw [List.length_drop]; omega, hP2, hb3, hb1, hb2, st17, eb, by omega⟩
    · obtain rfl : k = 4 := by omega
      obtain rfl : zs = [] := List.eq_nil_of_length_eq_zero (by omega)
      rw [List.append_nil] at hb3
      have hfin : rowsA (RS.keys id) 4 [] s.num.2.num.2 = (acc, s1) := hrw.symm
      have hroot : s.root id = (⟨s.num.1, s.num.2.num.1, acc⟩, s1) := by unfold RS.root; rw [hfin]
      rw [hroot]
      refine run_exit rfl ?_
      refine run_seq ?_
      refine run_region rfl ?_
      refine runl_ev (ev_loadA agg_27 (by simp only [List.length_cons]; omega) rfl (eqw (cells_all hb3))) ?_
      refine runl_do (t_storeW sz_27 rfl rfl (by simp only [List.length_cons]; omega) rfl hb2 ((fun v hv => by rcases List.mem_cons.1 hv with rfl | hv; rfl; rcases List.mem_cons.1 hv with rfl | hv; rfl; exact parts_one (fun x cs h => rkeys_one x cs (RKeysF.r h)) hP (by omega) v hv))) ?_
      rintro _ v7_1 ⟨hq7_1, e7_1, z7_1⟩
      replace hb1 := e7_1.at1 hb1 (by omega)
      replace hb3 := e7_1.at1 hb3 (by omega)
      replace st1 := st1.own e7_1 (fun k hk h => by rcases hk with hk | hk <;> omega)
      replace eb := eb.newB1 e7_1 (by first | exact .inl (by omega) | exact .inr rfl | exact .inr (.inl rfl) | exact .inr (.inr (by omega)))
      replace hb2 := hq7_1
      clear hq7_1
      refine runl_nil ?_
      refine run_ret_any Try.func27 (resC Try.results27 rfl (loadVar_agg agg_27 (by simp only [List.length_cons]; omega) (cells_all hb2))) ?_
      exact ⟨_, rfl, ⟨ks, rfl, by omega, hal, hP.mono (fun _ _ _ h => (h.keep e7_1 (fun k hk => by omega)).up (by omega))⟩, RP.of st1 eb⟩
  · intro JJ
    refine run_drawT mo (fun w' => ExtB (fun k => k = rb) w2 w') [8] (.alt [(true, 0), (true, 1), (true, 3), (true, 4)] (.alt [(false, 2)] (.seq [(false, 5), (true, 6), (false, 7), (false, 8)]) (.seq [(false, 7), (false, 5), (true, 6), (false, 8)])) (.seq [(false, 7), (false, 2), (false, 5), (true, 6), (false, 8)])) (by kernel_rfl) ?_
    intro wr1 er1
    have zr1 := er1.size
    have hsr1 : (fun w' => ExtB (fun k => k = rb) w2 w') wr1 := er1.toB
    have ep := e.trans er1
    have hb1p := er1.at hb1
    have hb2p := er1.at hb2
    refine runt_alt ?_
    refine rund_ev hsr1 rfl (ev_fieldAddr fld_72_0 rfl) ?_
    refine rund_ev hsr1 rfl (ev_load1 cell_70 rfl (fun wz hz => cell_blk (hz.at1 hb1 (by omega)) rfl)) ?_
    refine rund_ev hsr1 rfl (ev_fieldAddr fld_72_0 rfl) ?_
    refine rund_ev hsr1 rfl (ev_load1 cell_70 rfl (fun wz hz => cell_blk (hz.at1 hb1 (by omega)) rfl)) ?_
    refine rund_nil ⟨?_, ?_⟩
    · refine runt_alt ?_
      refine rund_op rfl (t_call call_59 rfl (rnum_any (st.up ep))) ?_
      rintro _ w7 ⟨rfl, rp7⟩
      have rq7 := RP.from ep rp7
      obtain ⟨v7, st7⟩ := rq7.1
      have eb7 := rq7.2
      have z7 := rp7.2.size
      replace hb1p := rp7.2.at1 hb1p (by omega)
      replace hb2p := rp7.2.at1 hb2p (by omega)
      have hsp7_2 := hsr1.newB1 rp7.2 (by first | exact .inl (by omega) | exact .inr rfl | (right; simp; done) | (right; simp; omega))
      refine ⟨hsp7_2, ?_⟩
      have st7p := st7
      have eb7p := eb7
      refine rund_nil ⟨?_, ?_⟩
      · refine runt_seq ?_
        refine rund_op rfl (t_call call_59 rfl (rnum_any st7p)) ?_
        rintro _ w10 ⟨rfl, rp10⟩
        obtain ⟨v10, st10⟩ := rp10.1
        have z10 := rp10.2.size
        replace hb1p := rp10.2.at1 hb1p (by omega)
        replace hb2p := rp10.2.at1 hb2p (by omega)
        replace eb7p := eb7p.newB1 rp10.2 (by first | exact .inl (by omega) | exact .inr rfl | exact .inr (.inl rfl) | exact .inr (.inr (by omega)))
        have hsp10_2 := hsp7_2.newB1 rp10.2 (by first | exact .inl (by omega) | exact .inr rfl | (right; simp; done) | (right; simp; omega))
        refine ⟨hsp10_2, ?_⟩
        have st10p := st10
        refine rund_ev hsp10_2 rfl (ev_build (out := .int .i64 s.num.1 :: .int .i64 s.num.2.num.1 :: [.slice none 0 0, .int .i64 0, .slice none 0 0, .int .i64 0, .slice none 0 0, .int .i64 0, .slice none 0 0, .int .i64 0]) ps_27 zero_27 rfl rfl (rfl)) ?_
        refine rund_op rfl (t_alloc zero_27 rfl) ?_
        rintro _ w3 ⟨b3, rfl, hb3, e3, n3, l3⟩
        have z3 := e3.size
        replace hb1p := e3.at hb1p
        replace hb2p := e3.at hb2p
        replace eb7p := eb7p.trans e3.toB
        replace st10p := st10p.up e3
        have hs3 := hsp10_2.trans e3.toB
        refine ⟨hs3, ?_⟩
        have hb3p := hb3
        refine rund_doT rfl rfl (t_storeW sz_27 rfl rfl rfl rfl hb3p ((by simp))) ?_
        rintro _ v1_8 ⟨hq1_8, e1_8, z1_8⟩
        replace hb1p := e1_8.at1 hb1p (by omega)
        replace hb2p := e1_8.at1 hb2p (by omega)
        replace eb7p := eb7p.newB1 e1_8 (by first | exact .inl (by omega) | exact .inr rfl | exact .inr (.inl rfl) | exact .inr (.inr (by omega)))
        replace st10p := st10p.own e1_8 (fun k hk h => by rcases hk with hk | hk <;> omega)
        replace hb3p := hq1_8
        clear hq1_8
        refine rund_nil ?_
        replace hb1 := hb1p
        clear hb1p
        replace hb2 := hb2p
        clear hb2p
        replace eb7 := eb7p
        clear eb7p
        replace st10 := st10p
        clear st10p
        replace hb3 := hb3p
        clear hb3p
        exact JJ (b3, v10) _ _ ⟨rfl, rfl, rfl, trivial⟩ ⟨hb3, hb1, hb2, st10, eb7, by omega⟩
      · refine runt_seq ?_
        refine rund_op rfl (t_alloc zero_27 rfl) ?_
        rintro _ w3 ⟨b3, rfl, hb3, e3, n3, l3⟩
        have z3 := e3.size
        replace hb1p := e3.at hb1p
        replace hb2p := e3.at hb2p
        replace st7p := st7p.up e3
        replace eb7p := eb7p.trans e3.toB
        have hs3 := hsp7_2.trans e3.toB
        refine ⟨hs3, ?_⟩
        have hb3p := hb3
        refine rund_op rfl (t_call call_59 rfl (rnum_any st7p)) ?_
        rintro _ w10 ⟨rfl, rp10⟩
        obtain ⟨v10, st10⟩ := rp10.1
        have z10 := rp10.2.size
        replace hb1p := rp10.2.at1 hb1p (by omega)
        replace hb2p := rp10.2.at1 hb2p (by omega)
        replace eb7p := eb7p.newB1 rp10.2 (by first | exact .inl (by omega) | exact .inr rfl | exact .inr (.inl rfl) | exact .inr (.inr (by omega)))
        replace hb3p := rp10.2.at1 hb3p (by omega)
        have hsp10_2 := hs3.newB1 rp10.2 (by first | exact .inl (by omega) | exact .inr rfl | (right; simp; done) | (right; simp; omega))
        refine ⟨hsp10_2, ?_⟩
        have st10p := st10
        refine rund_ev hsp10_2 rfl (ev_build (out := .int .i64 s.num.1 :: .int .i64 s.num.2.num.1 :: [.slice none 0 0, .int .i64 0, .slice none 0 0, .int .i64 0, .slice none 0 0, .int .i64 0, .slice none 0 0, .int .i64 0]) ps_27 zero_27 rfl rfl (rfl)) ?_
        refine rund_doT rfl rfl (t_storeW sz_27 rfl rfl rfl rfl hb3p ((by simp))) ?_
        rintro _ v1_8 ⟨hq1_8, e1_8, z1_8⟩
        replace hb1p := e1_8.at1 hb1p (by omega)
        replace hb2p := e1_8.at1 hb2p (by omega)
        replace eb7p := eb7p.newB1 e1_8 (by first | exact .inl (by omega) | exact .inr rfl | exact .inr (.inl rfl) | exact .inr (.inr (by omega)))
        replace st10p := st10p.own e1_8 (fun k hk h => by rcases hk with hk | hk <;> omega)
        replace hb3p := hq1_8
        clear hq1_8
        refine rund_nil ?_
        replace hb1 := hb1p
        clear hb1p
        replace hb2 := hb2p
        clear hb2p
        replace eb7 := eb7p
        clear eb7p
        replace hb3 := hb3p
        clear hb3p
        replace st10 := st10p
        clear st10p
        exact JJ (b3, v10) _ _ ⟨rfl, rfl, rfl, trivial⟩ ⟨hb3, hb1, hb2, st10, eb7, by omega⟩
    · refine runt_seq ?_
      refine rund_op rfl (t_alloc zero_27 rfl) ?_
      rintro _ w3 ⟨b3, rfl, hb3, e3, n3, l3⟩
      have z3 := e3.size
      replace ep := ep.trans e3
      replace hb1p := e3.at hb1p
      replace hb2p := e3.at hb2p
      have hs3 := hsr1.trans e3.toB
      refine ⟨hs3, ?_⟩
      have hb3p := hb3
      refine rund_op rfl (t_call call_59 rfl (rnum_any (st.up ep))) ?_
      rintro _ w7 ⟨rfl, rp7⟩
      have rq7 := RP.from ep rp7
      obtain ⟨v7, st7⟩ := rq7.1
      have eb7 := rq7.2
      have z7 := rp7.2.size
      replace hb1p := rp7.2.at1 hb1p (by omega)
      replace hb2p := rp7.2.at1 hb2p (by omega)
      replace hb3p := rp7.2.at1 hb3p (by omega)
      have hsp7_2 := hs3.newB1 rp7.2 (by first | exact .inl (by omega) | exact .inr rfl | (right; simp; done) | (right; simp; omega))
      refine ⟨hsp7_2, ?_⟩
      have st7p := st7
      have eb7p := eb7
      refine rund_op rfl (t_call call_59 rfl (rnum_any st7p)) ?_
      rintro _ w10 ⟨rfl, rp10⟩
      obtain ⟨v10, st10⟩ := rp10.1
      have z10 := rp10.2.size
      replace hb1p := rp10.2.at1 hb1p (by omega)
      replace hb2p := rp10.2.at1 hb2p (by omega)
      replace hb3p := rp10.2.at1 hb3p (by omega)
      replace eb7p := eb7p.newB1 rp10.2 (by first | exact .inl (by omega) | exact .inr rfl | exact .inr (.inl rfl) | exact .inr (.inr (by omega)))
      have hsp10_2 := hsp7_2.newB1 rp10.2 (by first | exact .inl (by omega) | exact .inr rfl | (right; simp; done) | (right; simp; omega))
      refine ⟨hsp10_2, ?_⟩
      have st10p := st10
      refine rund_ev hsp10_2 rfl (ev_build (out := .int .i64 s.num.1 :: .int .i64 s.num.2.num.1 :: [.slice none 0 0, .int .i64 0, .slice none 0 0, .int .i64 0, .slice none 0 0, .int .i64 0, .slice none 0 0, .int .i64 0]) ps_27 zero_27 rfl rfl (rfl)) ?_
      refine rund_doT rfl rfl (t_storeW sz_27 rfl rfl rfl rfl hb3p ((by simp))) ?_
      rintro _ v1_8 ⟨hq1_8, e1_8, z1_8⟩
      replace hb1p := e1_8.at1 hb1p (by omega)
      replace hb2p := e1_8.at1 hb2p (by omega)
      replace eb7p := eb7p.newB1 e1_8 (by first | exact .inl (by omega) | exact .inr rfl | exact .inr (.inl rfl) | exact .inr (.inr (by omega)))
      replace st10p := st10p.own e1_8 (fun k hk h => by rcases hk with hk | hk <;> omega)
      replace hb3p := hq1_8
      clear hq1_8
      refine rund_nil ?_
      replace hb1 := hb1p
      clear hb1p
      replace hb2 := hb2p
      clear hb2p
      replace hb3 := hb3p
      clear hb3p
      replace eb7 := eb7p
      clear eb7p
      replace st10 := st10p
      clear st10p
      exact JJ (b3, v10) _ _ ⟨rfl, rfl, rfl, trivial⟩ ⟨hb3, hb1, hb2, st10, eb7, by omega⟩
theorem decodedR_any (l : List UInt8) (w : World) (a : Option Addr) (n c : Nat) (hl : SlAt 1 RByte w (.slice a n c) l) (hn : l.length ≤ 1099511627776) (kind : Int) :
    Ret Try.prog 26 [.slice a n c, .int .i64 kind, .func (.func 27) #[] #[], .func (.func 19) #[] #[]] w fun r w' => ∃ cs, r = .tuple #[.agg ⟨cs⟩, .int .i64 (optE (decP kind (RS.root id) isRootP l))] ∧ RRootF w.heap.size w' ((decP kind (RS.root id) isRootP l).getD RootP.zero) cs ∧ Ext w w' := by
  have e := ExtB.refl (fun _ => False) w
  refine ret_of_run Try.func26 rfl Try.ntmps26 rfl ?_
  refine run_seq ?_
  refine run_region rfl ?_
  refine runl_op (t_alloc zero_27 rfl) ?_
  rintro _ w8 ⟨b8, rfl, hb8, e8, n8, l8⟩
  have z8 := e8.size
  replace e := e.trans e8
  refine runl_ev (ev_assign rfl) ?_
  refine runl_nil ?_
  refine run_seq ?_
  refine run_region rfl ?_
  refine runl_ev (ev_move rfl) ?_
  refine runl_op (t_call call_58 rfl (newreader_any l _ a n c (hl.ext RByte.stable e) hn)) ?_
  rintro _ w14 ⟨rb, wq, vq, rfl, eq4, st⟩
  have e14 := Ext.tr eq4 st.ext
  have hrb := st.hrb
  have zq := eq4.size
  have lrb := st.lt
  have zq2 := st.ext.size
  have z14 := e14.size
  replace e := e.trans e14
  replace hb8 := e14.at hb8
  refine runl_ev (ev_build (out := [.pointer (some ⟨rb, 0, none⟩)]) ps_72 zero_72 rfl rfl (rfl)) ?_
  refine runl_op (t_alloc zero_72 rfl) ?_
  rintro _ w10 ⟨b10, rfl, hb10, e10, n10, l10⟩
  have z10 := e10.size
  replace e := e.trans e10
  replace hb8 := e10.at hb8
  replace st := st.up e10
  refine runl_do (t_storeW sz_72 rfl rfl rfl rfl hb10 (by simp)) ?_
  rintro _ v1_4 ⟨hq1_4, e1_4, z1_4⟩
  replace e := e.new1 e1_4 (by omega)
  replace hb8 := e1_4.at1 hb8 (by omega)
  replace st := st.own e1_4 (fun k hk h => by rcases hk with hk | hk <;> omega)
  replace hb10 := hq1_4
  clear hq1_4
  refine runl_nil ?_
  refine run_seq ?_
  refine run_region rfl ?_
  refine runl_op (t_alloc zero_27 rfl) ?_
  rintro _ w11 ⟨b11, rfl, hb11, e11, n11, l11⟩
  have z11 := e11.size
  replace e := e.trans e11
  replace hb8 := e11.at hb8
  replace st := st.up e11
  replace hb10 := e11.at hb10
  refine runl_nil ?_
  refine run_seq ?_
  refine run_seq ?_
  refine run_region rfl ?_
  refine runl_ev (ev_fieldAddr fld_72_0 rfl) ?_
  refine runl_ev (ev_load1 cell_70 rfl (eqw (cell_blk hb10 rfl))) ?_
  refine runl_op (t_call call_59 rfl (rnum_any st)) ?_
  rintro _ w18 ⟨rfl, rp18⟩
  obtain ⟨v18, st18⟩ := rp18.1
  have z18 := rp18.2.size
  replace e := e.new1 rp18.2 (by omega)
  replace hb8 := rp18.2.at1 hb8 (by omega)
  replace hb10 := rp18.2.at1 hb10 (by omega)
  replace hb11 := rp18.2.at1 hb11 (by omega)
  refine runl_ev (ev_move rfl) ?_
  refine runl_ev (ev_neqI rfl rfl) ?_
  refine runl_nil ?_
  refine run_dcond rfl (fun h0 => ?_) (fun h0 => ?_)
  · have hd : decP kind (RS.root id) isRootP l = none := by unfold decP; rw [if_pos h0]
    rw [hd]
    refine run_seq ?_
    refine run_region rfl ?_
    refine runl_ev (ev_loadA agg_27 rfl rfl (eqw (cells_all hb11))) ?_
    refine runl_do (t_storeW sz_27 rfl rfl rfl rfl hb8 ((by first | exact rroot_one kf24.r | simp))) ?_
    rintro _ v4_1 ⟨hq4_1, e4_1, z4_1⟩
    replace e := e.new1 e4_1 (by omega)
    replace hb10 := e4_1.at1 hb10 (by omega)
    replace hb11 := e4_1.at1 hb11 (by omega)
    replace hb8 := hq4_1
    clear hq4_1
    refine runl_ev (ev_assign rfl) ?_
    refine runl_nil ?_
    refine run_ret_any Try.func26 (resCT Try.results26 rfl (loadVar_agg agg_27 rfl (cells_all hb8)) rfl) ?_
    exact ⟨_, rfl, rootZ_any _ _, e⟩
  · refine run_skip ?_
    refine run_seq ?_
    refine run_region rfl ?_
    refine runl_ev (ev_move rfl) ?_
    refine runl_ev (ev_loadA agg_72 rfl rfl (eqw (cells_all hb10))) ?_
    refine runl_op (t_callv call_27 rfl rfl (rdroot_any st18)) ?_
    rintro _ w24 ⟨c24, rfl, kf24, rp24⟩
    obtain ⟨v24, st24⟩ := rp24.1
    have hc24 := rroot_len kf24.r
    have x24 : ExtB (fun k => k = b8) w24 w24 := ExtB.refl _ _
    have z24 := rp24.2.size
    replace e := e.new1 rp24.2 (by omega)
    replace hb8 := rp24.2.at1 hb8 (by omega)
    replace hb10 := rp24.2.at1 hb10 (by omega)
    replace hb11 := rp24.2.at1 hb11 (by omega)
    refine runl_op (t_alloc zero_27 rfl) ?_
    rintro _ w12 ⟨b12, rfl, hb12, e12, n12, l12⟩
    have z12 := e12.size
    replace e := e.trans e12
    replace hb8 := e12.at hb8
    replace hb10 := e12.at hb10
    replace hb11 := e12.at hb11
    replace st24 := st24.up e12
    replace x24 := x24.trans e12.toB
    refine runl_do (t_storeW sz_27 rfl rfl hc24 rfl hb12 ((by first | exact rroot_one kf24.r | simp))) ?_
    rintro _ v5_4 ⟨hq5_4, e5_4, z5_4⟩
    replace e := e.new1 e5_4 (by omega)
    replace hb8 := e5_4.at1 hb8 (by omega)
    replace hb10 := e5_4.at1 hb10 (by omega)
    replace hb11 := e5_4.at1 hb11 (by omega)
    replace st24 := st24.own e5_4 (fun k hk h => by rcases hk with hk | hk <;> omega)
    replace x24 := x24.newB1 e5_4 (by first | exact .inl (by omega) | exact .inr rfl | exact .inr (.inl rfl) | exact .inr (.inr (by omega)))
    replace hb12 := hq5_4
    clear hq5_4
    refine runl_nil ?_
    refine run_seq ?_
    refine run_seq ?_
    refine run_region rfl ?_
    refine runl_ev (ev_fieldAddr fld_72_0 rfl) ?_
    refine runl_ev (ev_load1 cell_70 rfl (eqw (cell_blk hb10 rfl))) ?_
    refine runl_op (t_call call_60 rfl (rwhole_any st24)) ?_
    rintro _ w27 ⟨rfl, e27⟩
    have z27 := e27.size
    replace e := e.trans e27
    replace hb8 := e27.at hb8
    replace hb10 := e27.at hb10
    replace hb11 := e27.at hb11
    replace st24 := st24.up e27
    replace x24 := x24.trans e27.toB
    replace hb12 := e27.at hb12
    cases hw : ((RS.root id) (RS.mk l false).num.2).2.whole
    · refine runl_ev (ev_not rfl) ?_
      refine runl_ev (ev_move rfl) ?_
      refine runl_no_g rfl rfl (rfl) ?_
      refine runl_no_g rfl rfl (rfl) ?_
      refine runl_no_g rfl rfl (rfl) ?_
      refine runl_no_g rfl rfl (rfl) ?_
      refine runl_ev (ev_pick rfl rfl rfl (if_pos (rfl))) ?_
      refine runl_nil ?_
      refine run_cond_true rfl (rfl) ?_
      have hd : decP kind (RS.root id) isRootP l = none := by unfold decP; rw [if_neg h0, if_neg (by rw [hw]; simp)]
      rw [hd]
      refine run_seq ?_
      refine run_region rfl ?_
      refine runl_ev (ev_loadA agg_27 rfl rfl (eqw (cells_all hb11))) ?_
      refine runl_do (t_storeW sz_27 rfl rfl rfl rfl hb8 ((by first | exact rroot_one kf24.r | simp))) ?_
      rintro _ v7_1 ⟨hq7_1, e7_1, z7_1⟩
      replace e := e.new1 e7_1 (by omega)
      replace hb10 := e7_1.at1 hb10 (by omega)
      replace hb11 := e7_1.at1 hb11 (by omega)
      replace x24 := x24.newB1 e7_1 (by first | exact .inl (by omega) | exact .inr rfl | exact .inr (.inl rfl) | exact .inr (.inr (by omega)))
      replace hb12 := e7_1.at1 hb12 (by omega)
      replace hb8 := hq7_1
      clear hq7_1
      refine runl_ev (ev_assign rfl) ?_
      refine runl_nil ?_
      refine run_ret_any Try.func26 (resCT Try.results26 rfl (loadVar_agg agg_27 rfl (cells_all hb8)) rfl) ?_
      exact ⟨_, rfl, rootZ_any _ _, e⟩
    · refine runl_ev (ev_not rfl) ?_
      refine runl_ev (ev_move rfl) ?_
      refine runl_ev_g rfl rfl (rfl) (ev_move rfl) ?_
      refine runl_ev_g rfl rfl (rfl) (ev_loadA agg_27 hc24 rfl (eqw (cells_all hb12))) ?_
      refine runl_op_g rfl rfl (rfl) (t_callv call_19 rfl rfl (isroot_any _ _ _ (kf24.keep x24 (fun k hk => by omega)).r)) ?_
      rintro _ w32 ⟨rfl, e32⟩
      have z32 := e32.size
      replace e := e.trans e32
      replace hb8 := e32.at hb8
      replace hb10 := e32.at hb10
      replace hb11 := e32.at hb11
      replace x24 := x24.trans e32.toB
      replace hb12 := e32.at hb12
      refine runl_ev_g rfl rfl (rfl) (ev_not rfl) ?_
      refine runl_ev (ev_pick rfl rfl rfl (if_neg (by simp))) ?_
      refine runl_nil ?_
      refine run_cond_split rfl (fun h1 => ?_) (fun h1 => ?_)
      · have hm : isRootP ((RS.root id) (RS.mk l false).num.2).1 = false := by simpa using h1
        have hd : decP kind (RS.root id) isRootP l = none := by unfold decP; rw [if_neg h0, if_neg (by rw [hm]; simp)]
        rw [hd]
        refine run_seq ?_
        refine run_region rfl ?_
        refine runl_ev (ev_loadA agg_27 rfl rfl (eqw (cells_all hb11))) ?_
        refine runl_do (t_storeW sz_27 rfl rfl rfl rfl hb8 ((by first | exact rroot_one kf24.r | simp))) ?_
        rintro _ v7_1x1 ⟨hq7_1x1, e7_1x1, z7_1x1⟩
        replace e := e.new1 e7_1x1 (by omega)
        replace hb10 := e7_1x1.at1 hb10 (by omega)
        replace hb11 := e7_1x1.at1 hb11 (by omega)
        replace x24 := x24.newB1 e7_1x1 (by first | exact .inl (by omega) | exact .inr rfl | exact .inr (.inl rfl) | exact .inr (.inr (by omega)))
        replace hb12 := e7_1x1.at1 hb12 (by omega)
        replace hb8 := hq7_1x1
        clear hq7_1x1
        refine runl_ev (ev_assign rfl) ?_
        refine runl_nil ?_
        refine run_ret_any Try.func26 (resCT Try.results26 rfl (loadVar_agg agg_27 rfl (cells_all hb8)) rfl) ?_
        exact ⟨_, rfl, rootZ_any _ _, e⟩
      · have hm : isRootP ((RS.root id) (RS.mk l false).num.2).1 = true := by simpa using h1
        have hd : decP kind (RS.root id) isRootP l = some ((RS.root id) (RS.mk l false).num.2).1 := by unfold decP; rw [if_neg h0, if_pos (by rw [hw, hm]; rfl)]
        rw [hd]
        refine run_skip ?_
        refine run_seq ?_
        refine run_region rfl ?_
        refine runl_ev (ev_loadA agg_27 hc24 rfl (eqw (cells_all hb12))) ?_
        refine runl_do (t_storeW sz_27 rfl rfl hc24 rfl hb8 ((by first | exact rroot_one kf24.r | simp))) ?_
        rintro _ v8_1 ⟨hq8_1, e8_1, z8_1⟩
        replace e := e.new1 e8_1 (by omega)
        replace hb10 := e8_1.at1 hb10 (by omega)
        replace hb11 := e8_1.at1 hb11 (by omega)
        replace x24 := x24.newB1 e8_1 (by first | exact .inl (by omega) | exact .inr rfl | exact .inr (.inl rfl) | exact .inr (.inr (by omega)))
        replace hb12 := e8_1.at1 hb12 (by omega)
        replace hb8 := hq8_1
        clear hq8_1
        refine runl_ev (ev_assign rfl) ?_
        refine runl_nil ?_
        refine run_ret_any Try.func26 (resCT Try.results26 rfl (loadVar_agg agg_27 hc24 (cells_all hb8)) rfl) ?_
        exact ⟨_, rfl, (kf24.keep x24 (fun k hk => by omega)).up (by omega), e⟩
theorem decroot_any (l : List UInt8) (w : World) (a : Option Addr) (n c : Nat) (hl : SlAt 1 RByte w (.slice a n c) l) (hn : l.length ≤ 1099511627776) :
    Ret Try.prog 8 [.slice a n c] w fun r w' => ∃ cs, r = .tuple #[.agg ⟨cs⟩, .int .i64 (optE (decP 1 (RS.root id) isRootP l))] ∧ RRootF w.heap.size w' ((decP 1 (RS.root id) isRootP l).getD .zero) cs ∧ Ext w w' := by
  have e := ExtB.refl (fun _ => False) w
  refine ret_of_run Try.func8 rfl Try.ntmps8 rfl ?_
  refine run_seq ?_
  refine run_region rfl ?_
  refine runl_op (t_alloc zero_27 rfl) ?_
  rintro _ w2 ⟨b2, rfl, hb2, e2, n2, l2⟩
  have z2 := e2.size
  replace e := e.trans e2
  refine runl_ev (ev_assign rfl) ?_
  refine runl_nil ?_
  refine run_seq ?_
  refine run_region rfl ?_
  refine runl_ev (ev_move rfl) ?_
  refine runl_op (t_call call_26 rfl (decodedR_any l _ a n c (hl.ext RByte.stable e) hn 1)) ?_
  rintro _ w5 ⟨c5, rfl, kf5, e5⟩
  have hc5 := rroot_len kf5.r
  have z5 := e5.size
  replace e := e.trans e5
  replace hb2 := e5.at hb2
  refine runl_ev (ev_extract rfl rfl) ?_
  refine runl_ev (ev_extract rfl rfl) ?_
  refine runl_do (t_storeW sz_27 rfl rfl hc5 rfl hb2 (rroot_one kf5.r)) ?_
  rintro _ v1_4 ⟨hq1_4, e1_4, z1_4⟩
  replace e := e.new1 e1_4 (by omega)
  replace hb2 := hq1_4
  clear hq1_4
  refine runl_ev (ev_assign rfl) ?_
  refine runl_nil ?_
  refine run_ret_any Try.func8 (resCT Try.results8 rfl (loadVar_agg agg_27 hc5 (cells_all hb2)) rfl) ?_
  exact ⟨_, rfl, (kf5.keep e1_4 (fun k hk => by omega)).up (by omega), e⟩
end Go.Proofs.Ytcmbiaibocdfeaa
