/- The walks of what the reference decodes: envelopes; and of the law on envelopes. -/
import Derived.Test.YtcmbiaibocdfeaaWireE7
import Derived.Test.YtcmbiaibocdfeaaWireE6
import Derived.Test.YtcmbiaibocdfeaaWire10
namespace Go.Proofs.Ytcmbiaibocdfeaa
open Go Go.Fw
set_option maxRecDepth 100000
theorem dec_env (l : List UInt8) : decP 6 RS.env isEnvP l = decR 6 RS.envQ isEnvP (fun x => encN 6 ++ encEnv x) l := dec_eq close_env reads_env sticky_envQ l

theorem qdecenv_any (l : List UInt8) (w : World) (a : Option Addr) (n c : Nat) (hl : SlAt 1 RByte w (.slice a n c) l) (hc : l.length ≤ c) (hn : l.length ≤ 1099511627776) :
    Ret Try.prog 16 [.slice a n c] w fun r w' => ∃ cs, r = .tuple #[.agg ⟨cs⟩, .int .i64 (optE (decR 6 RS.envQ isEnvP (fun x => encN 6 ++ encEnv x) l))] ∧ REnvF w.heap.size w' ((decR 6 RS.envQ isEnvP (fun x => encN 6 ++ encEnv x) l).getD .zero) cs ∧ Ext w w' := by
  have e := ExtB.refl (fun _ => False) w
  have hl0 := hl
  obtain ⟨rfl, -⟩ := hl.at
  obtain ⟨tq, htq⟩ : ∃ p, p = takenQ (min 5 (kindS 6 l).bytes.2.num.1.toNat) [] (kindS 6 l).bytes.2.num.2 false := ⟨_, rfl⟩
  have hn0 := num_nonneg (kindS 6 l).bytes.2
  have hn1 := num_le (kindS 6 l).bytes.2
  obtain ⟨N, hN⟩ : ∃ N, N = (kindS 6 l).bytes.2.num.1 := ⟨_, rfl⟩
  rw [← hN] at htq hn0 hn1
  have hkok := ok_kind 6 l
  refine ret_of_run Try.func16 rfl Try.ntmps16 rfl ?_
  refine run_seq ?_
  refine run_region rfl ?_
  refine runl_op (t_alloc zero_44 rfl) ?_
  rintro _ w2 ⟨b2, rfl, hb2, e2, n2, l2⟩
  have z2 := e2.size
  replace e := e.trans e2
  refine runl_ev (ev_assign rfl) ?_
  refine runl_nil ?_
  refine run_seq ?_
  refine run_region rfl ?_
  refine runl_ev (ev_move rfl) ?_
  refine runl_op (t_call call_28 rfl (qreader_any l _ a _ c (hl0.ext RByte.stable e) hc hn 6)) ?_
  rintro _ w15 ⟨rb, v15, rfl, st⟩
  have e15 := st.ext
  have hrb := st.hrb
  have lrb := st.lt
  have z15 := e15.size
  replace e := e.trans e15
  replace hb2 := e15.at hb2
  refine runl_ev (ev_assign rfl) ?_
  refine runl_nil ?_
  refine run_seq ?_
  refine run_region rfl ?_
  refine runl_ev (ev_move rfl) ?_
  refine runl_op (t_call call_45 rfl (qbytes_any st hkok)) ?_
  rintro r17 w17 ⟨ow17, rp17⟩
  obtain ⟨v17, st17⟩ := rp17.1
  have kfb := slN_of ow17
  have x17 : ExtB (fun k => k = rb ∨ k = b2) w17 w17 := ExtB.refl _ _
  obtain ⟨a17, c17, rfl, hc17, -, -⟩ := ow17.sl
  have z17 := rp17.2.size
  replace e := e.new1 rp17.2 (by omega)
  replace hb2 := rp17.2.at1 hb2 (by omega)
  refine runl_ev (ev_build (out := [.slice a17 (kindS 6 l).bytes.1.length c17, .slice none 0 0]) ps_44 zero_44 rfl rfl (rfl)) ?_
  refine runl_op (t_alloc zero_44 rfl) ?_
  rintro _ w5 ⟨b5, rfl, hb5, e5, n5, l5⟩
  have z5 := e5.size
  replace e := e.trans e5
  replace hb2 := e5.at hb2
  replace st17 := st17.up e5
  replace x17 := x17.trans e5.toB
  refine runl_do (t_storeW sz_44 rfl rfl rfl rfl hb5 ((by simp))) ?_
  rintro _ v2_4 ⟨hq2_4, e2_4, z2_4⟩
  replace e := e.new1 e2_4 (by omega)
  replace hb2 := e2_4.at1 hb2 (by omega)
  replace st17 := st17.own e2_4 (fun k hk h => by rcases hk with hk | hk <;> omega)
  replace x17 := x17.newB1 e2_4 (by first | exact .inl (by omega) | exact .inr rfl | exact .inr (.inl rfl) | exact .inr (.inr (by omega)))
  replace hb5 := hq2_4
  clear hq2_4
  refine runl_nil ?_
  refine run_seq ?_
  refine run_region rfl ?_
  refine runl_ev (ev_move rfl) ?_
  refine runl_op (t_call call_29 rfl (qnum_any st17 (ok_bytes hkok))) ?_
  rintro _ w20 ⟨rfl, rp20⟩
  obtain ⟨v20, st20⟩ := rp20.1
  rw [← hN]
  have z20 := rp20.2.size
  replace e := e.new1 rp20.2 (by omega)
  replace hb2 := rp20.2.at1 hb2 (by omega)
  replace hb5 := rp20.2.at1 hb5 (by omega)
  replace x17 := x17.newB1 rp20.2 (.inr (.inl rfl))
  refine runl_ev (ev_assign rfl) ?_
  refine runl_nil ?_
  refine run_seq ?_
  refine run_region rfl ?_
  refine runl_ev (ev_assign rfl) ?_
  refine runl_nil ?_
  refine run_seq ?_
  refine run_seq ?_
  refine run_region rfl ?_
  refine runl_ev (ev_assign rfl) ?_
  refine runl_nil ?_
  refine run_block ?_
  refine run_loop (ι := Nat × List MarkP × RS × Bool × Value × Value) (fun x => [(0, .slice a l.length c), (2, .pointer (some ⟨b2, 0, none⟩)), (4, .pointer (some ⟨rb, 0, none⟩)), (5, .pointer (some ⟨b5, 0, none⟩)), (6, .int .i64 N), (7, .bool x.2.2.2.1), (8, .int .i64 (x.1 : Int))]) (fun x w1 => x.1 ≤ 5 ∧ (x.1 : Int) ≤ N ∧ x.2.1.length = x.1 ∧ takenQ (min 5 N.toNat - x.1) x.2.1 x.2.2.1 x.2.2.2.1 = tq ∧ x.2.2.1.ok ∧ OwnN 87 35 (RMarkG w5.heap.size) w5 x.2.1 x.2.2.2.2.1 w1 ∧ RSt 100 w2 w1 rb x.2.2.2.2.2 x.2.2.1 ∧ Ext w w1 ∧ w1.heap[b5]? = some (.cells ⟨[.slice a17 (kindS 6 l).bytes.1.length c17, x.2.2.2.2.1]⟩ 44 (0, 0)) ∧ w1.heap[b2]? = some (.cells ⟨envZ⟩ 44 (0, 0)) ∧ w5.heap.size ≤ w1.heap.size ∧ ExtB (fun k => k = rb ∨ k = b2) w17 w1) (fun x => 5 - x.1) ((0, [], (kindS 6 l).bytes.2.num.2, false, .slice none 0 0, v20)) ⟨rfl, rfl, rfl, rfl, rfl, rfl, rfl, trivial⟩ (⟨Nat.zero_le _, hn0, rfl, htq.symm, ok_num (ok_bytes hkok), OwnN.nil _ _, st20, e, hb5, hb2, by omega, x17⟩) ?_
  clear hb2 hb5 st20 e x17
  intro ⟨i, acc, s1, fl, vl, v1⟩ w1 ⟨hi, hin, hal, htk, hok1, ow, st1, e, hb5, hb2, hz5, x17⟩ IH
  simp only at hi hin hal htk hok1 ow st1 hb5
  have hr1 := st1.hr
  have lb5 := lt_of_at hb5
  have ze := e.size
  have x1 : ExtB (fun k => k = rb) w1 w1 := ExtB.refl _ _
  obtain ⟨xs, g, own, hpp, hxl, hg, hgl⟩ := ow.open
  obtain ⟨al, cl, rfl⟩ := own.shape
  refine run_seq ?_
  refine run_seq ?_
  have hcs : N ≤ (i : Int) ∨ ((i : Int) < N ∧ s1.bad = true) ∨ ((i : Int) < N ∧ s1.bad = false ∧ i = 5) ∨ ((i : Int) < N ∧ s1.bad = false ∧ i ≤ 4) := by
    cases s1.bad <;> simp <;> omega
  rcases hcs with h1 | ⟨h1, h2⟩ | ⟨h1, h2, rfl⟩ | ⟨h1, h2, h3⟩
  · have hfin : (acc, s1, fl) = tq := by rw [← htk, show min 5 N.toNat - i = 0 by omega]; rfl
    refine run_region rfl ?_
    refine runl_ev (ev_move rfl) ?_
    refine runl_ev (ev_move rfl) ?_
    refine runl_ev (ev_lss rfl rfl) ?_
    refine runl_ev (ev_move rfl) ?_
    refine runl_no_g rfl rfl (decide_eq_false (by omega)) ?_
    refine runl_no_g rfl rfl (decide_eq_false (by omega)) ?_
    refine runl_no_g rfl rfl (decide_eq_false (by omega)) ?_
    refine runl_no_g rfl rfl (decide_eq_false (by omega)) ?_
    refine runl_no_g rfl rfl (decide_eq_false (by omega)) ?_
    refine runl_ev (ev_pick rfl rfl rfl (if_neg (by simp; omega))) ?_
    refine runl_ev (ev_move rfl) ?_
    refine runl_no_g rfl rfl (rfl) ?_
    refine runl_no_g rfl rfl (rfl) ?_
    refine runl_ev (ev_pick rfl rfl rfl (if_neg (by simp))) ?_
    refine runl_nil ?_
    refine run_cond_false rfl (rfl) ?_
    refine run_exit rfl ?_
    refine run_seq ?_
    have hsq : Go.Fw.envQ (kindS 6 l) = (acc, s1, fl) := by unfold Go.Fw.envQ; rw [← hN, ← htq, ← hfin]
    have hen : RS.envQ (kindS 6 l) = (⟨(kindS 6 l).bytes.1, acc⟩, if fl = true then .fail else s1) := by unfold RS.envQ; rw [hsq]
    have hF : REnvF w2.heap.size w1 ⟨(kindS 6 l).bytes.1, acc⟩ [.slice a17 (kindS 6 l).bytes.1.length c17, .slice al acc.length cl] := renvF_of ((kfb.step flat_byte x17 (fun k hk => by omega) (.inl rfl)).up (by omega)) (ow.mono (Q := RMarkG w2.heap.size) fun _ _ _ _ h => h.up (by omega)) (by omega)
    have xx : ExtB (fun k => k = b2) w1 w1 := ExtB.refl _ _
    clear own x1 x17
    refine run_region rfl ?_
    refine runl_ev (ev_loadA agg_44 rfl rfl (eqw (cells_all hb5))) ?_
    refine runl_op (t_call call_14 rfl (rencenv_any _ _ _ hF.r (by show acc.length ≤ _; omega) (fun hm => by have := encEnv_len hm (renv_32 hF.r); omega))) ?_
    rintro _ w61 ⟨p61, rfl, o61⟩
    have e61 := o61.ext
    obtain ⟨a61, c61, rfl, hc61, sl61⟩ := o61.sl
    have x61 := ExtB.refl (fun _ => False) w61
    have z61 := e61.size
    replace hb2 := e61.at hb2
    replace hb5 := e61.at hb5
    replace st1 := st1.up e61
    replace e := e.trans e61
    replace xx := xx.trans e61.toB
    refine runl_ev (ev_move rfl) ?_
    refine runl_ev (ev_extract rfl rfl) ?_
    refine runl_ev (ev_extract rfl rfl) ?_
    refine runl_ev (ev_assign rfl) ?_
    refine runl_ev (ev_assign rfl) ?_
    refine runl_nil ?_
    refine run_seq ?_
    refine run_seq ?_
    cases fl
    · refine run_region rfl ?_
      refine runl_ev (ev_move rfl) ?_
      refine runl_ev (ev_move rfl) ?_
      refine runl_ev_g rfl rfl (rfl) (ev_move rfl) ?_
      refine runl_ev_g rfl rfl (rfl) (ev_move rfl) ?_
      refine runl_ev_g rfl rfl (rfl) (ev_move rfl) ?_
      refine runl_ev_g rfl rfl (rfl) (ev_move rfl) ?_
      refine runl_op_g rfl rfl (rfl) (t_call call_31 rfl (qjust_any st1 l (encP 6 isEnvP encEnv ⟨(kindS 6 l).bytes.1, acc⟩) _ a a61 _ c _ c61 (hl0.ext RByte.stable e) (sl61.ext RByte.stable x61))) ?_
      rintro _ w70 ⟨rfl, e70⟩
      have z70 := e70.size
      replace hb2 := e70.at hb2
      replace hb5 := e70.at hb5
      replace st1 := st1.up e70
      replace e := e.trans e70
      replace xx := xx.trans e70.toB
      replace x61 := x61.trans e70
      have hj := just_eq 6 isEnvP encEnv ⟨(kindS 6 l).bytes.1, acc⟩ l s1.whole
      simp only [Bool.false_eq_true, if_false] at hen
      refine runl_ev_g rfl rfl (rfl) (ev_not rfl) ?_
      refine runl_ev (ev_pick rfl rfl rfl (if_neg (by simp))) ?_
      refine runl_nil ?_
      refine run_cond_split rfl (fun h1 => ?_) (fun h1 => ?_)
      · have hd : decR 6 RS.envQ isEnvP (fun x => encN 6 ++ encEnv x) l = none := by unfold decR; rw [hen, if_neg]; rw [← hj]; intro hh; rw [hh] at h1; cases h1
        rw [hd]
        refine run_seq ?_
        refine run_region rfl ?_
        refine runl_ev (ev_build (out := envZ) ps_44 zero_44 rfl rfl (rfl)) ?_
        refine runl_do (t_storeW sz_44 rfl rfl rfl rfl hb2 ((by simp [envZ]))) ?_
        rintro _ v15_1 ⟨hq15_1, e15_1, z15_1⟩
        replace hb5 := e15_1.at1 hb5 (by omega)
        replace e := e.new1 e15_1 (by omega)
        replace xx := xx.newB1 e15_1 (by first | exact .inl (by omega) | exact .inr rfl | exact .inr (.inl rfl) | exact .inr (.inr (by omega)))
        replace hb2 := hq15_1
        clear hq15_1
        refine runl_ev (ev_assign rfl) ?_
        refine runl_nil ?_
        refine run_ret_any Try.func16 (resCT Try.results16 rfl (loadVar_agg agg_44 rfl (cells_all hb2)) rfl) ?_
        first
          | exact ⟨_, rfl, envZ_any _ _, e⟩
          | exact ⟨_, rfl, (hF.keep xx (fun k hk => by omega)).up (by omega), e⟩
      · have hd : decR 6 RS.envQ isEnvP (fun x => encN 6 ++ encEnv x) l = some ⟨(kindS 6 l).bytes.1, acc⟩ := by unfold decR; rw [hen, if_pos]; rw [← hj]; exact of_not h1
        rw [hd]
        refine run_skip ?_
        refine run_seq ?_
        refine run_region rfl ?_
        refine runl_ev (ev_loadA agg_44 rfl rfl (eqw (cells_all hb5))) ?_
        refine runl_do (t_storeW sz_44 rfl rfl rfl rfl hb2 ((by simp))) ?_
        rintro _ v16_1 ⟨hq16_1, e16_1, z16_1⟩
        replace hb5 := e16_1.at1 hb5 (by omega)
        replace e := e.new1 e16_1 (by omega)
        replace xx := xx.newB1 e16_1 (by first | exact .inl (by omega) | exact .inr rfl | exact .inr (.inl rfl) | exact .inr (.inr (by omega)))
        replace hb2 := hq16_1
        clear hq16_1
        refine runl_ev (ev_assign rfl) ?_
        refine runl_nil ?_
        refine run_ret_any Try.func16 (resCT Try.results16 rfl (loadVar_agg agg_44 rfl (cells_all hb2)) rfl) ?_
        first
          | exact ⟨_, rfl, envZ_any _ _, e⟩
          | exact ⟨_, rfl, (hF.keep xx (fun k hk => by omega)).up (by omega), e⟩
    · have hd : decR 6 RS.envQ isEnvP (fun x => encN 6 ++ encEnv x) l = none := by unfold decR; rw [hen, if_neg]; simp [RS.whole, RS.fail]
      rw [hd]
      refine run_region rfl ?_
      refine runl_ev (ev_move rfl) ?_
      refine runl_ev (ev_move rfl) ?_
      refine runl_no_g rfl rfl (rfl) ?_
      refine runl_no_g rfl rfl (rfl) ?_
      refine runl_no_g rfl rfl (rfl) ?_
      refine runl_no_g rfl rfl (rfl) ?_
      refine runl_no_g rfl rfl (rfl) ?_
      refine runl_no_g rfl rfl (rfl) ?_
      refine runl_ev (ev_pick rfl rfl rfl (if_pos (rfl))) ?_
      refine runl_nil ?_
      refine run_cond_true rfl (rfl) ?_
      refine run_seq ?_
      refine run_region rfl ?_
      refine runl_ev (ev_build (out := envZ) ps_44 zero_44 rfl rfl (rfl)) ?_
      refine runl_do (t_storeW sz_44 rfl rfl rfl rfl hb2 ((by simp [envZ]))) ?_
      rintro _ v15_1 ⟨hq15_1, e15_1, z15_1⟩
      replace hb5 := e15_1.at1 hb5 (by omega)
      replace e := e.new1 e15_1 (by omega)
      replace xx := xx.newB1 e15_1 (by first | exact .inl (by omega) | exact .inr rfl | exact .inr (.inl rfl) | exact .inr (.inr (by omega)))
      replace hb2 := hq15_1
      clear hq15_1
      refine runl_ev (ev_assign rfl) ?_
      refine runl_nil ?_
      refine run_ret_any Try.func16 (resCT Try.results16 rfl (loadVar_agg agg_44 rfl (cells_all hb2)) rfl) ?_
      exact ⟨_, rfl, envZ_any _ _, e⟩
  · have hfin : (acc, s1, fl) = tq := by rw [← htk]; cases min 5 N.toNat - i <;> simp [takenQ, h2]
    refine run_region rfl ?_
    refine runl_ev (ev_move rfl) ?_
    refine runl_ev (ev_move rfl) ?_
    refine runl_ev (ev_lss rfl rfl) ?_
    refine runl_ev (ev_move rfl) ?_
    refine runl_ev_g rfl rfl (decide_eq_true (by omega)) (ev_move rfl) ?_
    refine runl_ev_g rfl rfl (decide_eq_true (by omega)) (ev_nilCheck rfl) ?_
    refine runl_ev_g rfl rfl (decide_eq_true (by omega)) (ev_fieldAddr fld_100_1 rfl) ?_
    refine runl_ev_g rfl rfl (decide_eq_true (by omega)) (ev_load1 cell_4 rfl (eqw (cell_blk hr1 rfl))) ?_
    refine runl_ev_g rfl rfl (decide_eq_true (by omega)) (ev_not rfl) ?_
    refine runl_ev (ev_pick rfl rfl rfl (if_pos (decide_eq_true (by omega)))) ?_
    refine runl_ev (ev_move rfl) ?_
    refine runl_no_g rfl rfl (by rw [h2]) ?_
    refine runl_no_g rfl rfl (by rw [h2]) ?_
    refine runl_ev (ev_pick rfl rfl rfl (if_neg (by rw [h2]; simp))) ?_
    refine runl_nil ?_
    refine run_cond_false rfl (rfl) ?_
    refine run_exit rfl ?_
    refine run_seq ?_
    have hsq : Go.Fw.envQ (kindS 6 l) = (acc, s1, fl) := by unfold Go.Fw.envQ; rw [← hN, ← htq, ← hfin]
    have hen : RS.envQ (kindS 6 l) = (⟨(kindS 6 l).bytes.1, acc⟩, if fl = true then .fail else s1) := by unfold RS.envQ; rw [hsq]
    have hF : REnvF w2.heap.size w1 ⟨(kindS 6 l).bytes.1, acc⟩ [.slice a17 (kindS 6 l).bytes.1.length c17, .slice al acc.length cl] := renvF_of ((kfb.step flat_byte x17 (fun k hk => by omega) (.inl rfl)).up (by omega)) (ow.mono (Q := RMarkG w2.heap.size) fun _ _ _ _ h => h.up (by omega)) (by omega)
    have xx : ExtB (fun k => k = b2) w1 w1 := ExtB.refl _ _
    clear own x1 x17
    refine run_region rfl ?_
    refine runl_ev (ev_loadA agg_44 rfl rfl (eqw (cells_all hb5))) ?_
    refine runl_op (t_call call_14 rfl (rencenv_any _ _ _ hF.r (by show acc.length ≤ _; omega) (fun hm => by have := encEnv_len hm (renv_32 hF.r); omega))) ?_
    rintro _ w61 ⟨p61, rfl, o61⟩
    have e61 := o61.ext
    obtain ⟨a61, c61, rfl, hc61, sl61⟩ := o61.sl
    have x61 := ExtB.refl (fun _ => False) w61
    have z61 := e61.size
    replace hb2 := e61.at hb2
    replace hb5 := e61.at hb5
    replace st1 := st1.up e61
    replace e := e.trans e61
    replace xx := xx.trans e61.toB
    refine runl_ev (ev_move rfl) ?_
    refine runl_ev (ev_extract rfl rfl) ?_
    refine runl_ev (ev_extract rfl rfl) ?_
    refine runl_ev (ev_assign rfl) ?_
    refine runl_ev (ev_assign rfl) ?_
    refine runl_nil ?_
    refine run_seq ?_
    refine run_seq ?_
    cases fl
    · refine run_region rfl ?_
      refine runl_ev (ev_move rfl) ?_
      refine runl_ev (ev_move rfl) ?_
      refine runl_ev_g rfl rfl (rfl) (ev_move rfl) ?_
      refine runl_ev_g rfl rfl (rfl) (ev_move rfl) ?_
      refine runl_ev_g rfl rfl (rfl) (ev_move rfl) ?_
      refine runl_ev_g rfl rfl (rfl) (ev_move rfl) ?_
      refine runl_op_g rfl rfl (rfl) (t_call call_31 rfl (qjust_any st1 l (encP 6 isEnvP encEnv ⟨(kindS 6 l).bytes.1, acc⟩) _ a a61 _ c _ c61 (hl0.ext RByte.stable e) (sl61.ext RByte.stable x61))) ?_
      rintro _ w70 ⟨rfl, e70⟩
      have z70 := e70.size
      replace hb2 := e70.at hb2
      replace hb5 := e70.at hb5
      replace st1 := st1.up e70
      replace e := e.trans e70
      replace xx := xx.trans e70.toB
      replace x61 := x61.trans e70
      have hj := just_eq 6 isEnvP encEnv ⟨(kindS 6 l).bytes.1, acc⟩ l s1.whole
      simp only [Bool.false_eq_true, if_false] at hen
      refine runl_ev_g rfl rfl (rfl) (ev_not rfl) ?_
      refine runl_ev (ev_pick rfl rfl rfl (if_neg (by simp))) ?_
      refine runl_nil ?_
      refine run_cond_split rfl (fun h1 => ?_) (fun h1 => ?_)
      · have hd : decR 6 RS.envQ isEnvP (fun x => encN 6 ++ encEnv x) l = none := by unfold decR; rw [hen, if_neg]; rw [← hj]; intro hh; rw [hh] at h1; cases h1
        rw [hd]
        refine run_seq ?_
        refine run_region rfl ?_
        refine runl_ev (ev_build (out := envZ) ps_44 zero_44 rfl rfl (rfl)) ?_
        refine runl_do (t_storeW sz_44 rfl rfl rfl rfl hb2 ((by simp [envZ]))) ?_
        rintro _ v15_1 ⟨hq15_1, e15_1, z15_1⟩
        replace hb5 := e15_1.at1 hb5 (by omega)
        replace e := e.new1 e15_1 (by omega)
        replace xx := xx.newB1 e15_1 (by first | exact .inl (by omega) | exact .inr rfl | exact .inr (.inl rfl) | exact .inr (.inr (by omega)))
        replace hb2 := hq15_1
        clear hq15_1
        refine runl_ev (ev_assign rfl) ?_
        refine runl_nil ?_
        refine run_ret_any Try.func16 (resCT Try.results16 rfl (loadVar_agg agg_44 rfl (cells_all hb2)) rfl) ?_
        first
          | exact ⟨_, rfl, envZ_any _ _, e⟩
          | exact ⟨_, rfl, (hF.keep xx (fun k hk => by omega)).up (by omega), e⟩
      · have hd : decR 6 RS.envQ isEnvP (fun x => encN 6 ++ encEnv x) l = some ⟨(kindS 6 l).bytes.1, acc⟩ := by unfold decR; rw [hen, if_pos]; rw [← hj]; exact of_not h1
        rw [hd]
        refine run_skip ?_
        refine run_seq ?_
        refine run_region rfl ?_
        refine runl_ev (ev_loadA agg_44 rfl rfl (eqw (cells_all hb5))) ?_
        refine runl_do (t_storeW sz_44 rfl rfl rfl rfl hb2 ((by simp))) ?_
        rintro _ v16_1 ⟨hq16_1, e16_1, z16_1⟩
        replace hb5 := e16_1.at1 hb5 (by omega)
        replace e := e.new1 e16_1 (by omega)
        replace xx := xx.newB1 e16_1 (by first | exact .inl (by omega) | exact .inr rfl | exact .inr (.inl rfl) | exact .inr (.inr (by omega)))
        replace hb2 := hq16_1
        clear hq16_1
        refine runl_ev (ev_assign rfl) ?_
        refine runl_nil ?_
        refine run_ret_any Try.func16 (resCT Try.results16 rfl (loadVar_agg agg_44 rfl (cells_all hb2)) rfl) ?_
        first
          | exact ⟨_, rfl, envZ_any _ _, e⟩
          | exact ⟨_, rfl, (hF.keep xx (fun k hk => by omega)).up (by omega), e⟩
    · have hd : decR 6 RS.envQ isEnvP (fun x => encN 6 ++ encEnv x) l = none := by unfold decR; rw [hen, if_neg]; simp [RS.whole, RS.fail]
      rw [hd]
      refine run_region rfl ?_
      refine runl_ev (ev_move rfl) ?_
      refine runl_ev (ev_move rfl) ?_
      refine runl_no_g rfl rfl (rfl) ?_
      refine runl_no_g rfl rfl (rfl) ?_
      refine runl_no_g rfl rfl (rfl) ?_
      refine runl_no_g rfl rfl (rfl) ?_
      refine runl_no_g rfl rfl (rfl) ?_
      refine runl_no_g rfl rfl (rfl) ?_
      refine runl_ev (ev_pick rfl rfl rfl (if_pos (rfl))) ?_
      refine runl_nil ?_
      refine run_cond_true rfl (rfl) ?_
      refine run_seq ?_
      refine run_region rfl ?_
      refine runl_ev (ev_build (out := envZ) ps_44 zero_44 rfl rfl (rfl)) ?_
      refine runl_do (t_storeW sz_44 rfl rfl rfl rfl hb2 ((by simp [envZ]))) ?_
      rintro _ v15_1 ⟨hq15_1, e15_1, z15_1⟩
      replace hb5 := e15_1.at1 hb5 (by omega)
      replace e := e.new1 e15_1 (by omega)
      replace xx := xx.newB1 e15_1 (by first | exact .inl (by omega) | exact .inr rfl | exact .inr (.inl rfl) | exact .inr (.inr (by omega)))
      replace hb2 := hq15_1
      clear hq15_1
      refine runl_ev (ev_assign rfl) ?_
      refine runl_nil ?_
      refine run_ret_any Try.func16 (resCT Try.results16 rfl (loadVar_agg agg_44 rfl (cells_all hb2)) rfl) ?_
      exact ⟨_, rfl, envZ_any _ _, e⟩
  · have hfin : (acc, s1, fl) = tq := by rw [← htk, show min 5 N.toNat - 5 = 0 by omega]; rfl
    refine run_region rfl ?_
    refine runl_ev (ev_move rfl) ?_
    refine runl_ev (ev_move rfl) ?_
    refine runl_ev (ev_lss rfl rfl) ?_
    refine runl_ev (ev_move rfl) ?_
    refine runl_ev_g rfl rfl (decide_eq_true (by omega)) (ev_move rfl) ?_
    refine runl_ev_g rfl rfl (decide_eq_true (by omega)) (ev_nilCheck rfl) ?_
    refine runl_ev_g rfl rfl (decide_eq_true (by omega)) (ev_fieldAddr fld_100_1 rfl) ?_
    refine runl_ev_g rfl rfl (decide_eq_true (by omega)) (ev_load1 cell_4 rfl (eqw (cell_blk hr1 rfl))) ?_
    refine runl_ev_g rfl rfl (decide_eq_true (by omega)) (ev_not rfl) ?_
    refine runl_ev (ev_pick rfl rfl rfl (if_pos (decide_eq_true (by omega)))) ?_
    refine runl_ev (ev_move rfl) ?_
    refine runl_ev_g rfl rfl (by rw [h2]; rfl) (ev_move rfl) ?_
    refine runl_ev_g rfl rfl (by rw [h2]; rfl) (ev_leq rfl rfl) ?_
    refine runl_ev (ev_pick rfl rfl rfl (if_pos (by rw [h2]; rfl))) ?_
    refine runl_nil ?_
    refine run_cond_false rfl (decide_eq_false (by omega)) ?_
    refine run_exit rfl ?_
    refine run_seq ?_
    have hsq : Go.Fw.envQ (kindS 6 l) = (acc, s1, fl) := by unfold Go.Fw.envQ; rw [← hN, ← htq, ← hfin]
    have hen : RS.envQ (kindS 6 l) = (⟨(kindS 6 l).bytes.1, acc⟩, if fl = true then .fail else s1) := by unfold RS.envQ; rw [hsq]
    have hF : REnvF w2.heap.size w1 ⟨(kindS 6 l).bytes.1, acc⟩ [.slice a17 (kindS 6 l).bytes.1.length c17, .slice al acc.length cl] := renvF_of ((kfb.step flat_byte x17 (fun k hk => by omega) (.inl rfl)).up (by omega)) (ow.mono (Q := RMarkG w2.heap.size) fun _ _ _ _ h => h.up (by omega)) (by omega)
    have xx : ExtB (fun k => k = b2) w1 w1 := ExtB.refl _ _
    clear own x1 x17
    refine run_region rfl ?_
    refine runl_ev (ev_loadA agg_44 rfl rfl (eqw (cells_all hb5))) ?_
    refine runl_op (t_call call_14 rfl (rencenv_any _ _ _ hF.r (by show acc.length ≤ _; omega) (fun hm => by have := encEnv_len hm (renv_32 hF.r); omega))) ?_
    rintro _ w61 ⟨p61, rfl, o61⟩
    have e61 := o61.ext
    obtain ⟨a61, c61, rfl, hc61, sl61⟩ := o61.sl
    have x61 := ExtB.refl (fun _ => False) w61
    have z61 := e61.size
    replace hb2 := e61.at hb2
    replace hb5 := e61.at hb5
    replace st1 := st1.up e61
    replace e := e.trans e61
    replace xx := xx.trans e61.toB
    refine runl_ev (ev_move rfl) ?_
    refine runl_ev (ev_extract rfl rfl) ?_
    refine runl_ev (ev_extract rfl rfl) ?_
    refine runl_ev (ev_assign rfl) ?_
    refine runl_ev (ev_assign rfl) ?_
    refine runl_nil ?_
    refine run_seq ?_
    refine run_seq ?_
    cases fl
    · refine run_region rfl ?_
      refine runl_ev (ev_move rfl) ?_
      refine runl_ev (ev_move rfl) ?_
      refine runl_ev_g rfl rfl (rfl) (ev_move rfl) ?_
      refine runl_ev_g rfl rfl (rfl) (ev_move rfl) ?_
      refine runl_ev_g rfl rfl (rfl) (ev_move rfl) ?_
      refine runl_ev_g rfl rfl (rfl) (ev_move rfl) ?_
      refine runl_op_g rfl rfl (rfl) (t_call call_31 rfl (qjust_any st1 l (encP 6 isEnvP encEnv ⟨(kindS 6 l).bytes.1, acc⟩) _ a a61 _ c _ c61 (hl0.ext RByte.stable e) (sl61.ext RByte.stable x61))) ?_
      rintro _ w70 ⟨rfl, e70⟩
      have z70 := e70.size
      replace hb2 := e70.at hb2
      replace hb5 := e70.at hb5
      replace st1 := st1.up e70
      replace e := e.trans e70
      replace xx := xx.trans e70.toB
      replace x61 := x61.trans e70
      have hj := just_eq 6 isEnvP encEnv ⟨(kindS 6 l).bytes.1, acc⟩ l s1.whole
      simp only [Bool.false_eq_true, if_false] at hen
      refine runl_ev_g rfl rfl (rfl) (ev_not rfl) ?_
      refine runl_ev (ev_pick rfl rfl rfl (if_neg (by simp))) ?_
      refine runl_nil ?_
      refine run_cond_split rfl (fun h1 => ?_) (fun h1 => ?_)
      · have hd : decR 6 RS.envQ isEnvP (fun x => encN 6 ++ encEnv x) l = none := by unfold decR; rw [hen, if_neg]; rw [← hj]; intro hh; rw [hh] at h1; cases h1
        rw [hd]
        refine run_seq ?_
        refine run_region rfl ?_
        refine runl_ev (ev_build (out := envZ) ps_44 zero_44 rfl rfl (rfl)) ?_
        refine runl_do (t_storeW sz_44 rfl rfl rfl rfl hb2 ((by simp [envZ]))) ?_
        rintro _ v15_1 ⟨hq15_1, e15_1, z15_1⟩
        replace hb5 := e15_1.at1 hb5 (by omega)
        replace e := e.new1 e15_1 (by omega)
        replace xx := xx.newB1 e15_1 (by first | exact .inl (by omega) | exact .inr rfl | exact .inr (.inl rfl) | exact .inr (.inr (by omega)))
        replace hb2 := hq15_1
        clear hq15_1
        refine runl_ev (ev_assign rfl) ?_
        refine runl_nil ?_
        refine run_ret_any Try.func16 (resCT Try.results16 rfl (loadVar_agg agg_44 rfl (cells_all hb2)) rfl) ?_
        first
          | exact ⟨_, rfl, envZ_any _ _, e⟩
          | exact ⟨_, rfl, (hF.keep xx (fun k hk => by omega)).up (by omega), e⟩
      · have hd : decR 6 RS.envQ isEnvP (fun x => encN 6 ++ encEnv x) l = some ⟨(kindS 6 l).bytes.1, acc⟩ := by unfold decR; rw [hen, if_pos]; rw [← hj]; exact of_not h1
        rw [hd]
        refine run_skip ?_
        refine run_seq ?_
        refine run_region rfl ?_
        refine runl_ev (ev_loadA agg_44 rfl rfl (eqw (cells_all hb5))) ?_
        refine runl_do (t_storeW sz_44 rfl rfl rfl rfl hb2 ((by simp))) ?_
        rintro _ v16_1 ⟨hq16_1, e16_1, z16_1⟩
        replace hb5 := e16_1.at1 hb5 (by omega)
        replace e := e.new1 e16_1 (by omega)
        replace xx := xx.newB1 e16_1 (by first | exact .inl (by omega) | exact .inr rfl | exact .inr (.inl rfl) | exact .inr (.inr (by omega)))
        replace hb2 := hq16_1
        clear hq16_1
        refine runl_ev (ev_assign rfl) ?_
        refine runl_nil ?_
        refine run_ret_any Try.func16 (resCT Try.results16 rfl (loadVar_agg agg_44 rfl (cells_all hb2)) rfl) ?_
        first
          | exact ⟨_, rfl, envZ_any _ _, e⟩
          | exact ⟨_, rfl, (hF.keep xx (fun k hk => by omega)).up (by omega), e⟩
    · have hd : decR 6 RS.envQ isEnvP (fun x => encN 6 ++ encEnv x) l = none := by unfold decR; rw [hen, if_neg]; simp [RS.whole, RS.fail]
      rw [hd]
      refine run_region rfl ?_
      refine runl_ev (ev_move rfl) ?_
      refine runl_ev (ev_move rfl) ?_
      refine runl_no_g rfl rfl (rfl) ?_
      refine runl_no_g rfl rfl (rfl) ?_
      refine runl_no_g rfl rfl (rfl) ?_
      refine runl_no_g rfl rfl (rfl) ?_
      refine runl_no_g rfl rfl (rfl) ?_
      refine runl_no_g rfl rfl (rfl) ?_
      refine runl_ev (ev_pick rfl rfl rfl (if_pos (rfl))) ?_
      refine runl_nil ?_
      refine run_cond_true rfl (rfl) ?_
      refine run_seq ?_
      refine run_region rfl ?_
      refine runl_ev (ev_build (out := envZ) ps_44 zero_44 rfl rfl (rfl)) ?_
      refine runl_do (t_storeW sz_44 rfl rfl rfl rfl hb2 ((by simp [envZ]))) ?_
      rintro _ v15_1 ⟨hq15_1, e15_1, z15_1⟩
      replace hb5 := e15_1.at1 hb5 (by omega)
      replace e := e.new1 e15_1 (by omega)
      replace xx := xx.newB1 e15_1 (by first | exact .inl (by omega) | exact .inr rfl | exact .inr (.inl rfl) | exact .inr (.inr (by omega)))
      replace hb2 := hq15_1
      clear hq15_1
      refine runl_ev (ev_assign rfl) ?_
      refine runl_nil ?_
      refine run_ret_any Try.func16 (resCT Try.results16 rfl (loadVar_agg agg_44 rfl (cells_all hb2)) rfl) ?_
      exact ⟨_, rfl, envZ_any _ _, e⟩
  · have htk1 : takenQ (min 5 N.toNat - (i + 1)) (acc ++ [(RS.markQ s1).1]) (RS.markQ s1).2 (fl || badSig s1) = tq := by rw [← htk, show min 5 N.toNat - i = (min 5 N.toNat - (i + 1)) + 1 by omega, takenQ, if_neg (by rw [h2]; simp)]
    have hm1 := markQ_1 s1
    have hm2 : (RS.markQ s1).2 = s1.hash.2.bytes.2 := rfl
    have hmo := ok_markQ hok1
    generalize RS.markQ s1 = mq at htk1 hm1 hm2 hmo
    have hbf := bad_flag s1
    generalize badSig s1 = bs at htk1 hbf
    have hl57 : (acc ++ [mq.1]).length = i + 1 := by rw [List.length_append, hal]; rfl
    have hlen1 := st1.len
    have hbl := bytes_len s1.hash.2
    have hhl := hash_rest s1
    refine run_region rfl ?_
    refine runl_ev (ev_move rfl) ?_
    refine runl_ev (ev_move rfl) ?_
    refine runl_ev (ev_lss rfl rfl) ?_
    refine runl_ev (ev_move rfl) ?_
    refine runl_ev_g rfl rfl (decide_eq_true (by omega)) (ev_move rfl) ?_
    refine runl_ev_g rfl rfl (decide_eq_true (by omega)) (ev_nilCheck rfl) ?_
    refine runl_ev_g rfl rfl (decide_eq_true (by omega)) (ev_fieldAddr fld_100_1 rfl) ?_
    refine runl_ev_g rfl rfl (decide_eq_true (by omega)) (ev_load1 cell_4 rfl (eqw (cell_blk hr1 rfl))) ?_
    refine runl_ev_g rfl rfl (decide_eq_true (by omega)) (ev_not rfl) ?_
    refine runl_ev (ev_pick rfl rfl rfl (if_pos (decide_eq_true (by omega)))) ?_
    refine runl_ev (ev_move rfl) ?_
    refine runl_ev_g rfl rfl (by rw [h2]; rfl) (ev_move rfl) ?_
    refine runl_ev_g rfl rfl (by rw [h2]; rfl) (ev_leq rfl rfl) ?_
    refine runl_ev (ev_pick rfl rfl rfl (if_pos (by rw [h2]; rfl))) ?_
    refine runl_nil ?_
    refine run_cond_true rfl (decide_eq_true (by omega)) ?_
    refine run_skip ?_
    refine run_seq ?_
    refine run_block ?_
    refine run_seq ?_
    refine run_region rfl ?_
    refine runl_ev (ev_move rfl) ?_
    refine runl_op (t_call call_46 rfl (qhash_any st1 hok1)) ?_
    rintro _ w38 ⟨rfl, rp38⟩
    obtain ⟨v38, st38⟩ := rp38.1
    have z38 := rp38.2.size
    replace hb2 := rp38.2.at1 hb2 (by omega)
    replace hb5 := rp38.2.at1 hb5 (by omega)
    replace own := own.ext1 rp38.2 (by omega)
    replace e := e.new1 rp38.2 (by omega)
    replace x1 := x1.newB1 rp38.2 (by first | exact .inl (by omega) | exact .inr rfl | exact .inr (.inl rfl) | exact .inr (.inr (by omega)))
    replace x17 := x17.newB1 rp38.2 (.inr (.inl rfl))
    refine runl_ev (ev_build (out := hcells s1.hash.1 ++ [.int .i64 0, .slice none 0 0, .slice none 0 0]) ps_87 zero_87 rfl rfl (fill_head (n := 32) rfl (by rw [hcells_length, hash_len]) (by decide))) ?_
    refine runl_op (t_alloc zero_87 rfl) ?_
    rintro _ w9 ⟨b9, rfl, hb9, e9, n9, l9⟩
    have z9 := e9.size
    replace hb2 := e9.at hb2
    replace hb5 := e9.at hb5
    replace own := own.ext e9
    replace e := e.trans e9
    replace x17 := x17.trans e9.toB
    replace x1 := x1.trans e9.toB
    replace st38 := st38.up e9
    refine runl_do (t_storeW sz_87 rfl rfl (by rw [List.length_append, hcells_length, hash_len]; rfl) rfl hb9 (mark0_one _)) ?_
    rintro _ v8_4 ⟨hq8_4, e8_4, z8_4⟩
    replace hb2 := e8_4.at1 hb2 (by omega)
    replace hb5 := e8_4.at1 hb5 (by omega)
    replace own := own.ext1 e8_4 (by omega)
    replace e := e.new1 e8_4 (by omega)
    replace x17 := x17.newB1 e8_4 (by first | exact .inl (by omega) | exact .inr rfl | exact .inr (.inl rfl) | exact .inr (.inr (by omega)))
    replace x1 := x1.newB1 e8_4 (by first | exact .inl (by omega) | exact .inr rfl | exact .inr (.inl rfl) | exact .inr (.inr (by omega)))
    replace st38 := st38.own e8_4 (fun k hk h => by rcases hk with hk | hk <;> omega)
    replace hb9 := hq8_4
    clear hq8_4
    refine runl_nil ?_
    refine run_seq ?_
    refine run_region rfl ?_
    refine runl_ev (ev_move rfl) ?_
    refine runl_op (t_call call_45 rfl (qbytes_any st38 (ok_hash hok1))) ?_
    rintro r42 w42 ⟨ow42, rp42⟩
    rw [← hm2] at rp42
    obtain ⟨v42, st42⟩ := rp42.1
    obtain ⟨a42, c42, rfl, hc42, sl42, -⟩ := ow42.sl
    have z42 := rp42.2.size
    replace hb2 := rp42.2.at1 hb2 (by omega)
    replace hb5 := rp42.2.at1 hb5 (by omega)
    replace own := own.ext1 rp42.2 (by omega)
    replace e := e.new1 rp42.2 (by omega)
    replace x1 := x1.newB1 rp42.2 (by first | exact .inl (by omega) | exact .inr rfl | exact .inr (.inl rfl) | exact .inr (.inr (by omega)))
    replace hb9 := rp42.2.at1 hb9 (by omega)
    replace x17 := x17.newB1 rp42.2 (.inr (.inl rfl))
    refine runl_op (t_call call_47 rfl (qdecode_any s1.hash.2.bytes.1 _ a42 _ c42 sl42 hc42 (by omega))) ?_
    rintro _ w43 h43
    generalize hds : decSig s1.hash.2.bytes.1 = ds at h43 hbf
    obtain ⟨c43, rfl, kf43, e43⟩ := h43
    have hc43 := rsig_len _ _ _ kf43.r
    have x43 : ExtB (fun k => k = b9) w43 w43 := ExtB.refl _ _
    have z43 := e43.size
    replace hb2 := e43.at hb2
    replace hb5 := e43.at hb5
    replace own := own.ext e43
    replace e := e.trans e43
    replace x17 := x17.trans e43.toB
    replace x1 := x1.trans e43.toB
    replace hb9 := e43.at hb9
    replace st42 := st42.up e43
    refine runl_ev (ev_move rfl) ?_
    refine runl_ev (ev_extract rfl rfl) ?_
    refine runl_ev (ev_extract rfl rfl) ?_
    refine runl_op (t_alloc zero_85 rfl) ?_
    rintro _ w10 ⟨b10, rfl, hb10, e10, n10, l10⟩
    have z10 := e10.size
    replace hb2 := e10.at hb2
    replace hb5 := e10.at hb5
    replace own := own.ext e10
    replace e := e.trans e10
    replace x17 := x17.trans e10.toB
    replace x1 := x1.trans e10.toB
    replace hb9 := e10.at hb9
    replace st42 := st42.up e10
    replace x43 := x43.trans e10.toB
    refine runl_do (t_storeW sz_85 rfl rfl hc43 rfl hb10 (rsig_one _ _ kf43.r)) ?_
    rintro _ v9_7 ⟨hq9_7, e9_7, z9_7⟩
    replace hb2 := e9_7.at1 hb2 (by omega)
    replace hb5 := e9_7.at1 hb5 (by omega)
    replace own := own.ext1 e9_7 (by omega)
    replace e := e.new1 e9_7 (by omega)
    replace x17 := x17.newB1 e9_7 (by first | exact .inl (by omega) | exact .inr rfl | exact .inr (.inl rfl) | exact .inr (.inr (by omega)))
    replace x1 := x1.newB1 e9_7 (by first | exact .inl (by omega) | exact .inr rfl | exact .inr (.inl rfl) | exact .inr (.inr (by omega)))
    replace hb9 := e9_7.at1 hb9 (by omega)
    replace st42 := st42.own e9_7 (fun k hk h => by rcases hk with hk | hk <;> omega)
    replace x43 := x43.newB1 e9_7 (by first | exact .inl (by omega) | exact .inr rfl | exact .inr (.inl rfl) | exact .inr (.inr (by omega)))
    replace hb10 := hq9_7
    clear hq9_7
    refine runl_ev (ev_assign rfl) ?_
    refine runl_nil ?_
    refine run_seq ?_
    cases fl
    · refine run_region rfl ?_
      refine runl_ev (ev_move rfl) ?_
      refine runl_ev (ev_move rfl) ?_
      refine runl_ev_g rfl rfl (rfl) (ev_move rfl) ?_
      refine runl_ev_g rfl rfl (rfl) (ev_neqI rfl rfl) ?_
      refine runl_ev (ev_pick rfl rfl rfl (if_neg (by simp))) ?_
      refine runl_ev (ev_assign rfl) ?_
      refine runl_nil ?_
      refine run_seq ?_
      refine run_region rfl ?_
      refine runl_ev (ev_loadA agg_85 hc43 rfl (eqw (cells_all hb10))) ?_
      refine runl_ev (ev_fieldAddr fld_87_1 rfl) ?_
      refine runl_do (t_store sz_85 rfl rfl rfl hc43 hb9 (by rw [hc43, List.length_append, hcells_length, hash_len]; simp) (rsig_one _ _ kf43.r)) ?_
      rintro _ v11_2 ⟨hq11_2, e11_2, z11_2⟩
      replace hb2 := e11_2.at1 hb2 (by omega)
      replace hb5 := e11_2.at1 hb5 (by omega)
      replace own := own.ext1 e11_2 (by omega)
      replace e := e.new1 e11_2 (by omega)
      replace x17 := x17.newB1 e11_2 (by first | exact .inl (by omega) | exact .inr rfl | exact .inr (.inl rfl) | exact .inr (.inr (by omega)))
      replace x1 := x1.newB1 e11_2 (by first | exact .inl (by omega) | exact .inr rfl | exact .inr (.inl rfl) | exact .inr (.inr (by omega)))
      replace st42 := st42.own e11_2 (fun k hk h => by rcases hk with hk | hk <;> omega)
      replace x43 := x43.newB1 e11_2 (by first | exact .inl (by omega) | exact .inr rfl | exact .inr (.inl rfl) | exact .inr (.inr (by omega)))
      replace hb10 := e11_2.at1 hb10 (by omega)
      replace hb9 := hq11_2
      clear hq11_2
      refine runl_nil ?_
      rw [mark_set (hash_len s1) (by rw [hc43]; decide)] at hb9
      refine run_region rfl ?_
      refine runl_ev (ev_fieldAddr fld_44_1 rfl) ?_
      refine runl_ev (ev_load1 cell_42 rfl (eqw (cell_blk hb5 rfl))) ?_
      refine runl_ev (ev_loadA agg_87 (by rw [List.length_append, hcells_length, hash_len, hc43]) rfl (eqw (cells_all hb9))) ?_
      refine runl_op (t_buildSlice (out := hcells s1.hash.1 ++ c43) Try.underlying42 sz_87 zero_87 rfl rfl (by decide) (by decide) rfl (fill_one rfl (by rw [List.length_append, hcells_length, hash_len, hc43]) rfl)) ?_
      rintro _ w56 ⟨b56, rfl, hb56, e56, n56, l56⟩
      have z56 := e56.size
      replace hb2 := e56.at hb2
      replace hb5 := e56.at hb5
      replace own := own.ext e56
      replace e := e.trans e56
      replace x17 := x17.trans e56.toB
      replace x1 := x1.trans e56.toB
      replace hb9 := e56.at hb9
      replace st42 := st42.up e56
      replace x43 := x43.trans e56.toB
      replace hb10 := e56.at hb10
      refine runl_op (t_append (news := hcells s1.hash.1 ++ c43) ef_42 rfl rfl own (by rw [List.length_append, hcells_length, hash_len, hc43]) (cells_all hb56) (fun v hv => by rcases List.mem_append.1 hv with h | h; exact hcells_one _ v h; exact rsig_one _ _ kf43.r v h) (by unfold maxLen; omega) (by omega)) ?_
      rintro v57 w57 ⟨g57, ap57⟩
      have kfm : RMarkG w5.heap.size g w56 mq.1 (hcells s1.hash.1 ++ c43) := by
        rw [hm1, hds]
        exact ⟨c43, rfl, hash_len s1, ((((RSigG.nest _).keep kf43 x43 (fun k hk => by omega)).cast (by omega : g < _)).up (by omega))⟩
      have hpp2 := hpp.mono (fun _ _ _ h => (RMarkG.nest _).keep h x1 (fun k hk => by omega))
      have ow57 := OwnN.app (RMarkG.nest _) (w := w5) (by omega) hg (by omega) hpp2 hxl kfm (by rw [List.length_append, hcells_length, hash_len, hc43]) ap57
      obtain ⟨a57, c57, rfl⟩ := ow57.shape
      have z57 := ap57.ext.size
      replace hb2 := ap57.ext.atG hb2 (by omega)
      replace hb5 := ap57.ext.atG hb5 (by omega)
      replace e := e.newG ap57.ext (by omega)
      replace x17 := x17.newBG ap57.ext (fun k hk => by first | exact .inl (by omega) | exact .inr hk | exact .inr (.inr hk) | exact .inr (.inr (by omega)))
      replace st42 := st42.own ap57.ext (fun k hk h => by rcases hk with hk | hk <;> omega)
      refine runl_ev (ev_fieldAddr fld_44_1 rfl) ?_
      refine runl_do (t_store1 sz_42 rfl rfl rfl rfl hb5 (by simp)) ?_
      rintro _ v12_6 ⟨hq12_6, e12_6, z12_6⟩
      replace hb2 := e12_6.at1 hb2 (by omega)
      replace e := e.new1 e12_6 (by omega)
      replace x17 := x17.newB1 e12_6 (by first | exact .inl (by omega) | exact .inr rfl | exact .inr (.inl rfl) | exact .inr (.inr (by omega)))
      replace st42 := st42.own e12_6 (fun k hk h => by rcases hk with hk | hk <;> omega)
      replace hb5 := hq12_6
      clear hq12_6
      refine runl_nil ?_
      refine run_inBlock ?_
      refine run_region rfl ?_
      refine runl_ev (ev_move rfl) ?_
      refine runl_ev (ev_add rfl rfl (by omega) (by omega)) ?_
      refine runl_ev (ev_assign rfl) ?_
      refine runl_nil ?_
      exact IH (i + 1, acc ++ [mq.1], mq.2, (false || bs), _, v42) _ _ (by simp only; omega) ⟨rfl, rfl, rfl, rfl, rfl, by show some (Value.bool (decide (optE ds ≠ 0))) = some (Value.bool (false || bs)); rw [hbf]; rfl, rfl, trivial⟩ ⟨by show i + 1 ≤ 5; omega, by show ((i + 1 : Nat) : Int) ≤ N; omega, hl57, htk1, hmo, ow57.keep (RMarkG.nest _) e12_6 (fun k hk => .inl (by omega)) (Nat.le_refl _), st42, e, hb5, hb2, by omega, x17⟩
    · refine run_region rfl ?_
      refine runl_ev (ev_move rfl) ?_
      refine runl_ev (ev_move rfl) ?_
      refine runl_no_g rfl rfl (rfl) ?_
      refine runl_no_g rfl rfl (rfl) ?_
      refine runl_ev (ev_pick rfl rfl rfl (if_pos (rfl))) ?_
      refine runl_ev (ev_assign rfl) ?_
      refine runl_nil ?_
      refine run_seq ?_
      refine run_region rfl ?_
      refine runl_ev (ev_loadA agg_85 hc43 rfl (eqw (cells_all hb10))) ?_
      refine runl_ev (ev_fieldAddr fld_87_1 rfl) ?_
      refine runl_do (t_store sz_85 rfl rfl rfl hc43 hb9 (by rw [hc43, List.length_append, hcells_length, hash_len]; simp) (rsig_one _ _ kf43.r)) ?_
      rintro _ v11_2 ⟨hq11_2, e11_2, z11_2⟩
      replace hb2 := e11_2.at1 hb2 (by omega)
      replace hb5 := e11_2.at1 hb5 (by omega)
      replace own := own.ext1 e11_2 (by omega)
      replace e := e.new1 e11_2 (by omega)
      replace x17 := x17.newB1 e11_2 (by first | exact .inl (by omega) | exact .inr rfl | exact .inr (.inl rfl) | exact .inr (.inr (by omega)))
      replace x1 := x1.newB1 e11_2 (by first | exact .inl (by omega) | exact .inr rfl | exact .inr (.inl rfl) | exact .inr (.inr (by omega)))
      replace st42 := st42.own e11_2 (fun k hk h => by rcases hk with hk | hk <;> omega)
      replace x43 := x43.newB1 e11_2 (by first | exact .inl (by omega) | exact .inr rfl | exact .inr (.inl rfl) | exact .inr (.inr (by omega)))
      replace hb10 := e11_2.at1 hb10 (by omega)
      replace hb9 := hq11_2
      clear hq11_2
      refine runl_nil ?_
      rw [mark_set (hash_len s1) (by rw [hc43]; decide)] at hb9
      refine run_region rfl ?_
      refine runl_ev (ev_fieldAddr fld_44_1 rfl) ?_
      refine runl_ev (ev_load1 cell_42 rfl (eqw (cell_blk hb5 rfl))) ?_
      refine runl_ev (ev_loadA agg_87 (by rw [List.length_append, hcells_length, hash_len, hc43]) rfl (eqw (cells_all hb9))) ?_
      refine runl_op (t_buildSlice (out := hcells s1.hash.1 ++ c43) Try.underlying42 sz_87 zero_87 rfl rfl (by decide) (by decide) rfl (fill_one rfl (by rw [List.length_append, hcells_length, hash_len, hc43]) rfl)) ?_
      rintro _ w56 ⟨b56, rfl, hb56, e56, n56, l56⟩
      have z56 := e56.size
      replace hb2 := e56.at hb2
      replace hb5 := e56.at hb5
      replace own := own.ext e56
      replace e := e.trans e56
      replace x17 := x17.trans e56.toB
      replace x1 := x1.trans e56.toB
      replace hb9 := e56.at hb9
      replace st42 := st42.up e56
      replace x43 := x43.trans e56.toB
      replace hb10 := e56.at hb10
      refine runl_op (t_append (news := hcells s1.hash.1 ++ c43) ef_42 rfl rfl own (by rw [List.length_append, hcells_length, hash_len, hc43]) (cells_all hb56) (fun v hv => by rcases List.mem_append.1 hv with h | h; exact hcells_one _ v h; exact rsig_one _ _ kf43.r v h) (by unfold maxLen; omega) (by omega)) ?_
      rintro v57 w57 ⟨g57, ap57⟩
      have kfm : RMarkG w5.heap.size g w56 mq.1 (hcells s1.hash.1 ++ c43) := by
        rw [hm1, hds]
        exact ⟨c43, rfl, hash_len s1, ((((RSigG.nest _).keep kf43 x43 (fun k hk => by omega)).cast (by omega : g < _)).up (by omega))⟩
      have hpp2 := hpp.mono (fun _ _ _ h => (RMarkG.nest _).keep h x1 (fun k hk => by omega))
      have ow57 := OwnN.app (RMarkG.nest _) (w := w5) (by omega) hg (by omega) hpp2 hxl kfm (by rw [List.length_append, hcells_length, hash_len, hc43]) ap57
      obtain ⟨a57, c57, rfl⟩ := ow57.shape
      have z57 := ap57.ext.size
      replace hb2 := ap57.ext.atG hb2 (by omega)
      replace hb5 := ap57.ext.atG hb5 (by omega)
      replace e := e.newG ap57.ext (by omega)
      replace x17 := x17.newBG ap57.ext (fun k hk => by first | exact .inl (by omega) | exact .inr hk | exact .inr (.inr hk) | exact .inr (.inr (by omega)))
      replace st42 := st42.own ap57.ext (fun k hk h => by rcases hk with hk | hk <;> omega)
      refine runl_ev (ev_fieldAddr fld_44_1 rfl) ?_
      refine runl_do (t_store1 sz_42 rfl rfl rfl rfl hb5 (by simp)) ?_
      rintro _ v12_6 ⟨hq12_6, e12_6, z12_6⟩
      replace hb2 := e12_6.at1 hb2 (by omega)
      replace e := e.new1 e12_6 (by omega)
      replace x17 := x17.newB1 e12_6 (by first | exact .inl (by omega) | exact .inr rfl | exact .inr (.inl rfl) | exact .inr (.inr (by omega)))
      replace st42 := st42.own e12_6 (fun k hk h => by rcases hk with hk | hk <;> omega)
      replace hb5 := hq12_6
      clear hq12_6
      refine runl_nil ?_
      refine run_inBlock ?_
      refine run_region rfl ?_
      refine runl_ev (ev_move rfl) ?_
      refine runl_ev (ev_add rfl rfl (by omega) (by omega)) ?_
      refine runl_ev (ev_assign rfl) ?_
      refine runl_nil ?_
      exact IH (i + 1, acc ++ [mq.1], mq.2, (true || bs), _, v42) _ _ (by simp only; omega) ⟨rfl, rfl, rfl, rfl, rfl, rfl, rfl, trivial⟩ ⟨by show i + 1 ≤ 5; omega, by show ((i + 1 : Nat) : Int) ≤ N; omega, hl57, htk1, hmo, ow57.keep (RMarkG.nest _) e12_6 (fun k hk => .inl (by omega)) (Nat.le_refl _), st42, e, hb5, hb2, by omega, x17⟩
end Go.Proofs.Ytcmbiaibocdfeaa
