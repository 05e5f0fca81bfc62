/- The walks of what the reference decodes, and of the law on roots. -/
import Derived.Test.YtcmbiaibocdfeaaWireL
import Derived.Test.YtcmbiaibocdfeaaWire9
namespace Go.Proofs.Ytcmbiaibocdfeaa
open Go Go.Fw
set_option maxRecDepth 100000

theorem qdecroot_any (l : List UInt8) (w : World) (a : Option Addr) (n c : Nat) (hl : SlAt 1 RByte w (.slice a n c) l) (hc : l.length ≤ c) (hn : l.length ≤ 1099511627776) :
    Ret Try.prog 9 [.slice a n c] w fun r w' => ∃ cs, r = .tuple #[.agg ⟨cs⟩, .int .i64 (optE (decR 1 (RS.root (min 5)) isRootP (fun x => encN 1 ++ encRoot x) l))] ∧ RRootF w.heap.size w' ((decR 1 (RS.root (min 5)) isRootP (fun x => encN 1 ++ encRoot x) l).getD .zero) cs ∧ Ext w w' := by
  have e := ExtB.refl (fun _ => False) w
  have hl0 := hl
  obtain ⟨rfl, -⟩ := hl.at
  refine ret_of_run Try.func9 rfl Try.ntmps9 rfl ?_
  refine run_seq ?_
  refine run_region rfl ?_
  refine runl_op (t_alloc zero_27 rfl) ?_
  rintro _ w2 ⟨b2, rfl, hb2, e2, n2, l2⟩
  have z2 := e2.size
  replace e := e.trans e2
  refine runl_ev (ev_assign rfl) ?_
  refine runl_nil ?_
  refine run_seq ?_
  refine run_region rfl ?_
  refine runl_ev (ev_move rfl) ?_
  refine runl_op (t_call call_28 rfl (qreader_any l _ a _ c (hl0.ext RByte.stable e) hc hn 1)) ?_
  rintro _ w10 ⟨rb, v10, rfl, st⟩
  have e10 := st.ext
  have hrb := st.hrb
  have lrb := st.lt
  have z10 := e10.size
  replace e := e.trans e10
  replace hb2 := e10.at hb2
  refine runl_ev (ev_assign rfl) ?_
  refine runl_nil ?_
  refine run_seq ?_
  refine run_region rfl ?_
  refine runl_ev (ev_move rfl) ?_
  refine runl_op (t_call call_29 rfl (qnum_any st (ok_kind _ _))) ?_
  rintro _ w12 ⟨rfl, rp12⟩
  obtain ⟨v12, st12⟩ := rp12.1
  have z12 := rp12.2.size
  replace e := e.new1 rp12.2 (by omega)
  replace hb2 := rp12.2.at1 hb2 (by omega)
  refine runl_ev (ev_build (out := .int .i64 (kindS 1 l).num.1 :: .int .i64 0 :: [.slice none 0 0, .int .i64 0, .slice none 0 0, .int .i64 0, .slice none 0 0, .int .i64 0, .slice none 0 0, .int .i64 0]) ps_27 zero_27 rfl rfl (rfl)) ?_
  refine runl_op (t_alloc zero_27 rfl) ?_
  rintro _ w5 ⟨b5, rfl, hb5, e5, n5, l5⟩
  have z5 := e5.size
  replace e := e.trans e5
  replace hb2 := e5.at hb2
  replace st12 := st12.up e5
  refine runl_do (t_storeW sz_27 rfl rfl rfl rfl hb5 ((by simp))) ?_
  rintro _ v2_4 ⟨hq2_4, e2_4, z2_4⟩
  replace e := e.new1 e2_4 (by omega)
  replace hb2 := e2_4.at1 hb2 (by omega)
  replace st12 := st12.own e2_4 (fun k hk h => by rcases hk with hk | hk <;> omega)
  replace hb5 := hq2_4
  clear hq2_4
  refine runl_nil ?_
  refine run_seq ?_
  refine run_region rfl ?_
  refine runl_ev (ev_move rfl) ?_
  refine runl_op (t_call call_29 rfl (qnum_any st12 (ok_num (ok_kind _ _)))) ?_
  rintro _ w15 ⟨rfl, rp15⟩
  obtain ⟨v15, st15⟩ := rp15.1
  have z15 := rp15.2.size
  replace e := e.new1 rp15.2 (by omega)
  replace hb2 := rp15.2.at1 hb2 (by omega)
  replace hb5 := rp15.2.at1 hb5 (by omega)
  refine runl_ev (ev_fieldAddr fld_27_1 rfl) ?_
  refine runl_do (t_store1 sz_3 rfl rfl rfl rfl hb5 (by simp)) ?_
  rintro _ v3_3 ⟨hq3_3, e3_3, z3_3⟩
  replace e := e.new1 e3_3 (by omega)
  replace hb2 := e3_3.at1 hb2 (by omega)
  replace st15 := st15.own e3_3 (fun k hk h => by rcases hk with hk | hk <;> omega)
  replace hb5 := hq3_3
  clear hq3_3
  refine runl_nil ?_
  refine run_seq ?_
  refine run_seq ?_
  refine run_region rfl ?_
  refine runl_ev (ev_assign rfl) ?_
  refine runl_nil ?_
  refine run_block ?_
  refine run_loop (ι := Nat × List KeysP × RS × Value × List Value × List Value) (fun x => [(0, .slice a l.length c), (2, .pointer (some ⟨b2, 0, none⟩)), (4, .pointer (some ⟨rb, 0, none⟩)), (5, .pointer (some ⟨b5, 0, none⟩)), (6, .int .i64 (x.1 : Int))]) (fun x w1 => x.1 ≤ 4 ∧ x.2.1.length = x.1 ∧ rowsA (RS.keys (min 5)) (4 - x.1) x.2.1 x.2.2.1 = rowsA (RS.keys (min 5)) 4 [] (kindS 1 l).num.2.num.2 ∧ x.2.2.2.2.1.length = 2 * x.1 ∧ x.2.2.2.2.2.length = 8 - 2 * x.1 ∧ Parts 2 (RKeysF w5.heap.size) w1 x.2.1 x.2.2.2.2.1 ∧ w1.heap[b5]? = some (.cells ⟨.int .i64 (kindS 1 l).num.1 :: .int .i64 (kindS 1 l).num.2.num.1 :: (x.2.2.2.2.1 ++ x.2.2.2.2.2)⟩ 27 (0, 0)) ∧ x.2.2.1.ok ∧ w1.heap[b2]? = some (.cells ⟨rootZ⟩ 27 (0, 0)) ∧ RSt 100 w2 w1 rb x.2.2.2.1 x.2.2.1 ∧ Ext w w1 ∧ w5.heap.size ≤ w1.heap.size) (fun x => 4 - x.1) ((0, [], (kindS 1 l).num.2.num.2, v15, [], [.slice none 0 0, .int .i64 0, .slice none 0 0, .int .i64 0, .slice none 0 0, .int .i64 0, .slice none 0 0, .int .i64 0])) ⟨rfl, rfl, rfl, rfl, rfl, trivial⟩ (⟨Nat.zero_le _, rfl, rfl, rfl, rfl, trivial, hb5, ok_num (ok_num (ok_kind _ _)), hb2, st15, e, by omega⟩) ?_
  clear hb2 hb5 st15 e
  intro ⟨k, acc, s1, v1, ks, zs⟩ w1 ⟨hk, hal, hrw, hkz, hzz, hP, hb5, hok1, hb2, st1, e, hz5⟩ IH
  simp only at hk hal hrw hkz hzz hP hb5 st1 hz5 hok1
  refine run_seq ?_
  refine run_seq ?_
  refine run_region rfl ?_
  refine runl_ev (ev_move rfl) ?_
  refine runl_ev (ev_lss rfl rfl) ?_
  refine runl_nil ?_
  refine run_dcond rfl (fun h0 => ?_) (fun h0 => ?_)
  · have hrw1 : rowsA (RS.keys (min 5)) (4 - (k + 1)) (acc ++ [(RS.keys (min 5) s1).1]) (RS.keys (min 5) s1).2 = rowsA (RS.keys (min 5)) 4 [] (kindS 1 l).num.2.num.2 := by rw [← hrw, show 4 - k = (4 - (k + 1)) + 1 by omega]; rfl
    refine run_skip ?_
    refine run_seq ?_
    refine run_block ?_
    refine run_region rfl ?_
    refine runl_ev (ev_move rfl) ?_
    refine runl_ev (ev_move rfl) ?_
    refine runl_op (t_call call_30 rfl (qkeys_any st1 hok1)) ?_
    rintro _ w23 ⟨c23, rfl, kf23, rp23⟩
    obtain ⟨v23, st23⟩ := rp23.1
    have hc23 := rkeys_len _ _ _ kf23.r
    replace kf23 := kf23.up (by omega : w5.heap.size ≤ _)
    have z23 := rp23.2.size
    replace hb2 := rp23.2.at1 hb2 (by omega)
    replace hb5 := rp23.2.at1 hb5 (by omega)
    replace e := e.new1 rp23.2 (by omega)
    replace hP := hP.mono (fun _ _ _ h => h.keep rp23.2 (fun k hk => by omega))
    refine runl_ev (ev_fieldAddr fld_27_2 rfl) ?_
    refine runl_ev (ev_indexAddrA arr_25 rfl rfl (by omega)) ?_
    refine runl_do (t_store sz_24 rfl rfl rfl hc23 hb5 (by rw [hc23]; simp only [List.length_cons, List.length_append]; omega) (rkeys_one _ _ kf23.r)) ?_
    rintro _ v7_5 ⟨hq7_5, e7_5, z7_5⟩
    replace hb2 := e7_5.at1 hb2 (by omega)
    replace e := e.new1 e7_5 (by omega)
    replace st23 := st23.own e7_5 (fun k hk h => by rcases hk with hk | hk <;> omega)
    replace hb5 := hq7_5
    clear hq7_5
    refine runl_nil ?_
    replace hb5 := (root_set hkz hc23) ▸ hb5
    have hP2 := Parts.app hP (by omega) (pc (x := (RS.keys (min 5) s1).1) (r := []) (cs := c23) (by rw [List.take_of_length_le (by omega)]; exact kf23) pn)
    replace hP2 := hP2.mono (fun _ _ _ h => h.keep e7_5 (fun k hk => by omega))
    refine run_inBlock ?_
    refine run_region rfl ?_
    refine runl_ev (ev_move rfl) ?_
    refine runl_ev (ev_add rfl rfl (by omega) (by omega)) ?_
    refine runl_ev (ev_assign rfl) ?_
    refine runl_nil ?_
    exact IH (k + 1, acc ++ [(RS.keys (min 5) s1).1], (RS.keys (min 5) s1).2, v23, ks ++ c23, zs.drop 2) _ _ (by simp only; omega) ⟨rfl, rfl, rfl, rfl, rfl, trivial⟩ ⟨by show k + 1 ≤ 4; omega, by show (acc ++ [_]).length = k + 1; simp [hal], hrw1, by show (ks ++ c23).length = 2 * (k + 1); rw [List.length_append]; omega, by show (zs.drop 2).length = 8 - 2 * (k + 1); rw [List.length_drop]; omega, hP2, hb5, ok_keys _ hok1, hb2, st23, e, by omega⟩
  · obtain rfl : k = 4 := by omega
    obtain rfl : zs = [] := List.eq_nil_of_length_eq_zero (by omega)
    rw [List.append_nil] at hb5
    have hfin : rowsA (RS.keys (min 5)) 4 [] (kindS 1 l).num.2.num.2 = (acc, s1) := hrw.symm
    have hroot : (kindS 1 l).root (min 5) = (⟨(kindS 1 l).num.1, (kindS 1 l).num.2.num.1, acc⟩, s1) := by unfold RS.root; rw [hfin]
    have hF : RRootF w5.heap.size w1 ((kindS 1 l).root (min 5)).1 (.int .i64 (kindS 1 l).num.1 :: .int .i64 (kindS 1 l).num.2.num.1 :: ks) := by rw [hroot]; exact ⟨ks, rfl, by omega, hal, hP⟩
    have h5 : ∀ k ∈ ((kindS 1 l).root (min 5)).1.roles, k.keys.length ≤ 5 := by rw [hroot]; have := rowsA_all (p := fun k : KeysP => k.keys.length ≤ 5) keys_le5 4 [] (kindS 1 l).num.2.num.2 (fun x hx => by cases hx); rw [hfin] at this; exact this
    have h32 := rroot_hash hF.r
    have hel := encRoot_len (by rw [hroot]; exact hal) (fun k hk => ⟨h5 k hk, h32 k hk⟩)
    have hs1 : ((kindS 1 l).root (min 5)).2 = s1 := by rw [hroot]
    have x1 : ExtB (fun k => k = b2) w1 w1 := ExtB.refl _ _
    refine run_exit rfl ?_
    refine run_seq ?_
    clear hfin
    refine run_region rfl ?_
    refine runl_ev (ev_loadA agg_27 (rroot_len hF.r) rfl (eqw (cells_all hb5))) ?_
    refine runl_op (t_call call_7 rfl (rencroot_any _ _ _ hF.r (fun k hk => by have := h5 k hk; omega) (by omega))) ?_
    rintro _ w28 ⟨p28, rfl, o28⟩
    have e28 := o28.ext
    obtain ⟨a28, c28, rfl, hc28, sl28⟩ := o28.sl
    have z28 := e28.size
    replace hb2 := e28.at hb2
    replace hb5 := e28.at hb5
    replace st1 := st1.up e28
    replace e := e.trans e28
    replace x1 := x1.trans e28.toB
    refine runl_ev (ev_move rfl) ?_
    refine runl_ev (ev_extract rfl rfl) ?_
    refine runl_ev (ev_extract rfl rfl) ?_
    refine runl_ev (ev_assign rfl) ?_
    refine runl_ev (ev_assign rfl) ?_
    refine runl_nil ?_
    refine run_seq ?_
    refine run_seq ?_
    refine run_region rfl ?_
    refine runl_ev (ev_move rfl) ?_
    refine runl_ev (ev_move rfl) ?_
    refine runl_ev (ev_move rfl) ?_
    refine runl_ev (ev_move rfl) ?_
    refine runl_op (t_call call_31 rfl (qjust_any st1 l (encP 1 isRootP encRoot ((kindS 1 l).root (min 5)).1) _ a a28 _ c _ c28 (hl0.ext RByte.stable e) (sl28))) ?_
    rintro _ w35 ⟨rfl, e35⟩
    have z35 := e35.size
    replace hb2 := e35.at hb2
    replace hb5 := e35.at hb5
    replace st1 := st1.up e35
    replace e := e.trans e35
    replace x1 := x1.trans e35.toB
    have hj := just_eq 1 isRootP encRoot ((kindS 1 l).root (min 5)).1 l s1.whole
    refine runl_ev (ev_not rfl) ?_
    refine runl_nil ?_
    refine run_cond_split rfl (fun h1 => ?_) (fun h1 => ?_)
    · have hd : decR 1 (RS.root (min 5)) isRootP (fun x => encN 1 ++ encRoot x) l = none := by unfold decR; rw [hs1, if_neg]; rw [← hj]; intro hh; rw [hh] at h1; cases h1
      rw [hd]
      refine run_seq ?_
      refine run_region rfl ?_
      refine runl_ev (ev_build (out := rootZ) ps_27 zero_27 rfl rfl (rfl)) ?_
      refine runl_do (t_storeW sz_27 rfl rfl rfl rfl hb2 ((by simp [rootZ]))) ?_
      rintro _ v10_1 ⟨hq10_1, e10_1, z10_1⟩
      replace hb5 := e10_1.at1 hb5 (by omega)
      replace e := e.new1 e10_1 (by omega)
      replace x1 := x1.newB1 e10_1 (by first | exact .inl (by omega) | exact .inr rfl | exact .inr (.inl rfl) | exact .inr (.inr (by omega)))
      replace hb2 := hq10_1
      clear hq10_1
      refine runl_ev (ev_assign rfl) ?_
      refine runl_nil ?_
      refine run_ret_any Try.func9 (resCT Try.results9 rfl (loadVar_agg agg_27 rfl (cells_all hb2)) rfl) ?_
      exact ⟨_, rfl, rootZ_any _ _, e⟩
    · have hd : decR 1 (RS.root (min 5)) isRootP (fun x => encN 1 ++ encRoot x) l = some ((kindS 1 l).root (min 5)).1 := by unfold decR; rw [hs1, if_pos]; rw [← hj]; exact of_not h1
      rw [hd]
      refine run_skip ?_
      refine run_seq ?_
      refine run_region rfl ?_
      refine runl_ev (ev_loadA agg_27 (rroot_len hF.r) rfl (eqw (cells_all hb5))) ?_
      refine runl_do (t_storeW sz_27 rfl rfl (rroot_len hF.r) rfl hb2 (rroot_one hF.r)) ?_
      rintro _ v11_1 ⟨hq11_1, e11_1, z11_1⟩
      replace hb5 := e11_1.at1 hb5 (by omega)
      replace e := e.new1 e11_1 (by omega)
      replace x1 := x1.newB1 e11_1 (by first | exact .inl (by omega) | exact .inr rfl | exact .inr (.inl rfl) | exact .inr (.inr (by omega)))
      replace hb2 := hq11_1
      clear hq11_1
      refine runl_ev (ev_assign rfl) ?_
      refine runl_nil ?_
      refine run_ret_any Try.func9 (resCT Try.results9 rfl (loadVar_agg agg_27 (rroot_len hF.r) (cells_all hb2)) rfl) ?_
      exact ⟨_, rfl, (hF.keep x1 (fun k hk => by omega)).up (by omega), e⟩
theorem qhashes_any (l : List (List UInt8)) (w : World) (a a2 : Option Addr) (n c n2 c2 : Nat) (hl : SlAt 32 RHash w (.slice a n c) l) (hl2 : SlAt 32 RHash w (.slice a2 n2 c2) l) (hn : l.length ≤ 1099511627776) :
    Ret Try.prog 65 [.slice a n c, .slice a2 n2 c2] w fun r w' => r = .bool true ∧ Ext w w' := by
  have e := ExtB.refl (fun _ => False) w
  obtain ⟨rfl, hat⟩ := hl.at
  obtain ⟨rfl, hat2⟩ := hl2.at
  refine ret_of_run Try.func65 rfl Try.ntmps65 rfl ?_
  refine run_seq ?_
  refine run_region rfl ?_
  refine runl_ev (ev_assign rfl) ?_
  refine runl_nil ?_
  refine run_seq ?_
  refine run_seq ?_
  refine run_region rfl ?_
  refine runl_ev (ev_move rfl) ?_
  refine runl_ev (ev_lenL sl_22 rfl) ?_
  refine runl_ev (ev_move rfl) ?_
  refine runl_ev (ev_lenL sl_22 rfl) ?_
  refine runl_ev (ev_neqI rfl rfl) ?_
  refine runl_nil ?_
  refine run_cond_false rfl (by simp) ?_
  refine run_skip ?_
  refine run_seq ?_
  refine run_seq ?_
  refine run_region rfl ?_
  refine runl_ev (ev_assign rfl) ?_
  refine runl_nil ?_
  refine run_block ?_
  refine run_loop (ι := Nat) (fun k => [(0, .slice a l.length c), (1, .slice a2 l.length c2), (5, .int .i64 (k : Int))]) (fun k w' => k ≤ l.length ∧ Ext w w') (fun k => l.length - k) (0) ⟨rfl, rfl, rfl, trivial⟩ (⟨Nat.zero_le _, e⟩) ?_
  clear e
  intro k w1 ⟨hk, e⟩ IH
  refine run_seq ?_
  refine run_seq ?_
  refine run_region rfl ?_
  refine runl_ev (ev_move rfl) ?_
  refine runl_ev (ev_move rfl) ?_
  refine runl_ev (ev_lenL sl_22 rfl) ?_
  refine runl_ev (ev_lss rfl rfl) ?_
  refine runl_nil ?_
  refine run_dcond rfl (fun h1 => ?_) (fun h1 => ?_)
  · have hk1 : k < l.length := by omega
    obtain ⟨b1, o1, cs1, rfl, ⟨hh1, rfl⟩, hc1⟩ := hat k hk1
    obtain ⟨b2, o2, cs2, rfl, ⟨_, rfl⟩, hc2⟩ := hat2 k hk1
    refine run_skip ?_
    refine run_seq ?_
    refine run_block ?_
    refine run_seq ?_
    refine run_draw mo (fun w' => Ext w1 w') [] [(true, 0), (true, 1), (true, 2), (true, 3), (true, 4), (true, 5), (true, 6), (true, 7), (true, 8)] (by kernel_rfl) ?_
    intro wr6 er6
    have zr6 := er6.size
    have hsr6 := er6
    refine rund_ev hsr6 rfl (ev_move rfl) ?_
    refine rund_ev hsr6 rfl (ev_move rfl) ?_
    refine rund_ev hsr6 rfl (ev_indexAddr el_22 rfl rfl (by omega)) ?_
    refine rund_ev hsr6 rfl (ev_loadA agg_81 (by rw [hcells_length]; exact hh1) rfl (fun wz hz => hc1.ext (e.trans hz))) ?_
    refine rund_ev hsr6 rfl (ev_move rfl) ?_
    refine rund_ev hsr6 rfl (ev_move rfl) ?_
    refine rund_ev hsr6 rfl (ev_indexAddr el_22 rfl rfl (by omega)) ?_
    refine rund_ev hsr6 rfl (ev_loadA agg_81 (by rw [hcells_length]; exact hh1) rfl (fun wz hz => hc2.ext (e.trans hz))) ?_
    refine rund_ev hsr6 rfl (ev_neqA rfl rfl eg_81 (eqv_hash Try.underlying81 Try.underlying5 sz_5 hh1 hh1)) ?_
    refine rund_nil ?_
    replace e := e.trans er6
    refine run_cond_false rfl (by simp) ?_
    refine run_skip ?_
    refine run_inBlock ?_
    refine run_region rfl ?_
    refine runl_ev (ev_move rfl) ?_
    refine runl_ev (ev_add rfl rfl (by omega) (by omega)) ?_
    refine runl_ev (ev_assign rfl) ?_
    refine runl_nil ?_
    exact IH (k + 1) _ _ (by omega) ⟨rfl, rfl, rfl, trivial⟩ ⟨by omega, e⟩
  · refine run_exit rfl ?_
    refine run_seq ?_
    refine run_region rfl ?_
    refine runl_ev (ev_assign rfl) ?_
    refine runl_nil ?_
    refine run_ret_any Try.func65 (res1 Try.results65 rfl) ?_
    exact ⟨rfl, e⟩
theorem qsamekeys_any (k : KeysP) (cs cs2 : List Value) (w : World) (hk : RKeys w k cs) (hk2 : RKeys w k cs2) (hn : k.keys.length ≤ 1099511627776) : Ret Try.prog 32 [.agg ⟨cs⟩, .agg ⟨cs2⟩] w fun r w' => r = .bool true ∧ Ext w w' := by
  have e := ExtB.refl (fun _ => False) w
  obtain ⟨a, c, rfl, hks, hkc⟩ := hk
  obtain ⟨a2, c2, rfl, hks2, hkc2⟩ := hk2
  refine ret_of_run Try.func32 rfl Try.ntmps32 rfl ?_
  refine run_seq ?_
  refine run_region rfl ?_
  refine runl_op (t_boxA rfl) ?_
  rintro _ w2 ⟨b2, rfl, hb2, e2, n2, l2⟩
  have z2 := e2.size
  replace e := e.trans e2
  refine runl_op (t_boxA rfl) ?_
  rintro _ w3 ⟨b3, rfl, hb3, e3, n3, l3⟩
  have z3 := e3.size
  replace e := e.trans e3
  replace hb2 := e3.at hb2
  refine runl_ev (ev_assign rfl) ?_
  refine runl_nil ?_
  refine run_seq ?_
  refine run_region rfl ?_
  refine runl_ev (ev_fieldAddr fld_24_1 rfl) ?_
  refine runl_ev (ev_load1 cell_3 rfl (eqw (cell_blk hb2 rfl))) ?_
  refine runl_ev (ev_fieldAddr fld_24_1 rfl) ?_
  refine runl_ev (ev_load1 cell_3 rfl (eqw (cell_blk hb3 rfl))) ?_
  refine runl_ev (ev_eqlI rfl rfl) ?_
  refine runl_ev (ev_move rfl) ?_
  refine runl_ev_g rfl rfl (by simp) (ev_fieldAddr fld_24_0 rfl) ?_
  refine runl_ev_g rfl rfl (by simp) (ev_load1 cell_22 rfl (eqw (cell_blk hb2 rfl))) ?_
  refine runl_ev_g rfl rfl (by simp) (ev_fieldAddr fld_24_0 rfl) ?_
  refine runl_ev_g rfl rfl (by simp) (ev_load1 cell_22 rfl (eqw (cell_blk hb3 rfl))) ?_
  refine runl_op_g rfl rfl (by simp) (t_call call_65 rfl (qhashes_any k.keys _ _ _ _ _ _ _ (hks.ext RHash.stable e) (hks2.ext RHash.stable e) hn)) ?_
  rintro _ w15 ⟨rfl, e15⟩
  have z15 := e15.size
  replace e := e.trans e15
  replace hb2 := e15.at hb2
  replace hb3 := e15.at hb3
  refine runl_ev (ev_pick rfl rfl rfl (if_pos (by simp))) ?_
  refine runl_ev (ev_assign rfl) ?_
  refine runl_nil ?_
  refine run_ret_any Try.func32 (res1 Try.results32 rfl) ?_
  exact ⟨rfl, e⟩
theorem qsameroot_any (r : RootP) (cs cs2 : List Value) (w : World) (hr : RRoot w r cs) (hr2 : RRoot w r cs2) (hn : ∀ k ∈ r.roles, k.keys.length ≤ 1099511627776) : Ret Try.prog 10 [.agg ⟨cs⟩, .agg ⟨cs2⟩] w fun v w' => v = .bool true ∧ Ext w w' := by
  have e := ExtB.refl (fun _ => False) w
  obtain ⟨ks, rfl, hkl, hrl, hks⟩ := hr
  obtain ⟨ks2, rfl, hkl2, _, hks2⟩ := hr2
  refine ret_of_run Try.func10 rfl Try.ntmps10 rfl ?_
  refine run_seq ?_
  refine run_region rfl ?_
  refine runl_op (t_boxA rfl) ?_
  rintro _ w2 ⟨b2, rfl, hb2, e2, n2, l2⟩
  have z2 := e2.size
  replace e := e.trans e2
  refine runl_op (t_boxA rfl) ?_
  rintro _ w3 ⟨b3, rfl, hb3, e3, n3, l3⟩
  have z3 := e3.size
  replace e := e.trans e3
  replace hb2 := e3.at hb2
  refine runl_ev (ev_assign rfl) ?_
  refine runl_nil ?_
  refine run_seq ?_
  refine run_seq ?_
  refine run_region rfl ?_
  refine runl_ev (ev_assign rfl) ?_
  refine runl_nil ?_
  refine run_block ?_
  refine run_loop (ι := Nat) (fun k => [(2, .pointer (some ⟨b2, 0, none⟩)), (3, .pointer (some ⟨b3, 0, none⟩)), (5, .int .i64 (k : Int))]) (fun k w' => k ≤ 4 ∧ w'.heap[b2]? = some (.cells ⟨.int .i64 r.ver :: .int .i64 r.exp :: ks⟩ 27 (0, 0)) ∧ w'.heap[b3]? = some (.cells ⟨.int .i64 r.ver :: .int .i64 r.exp :: ks2⟩ 27 (0, 0)) ∧ Ext w w') (fun k => 4 - k) (0) ⟨rfl, rfl, rfl, trivial⟩ (⟨Nat.zero_le _, hb2, hb3, e⟩) ?_
  clear e hb2 hb3
  intro k w1 ⟨hk, hb2, hb3, e⟩ IH
  refine run_seq ?_
  refine run_seq ?_
  refine run_region rfl ?_
  refine runl_ev (ev_move rfl) ?_
  refine runl_ev (ev_lss rfl rfl) ?_
  refine runl_nil ?_
  refine run_dcond rfl (fun h0 => ?_) (fun h0 => ?_)
  · have hk1 : k < r.roles.length := by omega
    obtain ⟨c2, hseg, hrk⟩ := RKeys.seg hks hk1
    obtain ⟨c3, hseg3, hrk3⟩ := RKeys.seg hks2 hk1
    have hsc2 : c2 = (((.int .i64 r.ver :: .int .i64 r.exp :: ks).drop (2 + k * 2)).take 2) := by rw [← List.drop_drop]; exact hseg.symm
    have hsc3 : c3 = (((.int .i64 r.ver :: .int .i64 r.exp :: ks2).drop (2 + k * 2)).take 2) := by rw [← List.drop_drop]; exact hseg3.symm
    refine run_skip ?_
    refine run_seq ?_
    refine run_block ?_
    refine run_seq ?_
    refine run_draw mo (fun w' => Ext w1 w') [] [(true, 0), (true, 1), (true, 2), (true, 3), (true, 4), (true, 5), (true, 6), (true, 7), (false, 8), (true, 9)] (by kernel_rfl) ?_
    intro wr4 er4
    have zr4 := er4.size
    have hsr4 := er4
    have ep := e.trans er4
    have hb2p := er4.at hb2
    have hb3p := er4.at hb3
    refine rund_ev hsr4 rfl (ev_move rfl) ?_
    refine rund_ev hsr4 rfl (ev_fieldAddr fld_27_2 rfl) ?_
    refine rund_ev hsr4 rfl (ev_indexAddrA arr_25 rfl rfl (by omega)) ?_
    refine rund_ev hsr4 rfl (ev_loadA agg_24 (rkeys_len _ _ _ hrk) rfl (fun wz hz => (cells_all (hz.at hb2)).seg c2 (2 + k * 2) (by omega) (by rw [rkeys_len _ _ _ hrk]; exact hsc2))) ?_
    refine rund_ev hsr4 rfl (ev_move rfl) ?_
    refine rund_ev hsr4 rfl (ev_fieldAddr fld_27_2 rfl) ?_
    refine rund_ev hsr4 rfl (ev_indexAddrA arr_25 rfl rfl (by omega)) ?_
    refine rund_ev hsr4 rfl (ev_loadA agg_24 (rkeys_len _ _ _ hrk3) rfl (fun wz hz => (cells_all (hz.at hb3)).seg c3 (2 + k * 2) (by omega) (by rw [rkeys_len _ _ _ hrk3]; exact hsc3))) ?_
    refine rund_op rfl (t_call call_32 rfl (qsamekeys_any r.roles[k] c2 c3 _ (RKeys.stable _ _ _ _ ep hrk) (RKeys.stable _ _ _ _ ep hrk3) (hn _ (List.getElem_mem hk1)))) ?_
    rintro _ w18 ⟨rfl, e18⟩
    have z18 := e18.size
    replace ep := ep.trans e18
    replace hb2p := e18.at hb2p
    replace hb3p := e18.at hb3p
    have hs18 := hsr4.trans e18
    refine ⟨hs18, ?_⟩
    refine rund_ev hs18 rfl (ev_not rfl) ?_
    refine rund_nil ?_
    replace e := ep
    clear ep
    replace hb2 := hb2p
    clear hb2p
    replace hb3 := hb3p
    clear hb3p
    refine run_cond_false rfl (rfl) ?_
    refine run_skip ?_
    refine run_inBlock ?_
    refine run_region rfl ?_
    refine runl_ev (ev_move rfl) ?_
    refine runl_ev (ev_add rfl rfl (by omega) (by omega)) ?_
    refine runl_ev (ev_assign rfl) ?_
    refine runl_nil ?_
    exact IH (k + 1) _ _ (by omega) ⟨rfl, rfl, rfl, trivial⟩ ⟨by omega, hb2, hb3, e⟩
  · refine run_exit rfl ?_
    refine run_seq ?_
    refine run_region rfl ?_
    refine runl_ev (ev_fieldAddr fld_27_0 rfl) ?_
    refine runl_ev (ev_load1 cell_3 rfl (eqw (cell_blk hb2 rfl))) ?_
    refine runl_ev (ev_fieldAddr fld_27_0 rfl) ?_
    refine runl_ev (ev_load1 cell_3 rfl (eqw (cell_blk hb3 rfl))) ?_
    refine runl_ev (ev_eqlI rfl rfl) ?_
    refine runl_ev (ev_move rfl) ?_
    refine runl_ev_g rfl rfl (by simp) (ev_fieldAddr fld_27_1 rfl) ?_
    refine runl_ev_g rfl rfl (by simp) (ev_load1 cell_3 rfl (eqw (cell_blk hb2 rfl))) ?_
    refine runl_ev_g rfl rfl (by simp) (ev_fieldAddr fld_27_1 rfl) ?_
    refine runl_ev_g rfl rfl (by simp) (ev_load1 cell_3 rfl (eqw (cell_blk hb3 rfl))) ?_
    refine runl_ev_g rfl rfl (by simp) (ev_eqlI rfl rfl) ?_
    refine runl_ev (ev_pick rfl rfl rfl (if_pos (by simp))) ?_
    refine runl_ev (ev_assign rfl) ?_
    refine runl_nil ?_
    refine run_ret_any Try.func10 (res1 Try.results10 rfl) ?_
    exact ⟨by simp, e⟩
theorem many_any (l : List KeysP) (w : World) (a : Option Addr) (n c : Nat) (hl : SlAt 2 RKeys w (.slice a n c) l) (hn : l.length ≤ 1000) (hb : ∀ k ∈ l, k.keys.length ≤ 1048576) : Ret Try.prog 5 [.slice a n c] w fun r w' => r = .bool (decide ((60 : Int) < ((l.map fun k => k.keys.length).sum : Nat))) ∧ Ext w w' := by
  have e := ExtB.refl (fun _ => False) w
  obtain ⟨rfl, hat⟩ := hl.at
  refine ret_of_run Try.func5 rfl Try.ntmps5 rfl ?_
  refine run_seq ?_
  refine run_region rfl ?_
  refine runl_ev (ev_assign rfl) ?_
  refine runl_nil ?_
  refine run_seq ?_
  refine run_region rfl ?_
  refine runl_ev (ev_assign rfl) ?_
  refine runl_nil ?_
  refine run_seq ?_
  refine run_seq ?_
  refine run_region rfl ?_
  refine runl_ev (ev_assign rfl) ?_
  refine runl_nil ?_
  refine run_block ?_
  refine run_loop (ι := Nat) (fun k => [(0, .slice a l.length c), (3, .int .i64 ((((l.take k).map fun k => k.keys.length).sum : Nat) : Int)), (4, .int .i64 (k : Int))]) (fun k w' => k ≤ l.length ∧ ((l.take k).map fun k => k.keys.length).sum ≤ k * 1048576 ∧ Ext w w') (fun k => l.length - k) (0) ⟨rfl, rfl, rfl, trivial⟩ (⟨Nat.zero_le _, Nat.le_refl _, e⟩) ?_
  clear e
  intro k w1 ⟨hk, hs, e⟩ IH
  refine run_seq ?_
  refine run_seq ?_
  refine run_region rfl ?_
  refine runl_ev (ev_move rfl) ?_
  refine runl_ev (ev_move rfl) ?_
  refine runl_ev (ev_lenL sl_54 rfl) ?_
  refine runl_ev (ev_lss rfl rfl) ?_
  refine runl_nil ?_
  refine run_dcond rfl (fun h0 => ?_) (fun h0 => ?_)
  · have hk1 : k < l.length := by omega
    obtain ⟨b1, o1, cs1, rfl, ⟨ak, ck, rfl, hks, hkc⟩, hc1⟩ := hat k hk1
    have hkb := hb _ (List.getElem_mem hk1)
    have htk : ((l.take (k + 1)).map fun k => k.keys.length).sum = ((l.take k).map fun k => k.keys.length).sum + l[k].keys.length := by rw [List.take_add_one, List.getElem?_eq_getElem hk1, List.map_append, List.sum_append]; simp
    refine run_skip ?_
    refine run_seq ?_
    refine run_block ?_
    refine run_region rfl ?_
    refine runl_ev (ev_move rfl) ?_
    refine runl_ev (ev_move rfl) ?_
    refine runl_ev (ev_move rfl) ?_
    refine runl_ev (ev_indexAddr el_54 rfl rfl (by omega)) ?_
    refine runl_ev (ev_fieldAddr fld_24_0 rfl) ?_
    refine runl_ev (ev_load1 cell_22 rfl (eqw ((hc1.ext e).pick 0 rfl rfl))) ?_
    refine runl_ev (ev_lenL sl_22 rfl) ?_
    refine runl_ev (ev_add rfl rfl (by omega) (by omega)) ?_
    refine runl_ev (ev_assign rfl) ?_
    refine runl_nil ?_
    refine run_inBlock ?_
    refine run_region rfl ?_
    refine runl_ev (ev_move rfl) ?_
    refine runl_ev (ev_add rfl rfl (by omega) (by omega)) ?_
    refine runl_ev (ev_assign rfl) ?_
    refine runl_nil ?_
    exact IH (k + 1) _ _ (by omega) ⟨rfl, by rw [htk]; exact rfl, rfl, trivial⟩ ⟨by omega, by rw [htk]; omega, e⟩
  · obtain rfl : k = l.length := by omega
    rw [List.take_length]
    refine run_exit rfl ?_
    refine run_seq ?_
    refine run_region rfl ?_
    refine runl_ev (ev_move rfl) ?_
    refine runl_ev (ev_gtr rfl rfl) ?_
    refine runl_ev (ev_assign rfl) ?_
    refine runl_nil ?_
    refine run_ret_any Try.func5 (res1 Try.results5 rfl) ?_
    exact ⟨rfl, e⟩
end Go.Proofs.Ytcmbiaibocdfeaa
