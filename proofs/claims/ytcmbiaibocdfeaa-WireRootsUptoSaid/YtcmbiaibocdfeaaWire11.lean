/- The walk of the law on roots. -/
import Derived.Test.YtcmbiaibocdfeaaWire10
namespace Go.Proofs.Ytcmbiaibocdfeaa
open Go Go.Fw
set_option maxRecDepth 100000
theorem dec_root (l : List UInt8) : decP 1 (RS.root id) isRootP l = decR 1 (RS.root (min 5)) isRootP (fun x => encN 1 ++ encRoot x) l := dec_eq close_root reads_root (sticky_root _) l

theorem lawRoots_any (r : RootP) (cs : List Value) (w : World) (hr : RRoot w r cs) (hkb : ∀ k ∈ r.roles, k.keys.length ≤ 1048576) (l : List UInt8) (a : Option Addr) (n c : Nat) (hl : SlAt 1 RByte w (.slice a n c) l) (hc : l.length ≤ c) (hln : l.length ≤ 1048576) :
    Ret Try.prog 3 [.agg ⟨cs⟩, .slice a n c] w fun v w' => v = .bool true ∧ Ext w w' := by
  have e := ExtB.refl (fun _ => False) w
  have hl0 := hl
  obtain ⟨rfl, -⟩ := hl.at
  have hr0 := hr
  obtain ⟨k0, k1, k2, k3, a0, c0, a1, c1, a2, c2, a3, c3, hro, rfl, q0, q1, q2, q3⟩ := rroot_open hr
  have hs0 : (r.roles.map fun k => k.keys.length).sum = ([k0, k1, k2, k3].map fun k => k.keys.length).sum := by rw [hro]
  refine ret_of_run Try.func3 rfl Try.ntmps3 rfl ?_
  refine run_seq ?_
  refine run_region rfl ?_
  refine runl_op (t_boxA rfl) ?_
  rintro _ w2 ⟨b2, rfl, hb2, e2, n2, l2⟩
  have z2 := e2.size
  replace e := e.trans e2
  refine runl_ev (ev_assign rfl) ?_
  refine runl_nil ?_
  refine run_seq ?_
  refine run_seq ?_
  refine run_region rfl ?_
  refine runl_ev (ev_fieldAddr fld_27_2 rfl) ?_
  refine runl_ev (ev_indexAddrA (k := 0) arr_25 rfl rfl (by omega)) ?_
  refine runl_ev (ev_loadA agg_24 rfl rfl (eqw ((cells_all hb2).seg [.slice a0 k0.keys.length c0, .int .i64 k0.need] 2 rfl rfl))) ?_
  refine runl_ev (ev_fieldAddr fld_27_2 rfl) ?_
  refine runl_ev (ev_indexAddrA (k := 1) arr_25 rfl rfl (by omega)) ?_
  refine runl_ev (ev_loadA agg_24 rfl rfl (eqw ((cells_all hb2).seg [.slice a1 k1.keys.length c1, .int .i64 k1.need] 4 rfl rfl))) ?_
  refine runl_ev (ev_fieldAddr fld_27_2 rfl) ?_
  refine runl_ev (ev_indexAddrA (k := 2) arr_25 rfl rfl (by omega)) ?_
  refine runl_ev (ev_loadA agg_24 rfl rfl (eqw ((cells_all hb2).seg [.slice a2 k2.keys.length c2, .int .i64 k2.need] 6 rfl rfl))) ?_
  refine runl_ev (ev_fieldAddr fld_27_2 rfl) ?_
  refine runl_ev (ev_indexAddrA (k := 3) arr_25 rfl rfl (by omega)) ?_
  refine runl_ev (ev_loadA agg_24 rfl rfl (eqw ((cells_all hb2).seg [.slice a3 k3.keys.length c3, .int .i64 k3.need] 8 rfl rfl))) ?_
  refine runl_op (t_buildSlice (out := [.slice a0 k0.keys.length c0, .int .i64 k0.need, .slice a1 k1.keys.length c1, .int .i64 k1.need, .slice a2 k2.keys.length c2, .int .i64 k2.need, .slice a3 k3.keys.length c3, .int .i64 k3.need]) Try.underlying54 sz_24 zero_24 rfl rfl (by decide) (by decide) rfl (rfl)) ?_
  rintro _ w25 ⟨b25, rfl, hb25, e25, n25, l25⟩
  have z25 := e25.size
  replace e := e.trans e25
  replace hb2 := e25.at hb2
  refine runl_op (t_call call_5 rfl (many_any [k0, k1, k2, k3] _ _ _ _ (sl_lit (l := [k0, k1, k2, k3]) (R := RKeys) hb25 (pc (RKeys.stable _ _ _ _ e q0) (pc (RKeys.stable _ _ _ _ e q1) (pc (RKeys.stable _ _ _ _ e q2) (pc (RKeys.stable _ _ _ _ e q3) pn))))) (by simp) (by rw [← hro]; exact hkb))) ?_
  rintro _ w26 ⟨rfl, e26⟩
  have z26 := e26.size
  replace e := e.trans e26
  replace hb2 := e26.at hb2
  replace hb25 := e26.at hb25
  by_cases hm : (60 : Int) < ((([k0, k1, k2, k3].map fun k => k.keys.length).sum : Nat) : Int)
  · refine runl_ev (ev_move rfl) ?_
    refine runl_no_g rfl rfl (decide_eq_true hm) ?_
    refine runl_no_g rfl rfl (decide_eq_true hm) ?_
    refine runl_no_g rfl rfl (decide_eq_true hm) ?_
    refine runl_ev (ev_pick rfl rfl rfl (if_pos (decide_eq_true hm))) ?_
    refine runl_nil ?_
    refine run_cond_true rfl (rfl) ?_
    refine run_seq ?_
    refine run_region rfl ?_
    refine runl_ev (ev_assign rfl) ?_
    refine runl_nil ?_
    refine run_ret_any Try.func3 (res1 Try.results3 rfl) ?_
    exact ⟨rfl, e⟩
  · refine runl_ev (ev_move rfl) ?_
    refine runl_ev_g rfl rfl (decide_eq_false hm) (ev_move rfl) ?_
    refine runl_ev_g rfl rfl (decide_eq_false hm) (ev_lenL sl_28 rfl) ?_
    refine runl_ev_g rfl rfl (decide_eq_false hm) (ev_gtr rfl rfl) ?_
    refine runl_ev (ev_pick rfl rfl rfl (if_neg (by rw [decide_eq_false hm]; simp))) ?_
    refine runl_nil ?_
    refine run_dcond rfl (fun h0 => ?_) (fun h0 => ?_)
    · refine run_seq ?_
      refine run_region rfl ?_
      refine runl_ev (ev_assign rfl) ?_
      refine runl_nil ?_
      refine run_ret_any Try.func3 (res1 Try.results3 rfl) ?_
      exact ⟨rfl, e⟩
    · have hk60 : ∀ k ∈ r.roles, k.keys.length ≤ 60 := fun k hk => sum_le (l := r.roles.map fun k => k.keys.length) (by rw [hs0]; omega) (List.mem_map.2 ⟨k, hk, rfl⟩)
      have hel := encRoot_len (by rw [hro]; rfl) (fun k hk => ⟨hk60 k hk, rroot_hash hr0 k hk⟩)
      refine run_skip ?_
      refine run_seq ?_
      refine run_region rfl ?_
      refine runl_ev (ev_loadA agg_27 rfl rfl (eqw (cells_all hb2))) ?_
      refine runl_op (t_call call_6 rfl (encroot_any r _ _ (RRoot.stable _ _ _ _ e hr0) (fun k hk => by have := hk60 k hk; omega) (by omega))) ?_
      rintro _ w34 ⟨p34, rfl, o34⟩
      have e34 := o34.ext
      obtain ⟨a34, c34, rfl, hc34, sl34⟩ := o34.sl
      have x34 := ExtB.refl (fun _ => False) w34
      have z34 := e34.size
      replace e := e.trans e34
      replace hb2 := e34.at hb2
      refine runl_ev (ev_move rfl) ?_
      refine runl_ev (ev_extract rfl rfl) ?_
      refine runl_ev (ev_extract rfl rfl) ?_
      refine runl_ev (ev_assign rfl) ?_
      refine runl_ev (ev_assign rfl) ?_
      refine runl_nil ?_
      refine run_seq ?_
      refine run_region rfl ?_
      refine runl_ev (ev_loadA agg_27 rfl rfl (eqw (cells_all hb2))) ?_
      refine runl_op (t_call call_7 rfl (rencroot_any r _ _ (RRoot.stable _ _ _ _ e hr0) (fun k hk => by have := hk60 k hk; omega) (by omega))) ?_
      rintro _ w39 ⟨p39, rfl, o39⟩
      have e39 := o39.ext
      obtain ⟨a39, c39, rfl, hc39, sl39⟩ := o39.sl
      have x39 := ExtB.refl (fun _ => False) w39
      have z39 := e39.size
      replace e := e.trans e39
      replace hb2 := e39.at hb2
      replace x34 := x34.trans e39
      refine runl_ev (ev_move rfl) ?_
      refine runl_ev (ev_extract rfl rfl) ?_
      refine runl_ev (ev_extract rfl rfl) ?_
      refine runl_ev (ev_assign rfl) ?_
      refine runl_ev (ev_assign rfl) ?_
      refine runl_nil ?_
      refine run_seq ?_
      refine run_region rfl ?_
      refine runl_op (t_buildSlice0 Try.underlying28 sz_5) ?_
      rintro _ w43 ⟨b43, rfl, hb43, e43, n43, l43⟩
      have z43 := e43.size
      replace e := e.trans e43
      replace hb2 := e43.at hb2
      replace x34 := x34.trans e43
      replace x39 := x39.trans e43
      refine runl_ev (ev_move rfl) ?_
      refine runl_op (t_appendL (l := l) (R := RByte) ef_28 rfl rfl (own_lit (n := 0) hb43 (by unfold maxLen; omega) rfl) (hl0.ext RByte.stable e) rbyte_len (fun x cs h => rbyte_one x cs h) (by unfold maxLen; omega) (by omega)) ?_
      rintro v45 w45 ⟨n45, g45, hnl45, hnp45, ap45⟩
      have ow45 := OwnG.app flat_byte (l := []) (xs := []) (w := w) (by omega) (.inr (by omega)) (by omega) pn rfl hnp45 ap45 rfl rfl
      rw [List.nil_append] at ow45
      obtain ⟨a45, c45, rfl, hc45, sl45, -⟩ := ow45.sl
      have z45 := ap45.ext.size
      replace e := e.newG ap45.ext (by omega)
      replace hb2 := ap45.ext.atG hb2 (by omega)
      replace x34 := x34.newG ap45.ext (by omega)
      replace x39 := x39.newG ap45.ext (by omega)
      refine runl_op (t_call call_8 rfl (decroot_any l _ a45 _ c45 sl45 (by omega))) ?_
      rintro _ w46 ⟨c46, rfl, kf46, e46⟩
      rw [dec_root] at kf46
      have hc46 := rroot_len kf46.r
      have x46 := ExtB.refl (fun _ => False) w46
      have z46 := e46.size
      replace e := e.trans e46
      replace hb2 := e46.at hb2
      replace x34 := x34.trans e46
      replace x39 := x39.trans e46
      refine runl_ev (ev_move rfl) ?_
      refine runl_ev (ev_extract rfl rfl) ?_
      refine runl_ev (ev_extract rfl rfl) ?_
      refine runl_op (t_alloc zero_27 rfl) ?_
      rintro _ w9 ⟨b9, rfl, hb9, e9, n9, l9⟩
      have z9 := e9.size
      replace e := e.trans e9
      replace hb2 := e9.at hb2
      replace x34 := x34.trans e9
      replace x39 := x39.trans e9
      replace x46 := x46.trans e9
      refine runl_do (t_storeW sz_27 rfl rfl hc46 rfl hb9 (rroot_one kf46.r)) ?_
      rintro _ v5_8 ⟨hq5_8, e5_8, z5_8⟩
      replace e := e.new1 e5_8 (by omega)
      replace hb2 := e5_8.at1 hb2 (by omega)
      replace x34 := x34.new1 e5_8 (by omega)
      replace x39 := x39.new1 e5_8 (by omega)
      replace x46 := x46.new1 e5_8 (by omega)
      replace hb9 := hq5_8
      clear hq5_8
      refine runl_ev (ev_assign rfl) ?_
      refine runl_nil ?_
      refine run_seq ?_
      refine run_region rfl ?_
      refine runl_ev (ev_move rfl) ?_
      refine runl_op (t_call call_9 rfl (qdecroot_any l _ a _ c (hl0.ext RByte.stable e) hc (by omega))) ?_
      rintro _ w51 ⟨c51, rfl, kf51, e51⟩
      have hc51 := rroot_len kf51.r
      have x51 := ExtB.refl (fun _ => False) w51
      have z51 := e51.size
      replace e := e.trans e51
      replace hb2 := e51.at hb2
      replace x34 := x34.trans e51
      replace x39 := x39.trans e51
      replace x46 := x46.trans e51
      replace hb9 := e51.at hb9
      refine runl_ev (ev_move rfl) ?_
      refine runl_ev (ev_extract rfl rfl) ?_
      refine runl_ev (ev_extract rfl rfl) ?_
      refine runl_op (t_alloc zero_27 rfl) ?_
      rintro _ w11 ⟨b11, rfl, hb11, e11, n11, l11⟩
      have z11 := e11.size
      replace e := e.trans e11
      replace hb2 := e11.at hb2
      replace x34 := x34.trans e11
      replace x39 := x39.trans e11
      replace x46 := x46.trans e11
      replace hb9 := e11.at hb9
      replace x51 := x51.trans e11
      refine runl_do (t_storeW sz_27 rfl rfl hc51 rfl hb11 (rroot_one kf51.r)) ?_
      rintro _ v6_6 ⟨hq6_6, e6_6, z6_6⟩
      replace e := e.new1 e6_6 (by omega)
      replace hb2 := e6_6.at1 hb2 (by omega)
      replace x34 := x34.new1 e6_6 (by omega)
      replace x39 := x39.new1 e6_6 (by omega)
      replace x46 := x46.new1 e6_6 (by omega)
      replace hb9 := e6_6.at1 hb9 (by omega)
      replace x51 := x51.new1 e6_6 (by omega)
      replace hb11 := hq6_6
      clear hq6_6
      refine runl_ev (ev_assign rfl) ?_
      refine runl_nil ?_
      refine run_seq ?_
      have hkd : ∀ k ∈ ((decR 1 (RS.root (min 5)) isRootP (fun x => encN 1 ++ encRoot x) l).getD .zero).roles, k.keys.length ≤ 1099511627776 := by
        unfold decR
        split
        · intro k hk
          have := rowsA_all (p := fun k : KeysP => k.keys.length ≤ 5) keys_le5 4 [] (kindS 1 l).num.2.num.2 (fun x hx => by cases hx) k hk
          omega
        · intro k hk
          have hk := List.eq_of_mem_replicate hk
          subst hk
          exact Nat.zero_le _
      refine run_region rfl ?_
      refine runl_ev (ev_move rfl) ?_
      refine runl_ev (ev_convB (encP 1 isRootP encRoot r) Try.underlying28 Try.underlying5 Try.underlying9 rfl (eqw (sl34.ext RByte.stable x34))) ?_
      refine runl_ev (ev_move rfl) ?_
      refine runl_ev (ev_convB (encP 1 isRootP encRoot r) Try.underlying28 Try.underlying5 Try.underlying9 rfl (eqw (sl39.ext RByte.stable x39))) ?_
      refine runl_ev (ev_eqlS rfl rfl) ?_
      refine runl_ev (ev_move rfl) ?_
      refine runl_ev_g rfl rfl (by simp) (ev_move rfl) ?_
      refine runl_ev_g rfl rfl (by simp) (ev_move rfl) ?_
      refine runl_ev_g rfl rfl (by simp) (ev_eqlI rfl rfl) ?_
      refine runl_ev (ev_pick rfl rfl rfl (if_pos (by simp))) ?_
      refine runl_ev (ev_move rfl) ?_
      refine runl_ev_g rfl rfl (by simp) (ev_loadA agg_27 hc46 rfl (eqw (cells_all hb9))) ?_
      refine runl_ev_g rfl rfl (by simp) (ev_loadA agg_27 hc51 rfl (eqw (cells_all hb11))) ?_
      refine runl_op_g rfl rfl (by simp) (t_call call_10 rfl (qsameroot_any _ _ _ _ (RRoot.stable _ _ _ _ x46 kf46.r) (RRoot.stable _ _ _ _ x51 kf51.r) hkd)) ?_
      rintro _ w67 ⟨rfl, e67⟩
      have z67 := e67.size
      replace e := e.trans e67
      replace hb2 := e67.at hb2
      replace x34 := x34.trans e67
      replace x39 := x39.trans e67
      replace x46 := x46.trans e67
      replace hb9 := e67.at hb9
      replace x51 := x51.trans e67
      replace hb11 := e67.at hb11
      skip
      refine runl_ev (ev_pick rfl rfl rfl (if_pos (by simp))) ?_
      refine runl_ev (ev_move rfl) ?_
      refine runl_ev_g rfl rfl (rfl) (ev_move rfl) ?_
      refine runl_ev_g rfl rfl (rfl) (ev_move rfl) ?_
      refine runl_ev_g rfl rfl (rfl) (ev_eqlI rfl rfl) ?_
      refine runl_ev (ev_pick rfl rfl rfl (if_pos (rfl))) ?_
      refine runl_ev (ev_move rfl) ?_
      refine runl_op_g rfl rfl (by rw [dec_root]; simp) (t_call call_11 rfl (known_any _)) ?_
      rintro _ w75 ⟨rfl, e75⟩
      have z75 := e75.size
      replace e := e.trans e75
      replace hb2 := e75.at hb2
      replace x34 := x34.trans e75
      replace x39 := x39.trans e75
      replace x46 := x46.trans e75
      replace hb9 := e75.at hb9
      replace x51 := x51.trans e75
      replace hb11 := e75.at hb11
      refine runl_ev (ev_pick rfl rfl rfl (if_pos (by rw [dec_root]; simp))) ?_
      refine runl_ev (ev_assign rfl) ?_
      refine runl_nil ?_
      refine run_ret_any Try.func3 (res1 Try.results3 rfl) ?_
      exact ⟨rfl, e⟩
end Go.Proofs.Ytcmbiaibocdfeaa
