/- The walks of what encodes signatures, marks, envelopes (2). -/
import Derived.Test.YtcmbiaibocdfeaaWireE1
import Derived.Test.YtcmbiaibocdfeaaWire5
import Derived.Test.YtcmbiaibocdfeaaFwT
namespace Go.Proofs.Ytcmbiaibocdfeaa
open Go Go.Fw
set_option maxRecDepth 100000

theorem concat_any (ls : List (List (List UInt8))) (w : World) (a : Option Addr) (n c : Nat) (hl : SlAt 1 RHs w (.slice a n c) ls) (hn : ls.flatten.length ≤ 1000000) (hn2 : ls.length ≤ 1000) :
    Ret Try.prog 84 [.slice a n c] w (OwnL 81 32 RHash w ls.flatten) := by
  have e := ExtB.refl (fun _ => False) w
  obtain ⟨rfl, hat⟩ := hl.at
  have htl : ∀ k, (ls.take k).flatten.length ≤ ls.flatten.length := fun k => by
    have h1 := congrArg (fun l => l.flatten.length) (List.take_append_drop k ls)
    simp only [List.flatten_append, List.length_append] at h1
    omega
  refine ret_of_run Try.func84 rfl Try.ntmps84 rfl ?_
  refine run_seq ?_
  refine run_region rfl ?_
  refine runl_ev (ev_assign rfl) ?_
  refine runl_nil ?_
  refine run_seq ?_
  refine run_region rfl ?_
  refine runl_ev (ev_assign rfl) ?_
  refine runl_nil ?_
  refine run_seq ?_
  refine run_seq ?_
  refine run_region rfl ?_
  refine runl_ev (ev_move rfl) ?_
  refine runl_ev (ev_lenL sl_139 rfl) ?_
  refine runl_ev (ev_move rfl) ?_
  refine runl_nil ?_
  refine run_block ?_
  refine run_loop (ι := Nat) (fun k => [(0, .slice a ls.length c), (3, .int .i64 (((ls.take k).flatten.length : Nat) : Int)), (9, .slice a ls.length c), (10, .int .i64 (ls.length : Int)), (11, .int .i64 (k : Int))]) (fun k w' => k ≤ ls.length ∧ Ext w w') (fun k => ls.length - k) (0) ⟨rfl, rfl, rfl, rfl, rfl, trivial⟩ (⟨Nat.zero_le _, e⟩) ?_
  clear e
  intro k w1 ⟨hk, e⟩ IH
  have htk := htl k
  refine run_seq ?_
  refine run_region rfl ?_
  refine runl_ev (ev_lss rfl rfl) ?_
  refine runl_nil ?_
  refine run_seq ?_
  refine run_dcond rfl (fun h0 => ?_) (fun h0 => ?_)
  · have hk1 : k < ls.length := by omega
    obtain ⟨b1, o1, cs1, rfl, ⟨ah, ch, rfl, hsl⟩, hc1⟩ := hat k hk1
    have hff := congrArg List.length (flat_flat ls k hk1)
    rw [List.length_append] at hff
    have htk1 := htl (k + 1)
    refine run_skip ?_
    refine run_seq ?_
    refine run_block ?_
    refine run_seq ?_
    refine run_region rfl ?_
    refine runl_ev (ev_indexAddr el_139 rfl rfl (by omega)) ?_
    refine runl_ev (ev_load1 cell_22 rfl (eqw (hc1.ext e))) ?_
    refine runl_ev (ev_assign rfl) ?_
    refine runl_nil ?_
    refine run_seq ?_
    refine run_region rfl ?_
    refine runl_ev (ev_move rfl) ?_
    refine runl_ev (ev_move rfl) ?_
    refine runl_ev (ev_lenL sl_22 rfl) ?_
    refine runl_ev (ev_add rfl rfl (by omega) (by omega)) ?_
    refine runl_ev (ev_assign rfl) ?_
    refine runl_nil ?_
    refine run_seq ?_
    refine run_region rfl ?_
    refine runl_ev (ev_move rfl) ?_
    refine runl_ev (ev_lss rfl rfl) ?_
    refine runl_nil ?_
    refine run_cond_false rfl (decide_eq_false (by omega)) ?_
    refine run_skip ?_
    refine run_inBlock ?_
    refine run_region rfl ?_
    refine runl_ev (ev_add rfl rfl (by omega) (by omega)) ?_
    refine runl_ev (ev_move rfl) ?_
    refine runl_nil ?_
    exact IH (k + 1) _ _ (by omega) ⟨rfl, by rw [hff]; exact rfl, rfl, rfl, rfl, trivial⟩ ⟨by omega, e⟩
  · obtain rfl : k = ls.length := by omega
    rw [List.take_length]
    refine run_exit rfl ?_
    refine run_seq ?_
    refine run_region rfl ?_
    refine runl_ev (ev_move rfl) ?_
    refine runl_op (t_call call_88 rfl (grow_any ls.flatten.length _ hn)) ?_
    rintro v24 w24 ow24
    have e24 := ow24.ext
    have ow := ow24.from e
    have z24 := e24.size
    replace e := e.trans e24
    refine runl_ev (ev_assign rfl) ?_
    refine runl_nil ?_
    refine run_seq ?_
    refine run_seq ?_
    refine run_region rfl ?_
    refine runl_ev (ev_move rfl) ?_
    refine runl_ev (ev_lenL sl_139 rfl) ?_
    refine runl_ev (ev_move rfl) ?_
    refine runl_nil ?_
    refine run_block ?_
    refine run_loop (ι := Nat × Value) (fun x => [(0, .slice a ls.length c), (6, x.2), (25, .slice a ls.length c), (26, .int .i64 (ls.length : Int)), (27, .int .i64 (x.1 : Int))]) (fun x w1 => x.1 ≤ ls.length ∧ OwnL 81 32 RHash w (ls.take x.1).flatten x.2 w1) (fun x => ls.length - x.1) ((0, v24)) ⟨rfl, rfl, rfl, rfl, rfl, trivial⟩ (⟨Nat.zero_le _, ow⟩) ?_
    clear e ow24 ow
    intro ⟨k, v⟩ w1 ⟨hk, ow⟩ IH
    simp only at hk ow
    obtain ⟨xs, g, own, hpp, hxl, e, hg, hgl⟩ := ow.open
    have htk := htl k
    refine run_seq ?_
    refine run_region rfl ?_
    refine runl_ev (ev_lss rfl rfl) ?_
    refine runl_nil ?_
    refine run_seq ?_
    refine run_dcond rfl (fun h2 => ?_) (fun h2 => ?_)
    · have hk1 : k < ls.length := by omega
      obtain ⟨b1, o1, cs1, rfl, ⟨ah, ch, rfl, hsl⟩, hc1⟩ := hat k hk1
      have hff := flat_flat ls k hk1
      have hffl := congrArg List.length hff
      rw [List.length_append] at hffl
      have htk1 := htl (k + 1)
      refine run_skip ?_
      refine run_seq ?_
      refine run_block ?_
      refine run_seq ?_
      refine run_region rfl ?_
      refine runl_ev (ev_indexAddr el_139 rfl rfl (by omega)) ?_
      refine runl_ev (ev_load1 cell_22 rfl (eqw (hc1.ext e))) ?_
      refine runl_ev (ev_assign rfl) ?_
      refine runl_nil ?_
      refine run_region rfl ?_
      refine runl_ev (ev_move rfl) ?_
      refine runl_ev (ev_move rfl) ?_
      refine runl_op (t_appendL (l := ls[k]) (R := RHash) ef_22 rfl rfl own (hsl.ext RHash.stable e) rhash_len (fun x cs h => rhash_one x cs h) (by unfold maxLen; omega) (by omega)) ?_
      rintro v33 w33 ⟨n33, g33, hnl33, hnp33, ap33⟩
      have z33 := ap33.size
      have ow33 := OwnL.app flat_hash e hg (by omega) (hpp.mono fun _ _ _ hr => flat_hash _ _ _ _ hr) hxl hnp33 ap33 rfl rfl
      refine runl_ev (ev_assign rfl) ?_
      refine runl_nil ?_
      refine run_inBlock ?_
      refine run_region rfl ?_
      refine runl_ev (ev_add rfl rfl (by omega) (by omega)) ?_
      refine runl_ev (ev_move rfl) ?_
      refine runl_nil ?_
      refine IH (k + 1, v33) _ _ (by simp only; omega) ⟨rfl, rfl, rfl, rfl, rfl, trivial⟩ ⟨hk1, ?_⟩
      simp only
      rw [hff]
      exact ow33
    · obtain rfl : k = ls.length := by omega
      rw [List.take_length] at ow
      refine run_exit rfl ?_
      refine run_seq ?_
      refine run_region rfl ?_
      refine runl_ev (ev_move rfl) ?_
      refine runl_ev (ev_assign rfl) ?_
      refine runl_nil ?_
      refine run_ret_any Try.func84 (res1 Try.results84 rfl) ?_
      exact ow
theorem encsig_any (s : SigP) (cs : List Value) (w : World) (hs : RSig w s cs) : Ret Try.prog 72 [.agg ⟨cs⟩] w fun v w' => ∃ p, v = .tuple #[p, .int .i64 (encE isSigP s)] ∧ OwnL 5 1 RByte w (sigB s) p w' := by
  have e := ExtB.refl (fun _ => False) w
  have hs0 := hs
  have hsl := rsig_len _ _ _ hs
  obtain ⟨a, c, a2, c2, rfl, h1, h2⟩ := hs
  refine ret_of_run Try.func72 rfl Try.ntmps72 rfl ?_
  refine run_seq ?_
  refine run_region rfl ?_
  refine runl_op (t_boxA rfl) ?_
  rintro _ w1 ⟨b1, rfl, hb1, e1, n1, l1⟩
  have z1 := e1.size
  replace e := e.trans e1
  refine runl_ev (ev_assign rfl) ?_
  refine runl_ev (ev_assign rfl) ?_
  refine runl_nil ?_
  refine run_seq ?_
  refine run_seq ?_
  refine run_region rfl ?_
  refine runl_ev (ev_loadA agg_85 hsl rfl (eqw (cells_all hb1))) ?_
  refine runl_op (t_call call_70 rfl (kis_any s _ _ (RSig.stable _ _ _ _ e hs0))) ?_
  rintro _ w8 ⟨rfl, e8⟩
  have z8 := e8.size
  replace e := e.trans e8
  replace hb1 := e8.at hb1
  refine runl_ev (ev_not rfl) ?_
  refine runl_nil ?_
  refine run_cond_split rfl (fun h0 => ?_) (fun h0 => ?_)
  · have hm : isSigP s = false := by simpa using h0
    refine run_seq ?_
    refine run_region rfl ?_
    refine runl_ev (ev_assign rfl) ?_
    refine runl_ev (ev_assign rfl) ?_
    refine runl_nil ?_
    refine run_ret_any Try.func72 (res2 Try.results72 rfl rfl) ?_
    refine ⟨_, by rw [encE, hm]; rfl, ?_⟩
    rw [show sigB s = [] by unfold sigB; rw [hm]; rfl]
    exact OwnL.nil _ _ e
  · have hm : isSigP s = true := by simpa using h0
    have hm0 := hm
    unfold isSigP at hm0
    simp only [Bool.and_eq_true, decide_eq_true_eq] at hm0
    obtain ⟨m1, m2, m3, m4⟩ := hm0
    have hcpl : (s.chains ++ s.path).length = 40 := by rw [List.length_append]; omega
    have hln := encN_len s.leaf
    refine run_skip ?_
    refine run_seq ?_
    refine run_region rfl ?_
    refine runl_op (t_alloc zero_60 rfl) ?_
    rintro _ w4 ⟨b4, rfl, hb4, e4, n4, l4⟩
    have z4 := e4.size
    replace e := e.trans e4
    replace hb1 := e4.at hb1
    have st : WSt 60 5 w _ b4 (-1) (.slice none 0 0) [] := ⟨hb4, own_nil _ _ _ _, e, by omega, .inl rfl, by omega, by omega⟩
    have E4 := e
    clear e
    have e := ExtB.refl (fun _ => False) w4
    refine runl_nil ?_
    refine run_seq ?_
    refine run_region rfl ?_
    refine runl_ev (ev_fieldAddr fld_85_0 rfl) ?_
    refine runl_ev (ev_load1 cell_3 rfl (eqw (cell_blk hb1 rfl))) ?_
    refine runl_op (t_buildSlice (out := [.int .i64 s.leaf]) Try.underlying108 sz_3 zero_3 rfl rfl (by decide) (by decide) rfl (rfl)) ?_
    rintro _ w12 ⟨b12, rfl, hb12, e12, n12, l12⟩
    have z12 := e12.size
    replace e := e.trans e12
    replace hb1 := e12.at hb1
    replace hb4 := e12.at hb4
    refine runl_op (t_call call_21 rfl (wnums_any (st.up e) [s.leaf] _ _ _ (sl_lit (l := [s.leaf]) (R := RInt) hb12 (pc rfl pn)) (fun b o h => by cases h; exact ⟨by omega, by omega⟩) (by simp) (by rw [encNs_one]; simp; omega))) ?_
    rintro _ w13 ⟨rfl, v13, g13, p13⟩
    rw [encNs_one] at p13
    have st13 := p13.st
    rw [List.nil_append] at st13
    have hg13 := st13.hgl
    have z13 := p13.extB.size
    replace hb1 := p13.extB.at hb1 (fun h => by rcases h with h | h <;> omega)
    refine runl_nil ?_
    refine run_seq ?_
    refine run_seq ?_
    have e := ExtB.refl (fun _ => False) w13
    refine run_region rfl ?_
    refine runl_ev (ev_fieldAddr fld_85_1 rfl) ?_
    refine runl_ev (ev_load1 cell_22 rfl (eqw (cell_blk hb1 rfl))) ?_
    refine runl_ev (ev_fieldAddr fld_85_2 rfl) ?_
    refine runl_ev (ev_load1 cell_22 rfl (eqw (cell_blk hb1 rfl))) ?_
    refine runl_op (t_buildSlice (out := [.slice a s.chains.length c, .slice a2 s.path.length c2]) Try.underlying139 sz_22 zero_22 rfl rfl (by decide) (by decide) rfl (rfl)) ?_
    rintro _ w18 ⟨b18, rfl, hb18, e18, n18, l18⟩
    have z18 := e18.size
    replace hb1 := e18.at hb1
    have E5 := e18
    refine runl_op (t_call call_84 rfl (concat_any [s.chains, s.path] _ _ _ _ (sl_lit (l := [s.chains, s.path]) (R := RHs) hb18 (pc ⟨a, c, rfl, (h1.ext RHash.stable (st13.ext.trans E5))⟩ (pc ⟨a2, c2, rfl, (h2.ext RHash.stable (st13.ext.trans E5))⟩ pn))) (by simp; omega) (by simp))) ?_
    rintro v19 w19 ow19
    have e19 := ow19.ext
    rw [show ([s.chains, s.path] : List (List (List UInt8))).flatten = s.chains ++ s.path by simp] at ow19
    obtain ⟨a19, c19, rfl, hc19, sl19, hb19⟩ := ow19.g.sl
    have z19 := e19.size
    replace hb1 := e19.at hb1
    replace hb18 := e19.at hb18
    have st19 := st13.up (E5.trans e19)
    clear e
    have hg19 := st19.hgl
    have lwb19 := lt_of_at st19.hw
    have z13s := E5.size
    refine runl_ev (ev_lenL sl_22 rfl) ?_
    refine runl_ev (ev_move rfl) ?_
    refine runl_nil ?_
    refine run_block ?_
    refine run_loop (ι := Nat × Value × Int) (fun x => [(4, .pointer (some ⟨b4, 0, none⟩)), (19, .slice a19 (s.chains ++ s.path).length c19), (20, .int .i64 ((s.chains ++ s.path).length : Int)), (21, .int .i64 (x.1 : Int))]) (fun x w1 => x.1 ≤ (s.chains ++ s.path).length ∧ WPost 60 5 w w19 b4 g13 (encN s.leaf) (((s.chains ++ s.path).take x.1).flatMap id) x.2.1 x.2.2 w1) (fun x => (s.chains ++ s.path).length - x.1) ((0, v13, g13)) ⟨rfl, rfl, rfl, rfl, trivial⟩ (⟨Nat.zero_le _, by simpa using st19, ExtB.refl _ _, .inl rfl⟩) ?_
    intro ⟨k, v1, g1⟩ w1 ⟨hk, po⟩ IH
    simp only at hk po
    have e := ExtB.refl (fun _ => False) w1
    have lwb1 := lt_of_at po.st.hw
    have hgl1 := po.st.hgl
    have sl1 := sl19.keep rhash_any po.extB (fun b o ha hm => by have := hb19 b o ha; rcases hm with hm | hm <;> omega)
    refine run_seq ?_
    refine run_region rfl ?_
    refine runl_ev (ev_lss rfl rfl) ?_
    refine runl_nil ?_
    refine run_seq ?_
    refine run_dcond rfl (fun h1x => ?_) (fun h1x => ?_)
    · have hk1 : k < (s.chains ++ s.path).length := by omega
      obtain ⟨b1, o1, cs1, rfl, ⟨hh1, rfl⟩, hc1⟩ := sl1.at.2 k hk1
      have htk := flat_take (f := id) hk1
      have hfl := hashes_len (l := (s.chains ++ s.path).take k) (fun x hx => by obtain ⟨i, hi, rfl⟩ := List.mem_iff_getElem.1 hx; obtain ⟨_, _, _, _, hr, _⟩ := sl1.at.2 i (by rw [List.length_take] at hi; omega); rw [List.getElem_take]; exact hr.1)
      rw [List.length_take] at hfl
      refine run_skip ?_
      refine run_seq ?_
      refine run_block ?_
      refine run_seq ?_
      refine run_region rfl ?_
      refine runl_ev (ev_indexAddr el_22 rfl rfl (by omega)) ?_
      refine runl_ev (ev_loadA agg_81 (by rw [hcells_length]; exact hh1) rfl (eqw (hc1))) ?_
      refine runl_op (t_alloc zero_81 rfl) ?_
      rintro _ w6 ⟨b6, rfl, hb6, e6, n6, l6⟩
      have z6 := e6.size
      replace e := e.trans e6
      refine runl_do (t_storeW sz_81 rfl rfl (by rw [hcells_length]; exact hh1) rfl hb6 (hcells_one _)) ?_
      rintro _ v7_3 ⟨hq7_3, e7_3, z7_3⟩
      replace e := e.new1 e7_3 (by omega)
      replace hb6 := hq7_3
      clear hq7_3
      refine runl_nil ?_
      refine run_region rfl ?_
      refine runl_ev (ev_sliceA arr_81 rfl) ?_
      refine runl_op (t_call call_71 rfl (wraw_any (po.st.up e) (s.chains ++ s.path)[k] _ 32 32 (hh1 ▸ sl_cells (cells_all hb6) (parts_bytes _)) (by rw [List.length_append]; omega))) ?_
      rintro _ w26 ⟨rfl, v26, g26, p26⟩
      have q26 := po.trans hg19 (p26.from e)
      have z26 := q26.extB.size
      refine runl_nil ?_
      refine run_inBlock ?_
      refine run_region rfl ?_
      refine runl_ev (ev_add rfl rfl (by omega) (by omega)) ?_
      refine runl_ev (ev_move rfl) ?_
      refine runl_nil ?_
      refine IH (k + 1, v26, g26) _ _ (by simp only; omega) ⟨rfl, rfl, rfl, rfl, trivial⟩ ⟨hk1, ?_⟩
      simp only
      rw [htk]
      exact q26
    · obtain rfl : k = (s.chains ++ s.path).length := by omega
      rw [List.take_length] at po
      have hfl := hashes_len (l := s.chains ++ s.path) (sl_hashes sl19)
      refine run_exit rfl ?_
      refine run_seq ?_
      refine run_region rfl ?_
      refine runl_op (t_call call_49 rfl (wout_any po.st (by rw [List.length_append]; omega))) ?_
      rintro r28 w28 ⟨g28, o28, e28, hg28, hl28⟩
      have z28 := e28.size
      refine runl_ev (ev_assign rfl) ?_
      refine runl_ev (ev_assign rfl) ?_
      refine runl_nil ?_
      refine run_ret_any Try.func72 (res2 Try.results72 rfl rfl) ?_
      refine ⟨_, by rw [encE, hm]; rfl, ?_⟩
      rw [show sigB s = encN s.leaf ++ (s.chains ++ s.path).flatMap id by unfold sigB; rw [hm]; rfl]
      have zf := po.st.ext.size
      exact ownB_of o28 (po.st.ext.trans e28) (by omega) hl28
theorem wmark_any {l : List UInt8} {w0 w : World} {wb : Nat} {g : Int} {v : Value} {T : TypeId} (st : WSt T 5 w0 w wb g v l) (m : MarkP) (cs : List Value) (hm : RMark w0 m cs) (hb : l.length + (encMark m).length ≤ 1099511627776) :
    Ret Try.prog 38 [.pointer (some ⟨wb, 0, none⟩), .agg ⟨cs⟩] w (WP T 5 w0 w wb g l (encMark m)) := by
  have e := ExtB.refl (fun _ => False) w
  have lwb := lt_of_at st.hw
  have hgl := st.hgl
  have hml := rmark_len _ _ _ hm
  obtain ⟨sc, rfl, hk, hs⟩ := hm
  unfold encMark at hb ⊢
  rw [List.length_append, hk] at hb
  refine ret_of_run Try.func38 rfl Try.ntmps38 rfl ?_
  refine run_seq ?_
  refine run_region rfl ?_
  refine runl_op (t_boxA rfl) ?_
  rintro _ w3 ⟨b3, rfl, hb3, e3, n3, l3⟩
  have z3 := e3.size
  replace e := e.trans e3
  refine runl_nil ?_
  refine run_seq ?_
  refine run_region rfl ?_
  refine runl_ev (ev_move rfl) ?_
  refine runl_ev (ev_fieldAddr fld_87_0 rfl) ?_
  refine runl_ev (ev_loadA agg_81 (by rw [hcells_length]; exact hk) rfl (eqw ((cells_all hb3).seg (hcells m.key) 0 rfl (rmark_key hk)))) ?_
  refine runl_op (t_call call_54 rfl (whash_any (st.up e) m.key hk (by omega))) ?_
  rintro _ w9 ⟨rfl, v9, g9, p9⟩
  have q9 := p9.from e
  have hg9 := q9.st.hgl
  have lwb9 := lt_of_at q9.st.hw
  have z9 := q9.extB.size
  replace hb3 := p9.extB.at hb3 (fun h => by rcases h with h | h <;> omega)
  refine runl_nil ?_
  refine run_seq ?_
  have e := ExtB.refl (fun _ => False) w9
  refine run_region rfl ?_
  refine runl_ev (ev_fieldAddr fld_87_1 rfl) ?_
  refine runl_ev (ev_loadA agg_85 (rsig_len _ _ _ hs) rfl (eqw ((cells_all hb3).seg sc 32 rfl (rmark_seg hk)))) ?_
  refine runl_op (t_call call_72 rfl (encsig_any m.sig sc _ (RSig.stable _ _ _ _ q9.st.ext hs))) ?_
  rintro _ w13 ⟨p13, rfl, o13⟩
  have e13 := o13.ext
  obtain ⟨a13, c13, rfl, hc13, sl13, hb13⟩ := o13.g.sl
  have st13 := q9.st.up e13
  have E13 := e13
  have z13 := e13.size
  replace hb3 := e13.at hb3
  refine runl_ev (ev_move rfl) ?_
  refine runl_ev (ev_extract rfl rfl) ?_
  refine runl_ev (ev_extract rfl rfl) ?_
  refine runl_ev (ev_assign rfl) ?_
  refine runl_ev (ev_assign rfl) ?_
  refine runl_nil ?_
  have e := ExtB.refl (fun _ => False) w13
  refine run_region rfl ?_
  refine runl_ev (ev_move rfl) ?_
  refine runl_ev (ev_nilCheck rfl) ?_
  refine runl_ev (ev_fieldAddr fld_62_0 rfl) ?_
  refine runl_ev (ev_move rfl) ?_
  refine runl_op (t_buildSlice (out := [.slice a13 (sigB m.sig).length c13]) Try.underlying122 sz_28 zero_28 rfl rfl (by decide) (by decide) rfl (rfl)) ?_
  rintro _ w20 ⟨b20, rfl, hb20, e20, n20, l20⟩
  have z20 := e20.size
  refine runl_op (t_call call_36 rfl (wbytes_any (st13.up e20) (sigB m.sig) _ _ _ _ _ _ _ hb20 ⟨by omega, by have := st13.hgl; omega⟩ (fun w1 e1 => (sl13.ext RByte.stable e20).keep rbyte_any e1 (fun b o ha hm => by have := hb13 b o ha; rcases hm with hm | hm <;> omega)) (by rw [List.length_append, hk]; omega))) ?_
  rintro _ w21 ⟨rfl, v21, g21, p21⟩
  have q21 := q9.trans hgl (p21.from (E13.trans e20))
  have z21 := q21.extB.size
  refine runl_nil ?_
  refine run_end_any Try.func38 (res0 Try.results38) ?_
  exact ⟨rfl, v21, g21, q21⟩
end Go.Proofs.Ytcmbiaibocdfeaa
