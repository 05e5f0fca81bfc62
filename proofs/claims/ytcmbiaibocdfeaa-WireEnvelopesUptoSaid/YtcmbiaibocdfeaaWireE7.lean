/- The walks of what the reference decodes: signatures, envelopes. -/
import Derived.Test.YtcmbiaibocdfeaaWireE4
import Derived.Test.YtcmbiaibocdfeaaWire9
namespace Go.Proofs.Ytcmbiaibocdfeaa
open Go Go.Fw
set_option maxRecDepth 100000

theorem qbytes_any {s : RS} {w0 w : World} {rb : Nat} {v : Value} {T : TypeId} (st : RSt T w0 w rb v s) (hok : s.ok) : Ret Try.prog 45 [.pointer (some ⟨rb, 0, none⟩)] w fun r w' => OwnG 5 1 RByte w s.bytes.1 r w' ∧ RP T w0 w rb s.bytes.2 w' := by
  have e := ExtB.refl (fun _ => False) w
  have lrb := st.lt
  have zst := st.ext.size
  have hrb := st.hrb
  have hlen := st.len
  refine ret_of_run Try.func45 rfl Try.ntmps45 rfl ?_
  refine run_seq ?_
  refine run_region rfl ?_
  refine runl_ev (ev_assign rfl) ?_
  refine runl_nil ?_
  refine run_seq ?_
  refine run_region rfl ?_
  refine runl_ev (ev_move rfl) ?_
  refine runl_op (t_call call_29 rfl (qnum_any (st.up e) hok)) ?_
  rintro _ w5 ⟨rfl, rp5⟩
  have rq5 := RP.from e rp5
  obtain ⟨v5, st5⟩ := rq5.1
  have eb := rq5.2
  have hr5 := st5.hr
  have z5 := rp5.2.size
  refine runl_ev (ev_assign rfl) ?_
  refine runl_nil ?_
  refine run_seq ?_
  refine run_seq ?_
  refine run_region rfl ?_
  refine runl_ev (ev_move rfl) ?_
  refine runl_ev (ev_nilCheck rfl) ?_
  refine runl_ev (ev_fieldAddr fld_100_1 rfl) ?_
  refine runl_ev (ev_load1 cell_4 rfl (eqw (cell_blk hr5 rfl))) ?_
  refine runl_nil ?_
  refine run_cond_split rfl (fun h0 => ?_) (fun h0 => ?_)
  · rw [bytes_bad hok h0]
    refine run_seq ?_
    refine run_region rfl ?_
    refine runl_ev (ev_assign rfl) ?_
    refine runl_nil ?_
    refine run_ret_any Try.func45 (res1 Try.results45 rfl) ?_
    exact ⟨OwnG.nil _ _, RP.of st5 eb⟩
  · refine run_skip ?_
    refine run_seq ?_
    refine run_region rfl ?_
    refine runl_ev (ev_move rfl) ?_
    refine runl_ev (ev_move rfl) ?_
    refine runl_op (t_call call_63 rfl (qraw_any st5 (ok_num hok) s.num.1)) ?_
    rintro r12 w12 ⟨ow12, rp12⟩
    have z12 := rp12.2.size
    have eb2 := eb.trans rp12.2
    refine runl_ev (ev_assign rfl) ?_
    refine runl_nil ?_
    refine run_ret_any Try.func45 (res1 Try.results45 rfl) ?_
    exact ⟨ow12.from (by omega), ⟨rp12.1, eb2⟩⟩
theorem qdecode_any (l : List UInt8) (w : World) (a : Option Addr) (n c : Nat) (hl : SlAt 1 RByte w (.slice a n c) l) (hc : l.length ≤ c) (hn : l.length ≤ 1099511627776) :
    Ret Try.prog 47 [.slice a n c] w fun r w' => ∃ cs, r = .tuple #[.agg ⟨cs⟩, .int .i64 (optE (decSig l))] ∧ RSigG w.heap.size (-1) w' ((decSig l).getD .zero) cs ∧ Ext w w' := by
  have e := ExtB.refl (fun _ => False) w
  have hl0 := hl
  obtain ⟨rfl, -⟩ := hl.at
  obtain ⟨p36, h36⟩ : ∃ p, p = rowsA RS.hash 36 [] (RS.mk l false).num.2 := ⟨_, rfl⟩
  obtain ⟨p4, h4⟩ : ∃ p, p = rowsA RS.hash 4 [] p36.2 := ⟨_, rfl⟩
  have hsig : RS.sig ⟨l, false⟩ = (⟨(RS.mk l false).num.1, p36.1, p4.1⟩, p4.2) := by rw [sig_eq, ← h36, ← h4]
  refine ret_of_run Try.func47 rfl Try.ntmps47 rfl ?_
  refine run_seq ?_
  refine run_region rfl ?_
  refine runl_op (t_alloc zero_85 rfl) ?_
  rintro _ w2 ⟨b2, rfl, hb2, e2, n2, l2⟩
  have z2 := e2.size
  replace e := e.trans e2
  refine runl_ev (ev_assign rfl) ?_
  refine runl_nil ?_
  refine run_seq ?_
  refine run_region rfl ?_
  refine runl_ev (ev_move rfl) ?_
  refine runl_ev (ev_build (out := [.slice a l.length c, .bool false]) ps_100 zero_100 rfl rfl (rfl)) ?_
  refine runl_op (t_boxA rfl) ?_
  rintro _ w10 ⟨b10, rfl, hb10, e10, n10, l10⟩
  have z10 := e10.size
  replace e := e.trans e10
  replace hb2 := e10.at hb2
  have st : RSt 100 w w10 b10 _ ⟨l, false⟩ := ⟨hb10, hl0, ⟨a, c, rfl, hc⟩, e, by omega, hn⟩
  obtain ⟨rb, hrb⟩ : ∃ rb, rb = b10 := ⟨_, rfl⟩
  have lrb := l10
  have nrb := n10
  refine runl_ev (ev_assign rfl) ?_
  refine runl_nil ?_
  refine run_seq ?_
  refine run_region rfl ?_
  refine runl_ev (ev_move rfl) ?_
  refine runl_op (t_call call_29 rfl (qnum_any st (fun h => by cases h))) ?_
  rintro _ w12 ⟨rfl, rp12⟩
  obtain ⟨v12, st12⟩ := rp12.1
  have z12 := rp12.2.size
  replace e := e.new1 rp12.2 (by omega)
  replace hb2 := rp12.2.at1 hb2 (by omega)
  refine runl_ev (ev_build (out := .int .i64 (RS.mk l false).num.1 :: [.int .i64 0, .slice none 0 0, .slice none 0 0].tail) ps_85 zero_85 rfl rfl (rfl)) ?_
  refine runl_op (t_alloc zero_85 rfl) ?_
  rintro _ w5 ⟨b5, rfl, hb5, e5, n5, l5⟩
  have z5 := e5.size
  replace e := e.trans e5
  replace hb2 := e5.at hb2
  replace st12 := st12.up e5
  refine runl_do (t_storeW sz_85 rfl rfl rfl rfl hb5 ((by simp))) ?_
  rintro _ v2_4 ⟨hq2_4, e2_4, z2_4⟩
  replace e := e.new1 e2_4 (by omega)
  replace hb2 := e2_4.at1 hb2 (by omega)
  replace st12 := st12.own e2_4 (fun k hk h => by rcases hk with hk | hk <;> omega)
  replace hb5 := hq2_4
  clear hq2_4
  refine runl_nil ?_
  refine run_seq ?_
  refine run_seq ?_
  refine run_region rfl ?_
  refine runl_ev (ev_assign rfl) ?_
  refine runl_nil ?_
  refine run_block ?_
  refine run_loop (ι := Nat × List (List UInt8) × RS × Value × Value) (fun x => [(2, .pointer (some ⟨b2, 0, none⟩)), (4, .pointer (some ⟨b10, 0, none⟩)), (5, .pointer (some ⟨b5, 0, none⟩)), (6, .int .i64 (x.1 : Int))]) (fun x w1 => x.1 ≤ 36 ∧ x.2.1.length = x.1 ∧ rowsA RS.hash (36 - x.1) x.2.1 x.2.2.1 = p36 ∧ x.2.2.1.ok ∧ OwnG 81 32 RHash w5 x.2.1 x.2.2.2.1 w1 ∧ RSt 100 w w1 b10 x.2.2.2.2 x.2.2.1 ∧ Ext w w1 ∧ w1.heap[b5]? = some (.cells ⟨[.int .i64 (RS.mk l false).num.1, x.2.2.2.1, .slice none 0 0]⟩ 85 (0, 0)) ∧ w1.heap[b2]? = some (.cells ⟨[.int .i64 0, .slice none 0 0, .slice none 0 0]⟩ 85 (0, 0)) ∧ w5.heap.size ≤ w1.heap.size) (fun x => 36 - x.1) ((0, [], (RS.mk l false).num.2, .slice none 0 0, v12)) ⟨rfl, rfl, rfl, rfl, trivial⟩ (⟨Nat.zero_le _, rfl, h36.symm, ok_num (fun h => by cases h), OwnG.nil _ _, st12, e, hb5, hb2, by omega⟩) ?_
  clear hb2 hb5 st12 e
  intro ⟨k, acc, s1, vl, v1⟩ w1 ⟨hk, hal, hrw, hok1, ow, st1, e, hb5, hb2, hz5⟩ IH
  simp only at hk hal hrw hok1 ow st1 hb5 hz5
  have lb5 := lt_of_at hb5
  have ze := e.size
  obtain ⟨xs, g, own, hpp, hxl, hg, hgl⟩ := ow.open
  obtain ⟨al, cl, rfl⟩ := own.shape
  refine run_seq ?_
  refine run_seq ?_
  refine run_region rfl ?_
  refine runl_ev (ev_move rfl) ?_
  refine runl_ev (ev_lss rfl rfl) ?_
  refine runl_nil ?_
  refine run_dcond rfl (fun h0 => ?_) (fun h0 => ?_)
  · have hk1 : k < 36 := by omega
    have hrw1 : rowsA RS.hash (36 - (k + 1)) (acc ++ [s1.hash.1]) s1.hash.2 = p36 := by rw [← hrw, show 36 - k = (36 - (k + 1)) + 1 by omega]; rfl
    refine run_skip ?_
    refine run_seq ?_
    refine run_block ?_
    refine run_draw mo (fun w' => ExtB (fun k => k = b10 ∨ (k : Int) = g) w1 w') [7] [(true, 0), (true, 1), (true, 2), (false, 3), (false, 4), (false, 5), (true, 6), (false, 7)] (by kernel_rfl) ?_
    intro wr6 er6
    have zr6 := er6.size
    have hsr6 : (fun w' => ExtB (fun k => k = b10 ∨ (k : Int) = g) w1 w') wr6 := er6.toB
    have hb2p := er6.at hb2
    have hb5p := er6.at hb5
    have ownp := own.ext er6
    have st1p := st1.up er6
    have ep := e.trans er6
    refine rund_ev hsr6 rfl (ev_fieldAddr fld_85_1 rfl) ?_
    refine rund_ev hsr6 rfl (ev_load1 cell_22 rfl (fun wz hz => cell_blk (hz.at hb5 (fun h => by rcases h with h | h <;> omega)) rfl)) ?_
    refine rund_ev hsr6 rfl (ev_move rfl) ?_
    refine rund_op rfl (t_call call_46 rfl (qhash_any st1p hok1)) ?_
    rintro _ w21 ⟨rfl, rp21⟩
    obtain ⟨v21, st21⟩ := rp21.1
    have z21 := rp21.2.size
    replace hb2p := rp21.2.at1 hb2p (by omega)
    replace hb5p := rp21.2.at1 hb5p (by omega)
    replace ownp := ownp.ext1 rp21.2 (by omega)
    replace ep := ep.new1 rp21.2 (by omega)
    have hsp21_2 := hsr6.newB1 rp21.2 (by first | exact .inl (by omega) | exact .inr rfl | (right; simp; done) | (right; simp; omega))
    refine ⟨hsp21_2, ?_⟩
    have st21p := st21
    refine rund_op rfl (t_buildSlice (out := hcells s1.hash.1) Try.underlying22 sz_81 zero_81 rfl rfl (by decide) (by decide) rfl (fill_one rfl (by rw [hcells_length, hash_len]) rfl)) ?_
    rintro _ w22 ⟨b22, rfl, hb22, e22, n22, l22⟩
    have z22 := e22.size
    replace hb2p := e22.at hb2p
    replace hb5p := e22.at hb5p
    replace ownp := ownp.ext e22
    replace ep := ep.trans e22
    replace st21p := st21p.up e22
    have hs22 := hsp21_2.trans e22.toB
    refine ⟨hs22, ?_⟩
    have hb22p := hb22
    refine rund_op rfl (t_append (news := hcells s1.hash.1) ef_22 rfl rfl ownp (by rw [hcells_length, hash_len]) (cells_all hb22p) (hcells_one _) (by unfold maxLen; omega) (by omega)) ?_
    rintro v23 w23 ⟨g23, ap23⟩
    have ow23 := OwnG.app flat_hash (w := w5) (l' := [s1.hash.1]) (by omega) hg (by omega) (hpp.mono fun _ _ _ hr => flat_hash _ _ _ _ hr) hxl (pc (w := w22) ⟨hash_len _, by rw [List.take_of_length_le (by rw [hcells_length, hash_len]; exact Nat.le_refl _)]⟩ pn) ap23 rfl rfl
    have z23 := ap23.ext.size
    replace hb2p := ap23.ext.atG hb2p (by omega)
    replace hb5p := ap23.ext.atG hb5p (by omega)
    replace ep := ep.newG ap23.ext (by omega)
    replace st21p := st21p.own ap23.ext (fun k hk h => by rcases hk with hk | hk <;> omega)
    have hsp23_ext := hs22.newBG ap23.ext (fun k hk => by first | exact .inr hk | exact .inr (.inr hk) | exact .inl (by omega))
    refine ⟨hsp23_ext, ?_⟩
    obtain ⟨a23, c23, rfl, hc23, -, -⟩ := ow23.sl
    refine rund_ev hsp23_ext rfl (ev_fieldAddr fld_85_1 rfl) ?_
    refine rund_doT rfl rfl (t_store1 sz_22 rfl rfl rfl rfl hb5p (by simp)) ?_
    rintro _ v6_7 ⟨hq6_7, e6_7, z6_7⟩
    replace hb2p := e6_7.at1 hb2p (by omega)
    replace ep := ep.new1 e6_7 (by omega)
    replace st21p := st21p.own e6_7 (fun k hk h => by rcases hk with hk | hk <;> omega)
    replace hb5p := hq6_7
    clear hq6_7
    refine rund_nil ?_
    replace hb2 := hb2p
    clear hb2p
    replace hb5 := hb5p
    clear hb5p
    replace e := ep
    clear ep
    replace st21 := st21p
    clear st21p
    refine run_inBlock ?_
    refine run_region rfl ?_
    refine runl_ev (ev_move rfl) ?_
    refine runl_ev (ev_add rfl rfl (by omega) (by omega)) ?_
    refine runl_ev (ev_assign rfl) ?_
    refine runl_nil ?_
    exact IH (k + 1, acc ++ [s1.hash.1], s1.hash.2, _, v21) _ _ (by simp only; omega) ⟨rfl, rfl, rfl, rfl, trivial⟩ ⟨hk1, by show (acc ++ [_]).length = k + 1; simp [hal], hrw1, ok_hash hok1, ow23.keep flat_hash e6_7 (fun k hk => .inl (by omega)), st21, e, hb5, hb2, by omega⟩
  · obtain rfl : k = 36 := by omega
    have hfin : p36 = (acc, s1) := by rw [← hrw, Nat.sub_self]; rfl
    have hal36 := hal
    have x1 : ExtB (fun k => k = b10 ∨ k = b5) w1 w1 := ExtB.refl _ _
    rw [hfin] at h4
    simp only at h4
    refine run_exit rfl ?_
    refine run_seq ?_
    refine run_seq ?_
    refine run_region rfl ?_
    refine runl_ev (ev_assign rfl) ?_
    refine runl_nil ?_
    refine run_block ?_
    refine run_loop (ι := Nat × List (List UInt8) × RS × Value × Value) (fun x => [(2, .pointer (some ⟨b2, 0, none⟩)), (4, .pointer (some ⟨b10, 0, none⟩)), (5, .pointer (some ⟨b5, 0, none⟩)), (7, .int .i64 (x.1 : Int))]) (fun x w2 => x.1 ≤ 4 ∧ x.2.1.length = x.1 ∧ rowsA RS.hash (4 - x.1) x.2.1 x.2.2.1 = p4 ∧ x.2.2.1.ok ∧ OwnG 81 32 RHash w1 x.2.1 x.2.2.2.1 w2 ∧ RSt 100 w w2 b10 x.2.2.2.2 x.2.2.1 ∧ Ext w w2 ∧ w2.heap[b5]? = some (.cells ⟨[.int .i64 (RS.mk l false).num.1, .slice al acc.length cl, x.2.2.2.1]⟩ 85 (0, 0)) ∧ w2.heap[b2]? = some (.cells ⟨[.int .i64 0, .slice none 0 0, .slice none 0 0]⟩ 85 (0, 0)) ∧ ExtB (fun k => k = b10 ∨ k = b5) w1 w2) (fun x => 4 - x.1) ((0, [], s1, .slice none 0 0, v1)) ⟨rfl, rfl, rfl, rfl, trivial⟩ (⟨Nat.zero_le _, rfl, h4.symm, hok1, OwnG.nil _ _, st1, e, hb5, hb2, x1⟩) ?_
    clear hb2 hb5 st1 e x1 IH own hpp hxl hg hgl hrw hok1
    intro ⟨k, acc4, s4, vl, v1⟩ wA ⟨hk, hal, hrw, hok1, ow4, st1, e, hb5, hb2, x1⟩ IH
    simp only at hk hal hrw hok1 ow4 st1 hb5
    have lb5 := lt_of_at hb5
    have ze := e.size
    have zx := x1.size
    obtain ⟨xs, g, own, hpp, hxl, hg, hgl⟩ := ow4.open
    obtain ⟨al4, cl4, rfl⟩ := own.shape
    refine run_seq ?_
    refine run_seq ?_
    refine run_region rfl ?_
    refine runl_ev (ev_move rfl) ?_
    refine runl_ev (ev_lss rfl rfl) ?_
    refine runl_nil ?_
    refine run_dcond rfl (fun h1 => ?_) (fun h1 => ?_)
    · have hk1 : k < 4 := by omega
      have hrw1 : rowsA RS.hash (4 - (k + 1)) (acc4 ++ [s4.hash.1]) s4.hash.2 = p4 := by rw [← hrw, show 4 - k = (4 - (k + 1)) + 1 by omega]; rfl
      refine run_skip ?_
      refine run_seq ?_
      refine run_block ?_
      refine run_draw mo (fun w' => ExtB (fun k => k = b10 ∨ (k : Int) = g) wA w') [7] [(true, 0), (true, 1), (true, 2), (false, 3), (false, 4), (false, 5), (true, 6), (false, 7)] (by kernel_rfl) ?_
      intro wr10 er10
      have zr10 := er10.size
      have hsr10 : (fun w' => ExtB (fun k => k = b10 ∨ (k : Int) = g) wA w') wr10 := er10.toB
      have hb2p := er10.at hb2
      have hb5p := er10.at hb5
      have ownp := own.ext er10
      have st1p := st1.up er10
      have ep := e.trans er10
      have x1p := x1.trans er10.toB
      refine rund_ev hsr10 rfl (ev_fieldAddr fld_85_2 rfl) ?_
      refine rund_ev hsr10 rfl (ev_load1 cell_22 rfl (fun wz hz => cell_blk (hz.at hb5 (fun h => by rcases h with h | h <;> omega)) rfl)) ?_
      refine rund_ev hsr10 rfl (ev_move rfl) ?_
      refine rund_op rfl (t_call call_46 rfl (qhash_any st1p hok1)) ?_
      rintro _ w32 ⟨rfl, rp32⟩
      obtain ⟨v32, st32⟩ := rp32.1
      have z32 := rp32.2.size
      replace hb2p := rp32.2.at1 hb2p (by omega)
      replace hb5p := rp32.2.at1 hb5p (by omega)
      replace ownp := ownp.ext1 rp32.2 (by omega)
      replace ep := ep.new1 rp32.2 (by omega)
      have hsp32_2 := hsr10.newB1 rp32.2 (by first | exact .inl (by omega) | exact .inr rfl | (right; simp; done) | (right; simp; omega))
      refine ⟨hsp32_2, ?_⟩
      have st32p := st32
      replace x1p := x1p.newB1 rp32.2 (.inr (.inl rfl))
      refine rund_op rfl (t_buildSlice (out := hcells s4.hash.1) Try.underlying22 sz_81 zero_81 rfl rfl (by decide) (by decide) rfl (fill_one rfl (by rw [hcells_length, hash_len]) rfl)) ?_
      rintro _ w33 ⟨b33, rfl, hb33, e33, n33, l33⟩
      have z33 := e33.size
      replace hb2p := e33.at hb2p
      replace hb5p := e33.at hb5p
      replace ownp := ownp.ext e33
      replace ep := ep.trans e33
      replace x1p := x1p.trans e33.toB
      replace st32p := st32p.up e33
      have hs33 := hsp32_2.trans e33.toB
      refine ⟨hs33, ?_⟩
      have hb33p := hb33
      refine rund_op rfl (t_append (news := hcells s4.hash.1) ef_22 rfl rfl ownp (by rw [hcells_length, hash_len]) (cells_all hb33p) (hcells_one _) (by unfold maxLen; omega) (by omega)) ?_
      rintro v34 w34 ⟨g34, ap34⟩
      have ow34 := OwnG.app flat_hash (w := w1) (l' := [s4.hash.1]) (by omega) hg (by omega) (hpp.mono fun _ _ _ hr => flat_hash _ _ _ _ hr) hxl (pc (w := w33) ⟨hash_len _, by rw [List.take_of_length_le (by rw [hcells_length, hash_len]; exact Nat.le_refl _)]⟩ pn) ap34 rfl rfl
      have z34 := ap34.ext.size
      replace hb2p := ap34.ext.atG hb2p (by omega)
      replace hb5p := ap34.ext.atG hb5p (by omega)
      replace ep := ep.newG ap34.ext (by omega)
      replace x1p := x1p.newBG ap34.ext (fun k hk => by first | exact .inl (by omega) | exact .inr hk | exact .inr (.inr hk) | exact .inr (.inr (by omega)))
      replace st32p := st32p.own ap34.ext (fun k hk h => by rcases hk with hk | hk <;> omega)
      have hsp34_ext := hs33.newBG ap34.ext (fun k hk => by first | exact .inr hk | exact .inr (.inr hk) | exact .inl (by omega))
      refine ⟨hsp34_ext, ?_⟩
      obtain ⟨a34, c34, rfl, hc34, -, -⟩ := ow34.sl
      refine rund_ev hsp34_ext rfl (ev_fieldAddr fld_85_2 rfl) ?_
      refine rund_doT rfl rfl (t_store1 sz_22 rfl rfl rfl rfl hb5p (by simp)) ?_
      rintro _ v10_7 ⟨hq10_7, e10_7, z10_7⟩
      replace hb2p := e10_7.at1 hb2p (by omega)
      replace ep := ep.new1 e10_7 (by omega)
      replace x1p := x1p.newB1 e10_7 (by first | exact .inl (by omega) | exact .inr rfl | exact .inr (.inl rfl) | exact .inr (.inr (by omega)))
      replace st32p := st32p.own e10_7 (fun k hk h => by rcases hk with hk | hk <;> omega)
      replace hb5p := hq10_7
      clear hq10_7
      refine rund_nil ?_
      replace hb2 := hb2p
      clear hb2p
      replace hb5 := hb5p
      clear hb5p
      replace e := ep
      clear ep
      replace x1 := x1p
      clear x1p
      replace st32 := st32p
      clear st32p
      refine run_inBlock ?_
      refine run_region rfl ?_
      refine runl_ev (ev_move rfl) ?_
      refine runl_ev (ev_add rfl rfl (by omega) (by omega)) ?_
      refine runl_ev (ev_assign rfl) ?_
      refine runl_nil ?_
      exact IH (k + 1, acc4 ++ [s4.hash.1], s4.hash.2, _, v32) _ _ (by simp only; omega) ⟨rfl, rfl, rfl, rfl, trivial⟩ ⟨hk1, by show (acc4 ++ [_]).length = k + 1; simp [hal], hrw1, ok_hash hok1, ow34.keep flat_hash e10_7 (fun k hk => .inl (by omega)), st32, e, hb5, hb2, x1⟩
    · obtain rfl : k = 4 := by omega
      have hfin4 : p4 = (acc4, s4) := by rw [← hrw, Nat.sub_self]; rfl
      have owc := ow.keep flat_hash x1 (fun k hk => .inl (by omega))
      have kf : RSigG w2.heap.size (-1) wA ⟨(RS.mk l false).num.1, acc, acc4⟩ [.int .i64 (RS.mk l false).num.1, .slice al acc.length cl, .slice al4 acc4.length cl4] := ⟨_, _, rfl, (slN_of owc).up (by omega), (slN_of ow4).up (by omega)⟩
      have xx : ExtB (fun k => k = b2) wA wA := ExtB.refl _ _
      rw [hfin, hfin4] at hsig
      simp only at hsig
      clear own x1
      refine run_exit rfl ?_
      refine run_seq ?_
      refine run_seq ?_
      refine run_region rfl ?_
      refine runl_ev (ev_move rfl) ?_
      refine runl_op (t_call call_64 rfl (qwhole_any st1)) ?_
      rintro _ w37 ⟨rfl, e37⟩
      have z37 := e37.size
      replace hb2 := e37.at hb2
      replace hb5 := e37.at hb5
      replace st1 := st1.up e37
      replace e := e.trans e37
      replace xx := xx.trans e37.toB
      cases hw : s4.whole
      · refine runl_ev (ev_not rfl) ?_
        refine runl_ev (ev_move rfl) ?_
        refine runl_no_g rfl rfl (rfl) ?_
        refine runl_no_g rfl rfl (rfl) ?_
        refine runl_no_g rfl rfl (rfl) ?_
        refine runl_ev (ev_pick rfl rfl rfl (if_pos (rfl))) ?_
        refine runl_nil ?_
        refine run_cond_true rfl (rfl) ?_
        have hd : decSig l = none := by unfold decSig; rw [hsig]; simp only [hw]; rfl
        rw [hd]
        refine run_seq ?_
        refine run_region rfl ?_
        refine runl_ev (ev_build (out := [.int .i64 0, .slice none 0 0, .slice none 0 0]) ps_85 zero_85 rfl rfl (rfl)) ?_
        refine runl_do (t_storeW sz_85 rfl rfl rfl rfl hb2 ((by simp))) ?_
        rintro _ v12_1 ⟨hq12_1, e12_1, z12_1⟩
        replace hb5 := e12_1.at1 hb5 (by omega)
        replace e := e.new1 e12_1 (by omega)
        replace xx := xx.newB1 e12_1 (by first | exact .inl (by omega) | exact .inr rfl | exact .inr (.inl rfl) | exact .inr (.inr (by omega)))
        replace hb2 := hq12_1
        clear hq12_1
        refine runl_ev (ev_assign rfl) ?_
        refine runl_nil ?_
        refine run_ret_any Try.func47 (resCT Try.results47 rfl (loadVar_agg agg_85 rfl (cells_all hb2)) rfl) ?_
        exact ⟨_, rfl, rsig_zero _ _ _, e⟩
      · refine runl_ev (ev_not rfl) ?_
        refine runl_ev (ev_move rfl) ?_
        refine runl_ev_g rfl rfl (rfl) (ev_loadA agg_85 rfl rfl (eqw (cells_all hb5))) ?_
        refine runl_op_g rfl rfl (rfl) (t_call call_73 rfl (qis_any _ _ _ ((RSigG.nest _).keep kf xx (fun k hk => by omega)).r)) ?_
        rintro _ w41 ⟨rfl, e41⟩
        have z41 := e41.size
        replace hb2 := e41.at hb2
        replace hb5 := e41.at hb5
        replace e := e.trans e41
        replace xx := xx.trans e41.toB
        refine runl_ev_g rfl rfl (rfl) (ev_not rfl) ?_
        refine runl_ev (ev_pick rfl rfl rfl (if_neg (by simp))) ?_
        refine runl_nil ?_
        refine run_cond_split rfl (fun h2 => ?_) (fun h2 => ?_)
        · have hm : isSigP ⟨(RS.mk l false).num.1, acc, acc4⟩ = false := by simpa using h2
          have hd : decSig l = none := by unfold decSig; rw [hsig]; simp only [hw, hm]; rfl
          rw [hd]
          refine run_seq ?_
          refine run_region rfl ?_
          refine runl_ev (ev_build (out := [.int .i64 0, .slice none 0 0, .slice none 0 0]) ps_85 zero_85 rfl rfl (rfl)) ?_
          refine runl_do (t_storeW sz_85 rfl rfl rfl rfl hb2 ((by simp))) ?_
          rintro _ v12_1 ⟨hq12_1, e12_1, z12_1⟩
          replace hb5 := e12_1.at1 hb5 (by omega)
          replace e := e.new1 e12_1 (by omega)
          replace xx := xx.newB1 e12_1 (by first | exact .inl (by omega) | exact .inr rfl | exact .inr (.inl rfl) | exact .inr (.inr (by omega)))
          replace hb2 := hq12_1
          clear hq12_1
          refine runl_ev (ev_assign rfl) ?_
          refine runl_nil ?_
          refine run_ret_any Try.func47 (resCT Try.results47 rfl (loadVar_agg agg_85 rfl (cells_all hb2)) rfl) ?_
          exact ⟨_, rfl, rsig_zero _ _ _, e⟩
        · have hm : isSigP ⟨(RS.mk l false).num.1, acc, acc4⟩ = true := by simpa using h2
          have hd : decSig l = some ⟨(RS.mk l false).num.1, acc, acc4⟩ := by unfold decSig; rw [hsig]; simp only [hw, hm]; rfl
          rw [hd]
          refine run_skip ?_
          refine run_seq ?_
          refine run_region rfl ?_
          refine runl_ev (ev_loadA agg_85 rfl rfl (eqw (cells_all hb5))) ?_
          refine runl_do (t_storeW sz_85 rfl rfl rfl rfl hb2 ((by simp))) ?_
          rintro _ v13_1 ⟨hq13_1, e13_1, z13_1⟩
          replace hb5 := e13_1.at1 hb5 (by omega)
          replace e := e.new1 e13_1 (by omega)
          replace xx := xx.newB1 e13_1 (by first | exact .inl (by omega) | exact .inr rfl | exact .inr (.inl rfl) | exact .inr (.inr (by omega)))
          replace hb2 := hq13_1
          clear hq13_1
          refine runl_ev (ev_assign rfl) ?_
          refine runl_nil ?_
          refine run_ret_any Try.func47 (resCT Try.results47 rfl (loadVar_agg agg_85 rfl (cells_all hb2)) rfl) ?_
          exact ⟨_, rfl, ((RSigG.nest _).keep kf xx (fun k hk => by omega)).up (by omega), e⟩
end Go.Proofs.Ytcmbiaibocdfeaa
