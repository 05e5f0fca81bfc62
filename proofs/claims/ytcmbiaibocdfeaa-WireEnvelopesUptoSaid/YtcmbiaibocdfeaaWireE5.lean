/- The walks of what decodes signatures, marks, envelopes. -/
import Derived.Test.YtcmbiaibocdfeaaWireE1
import Derived.Test.YtcmbiaibocdfeaaWire6
import Derived.Test.YtcmbiaibocdfeaaFwT
namespace Go.Proofs.Ytcmbiaibocdfeaa
open Go Go.Fw
set_option maxRecDepth 100000

theorem khashes_any {s : RS} {w0 w : World} {rb : Nat} {v : Value} {T : TypeId} (st : RSt T w0 w rb v s) (n : Nat) (hn : n ≤ 1000) : Ret Try.prog 89 [.pointer (some ⟨rb, 0, none⟩), .int .i64 (n : Int)] w fun r w' => OwnG 81 32 RHash w (rowsA RS.hash n [] s).1 r w' ∧ RP T w0 w rb (rowsA RS.hash n [] s).2 w' := by
  have e := ExtB.refl (fun _ => False) w
  have lrb := st.lt
  have zst := st.ext.size
  have hrb := st.hrb
  have hlen := st.len
  refine ret_of_run Try.func89 rfl Try.ntmps89 rfl ?_
  refine run_seq ?_
  refine run_region rfl ?_
  refine runl_ev (ev_assign rfl) ?_
  refine runl_nil ?_
  refine run_seq ?_
  refine run_region rfl ?_
  refine runl_ev (ev_assign rfl) ?_
  refine runl_nil ?_
  refine run_seq ?_
  refine run_seq ?_
  refine run_region rfl ?_
  refine runl_ev (ev_move rfl) ?_
  refine runl_ev (ev_move rfl) ?_
  refine runl_nil ?_
  refine run_block ?_
  refine run_loop (ι := Nat × List (List UInt8) × RS × Value × Value) (fun x => [(0, .pointer (some ⟨rb, 0, none⟩)), (5, x.2.2.2.1), (7, .int .i64 (n : Int)), (8, .int .i64 (x.1 : Int))]) (fun x w1 => x.1 ≤ n ∧ x.2.1.length = x.1 ∧ rowsA RS.hash (n - x.1) x.2.1 x.2.2.1 = rowsA RS.hash n [] s ∧ OwnG 81 32 RHash w x.2.1 x.2.2.2.1 w1 ∧ RSt T w0 w1 rb x.2.2.2.2 x.2.2.1 ∧ ExtB (fun k => k = rb) w w1) (fun x => n - x.1) ((0, [], s, .slice none 0 0, v)) ⟨rfl, rfl, rfl, rfl, trivial⟩ (⟨Nat.zero_le _, rfl, rfl, OwnG.nil _ _, st, Ext.toB e⟩) ?_
  clear e
  intro ⟨k, acc, s1, vl, v1⟩ w1 ⟨hk, hal, hrw, ow, st1, eb⟩ IH
  simp only at hk hal hrw ow st1
  have zeb := eb.size
  have lrb1 := st1.lt
  obtain ⟨xs, g, own, hpp, hxl, hg, hgl⟩ := ow.open
  have h32 : (s1.raw 32).1.length ≤ 32 := by rcases raw32 s1 with h | h <;> simp [h]
  have e := ExtB.refl (fun _ => False) w1
  refine run_seq ?_
  refine run_region rfl ?_
  refine runl_ev (ev_lss rfl rfl) ?_
  refine runl_nil ?_
  refine run_seq ?_
  refine run_dcond rfl (fun h0 => ?_) (fun h0 => ?_)
  · have hk1 : k < n := by omega
    have hrw1 : rowsA RS.hash (n - (k + 1)) (acc ++ [s1.hash.1]) s1.hash.2 = rowsA RS.hash n [] s := by rw [← hrw, show n - k = (n - (k + 1)) + 1 by omega]; rfl
    refine run_skip ?_
    refine run_seq ?_
    refine run_block ?_
    refine run_seq ?_
    refine run_region rfl ?_
    refine runl_op (t_alloc zero_81 rfl) ?_
    rintro _ w6 ⟨b6, rfl, hb6, e6, n6, l6⟩
    have z6 := e6.size
    replace own := own.ext e6
    replace st1 := st1.up e6
    replace eb := eb.trans e6.toB
    replace e := e.trans e6
    refine runl_nil ?_
    refine run_seq ?_
    refine run_draw mo (fun w' => ExtB (fun k => k = rb) w6 w') [3] [(true, 0), (true, 1), (false, 2), (false, 3)] (by kernel_rfl) ?_
    intro wr5 er5
    have zr5 := er5.size
    have hsr5 : (fun w' => ExtB (fun k => k = rb) w6 w') wr5 := er5.toB
    have ownp := own.ext er5
    have st1p := st1.up er5
    have ebp := eb.trans er5.toB
    have ep := e.trans er5
    have hb6p := er5.at hb6
    refine rund_ev hsr5 rfl (ev_sliceA arr_81 rfl) ?_
    refine rund_ev hsr5 rfl (ev_move rfl) ?_
    refine rund_op rfl (t_call call_85 rfl (rraw_any st1p 32)) ?_
    rintro r12 w12 ⟨⟨g12, own12, hg12, hgl12⟩, rp12⟩
    obtain ⟨v12, st12⟩ := rp12.1
    obtain ⟨a12, c12, rfl⟩ := own12.shape
    have sl12 := own_bytes own12
    have z12 := rp12.2.size
    replace ownp := ownp.ext1 rp12.2 (by omega)
    replace hb6p := rp12.2.at1 hb6p (by omega)
    have hsp12_2 := hsr5.newB1 rp12.2 (by first | exact .inl (by omega) | exact .inr rfl | (right; simp; done) | (right; simp; omega))
    refine ⟨hsp12_2, ?_⟩
    have st12p := st12
    replace ebp := ebp.trans rp12.2
    refine rund_opT rfl rfl (t_copyB Try.underlying28 sz_5 rfl rfl hb6p h32 sl12 (by simp; omega)) ?_
    rintro _ w13 ⟨rfl, hq13, e13, z13⟩
    have z13 := e13.size
    replace ownp := ownp.ext1 e13 (by omega)
    replace ebp := ebp.newB1 e13 (by first | exact .inl (by omega) | exact .inr rfl | exact .inr (.inl rfl) | exact .inr (.inr (by omega)))
    replace st12p := st12p.own e13 (fun k hk h => by rcases hk with hk | hk <;> omega)
    replace hb6p := hq13
    refine rund_nil ?_
    replace own := ownp
    clear ownp
    replace eb := ebp
    clear ebp
    replace hb6 := hb6p
    clear hb6p
    replace st12 := st12p
    clear st12p
    replace hb6 : _ = some (Obj.cells ⟨hcells s1.hash.1⟩ _ _) := (hash_of s1) ▸ hb6
    refine run_region rfl ?_
    refine runl_ev (ev_move rfl) ?_
    refine runl_ev (ev_loadA agg_81 (by rw [hcells_length, hash_len]) rfl (eqw (cells_all hb6))) ?_
    refine runl_op (t_buildSlice (out := hcells s1.hash.1) Try.underlying22 sz_81 zero_81 rfl rfl (by decide) (by decide) rfl (fill_one rfl (by rw [hcells_length, hash_len]) rfl)) ?_
    rintro _ w16 ⟨b16, rfl, hb16, e16, n16, l16⟩
    have z16 := e16.size
    replace own := own.ext e16
    replace eb := eb.trans e16.toB
    replace hb6 := e16.at hb6
    replace st12 := st12.up e16
    refine runl_op (t_append (news := hcells s1.hash.1) ef_22 rfl rfl own (by rw [hcells_length, hash_len]) (cells_all hb16) (hcells_one _) (by unfold maxLen; omega) (by omega)) ?_
    rintro v17 w17 ⟨g17, ap17⟩
    have ow17 := OwnG.app flat_hash (l' := [s1.hash.1]) (w := w) (by omega) hg (by omega) (hpp.mono fun _ _ _ hr => flat_hash _ _ _ _ hr) hxl (pc (w := w16) ⟨hash_len _, by rw [List.take_of_length_le (by rw [hcells_length, hash_len]; exact Nat.le_refl _)]⟩ pn) ap17 rfl rfl
    have z17 := ap17.ext.size
    replace eb := eb.newBG ap17.ext (fun k hk => by first | exact .inl (by omega) | exact .inr hk | exact .inr (.inr hk) | exact .inr (.inr (by omega)))
    replace st12 := st12.own ap17.ext (fun k hk h => by rcases hk with hk | hk <;> omega)
    refine runl_ev (ev_assign rfl) ?_
    refine runl_nil ?_
    refine run_inBlock ?_
    refine run_region rfl ?_
    refine runl_ev (ev_add rfl rfl (by omega) (by omega)) ?_
    refine runl_ev (ev_move rfl) ?_
    refine runl_nil ?_
    exact IH (k + 1, acc ++ [s1.hash.1], s1.hash.2, v17, v12) _ _ (by simp only; omega) ⟨rfl, rfl, rfl, rfl, trivial⟩ ⟨hk1, by show (acc ++ [_]).length = k + 1; simp [hal], hrw1, ow17, st12, eb⟩
  · obtain rfl : k = n := by omega
    have hfin : rowsA RS.hash k [] s = (acc, s1) := by rw [← hrw, Nat.sub_self]; rfl
    rw [hfin]
    refine run_exit rfl ?_
    refine run_seq ?_
    refine run_region rfl ?_
    refine runl_ev (ev_move rfl) ?_
    refine runl_ev (ev_assign rfl) ?_
    refine runl_nil ?_
    refine run_ret_any Try.func89 (res1 Try.results89 rfl) ?_
    exact ⟨ow, RP.of st1 eb⟩
theorem kdecode_any (l : List UInt8) (w : World) (a : Option Addr) (n c : Nat) (hl : SlAt 1 RByte w (.slice a n c) l) (hn : l.length ≤ 1099511627776) :
    Ret Try.prog 86 [.slice a n c] w fun r w' => ∃ cs, r = .tuple #[.agg ⟨cs⟩, .int .i64 (optE (decSig l))] ∧ RSigG w.heap.size (-1) w' ((decSig l).getD .zero) cs ∧ Ext w w' := by
  have e := ExtB.refl (fun _ => False) w
  refine ret_of_run Try.func86 rfl Try.ntmps86 rfl ?_
  refine run_seq ?_
  refine run_region rfl ?_
  refine runl_op (t_alloc zero_85 rfl) ?_
  rintro _ w2 ⟨b2, rfl, hb2, e2, n2, l2⟩
  have z2 := e2.size
  replace e := e.trans e2
  refine runl_ev (ev_assign rfl) ?_
  refine runl_nil ?_
  refine run_seq ?_
  refine run_region rfl ?_
  refine runl_ev (ev_move rfl) ?_
  refine runl_op (t_call call_58 rfl (newreader_any l _ a n c (hl.ext RByte.stable e) hn)) ?_
  rintro _ w7 ⟨rb, wq, vq, rfl, eq7, st⟩
  have e7 := Ext.tr eq7 st.ext
  have hrb := st.hrb
  have zq := eq7.size
  have lrb := st.lt
  have zq2 := st.ext.size
  have z7 := e7.size
  replace e := e.trans e7
  replace hb2 := e7.at hb2
  refine runl_ev (ev_assign rfl) ?_
  refine runl_nil ?_
  refine run_seq ?_
  refine run_region rfl ?_
  refine runl_ev (ev_move rfl) ?_
  refine runl_op (t_call call_59 rfl (rnum_any st)) ?_
  rintro _ w9 ⟨rfl, rp9⟩
  obtain ⟨v9, st9⟩ := rp9.1
  have z9 := rp9.2.size
  replace e := e.new1 rp9.2 (by omega)
  replace hb2 := rp9.2.at1 hb2 (by omega)
  refine runl_ev (ev_move rfl) ?_
  refine runl_op (t_call call_89 rfl (khashes_any st9 36 (by omega))) ?_
  rintro v11 w11 h11
  generalize hr36 : rowsA RS.hash 36 [] (RS.mk l false).num.2 = p36 at h11
  obtain ⟨ow11, rp11⟩ := h11
  obtain ⟨v11s, st11⟩ := rp11.1
  have z11 := rp11.2.size
  replace e := e.new1 rp11.2 (by omega)
  replace hb2 := rp11.2.at1 hb2 (by omega)
  refine runl_ev (ev_move rfl) ?_
  refine runl_op (t_call call_89 rfl (khashes_any st11 4 (by omega))) ?_
  rintro v13 w13 h13
  generalize hr4 : rowsA RS.hash 4 [] p36.2 = p4 at h13
  obtain ⟨ow13, rp13⟩ := h13
  have hsig : RS.sig ⟨l, false⟩ = (⟨(RS.mk l false).num.1, p36.1, p4.1⟩, p4.2) := by rw [sig_eq, hr36, hr4]
  obtain ⟨v13s, st13⟩ := rp13.1
  have ow11b := ow11.keep flat_hash rp13.2 (fun k hk => .inl (by omega))
  have kf : RSigG w2.heap.size (-1) w13 ⟨(RS.mk l false).num.1, p36.1, p4.1⟩ [.int .i64 (RS.mk l false).num.1, v11, v13] := ⟨v11, v13, rfl, (slN_of ow11b).up (by omega), (slN_of ow13).up (by omega)⟩
  have x13 : ExtB (fun k => k = b2) w13 w13 := ExtB.refl _ _
  obtain ⟨a11, c11, rfl, -⟩ := ow11.sl
  obtain ⟨a13, c13, rfl, -⟩ := ow13.sl
  have z13 := rp13.2.size
  replace e := e.new1 rp13.2 (by omega)
  replace hb2 := rp13.2.at1 hb2 (by omega)
  refine runl_ev (ev_build (out := [.int .i64 (RS.mk l false).num.1, .slice a11 p36.1.length c11, .slice a13 p4.1.length c13]) ps_85 zero_85 rfl rfl (rfl)) ?_
  refine runl_op (t_alloc zero_85 rfl) ?_
  rintro _ w5 ⟨b5, rfl, hb5, e5, n5, l5⟩
  have z5 := e5.size
  replace e := e.trans e5
  replace hb2 := e5.at hb2
  replace st13 := st13.up e5
  replace x13 := x13.trans e5.toB
  refine runl_do (t_storeW sz_85 rfl rfl rfl rfl hb5 ((by simp))) ?_
  rintro _ v2_8 ⟨hq2_8, e2_8, z2_8⟩
  replace e := e.new1 e2_8 (by omega)
  replace hb2 := e2_8.at1 hb2 (by omega)
  replace st13 := st13.own e2_8 (fun k hk h => by rcases hk with hk | hk <;> omega)
  replace x13 := x13.newB1 e2_8 (by first | exact .inl (by omega) | exact .inr rfl | exact .inr (.inl rfl) | exact .inr (.inr (by omega)))
  replace hb5 := hq2_8
  clear hq2_8
  refine runl_nil ?_
  refine run_seq ?_
  refine run_seq ?_
  refine run_region rfl ?_
  refine runl_ev (ev_move rfl) ?_
  refine runl_op (t_call call_60 rfl (rwhole_any st13)) ?_
  rintro _ w16 ⟨rfl, e16⟩
  have z16 := e16.size
  replace e := e.trans e16
  replace hb2 := e16.at hb2
  replace st13 := st13.up e16
  replace x13 := x13.trans e16.toB
  replace hb5 := e16.at hb5
  cases hw : p4.2.whole
  · refine runl_ev (ev_not rfl) ?_
    refine runl_ev (ev_move rfl) ?_
    refine runl_no_g rfl rfl (rfl) ?_
    refine runl_no_g rfl rfl (rfl) ?_
    refine runl_no_g rfl rfl (rfl) ?_
    refine runl_ev (ev_pick rfl rfl rfl (if_pos (rfl))) ?_
    refine runl_nil ?_
    refine run_cond_true rfl (rfl) ?_
    have hd : decSig l = none := by unfold decSig; rw [hsig]; simp only [hw]; rfl
    rw [hd]
    refine run_seq ?_
    refine run_region rfl ?_
    refine runl_ev (ev_build (out := [.int .i64 0, .slice none 0 0, .slice none 0 0]) ps_85 zero_85 rfl rfl (rfl)) ?_
    refine runl_do (t_storeW sz_85 rfl rfl rfl rfl hb2 ((by simp))) ?_
    rintro _ v4_1 ⟨hq4_1, e4_1, z4_1⟩
    replace e := e.new1 e4_1 (by omega)
    replace x13 := x13.newB1 e4_1 (by first | exact .inl (by omega) | exact .inr rfl | exact .inr (.inl rfl) | exact .inr (.inr (by omega)))
    replace hb5 := e4_1.at1 hb5 (by omega)
    replace hb2 := hq4_1
    clear hq4_1
    refine runl_ev (ev_assign rfl) ?_
    refine runl_nil ?_
    refine run_ret_any Try.func86 (resCT Try.results86 rfl (loadVar_agg agg_85 rfl (cells_all hb2)) rfl) ?_
    exact ⟨_, rfl, rsig_zero _ _ _, e⟩
  · refine runl_ev (ev_not rfl) ?_
    refine runl_ev (ev_move rfl) ?_
    refine runl_ev_g rfl rfl (rfl) (ev_loadA agg_85 rfl rfl (eqw (cells_all hb5))) ?_
    refine runl_op_g rfl rfl (rfl) (t_call call_70 rfl (kis_any _ _ _ ((RSigG.nest _).keep kf x13 (fun k hk => by omega)).r)) ?_
    rintro _ w20 ⟨rfl, e20⟩
    have z20 := e20.size
    replace e := e.trans e20
    replace hb2 := e20.at hb2
    replace x13 := x13.trans e20.toB
    replace hb5 := e20.at hb5
    refine runl_ev_g rfl rfl (rfl) (ev_not rfl) ?_
    refine runl_ev (ev_pick rfl rfl rfl (if_neg (by simp))) ?_
    refine runl_nil ?_
    refine run_cond_split rfl (fun h0 => ?_) (fun h0 => ?_)
    · have hm : isSigP ⟨(RS.mk l false).num.1, p36.1, p4.1⟩ = false := by simpa using h0
      have hd : decSig l = none := by unfold decSig; rw [hsig]; simp only [hw, hm]; rfl
      rw [hd]
      refine run_seq ?_
      refine run_region rfl ?_
      refine runl_ev (ev_build (out := [.int .i64 0, .slice none 0 0, .slice none 0 0]) ps_85 zero_85 rfl rfl (rfl)) ?_
      refine runl_do (t_storeW sz_85 rfl rfl rfl rfl hb2 ((by simp))) ?_
      rintro _ v4_1 ⟨hq4_1, e4_1, z4_1⟩
      replace e := e.new1 e4_1 (by omega)
      replace x13 := x13.newB1 e4_1 (by first | exact .inl (by omega) | exact .inr rfl | exact .inr (.inl rfl) | exact .inr (.inr (by omega)))
      replace hb5 := e4_1.at1 hb5 (by omega)
      replace hb2 := hq4_1
      clear hq4_1
      refine runl_ev (ev_assign rfl) ?_
      refine runl_nil ?_
      refine run_ret_any Try.func86 (resCT Try.results86 rfl (loadVar_agg agg_85 rfl (cells_all hb2)) rfl) ?_
      exact ⟨_, rfl, rsig_zero _ _ _, e⟩
    · have hm : isSigP ⟨(RS.mk l false).num.1, p36.1, p4.1⟩ = true := by simpa using h0
      have hd : decSig l = some ⟨(RS.mk l false).num.1, p36.1, p4.1⟩ := by unfold decSig; rw [hsig]; simp only [hw, hm]; rfl
      rw [hd]
      refine run_skip ?_
      refine run_seq ?_
      refine run_region rfl ?_
      refine runl_ev (ev_loadA agg_85 rfl rfl (eqw (cells_all hb5))) ?_
      refine runl_do (t_storeW sz_85 rfl rfl rfl rfl hb2 ((by simp))) ?_
      rintro _ v5_1 ⟨hq5_1, e5_1, z5_1⟩
      replace e := e.new1 e5_1 (by omega)
      replace x13 := x13.newB1 e5_1 (by first | exact .inl (by omega) | exact .inr rfl | exact .inr (.inl rfl) | exact .inr (.inr (by omega)))
      replace hb5 := e5_1.at1 hb5 (by omega)
      replace hb2 := hq5_1
      clear hq5_1
      refine runl_ev (ev_assign rfl) ?_
      refine runl_nil ?_
      refine run_ret_any Try.func86 (resCT Try.results86 rfl (loadVar_agg agg_85 rfl (cells_all hb2)) rfl) ?_
      exact ⟨_, rfl, ((RSigG.nest _).keep kf x13 (fun k hk => by omega)).up (by omega), e⟩
theorem rdmark_any {s : RS} {w0 w : World} {rb : Nat} {v : Value} {T : TypeId} (st : RSt T w0 w rb v s) : Ret Try.prog 76 [.agg ⟨[.pointer (some ⟨rb, 0, none⟩)]⟩] w fun r w' => ∃ cs, r = .agg ⟨cs⟩ ∧ RMarkG w.heap.size (-1) w' (RS.mark s).1 cs ∧ RP T w0 w rb (RS.mark s).2 w' := by
  have e := ExtB.refl (fun _ => False) w
  have lrb := st.lt
  have zst := st.ext.size
  have hrb := st.hrb
  have hlen := st.len
  have eb : ExtB (fun k => k = rb) w w := ExtB.refl _ _
  refine ret_of_run Try.func76 rfl Try.ntmps76 rfl ?_
  refine run_seq ?_
  refine run_region rfl ?_
  refine runl_op (t_boxA rfl) ?_
  rintro _ w1 ⟨b1, rfl, hb1, e1, n1, l1⟩
  have z1 := e1.size
  replace e := e.trans e1
  replace st := st.up e1
  replace eb := eb.trans e1.toB
  refine runl_op (t_alloc zero_87 rfl) ?_
  rintro _ w2 ⟨b2, rfl, hb2, e2, n2, l2⟩
  have z2 := e2.size
  replace e := e.trans e2
  replace st := st.up e2
  replace eb := eb.trans e2.toB
  replace hb1 := e2.at hb1
  refine runl_nil ?_
  refine run_seq ?_
  refine run_region rfl ?_
  refine runl_ev (ev_loadA agg_72 rfl rfl (eqw (cells_all hb1))) ?_
  refine runl_op (t_call call_82 rfl (rdhash_any st)) ?_
  rintro _ w7 ⟨rfl, rp7⟩
  obtain ⟨v7, st7⟩ := rp7.1
  have z7 := rp7.2.size
  replace eb := eb.newB1 rp7.2 (by first | exact .inl (by omega) | exact .inr rfl | exact .inr (.inl rfl) | exact .inr (.inr (by omega)))
  replace hb1 := rp7.2.at1 hb1 (by omega)
  replace hb2 := rp7.2.at1 hb2 (by omega)
  refine runl_ev (ev_build (out := hcells s.hash.1 ++ [.int .i64 0, .slice none 0 0, .slice none 0 0]) ps_87 zero_87 rfl rfl (fill_head (n := 32) rfl (by rw [hcells_length, hash_len]) (by decide))) ?_
  refine runl_op (t_alloc zero_87 rfl) ?_
  rintro _ w3 ⟨b3, rfl, hb3, e3, n3, l3⟩
  have z3 := e3.size
  replace eb := eb.trans e3.toB
  replace hb1 := e3.at hb1
  replace hb2 := e3.at hb2
  replace st7 := st7.up e3
  refine runl_do (t_storeW sz_87 rfl rfl (by rw [List.length_append, hcells_length, hash_len]; rfl) rfl hb3 (mark0_one _)) ?_
  rintro _ v1_4 ⟨hq1_4, e1_4, z1_4⟩
  replace eb := eb.newB1 e1_4 (by first | exact .inl (by omega) | exact .inr rfl | exact .inr (.inl rfl) | exact .inr (.inr (by omega)))
  replace hb1 := e1_4.at1 hb1 (by omega)
  replace hb2 := e1_4.at1 hb2 (by omega)
  replace st7 := st7.own e1_4 (fun k hk h => by rcases hk with hk | hk <;> omega)
  replace hb3 := hq1_4
  clear hq1_4
  refine runl_nil ?_
  refine run_seq ?_
  refine run_region rfl ?_
  refine runl_ev (ev_fieldAddr fld_72_0 rfl) ?_
  refine runl_ev (ev_load1 cell_70 rfl (eqw (cell_blk hb1 rfl))) ?_
  refine runl_op (t_call call_74 rfl (rbytes_any st7)) ?_
  rintro r12 w12 ⟨⟨g12, own12, hg12, hgl12⟩, rp12⟩
  obtain ⟨v12, st12⟩ := rp12.1
  obtain ⟨a12, c12, rfl⟩ := own12.shape
  have sl12 := own_bytes own12
  have hbl := bytes_used s.hash.2
  have hhl := hash_rest s
  have z12 := rp12.2.size
  replace eb := eb.newB1 rp12.2 (by first | exact .inl (by omega) | exact .inr rfl | exact .inr (.inl rfl) | exact .inr (.inr (by omega)))
  replace hb1 := rp12.2.at1 hb1 (by omega)
  replace hb2 := rp12.2.at1 hb2 (by omega)
  replace hb3 := rp12.2.at1 hb3 (by omega)
  refine runl_op (t_call call_86 rfl (kdecode_any s.hash.2.bytes.1 _ a12 _ c12 sl12 (by have := bytes_len s.hash.2; omega))) ?_
  rintro _ w13 h13
  generalize hds : decSig s.hash.2.bytes.1 = ds at h13
  obtain ⟨c13, rfl, kf13, e13⟩ := h13
  have hc13 := rsig_len _ _ _ kf13.r
  replace kf13 := kf13.up (by omega : w3.heap.size ≤ _)
  have x13 : ExtB (fun k => k = b3 ∨ k = b2 ∨ k = rb) w13 w13 := ExtB.refl _ _
  have z13 := e13.size
  replace eb := eb.trans e13.toB
  replace hb1 := e13.at hb1
  replace hb2 := e13.at hb2
  replace hb3 := e13.at hb3
  replace st12 := st12.up e13
  refine runl_ev (ev_move rfl) ?_
  refine runl_ev (ev_extract rfl rfl) ?_
  refine runl_ev (ev_extract rfl rfl) ?_
  refine runl_op (t_alloc zero_85 rfl) ?_
  rintro _ w4 ⟨b4, rfl, hb4, e4, n4, l4⟩
  have z4 := e4.size
  replace eb := eb.trans e4.toB
  replace hb1 := e4.at hb1
  replace hb2 := e4.at hb2
  replace hb3 := e4.at hb3
  replace st12 := st12.up e4
  replace x13 := x13.trans e4.toB
  refine runl_do (t_storeW sz_85 rfl rfl hc13 rfl hb4 (rsig_one _ _ kf13.r)) ?_
  rintro _ v2_8 ⟨hq2_8, e2_8, z2_8⟩
  replace eb := eb.newB1 e2_8 (by first | exact .inl (by omega) | exact .inr rfl | exact .inr (.inl rfl) | exact .inr (.inr (by omega)))
  replace hb1 := e2_8.at1 hb1 (by omega)
  replace hb2 := e2_8.at1 hb2 (by omega)
  replace hb3 := e2_8.at1 hb3 (by omega)
  replace st12 := st12.own e2_8 (fun k hk h => by rcases hk with hk | hk <;> omega)
  replace x13 := x13.newB1 e2_8 (by first | exact .inl (by omega) | exact .inr rfl | exact .inr (.inl rfl) | exact .inr (.inr (by omega)))
  replace hb4 := hq2_8
  clear hq2_8
  refine runl_ev (ev_assign rfl) ?_
  refine runl_nil ?_
  refine run_seq ?_
  refine run_seq ?_
  refine run_region rfl ?_
  refine runl_ev (ev_move rfl) ?_
  refine runl_ev (ev_neqI rfl rfl) ?_
  refine runl_nil ?_
  refine run_dcond rfl (fun h0 => ?_) (fun h0 => ?_)
  · have hmk := mark_bad (s := s) (by rw [hds]; exact h0)
    refine run_region rfl ?_
    refine runl_ev (ev_fieldAddr fld_72_0 rfl) ?_
    refine runl_ev (ev_load1 cell_70 rfl (eqw (cell_blk hb1 rfl))) ?_
    refine runl_op (t_call call_79 rfl (rbad_any st12)) ?_
    rintro _ w20 ⟨rfl, rp20⟩
    obtain ⟨v20, st20⟩ := rp20.1
    have z20 := rp20.2.size
    replace eb := eb.newB1 rp20.2 (by first | exact .inl (by omega) | exact .inr rfl | exact .inr (.inl rfl) | exact .inr (.inr (by omega)))
    replace hb1 := rp20.2.at1 hb1 (by omega)
    replace hb2 := rp20.2.at1 hb2 (by omega)
    replace hb3 := rp20.2.at1 hb3 (by omega)
    replace hb4 := rp20.2.at1 hb4 (by omega)
    replace x13 := x13.newB1 rp20.2 (.inr (.inr (.inr rfl)))
    refine runl_nil ?_
    refine run_seq ?_
    refine run_region rfl ?_
    refine runl_ev (ev_loadA agg_85 hc13 rfl (eqw (cells_all hb4))) ?_
    refine runl_ev (ev_fieldAddr fld_87_1 rfl) ?_
    refine runl_do (t_store sz_85 rfl rfl rfl hc13 hb3 (by rw [hc13, List.length_append, hcells_length, hash_len]; simp) (rsig_one _ _ kf13.r)) ?_
    rintro _ v5_2 ⟨hq5_2, e5_2, z5_2⟩
    replace eb := eb.newB1 e5_2 (by first | exact .inl (by omega) | exact .inr rfl | exact .inr (.inl rfl) | exact .inr (.inr (by omega)))
    replace hb1 := e5_2.at1 hb1 (by omega)
    replace hb2 := e5_2.at1 hb2 (by omega)
    replace x13 := x13.newB1 e5_2 (by first | exact .inl (by omega) | exact .inr rfl | exact .inr (.inl rfl) | exact .inr (.inr (by omega)))
    replace hb4 := e5_2.at1 hb4 (by omega)
    replace st20 := st20.own e5_2 (fun k hk h => by rcases hk with hk | hk <;> omega)
    replace hb3 := hq5_2
    clear hq5_2
    refine runl_nil ?_
    rw [mark_set (hash_len s) (by rw [hc13]; decide)] at hb3
    refine run_seq ?_
    refine run_region rfl ?_
    refine runl_ev (ev_loadA agg_87 (by rw [List.length_append, hcells_length, hash_len, hc13]) rfl (eqw (cells_all hb3))) ?_
    refine runl_do (t_storeW sz_87 rfl rfl (by rw [List.length_append, hcells_length, hash_len, hc13]) rfl hb2 ((fun v hv => by rcases List.mem_append.1 hv with h | h; exact hcells_one _ v h; exact rsig_one _ _ kf13.r v h))) ?_
    rintro _ v6_1 ⟨hq6_1, e6_1, z6_1⟩
    replace eb := eb.newB1 e6_1 (by first | exact .inl (by omega) | exact .inr rfl | exact .inr (.inl rfl) | exact .inr (.inr (by omega)))
    replace hb1 := e6_1.at1 hb1 (by omega)
    replace hb3 := e6_1.at1 hb3 (by omega)
    replace x13 := x13.newB1 e6_1 (by first | exact .inl (by omega) | exact .inr rfl | exact .inr (.inl rfl) | exact .inr (.inr (by omega)))
    replace hb4 := e6_1.at1 hb4 (by omega)
    replace st20 := st20.own e6_1 (fun k hk h => by rcases hk with hk | hk <;> omega)
    replace hb2 := hq6_1
    clear hq6_1
    refine runl_nil ?_
    refine run_ret_any Try.func76 (resC Try.results76 rfl (loadVar_agg agg_87 (by rw [List.length_append, hcells_length, hash_len, hc13]) (cells_all hb2))) ?_
    rw [mark_1, hmk, hds]
    refine ⟨_, rfl, ⟨_, rfl, hash_len s, ((RSigG.nest _).keep kf13 x13 (fun k hk => by omega)).up (by omega)⟩, ?_⟩
    first
      | exact RP.of st12 eb
      | exact RP.of st20 eb
  · have hmk := mark_good (s := s) (by rw [hds]; exact h0)
    refine run_skip ?_
    refine run_seq ?_
    refine run_region rfl ?_
    refine runl_ev (ev_loadA agg_85 hc13 rfl (eqw (cells_all hb4))) ?_
    refine runl_ev (ev_fieldAddr fld_87_1 rfl) ?_
    refine runl_do (t_store sz_85 rfl rfl rfl hc13 hb3 (by rw [hc13, List.length_append, hcells_length, hash_len]; simp) (rsig_one _ _ kf13.r)) ?_
    rintro _ v5_2x1 ⟨hq5_2x1, e5_2x1, z5_2x1⟩
    replace eb := eb.newB1 e5_2x1 (by first | exact .inl (by omega) | exact .inr rfl | exact .inr (.inl rfl) | exact .inr (.inr (by omega)))
    replace hb1 := e5_2x1.at1 hb1 (by omega)
    replace hb2 := e5_2x1.at1 hb2 (by omega)
    replace st12 := st12.own e5_2x1 (fun k hk h => by rcases hk with hk | hk <;> omega)
    replace x13 := x13.newB1 e5_2x1 (by first | exact .inl (by omega) | exact .inr rfl | exact .inr (.inl rfl) | exact .inr (.inr (by omega)))
    replace hb4 := e5_2x1.at1 hb4 (by omega)
    replace hb3 := hq5_2x1
    clear hq5_2x1
    refine runl_nil ?_
    rw [mark_set (hash_len s) (by rw [hc13]; decide)] at hb3
    refine run_seq ?_
    refine run_region rfl ?_
    refine runl_ev (ev_loadA agg_87 (by rw [List.length_append, hcells_length, hash_len, hc13]) rfl (eqw (cells_all hb3))) ?_
    refine runl_do (t_storeW sz_87 rfl rfl (by rw [List.length_append, hcells_length, hash_len, hc13]) rfl hb2 ((fun v hv => by rcases List.mem_append.1 hv with h | h; exact hcells_one _ v h; exact rsig_one _ _ kf13.r v h))) ?_
    rintro _ v6_1x1 ⟨hq6_1x1, e6_1x1, z6_1x1⟩
    replace eb := eb.newB1 e6_1x1 (by first | exact .inl (by omega) | exact .inr rfl | exact .inr (.inl rfl) | exact .inr (.inr (by omega)))
    replace hb1 := e6_1x1.at1 hb1 (by omega)
    replace hb3 := e6_1x1.at1 hb3 (by omega)
    replace st12 := st12.own e6_1x1 (fun k hk h => by rcases hk with hk | hk <;> omega)
    replace x13 := x13.newB1 e6_1x1 (by first | exact .inl (by omega) | exact .inr rfl | exact .inr (.inl rfl) | exact .inr (.inr (by omega)))
    replace hb4 := e6_1x1.at1 hb4 (by omega)
    replace hb2 := hq6_1x1
    clear hq6_1x1
    refine runl_nil ?_
    refine run_ret_any Try.func76 (resC Try.results76 rfl (loadVar_agg agg_87 (by rw [List.length_append, hcells_length, hash_len, hc13]) (cells_all hb2))) ?_
    rw [mark_1, hmk, hds]
    refine ⟨_, rfl, ⟨_, rfl, hash_len s, ((RSigG.nest _).keep kf13 x13 (fun k hk => by omega)).up (by omega)⟩, ?_⟩
    first
      | exact RP.of st12 eb
      | exact RP.of st20 eb
end Go.Proofs.Ytcmbiaibocdfeaa
