/- The walks of what encodes snapshots, and of the law on bounds. -/
import Derived.Test.YtcmbiaibocdfeaaDoorWireS
import Derived.Test.YtcmbiaibocdfeaaDoorWireN1
import Derived.Test.YtcmbiaibocdfeaaDoorWireE0
import Derived.Test.YtcmbiaibocdfeaaDoorFwT
namespace Go.Proofs.YtcmbiaibocdfeaaDoor
open Go Go.Fw
set_option maxRecDepth 100000

theorem wtext_any {l : List UInt8} {w0 w : World} {wb : Nat} {g : Int} {v : Value} {T : TypeId} (st : WSt T 5 w0 w wb g v l) (s : ByteArray) (hb : l.length + (encText s).length ≤ 1099511627776) : Ret Tryd.prog 41 [.pointer (some ⟨wb, 0, none⟩), .string s] w (WP T 5 w0 w wb g l (encText s)) := by
  have e := ExtB.refl (fun _ => False) w
  have lwb := lt_of_at st.hw
  have hgl := st.hgl
  refine ret_of_run Tryd.func41 rfl Tryd.ntmps41 rfl ?_
  refine run_region rfl ?_
  refine runl_ev (ev_move rfl) ?_
  refine runl_ev (ev_nilCheck rfl) ?_
  refine runl_ev (ev_fieldAddr fld_64_0 rfl) ?_
  refine runl_ev (ev_move rfl) ?_
  refine runl_op (t_convSB Tryd.underlying9 Tryd.underlying24 Tryd.underlying5 rfl) ?_
  rintro _ w8 ⟨b8, c8, rfl, hc8, sl8, e8, n8, l8⟩
  have z8 := e8.size
  replace e := e.trans e8
  have E8 := e8
  refine runl_op (t_buildSlice (out := [.slice (some ⟨b8, 0, none⟩) (tb s).length c8]) Tryd.underlying134 sz_24 zero_24 rfl rfl (by decide) (by decide) rfl (rfl)) ?_
  rintro _ w9 ⟨b9, rfl, hb9, e9, n9, l9⟩
  have z9 := e9.size
  replace e := e.trans e9
  refine runl_op (t_call call_73 rfl (wbytes_any (st.up e) (tb s) _ _ _ _ _ _ _ hb9 ⟨by omega, by omega⟩ (fun w1 e1 => (sl8.ext RByte.stable e9).keep rbyte_any e1 (fun b o ha hm => by cases ha; rcases hm with hm | hm <;> omega)) hb)) ?_
  rintro _ w10 ⟨rfl, v10, g10, p10⟩
  have q10 := p10.from e
  have z10 := q10.extB.size
  refine runl_nil ?_
  refine run_end_any Tryd.func41 (res0 Tryd.results41) ?_
  exact ⟨rfl, v10, g10, q10⟩
theorem wpin_any {l : List UInt8} {w0 w : World} {wb : Nat} {g : Int} {v : Value} {T : TypeId} (st : WSt T 5 w0 w wb g v l) (p : PinP) (cs : List Value) (hp : RPin w0 p cs) (hb : l.length + (encPin p).length ≤ 1099511627776) : Ret Tryd.prog 27 [.pointer (some ⟨wb, 0, none⟩), .agg ⟨cs⟩] w (WP T 5 w0 w wb g l (encPin p)) := by
  have e := ExtB.refl (fun _ => False) w
  have lwb := lt_of_at st.hw
  have hgl := st.hgl
  obtain rfl := hp
  unfold encPin at hb ⊢
  rw [List.length_append] at hb
  refine ret_of_run Tryd.func27 rfl Tryd.ntmps27 rfl ?_
  refine run_seq ?_
  refine run_region rfl ?_
  refine runl_op (t_boxA rfl) ?_
  rintro _ w3 ⟨b3, rfl, hb3, e3, n3, l3⟩
  have z3 := e3.size
  replace e := e.trans e3
  refine runl_nil ?_
  refine run_seq ?_
  refine run_region rfl ?_
  refine runl_ev (ev_move rfl) ?_
  refine runl_ev (ev_fieldAddr fld_38_0 rfl) ?_
  refine runl_ev (ev_load1 cell_9 rfl (eqw (cell_blk hb3 rfl))) ?_
  refine runl_op (t_call call_41 rfl (wtext_any (st.up e) p.name (by omega))) ?_
  rintro _ w7 ⟨rfl, v7, g7, p7⟩
  have q7 := p7.from e
  have z7 := q7.extB.size
  replace hb3 := p7.extB.at hb3 (fun h => by rcases h with h | h <;> omega)
  clear e
  have e := ExtB.refl (fun _ => False) w7
  have hgl7 := q7.st.hgl
  have lwb7 := lt_of_at q7.st.hw
  refine runl_nil ?_
  refine run_draw mo (fun w' => Ext w7 w') [6] [(true, 0), (true, 1), (true, 2), (true, 3), (true, 4), (false, 5), (false, 6)] (by kernel_rfl) ?_
  intro wr2 er2
  have zr2 := er2.size
  have hsr2 := er2
  have ep := e.trans er2
  have hb3p := er2.at hb3
  refine rund_ev hsr2 rfl (ev_move rfl) ?_
  refine rund_ev hsr2 rfl (ev_nilCheck rfl) ?_
  refine rund_ev hsr2 rfl (ev_fieldAddr fld_64_0 rfl) ?_
  refine rund_ev hsr2 rfl (ev_fieldAddr fld_38_1 rfl) ?_
  refine rund_ev hsr2 rfl (ev_load1 cell_3 rfl (fun wz hz => cell_blk (hz.at hb3) rfl)) ?_
  refine rund_op rfl (t_buildSlice (out := [.int .i64 p.ver]) Tryd.underlying111 sz_3 zero_3 rfl rfl (by decide) (by decide) rfl (rfl)) ?_
  rintro _ w13 ⟨b13, rfl, hb13, e13, n13, l13⟩
  have z13 := e13.size
  replace ep := ep.trans e13
  replace hb3p := e13.at hb3p
  have hs13 := hsr2.trans e13
  refine ⟨hs13, ?_⟩
  have hb13p := hb13
  refine rund_opT rfl rfl (t_call call_22 rfl (wnums_any (q7.st.up ep) [p.ver] _ _ _ (sl_lit (l := [p.ver]) (R := RInt) hb13p (pc rfl pn)) (fun b o h => by cases h; exact ⟨by omega, by omega⟩) (by simp) (by rw [encNs_one]; simp only [List.length_append]; omega))) ?_
  rintro _ w14 ⟨rfl, v14, g14, p14⟩
  rw [encNs_one] at p14
  have q14 := q7.trans st.hgl (p14.from ep)
  have z14 := q14.extB.size
  refine rund_nil ?_
  refine run_end_any Tryd.func27 (res0 Tryd.results27) ?_
  exact ⟨rfl, v14, g14, q14⟩
theorem wrowsP_any {l : List UInt8} {w0 w : World} {wb : Nat} {g : Int} {v : Value} {T : TypeId} (st : WSt T 5 w0 w wb g v l) (xs : List PinP) (a : Option Addr) (n c : Nat) (hs : SlAt 2 RPin w0 (.slice a n c) xs) (hxl : xs.length ≤ 1099511627776) (hb : l.length + (encN xs.length ++ xs.flatMap encPin).length ≤ 1099511627776) :
    Ret Tryd.prog 26 [.pointer (some ⟨wb, 0, none⟩), .func (.func 27) #[] #[], .slice a n c] w (WP T 5 w0 w wb g l (encN xs.length ++ xs.flatMap encPin)) := by
  have e := ExtB.refl (fun _ => False) w
  have lwb := lt_of_at st.hw
  have hgl := st.hgl
  have hs0 := hs
  obtain ⟨rfl, hat⟩ := hs.at
  rw [List.length_append] at hb
  refine ret_of_run Tryd.func26 rfl Tryd.ntmps26 rfl ?_
  refine run_seq ?_
  refine run_region rfl ?_
  refine runl_ev (ev_move rfl) ?_
  refine runl_ev (ev_nilCheck rfl) ?_
  refine runl_ev (ev_fieldAddr fld_64_0 rfl) ?_
  refine runl_ev (ev_move rfl) ?_
  refine runl_ev (ev_lenL sl_33 rfl) ?_
  refine runl_op (t_buildSlice (out := [.int .i64 (xs.length : Int)]) Tryd.underlying111 sz_3 zero_3 rfl rfl (by decide) (by decide) rfl (rfl)) ?_
  rintro _ w13 ⟨b13, rfl, hb13, e13, n13, l13⟩
  have z13 := e13.size
  replace e := e.trans e13
  refine runl_op (t_call call_22 rfl (wnums_any (st.up e) [(xs.length : Int)] _ _ _ (sl_lit (l := [(xs.length : Int)]) (R := RInt) hb13 (pc rfl pn)) (fun b o h => by cases h; exact ⟨by omega, by omega⟩) (by simp) (by rw [encNs_one]; omega))) ?_
  rintro _ w14 ⟨rfl, v14, g14, p14⟩
  have q14 := p14.from e
  rw [encNs_one] at q14
  have z14 := q14.extB.size
  refine runl_nil ?_
  refine run_seq ?_
  refine run_region rfl ?_
  refine runl_ev (ev_move rfl) ?_
  refine runl_ev (ev_lenL sl_33 rfl) ?_
  refine runl_ev (ev_move rfl) ?_
  refine runl_nil ?_
  refine run_block ?_
  refine run_loop (ι := Nat × Value × Int) (fun x => [(0, .pointer (some ⟨wb, 0, none⟩)), (1, .func (.func 27) #[] #[]), (15, .slice a xs.length c), (16, .int .i64 (xs.length : Int)), (17, .int .i64 (x.1 : Int))]) (fun x w' => x.1 ≤ xs.length ∧ WPost T 5 w0 w wb g l (encN xs.length ++ (xs.take x.1).flatMap encPin) x.2.1 x.2.2 w') (fun x => xs.length - x.1) ((0, v14, g14)) ⟨rfl, rfl, rfl, rfl, rfl, trivial⟩ (⟨Nat.zero_le _, by simpa using q14⟩) ?_
  clear q14 p14 e
  intro ⟨k, v1, g1⟩ w1 ⟨hk, po⟩ IH
  simp only at hk po
  have e := ExtB.refl (fun _ => False) w1
  have lwb1 := lt_of_at po.st.hw
  have hgl1 := po.st.hgl
  have hpz := po.extB.size
  refine run_seq ?_
  refine run_region rfl ?_
  refine runl_ev (ev_lss rfl rfl) ?_
  refine runl_nil ?_
  refine run_seq ?_
  refine run_dcond rfl (fun h0 => ?_) (fun h0 => ?_)
  · have hk1 : k < xs.length := by omega
    obtain ⟨b1, o1, cs1, rfl, hr1, hc1⟩ := hat k hk1
    have hcl1 := rpin_len _ _ _ hr1
    have hone1 := rpin_one _ _ hr1
    have htk := flat_take (f := encPin) hk1
    have htl := flat_take_le (f := encPin) (l := xs) (k + 1)
    rw [htk, List.length_append] at htl
    have htl0 : (l ++ (encN (xs.length : Int) ++ (xs.take k).flatMap encPin)).length = l.length + (encN (xs.length : Int)).length + ((xs.take k).flatMap encPin).length := by simp only [List.length_append]; omega
    refine run_skip ?_
    refine run_seq ?_
    refine run_block ?_
    refine run_seq ?_
    refine run_region rfl ?_
    refine runl_ev (ev_indexAddr el_33 rfl rfl (by omega)) ?_
    refine runl_ev (ev_loadA agg_38 hcl1 rfl (eqw (hc1.ext (po.st.ext.trans e)))) ?_
    refine runl_op (t_alloc zero_38 rfl) ?_
    rintro _ w7 ⟨b7, rfl, hb7, e7, n7, l7⟩
    have z7 := e7.size
    replace e := e.trans e7
    refine runl_do (t_storeW sz_38 rfl rfl hcl1 rfl hb7 (hone1)) ?_
    rintro _ v3_3 ⟨hq3_3, e3_3, z3_3⟩
    replace e := e.new1 e3_3 (by omega)
    replace hb7 := hq3_3
    clear hq3_3
    refine runl_nil ?_
    refine run_region rfl ?_
    refine runl_ev (ev_move rfl) ?_
    refine runl_ev (ev_move rfl) ?_
    refine runl_ev (ev_loadA agg_38 hcl1 rfl (eqw (cells_all hb7))) ?_
    refine runl_op (t_callv call_27 rfl rfl (wpin_any (po.st.up e) xs[k] cs1 hr1 (by omega))) ?_
    rintro _ w24 ⟨rfl, v24, g24, p24⟩
    have q24 := po.trans hgl (p24.from e)
    have z24 := q24.extB.size
    refine runl_nil ?_
    refine run_inBlock ?_
    refine run_region rfl ?_
    refine runl_ev (ev_add rfl rfl (by omega) (by omega)) ?_
    refine runl_ev (ev_move rfl) ?_
    refine runl_nil ?_
    refine IH (k + 1, v24, g24) _ _ (by simp only; omega) ⟨rfl, rfl, rfl, rfl, rfl, trivial⟩ ⟨hk1, ?_⟩
    simp only
    rw [htk, ← List.append_assoc]
    exact q24
  · obtain rfl : k = xs.length := by omega
    rw [List.take_length] at po
    refine run_exit rfl ?_
    refine run_end_any Tryd.func26 (res0 Tryd.results26) ?_
    exact ⟨rfl, v1, g1, po⟩
theorem encsnap1_any {l : List UInt8} {w0 w : World} {wb : Nat} {g : Int} {v : Value} {T : TypeId} (st : WSt T 5 w0 w wb g v l) (x : SnapP) (cs : List Value) (xb : Nat) (hx : w0.heap[xb]? = some (.cells ⟨cs⟩ 35 (0, 0))) (hr : RSnap w0 x cs) (hkl : x.pins.length ≤ 1099511627776) (hb : l.length + (encSnap x).length ≤ 1099511627776) :
    Ret Tryd.prog 25 [.pointer (some ⟨wb, 0, none⟩), .pointer (some ⟨xb, 0, none⟩)] w (WP T 5 w0 w wb g l (encSnap x)) := by
  have e := ExtB.refl (fun _ => False) w
  have lwb := lt_of_at st.hw
  have hgl := st.hgl
  have lxb := lt_of_at hx
  have hwb := st.hwb
  have hg0 := st.hg
  replace hx := st.ext.at hx
  obtain ⟨a, c, rfl, hpi⟩ := hr
  have henc : encSnap x = encNs [x.ver, x.exp] ++ (encN x.pins.length ++ x.pins.flatMap encPin) := by simp [encSnap, encNs]
  rw [henc] at hb ⊢
  rw [List.length_append] at hb
  refine ret_of_run Tryd.func25 rfl Tryd.ntmps25 rfl ?_
  refine run_seq ?_
  refine run_draw mo (fun w' => Ext w w') [8] [(true, 0), (true, 1), (true, 2), (true, 3), (true, 4), (true, 5), (true, 6), (false, 7), (false, 8)] (by kernel_rfl) ?_
  intro wr0 er0
  have zr0 := er0.size
  have hsr0 := er0
  have ep := e.trans er0
  have hxp := er0.at hx
  refine rund_ev hsr0 rfl (ev_move rfl) ?_
  refine rund_ev hsr0 rfl (ev_nilCheck rfl) ?_
  refine rund_ev hsr0 rfl (ev_fieldAddr fld_64_0 rfl) ?_
  refine rund_ev hsr0 rfl (ev_fieldAddr fld_35_0 rfl) ?_
  refine rund_ev hsr0 rfl (ev_load1 cell_3 rfl (fun wz hz => cell_blk (hz.at hx) rfl)) ?_
  refine rund_ev hsr0 rfl (ev_fieldAddr fld_35_1 rfl) ?_
  refine rund_ev hsr0 rfl (ev_load1 cell_3 rfl (fun wz hz => cell_blk (hz.at hx) rfl)) ?_
  refine rund_op rfl (t_buildSlice (out := [.int .i64 x.ver, .int .i64 x.exp]) Tryd.underlying111 sz_3 zero_3 rfl rfl (by decide) (by decide) rfl (rfl)) ?_
  rintro _ w10 ⟨b10, rfl, hb10, e10, n10, l10⟩
  have z10 := e10.size
  replace ep := ep.trans e10
  replace hxp := e10.at hxp
  have hs10 := hsr0.trans e10
  refine ⟨hs10, ?_⟩
  have hb10p := hb10
  refine rund_opT rfl rfl (t_call call_22 rfl (wnums_any (st.up ep) [x.ver, x.exp] _ _ _ (sl_lit (l := [x.ver, x.exp]) (R := RInt) hb10p (pc rfl (pc rfl pn))) (fun b o h => by cases h; exact ⟨by omega, by omega⟩) (by simp) (by omega))) ?_
  rintro _ w11 ⟨rfl, v11, g11, p11⟩
  have q11 := p11.from ep
  have z11 := q11.extB.size
  replace hxp := p11.extB.at hxp (fun h => by rcases h with h | h <;> omega)
  refine rund_nil ?_
  replace hx := hxp
  clear hxp
  refine run_region rfl ?_
  refine runl_ev (ev_move rfl) ?_
  refine runl_ev (ev_fieldAddr fld_35_2 rfl) ?_
  refine runl_ev (ev_load1 cell_33 rfl (eqw (cell_blk hx rfl))) ?_
  refine runl_op (t_call call_26 rfl (wrowsP_any q11.st x.pins a _ c hpi hkl (by rw [List.length_append]; omega))) ?_
  rintro _ w15 ⟨rfl, v15, g15, p15⟩
  have q15 := q11.trans hgl p15
  have z15 := q15.extB.size
  refine runl_nil ?_
  refine run_end_any Tryd.func25 (res0 Tryd.results25) ?_
  exact ⟨rfl, v15, g15, q15⟩
theorem issnap_any (x : SnapP) (cs : List Value) (w : World) (hx : RSnap w x cs) (hn : x.pins.length ≤ 2199023255552) : Ret Tryd.prog 24 [.agg ⟨cs⟩] w fun v w' => v = .bool (isSnapP x) ∧ Ext w w' := by
  have e := ExtB.refl (fun _ => False) w
  obtain ⟨a, c, rfl, hpi⟩ := hx
  refine ret_of_run Tryd.func24 rfl Tryd.ntmps24 rfl ?_
  refine run_seq ?_
  refine run_region rfl ?_
  refine runl_op (t_boxA rfl) ?_
  rintro _ w1 ⟨b1, rfl, hb1, e1, n1, l1⟩
  have z1 := e1.size
  replace e := e.trans e1
  refine runl_ev (ev_assign rfl) ?_
  refine runl_nil ?_
  refine run_seq ?_
  refine run_seq ?_
  refine run_region rfl ?_
  refine runl_ev (ev_fieldAddr fld_35_2 rfl) ?_
  refine runl_ev (ev_load1 cell_33 rfl (eqw (cell_blk hb1 rfl))) ?_
  refine runl_ev (ev_lenL sl_33 rfl) ?_
  refine runl_ev (ev_move rfl) ?_
  refine runl_nil ?_
  refine run_block ?_
  refine run_loop (ι := Nat) (fun k => [(1, .pointer (some ⟨b1, 0, none⟩)), (6, .slice a x.pins.length c), (7, .int .i64 (x.pins.length : Int)), (8, .int .i64 (k : Int))]) (fun k w' => k ≤ x.pins.length ∧ (List.range k).all (pinAt x.pins) = true ∧ w'.heap[b1]? = some (.cells ⟨[.int .i64 x.ver, .int .i64 x.exp, .slice a x.pins.length c]⟩ 35 (0, 0)) ∧ Ext w w') (fun k => x.pins.length - k) (0) ⟨rfl, rfl, rfl, rfl, trivial⟩ (⟨Nat.zero_le _, rfl, hb1, e⟩) ?_
  clear e hb1
  intro k w1 ⟨hk, hall, hb1, e⟩ IH
  have lb1 := lt_of_at hb1
  refine run_seq ?_
  refine run_region rfl ?_
  refine runl_ev (ev_lss rfl rfl) ?_
  refine runl_nil ?_
  refine run_seq ?_
  refine run_dcond rfl (fun h0 => ?_) (fun h0 => ?_)
  · have hk1 : k < x.pins.length := by omega
    obtain ⟨bA, oA, cA, rfl, hrA, hcA⟩ := hpi.at.2 k hk1
    obtain rfl := hrA
    have hpa := pinAt_eq hk1
    refine run_skip ?_
    refine run_seq ?_
    refine run_block ?_
    refine run_seq ?_
    refine run_region rfl ?_
    refine runl_ev (ev_move rfl) ?_
    refine runl_ev (ev_indexAddr el_33 rfl rfl (by omega)) ?_
    refine runl_ev (ev_loadA agg_38 rfl rfl (eqw (hcA.ext e))) ?_
    refine runl_op (t_alloc zero_38 rfl) ?_
    rintro _ w4 ⟨b4, rfl, hb4, e4, n4, l4⟩
    have z4 := e4.size
    replace e := e.trans e4
    replace hb1 := e4.at hb1
    refine runl_ev (ev_assign rfl) ?_
    refine runl_do (t_storeW sz_38 rfl rfl rfl rfl hb4 ((by simp))) ?_
    rintro _ v3_5 ⟨hq3_5, e3_5, z3_5⟩
    replace e := e.new1 e3_5 (by omega)
    replace hb1 := e3_5.at1 hb1 (by omega)
    replace hb4 := hq3_5
    clear hq3_5
    refine runl_nil ?_
    refine run_seq ?_
    have hcs : nameB x.pins[k].name = false ∨ (nameB x.pins[k].name = true ∧ verB x.pins[k].ver = false) ∨ (nameB x.pins[k].name = true ∧ verB x.pins[k].ver = true ∧ k = 0) ∨ (nameB x.pins[k].name = true ∧ verB x.pins[k].ver = true ∧ 0 < k) := by
      cases nameB x.pins[k].name <;> cases verB x.pins[k].ver <;> simp <;> omega
    rcases hcs with q1 | ⟨q1, q2⟩ | ⟨q1, q2, rfl⟩ | ⟨q1, q2, q3⟩
    · have hno : pinAt x.pins k = false := by rw [hpa, q1]; rfl
      refine run_draw mo (fun w' => Ext v3_5 w') [] [(true, 0), (true, 1), (false, 2), (true, 3), (true, 4), (true, 5), (true, 6), (false, 7), (true, 8), (true, 9), (true, 10), (true, 11), (true, 12), (true, 13), (true, 14), (true, 15), (true, 16), (true, 17), (true, 18), (true, 19), (true, 20), (true, 21), (true, 22), (true, 23), (true, 24), (true, 25)] (by kernel_rfl) ?_
      intro wr4 er4
      have zr4 := er4.size
      have hsr4 := er4
      have ep := e.trans er4
      have hb1p := er4.at hb1
      have hb4p := er4.at hb4
      refine rund_ev hsr4 rfl (ev_fieldAddr fld_38_0 rfl) ?_
      refine rund_ev hsr4 rfl (ev_load1 cell_9 rfl (fun wz hz => cell_blk (hz.at hb4) rfl)) ?_
      refine rund_op rfl (t_call call_7 rfl (name_any _ _)) ?_
      rintro _ w15 ⟨rfl, e15⟩
      have z15 := e15.size
      replace ep := ep.trans e15
      replace hb1p := e15.at hb1p
      replace hb4p := e15.at hb4p
      have hs15 := hsr4.trans e15
      refine ⟨hs15, ?_⟩
      refine rund_ev hs15 rfl (ev_not rfl) ?_
      refine rund_ev hs15 rfl (ev_move rfl) ?_
      refine rund_no_g hs15 rfl rfl rfl (by rw [q1] <;> rfl) ?_
      refine rund_no_g hs15 rfl rfl rfl (by rw [q1] <;> rfl) ?_
      refine rund_no_gf rfl rfl rfl (by rw [q1] <;> rfl) hs15 ?_
      refine rund_no_g hs15 rfl rfl rfl (by rw [q1] <;> rfl) ?_
      refine rund_ev hs15 rfl (ev_pick rfl rfl rfl (if_pos (by rw [q1] <;> rfl))) ?_
      refine rund_ev hs15 rfl (ev_move rfl) ?_
      refine rund_no_g hs15 rfl rfl rfl (rfl) ?_
      refine rund_no_g hs15 rfl rfl rfl (rfl) ?_
      refine rund_no_g hs15 rfl rfl rfl (rfl) ?_
      refine rund_no_u hs15 rfl rfl rfl ?_
      refine rund_no_u hs15 rfl rfl rfl ?_
      refine rund_no_u hs15 rfl rfl rfl ?_
      refine rund_no_u hs15 rfl rfl rfl ?_
      refine rund_no_u hs15 rfl rfl rfl ?_
      refine rund_no_u hs15 rfl rfl rfl ?_
      refine rund_no_u hs15 rfl rfl rfl ?_
      refine rund_no_u hs15 rfl rfl rfl ?_
      refine rund_no_u hs15 rfl rfl rfl ?_
      refine rund_no_u hs15 rfl rfl rfl ?_
      refine rund_no_g hs15 rfl rfl rfl (rfl) ?_
      refine rund_ev hs15 rfl (ev_pick rfl rfl rfl (if_pos (rfl))) ?_
      refine rund_nil ?_
      replace e := ep
      clear ep
      replace hb1 := hb1p
      clear hb1p
      replace hb4 := hb4p
      clear hb4p
      refine run_cond_true rfl (rfl) ?_
      refine run_seq ?_
      refine run_region rfl ?_
      refine runl_ev (ev_assign rfl) ?_
      refine runl_nil ?_
      refine run_ret_any Tryd.func24 (res1 Tryd.results24 rfl) ?_
      exact ⟨by rw [snap_pins hk1 hno], e⟩
    · have hno : pinAt x.pins k = false := by rw [hpa, q1, q2]; rfl
      refine run_draw mo (fun w' => Ext v3_5 w') [] [(true, 0), (true, 1), (false, 2), (true, 3), (true, 4), (true, 5), (true, 6), (false, 7), (true, 8), (true, 9), (true, 10), (true, 11), (true, 12), (true, 13), (true, 14), (true, 15), (true, 16), (true, 17), (true, 18), (true, 19), (true, 20), (true, 21), (true, 22), (true, 23), (true, 24), (true, 25)] (by kernel_rfl) ?_
      intro wr4 er4
      have zr4 := er4.size
      have hsr4 := er4
      have ep := e.trans er4
      have hb1p := er4.at hb1
      have hb4p := er4.at hb4
      refine rund_ev hsr4 rfl (ev_fieldAddr fld_38_0 rfl) ?_
      refine rund_ev hsr4 rfl (ev_load1 cell_9 rfl (fun wz hz => cell_blk (hz.at hb4) rfl)) ?_
      refine rund_op rfl (t_call call_7 rfl (name_any _ _)) ?_
      rintro _ w15 ⟨rfl, e15⟩
      have z15 := e15.size
      replace ep := ep.trans e15
      replace hb1p := e15.at hb1p
      replace hb4p := e15.at hb4p
      have hs15 := hsr4.trans e15
      refine ⟨hs15, ?_⟩
      refine rund_ev hs15 rfl (ev_not rfl) ?_
      refine rund_ev hs15 rfl (ev_move rfl) ?_
      refine rund_ev_g hs15 rfl rfl rfl (by rw [q1] <;> rfl) (ev_fieldAddr fld_38_1 rfl) ?_
      refine rund_ev_g hs15 rfl rfl rfl (by rw [q1] <;> rfl) (ev_load1 cell_3 rfl (fun wz hz => cell_blk (hz.at hb4) rfl)) ?_
      refine rund_op_g rfl rfl rfl (by rw [q1] <;> rfl) (t_call call_54 rfl (isver_any _ _)) ?_
      rintro _ w20 ⟨rfl, e20⟩
      have z20 := e20.size
      replace ep := ep.trans e20
      replace hb1p := e20.at hb1p
      replace hb4p := e20.at hb4p
      have hs20 := hs15.trans e20
      refine ⟨hs20, ?_⟩
      refine rund_ev_g hs20 rfl rfl rfl (by rw [q1] <;> rfl) (ev_not rfl) ?_
      refine rund_ev hs20 rfl (ev_pick rfl rfl rfl (if_neg (by rw [q1]; simp))) ?_
      refine rund_ev hs20 rfl (ev_move rfl) ?_
      refine rund_no_g hs20 rfl rfl rfl (by rw [q2] <;> rfl) ?_
      refine rund_no_g hs20 rfl rfl rfl (by rw [q2] <;> rfl) ?_
      refine rund_no_g hs20 rfl rfl rfl (by rw [q2] <;> rfl) ?_
      refine rund_no_u hs20 rfl rfl rfl ?_
      refine rund_no_u hs20 rfl rfl rfl ?_
      refine rund_no_u hs20 rfl rfl rfl ?_
      refine rund_no_u hs20 rfl rfl rfl ?_
      refine rund_no_u hs20 rfl rfl rfl ?_
      refine rund_no_u hs20 rfl rfl rfl ?_
      refine rund_no_u hs20 rfl rfl rfl ?_
      refine rund_no_u hs20 rfl rfl rfl ?_
      refine rund_no_u hs20 rfl rfl rfl ?_
      refine rund_no_u hs20 rfl rfl rfl ?_
      refine rund_no_g hs20 rfl rfl rfl (by rw [q2] <;> rfl) ?_
      refine rund_ev hs20 rfl (ev_pick rfl rfl rfl (if_pos (by rw [q2] <;> rfl))) ?_
      refine rund_nil ?_
      replace e := ep
      clear ep
      replace hb1 := hb1p
      clear hb1p
      replace hb4 := hb4p
      clear hb4p
      refine run_cond_true rfl (rfl) ?_
      refine run_seq ?_
      refine run_region rfl ?_
      refine runl_ev (ev_assign rfl) ?_
      refine runl_nil ?_
      refine run_ret_any Tryd.func24 (res1 Tryd.results24 rfl) ?_
      exact ⟨by rw [snap_pins hk1 hno], e⟩
    · have hyes : pinAt x.pins 0 = true := by rw [hpa, q1, q2]; rfl
      refine run_draw mo (fun w' => Ext v3_5 w') [] [(true, 0), (true, 1), (false, 2), (true, 3), (true, 4), (true, 5), (true, 6), (false, 7), (true, 8), (true, 9), (true, 10), (true, 11), (true, 12), (true, 13), (true, 14), (true, 15), (true, 16), (true, 17), (true, 18), (true, 19), (true, 20), (true, 21), (true, 22), (true, 23), (true, 24), (true, 25)] (by kernel_rfl) ?_
      intro wr4 er4
      have zr4 := er4.size
      have hsr4 := er4
      have ep := e.trans er4
      have hb1p := er4.at hb1
      have hb4p := er4.at hb4
      refine rund_ev hsr4 rfl (ev_fieldAddr fld_38_0 rfl) ?_
      refine rund_ev hsr4 rfl (ev_load1 cell_9 rfl (fun wz hz => cell_blk (hz.at hb4) rfl)) ?_
      refine rund_op rfl (t_call call_7 rfl (name_any _ _)) ?_
      rintro _ w15 ⟨rfl, e15⟩
      have z15 := e15.size
      replace ep := ep.trans e15
      replace hb1p := e15.at hb1p
      replace hb4p := e15.at hb4p
      have hs15 := hsr4.trans e15
      refine ⟨hs15, ?_⟩
      refine rund_ev hs15 rfl (ev_not rfl) ?_
      refine rund_ev hs15 rfl (ev_move rfl) ?_
      refine rund_ev_g hs15 rfl rfl rfl (by rw [q1] <;> rfl) (ev_fieldAddr fld_38_1 rfl) ?_
      refine rund_ev_g hs15 rfl rfl rfl (by rw [q1] <;> rfl) (ev_load1 cell_3 rfl (fun wz hz => cell_blk (hz.at hb4) rfl)) ?_
      refine rund_op_g rfl rfl rfl (by rw [q1] <;> rfl) (t_call call_54 rfl (isver_any _ _)) ?_
      rintro _ w20 ⟨rfl, e20⟩
      have z20 := e20.size
      replace ep := ep.trans e20
      replace hb1p := e20.at hb1p
      replace hb4p := e20.at hb4p
      have hs20 := hs15.trans e20
      refine ⟨hs20, ?_⟩
      refine rund_ev_g hs20 rfl rfl rfl (by rw [q1] <;> rfl) (ev_not rfl) ?_
      refine rund_ev hs20 rfl (ev_pick rfl rfl rfl (if_neg (by rw [q1]; simp))) ?_
      refine rund_ev hs20 rfl (ev_move rfl) ?_
      refine rund_ev_g hs20 rfl rfl rfl (by rw [q2] <;> rfl) (ev_move rfl) ?_
      refine rund_ev_g hs20 rfl rfl rfl (by rw [q2] <;> rfl) (ev_gtr rfl rfl) ?_
      refine rund_ev_g hs20 rfl rfl rfl (by rw [q2] <;> rfl) (ev_move rfl) ?_
      refine rund_no_g hs20 rfl rfl rfl (by decide) ?_
      refine rund_no_g hs20 rfl rfl rfl (by decide) ?_
      refine rund_no_g hs20 rfl rfl rfl (by decide) ?_
      refine rund_no_g hs20 rfl rfl rfl (by decide) ?_
      refine rund_no_g hs20 rfl rfl rfl (by decide) ?_
      refine rund_no_g hs20 rfl rfl rfl (by decide) ?_
      refine rund_no_g hs20 rfl rfl rfl (by decide) ?_
      refine rund_no_g hs20 rfl rfl rfl (by decide) ?_
      refine rund_no_g hs20 rfl rfl rfl (by decide) ?_
      refine rund_no_g hs20 rfl rfl rfl (by decide) ?_
      refine rund_ev_g hs20 rfl rfl rfl (by rw [q2] <;> rfl) (ev_pick rfl rfl rfl (if_neg (by decide))) ?_
      refine rund_ev hs20 rfl (ev_pick rfl rfl rfl (if_neg (by rw [q2]; simp))) ?_
      refine rund_nil ?_
      replace e := ep
      clear ep
      replace hb1 := hb1p
      clear hb1p
      replace hb4 := hb4p
      clear hb4p
      refine run_cond_false rfl (rfl) ?_
      refine run_skip ?_
      refine run_inBlock ?_
      refine run_region rfl ?_
      refine runl_ev (ev_add rfl rfl (by omega) (by omega)) ?_
      refine runl_ev (ev_move rfl) ?_
      refine runl_nil ?_
      exact IH (0 + 1) _ _ (by omega) ⟨rfl, rfl, rfl, rfl, trivial⟩ ⟨by omega, range_succ_all hall hyes, hb1, e⟩
    · obtain ⟨bB, oB, cB, heB, hrB, hcB⟩ := hpi.at.2 (k - 1) (by omega)
      cases heB
      obtain rfl := hrB
      obtain ⟨lt, hlt⟩ : ∃ b, b = strLt (x.pins[k - 1]'(by omega)).name x.pins[k].name := ⟨_, rfl⟩
      refine run_draw mo (fun w' => Ext v3_5 w') [] [(true, 0), (true, 1), (false, 2), (true, 3), (true, 4), (true, 5), (true, 6), (false, 7), (true, 8), (true, 9), (true, 10), (true, 11), (true, 12), (true, 13), (true, 14), (true, 15), (true, 16), (true, 17), (true, 18), (true, 19), (true, 20), (true, 21), (true, 22), (true, 23), (true, 24), (true, 25)] (by kernel_rfl) ?_
      intro wr4 er4
      have zr4 := er4.size
      have hsr4 := er4
      have ep := e.trans er4
      have hb1p := er4.at hb1
      have hb4p := er4.at hb4
      refine rund_ev hsr4 rfl (ev_fieldAddr fld_38_0 rfl) ?_
      refine rund_ev hsr4 rfl (ev_load1 cell_9 rfl (fun wz hz => cell_blk (hz.at hb4) rfl)) ?_
      refine rund_op rfl (t_call call_7 rfl (name_any _ _)) ?_
      rintro _ w15 ⟨rfl, e15⟩
      have z15 := e15.size
      replace ep := ep.trans e15
      replace hb1p := e15.at hb1p
      replace hb4p := e15.at hb4p
      have hs15 := hsr4.trans e15
      refine ⟨hs15, ?_⟩
      refine rund_ev hs15 rfl (ev_not rfl) ?_
      refine rund_ev hs15 rfl (ev_move rfl) ?_
      refine rund_ev_g hs15 rfl rfl rfl (by rw [q1] <;> rfl) (ev_fieldAddr fld_38_1 rfl) ?_
      refine rund_ev_g hs15 rfl rfl rfl (by rw [q1] <;> rfl) (ev_load1 cell_3 rfl (fun wz hz => cell_blk (hz.at hb4) rfl)) ?_
      refine rund_op_g rfl rfl rfl (by rw [q1] <;> rfl) (t_call call_54 rfl (isver_any _ _)) ?_
      rintro _ w20 ⟨rfl, e20⟩
      have z20 := e20.size
      replace ep := ep.trans e20
      replace hb1p := e20.at hb1p
      replace hb4p := e20.at hb4p
      have hs20 := hs15.trans e20
      refine ⟨hs20, ?_⟩
      refine rund_ev_g hs20 rfl rfl rfl (by rw [q1] <;> rfl) (ev_not rfl) ?_
      refine rund_ev hs20 rfl (ev_pick rfl rfl rfl (if_neg (by rw [q1]; simp))) ?_
      refine rund_ev hs20 rfl (ev_move rfl) ?_
      refine rund_ev_g hs20 rfl rfl rfl (by rw [q2] <;> rfl) (ev_move rfl) ?_
      refine rund_ev_g hs20 rfl rfl rfl (by rw [q2] <;> rfl) (ev_gtr rfl rfl) ?_
      refine rund_ev_g hs20 rfl rfl rfl (by rw [q2] <;> rfl) (ev_move rfl) ?_
      refine rund_ev_g hs20 rfl rfl rfl (decide_eq_true (by omega)) (ev_fieldAddr fld_35_2 rfl) ?_
      refine rund_ev_g hs20 rfl rfl rfl (decide_eq_true (by omega)) (ev_load1 cell_33 rfl (fun wz hz => cell_blk (hz.at hb1) rfl)) ?_
      refine rund_ev_g hs20 rfl rfl rfl (decide_eq_true (by omega)) (ev_move rfl) ?_
      refine rund_ev_g hs20 rfl rfl rfl (decide_eq_true (by omega)) (ev_subK (((k - 1 : Nat) : Int)) rfl rfl (by rw [show ((k : Int) - 1) = ((k - 1 : Nat) : Int) by omega]; exact wrap_i64 (by omega) (by omega))) ?_
      refine rund_ev_g hs20 rfl rfl rfl (decide_eq_true (by omega)) (ev_indexAddr (k := k - 1) el_33 rfl rfl (by omega)) ?_
      refine rund_ev_g hs20 rfl rfl rfl (decide_eq_true (by omega)) (ev_fieldAddr fld_38_0 rfl) ?_
      refine rund_ev_g hs20 rfl rfl rfl (decide_eq_true (by omega)) (ev_load1 cell_9 rfl (fun wz hz => (hcB.ext (e.trans hz)).pick 0 rfl rfl)) ?_
      refine rund_ev_g hs20 rfl rfl rfl (decide_eq_true (by omega)) (ev_fieldAddr fld_38_0 rfl) ?_
      refine rund_ev_g hs20 rfl rfl rfl (decide_eq_true (by omega)) (ev_load1 cell_9 rfl (fun wz hz => cell_blk (hz.at hb4) rfl)) ?_
      refine rund_ev_g hs20 rfl rfl rfl (decide_eq_true (by omega)) (ev_geqS rfl rfl) ?_
      refine rund_ev_g hs20 rfl rfl rfl (by rw [q2] <;> rfl) (ev_pick rfl rfl rfl (if_pos (decide_eq_true (by omega)))) ?_
      refine rund_ev hs20 rfl (ev_pick rfl rfl rfl (if_neg (by rw [q2]; simp))) ?_
      refine rund_nil ?_
      replace e := ep
      clear ep
      replace hb1 := hb1p
      clear hb1p
      replace hb4 := hb4p
      clear hb4p
      refine run_cond_split rfl (fun h1 => ?_) (fun h1 => ?_)
      · have hno : pinAt x.pins k = false := by rw [hpa, q1, q2, decide_eq_false (by omega : ¬ k = 0)]; simpa using h1
        refine run_seq ?_
        refine run_region rfl ?_
        refine runl_ev (ev_assign rfl) ?_
        refine runl_nil ?_
        refine run_ret_any Tryd.func24 (res1 Tryd.results24 rfl) ?_
        exact ⟨by rw [snap_pins hk1 hno], e⟩
      · have hyes : pinAt x.pins k = true := by rw [hpa, q1, q2, decide_eq_false (by omega : ¬ k = 0)]; simpa using h1
        refine run_skip ?_
        refine run_inBlock ?_
        refine run_region rfl ?_
        refine runl_ev (ev_add rfl rfl (by omega) (by omega)) ?_
        refine runl_ev (ev_move rfl) ?_
        refine runl_nil ?_
        exact IH (k + 1) _ _ (by omega) ⟨rfl, rfl, rfl, rfl, trivial⟩ ⟨by omega, range_succ_all hall hyes, hb1, e⟩
  · obtain rfl : k = x.pins.length := by omega
    refine run_exit rfl ?_
    refine run_seq ?_
    refine run_region rfl ?_
    refine runl_ev (ev_fieldAddr fld_35_0 rfl) ?_
    refine runl_ev (ev_load1 cell_3 rfl (eqw (cell_blk hb1 rfl))) ?_
    refine runl_op (t_call call_54 rfl (isver_any x.ver _)) ?_
    rintro _ w42 ⟨rfl, e42⟩
    have z42 := e42.size
    replace e := e.trans e42
    replace hb1 := e42.at hb1
    cases hv : verB x.ver
    · refine runl_ev (ev_move rfl) ?_
      refine runl_no_g rfl rfl (rfl) ?_
      refine runl_no_g rfl rfl (rfl) ?_
      refine runl_no_g rfl rfl (rfl) ?_
      refine runl_ev (ev_pick rfl rfl rfl (if_neg (by simp))) ?_
      refine runl_ev (ev_move rfl) ?_
      refine runl_no_g rfl rfl (rfl) ?_
      refine runl_no_g rfl rfl (rfl) ?_
      refine runl_no_g rfl rfl (rfl) ?_
      refine runl_no_g rfl rfl (rfl) ?_
      refine runl_ev (ev_pick rfl rfl rfl (if_neg (by simp))) ?_
      refine runl_ev (ev_assign rfl) ?_
      refine runl_nil ?_
      refine run_ret_any Tryd.func24 (res1 Tryd.results24 rfl) ?_
      exact ⟨by simp [isSnapP, hv], e⟩
    · refine runl_ev (ev_move rfl) ?_
      refine runl_ev_g rfl rfl (rfl) (ev_fieldAddr fld_35_1 rfl) ?_
      refine runl_ev_g rfl rfl (rfl) (ev_load1 cell_3 rfl (eqw (cell_blk hb1 rfl))) ?_
      refine runl_op_g rfl rfl (rfl) (t_call call_55 rfl (isnum_any x.exp _)) ?_
      rintro _ w46 ⟨rfl, e46⟩
      have z46 := e46.size
      replace e := e.trans e46
      replace hb1 := e46.at hb1
      cases hx : numB x.exp
      · refine runl_ev (ev_pick rfl rfl rfl (if_pos (rfl))) ?_
        refine runl_ev (ev_move rfl) ?_
        refine runl_no_g rfl rfl (rfl) ?_
        refine runl_no_g rfl rfl (rfl) ?_
        refine runl_no_g rfl rfl (rfl) ?_
        refine runl_no_g rfl rfl (rfl) ?_
        refine runl_ev (ev_pick rfl rfl rfl (if_neg (by simp))) ?_
        refine runl_ev (ev_assign rfl) ?_
        refine runl_nil ?_
        refine run_ret_any Tryd.func24 (res1 Tryd.results24 rfl) ?_
        exact ⟨by simp [isSnapP, hv, hx], e⟩
      · refine runl_ev (ev_pick rfl rfl rfl (if_pos (rfl))) ?_
        refine runl_ev (ev_move rfl) ?_
        refine runl_ev_g rfl rfl (rfl) (ev_fieldAddr fld_35_2 rfl) ?_
        refine runl_ev_g rfl rfl (rfl) (ev_load1 cell_33 rfl (eqw (cell_blk hb1 rfl))) ?_
        refine runl_ev_g rfl rfl (rfl) (ev_lenL sl_33 rfl) ?_
        refine runl_ev_g rfl rfl (rfl) (ev_leq rfl rfl) ?_
        refine runl_ev (ev_pick rfl rfl rfl (if_pos (rfl))) ?_
        refine runl_ev (ev_assign rfl) ?_
        refine runl_nil ?_
        refine run_ret_any Tryd.func24 (res1 Tryd.results24 rfl) ?_
        refine ⟨?_, e⟩
        rw [isSnapP, hall, hv, hx]
        congr 1
        exact decide_eq_decide.2 (by omega)
theorem encsnap_any (x : SnapP) (cs : List Value) (w : World) (hr : RSnap w x cs) (hkl : x.pins.length ≤ 1099511627776) : Ret Tryd.prog 10 [.agg ⟨cs⟩] w fun v w' => ∃ p, v = .tuple #[p, .int .i64 (encE isSnapP x)] ∧ OwnB 5 w (encP 3 isSnapP encSnap x) p w' := by
  have e := ExtB.refl (fun _ => False) w
  have hcl := rsnap_len hr
  refine ret_of_run Tryd.func10 rfl Tryd.ntmps10 rfl ?_
  refine run_seq ?_
  refine run_region rfl ?_
  refine runl_op (t_boxA rfl) ?_
  rintro _ w1 ⟨b1, rfl, hb1, e1, n1, l1⟩
  have z1 := e1.size
  replace e := e.trans e1
  refine runl_ev (ev_assign rfl) ?_
  refine runl_ev (ev_assign rfl) ?_
  refine runl_nil ?_
  refine run_seq ?_
  refine run_region rfl ?_
  refine runl_ev (ev_loadA agg_35 hcl rfl (eqw (cells_all hb1))) ?_
  refine runl_op (t_call call_24 rfl (issnap_any x cs _ (RSnap.stable _ _ _ _ e hr) (by omega))) ?_
  rintro _ w5 ⟨rfl, e5⟩
  have z5 := e5.size
  replace e := e.trans e5
  replace hb1 := e5.at hb1
  refine runl_ev (ev_makeFunc rfl rfl) ?_
  refine runl_op (t_call call_19 rfl (encoded_any _ 3 (isSnapP x) 25 [.pointer (some ⟨b1, 0, none⟩)] call_25 (encSnap x) (by have := encN_len 3; omega) (fun hm => by have := encSnap_len hm; omega) (fun hm w1 wb g v st => encsnap1_any st x cs b1 hb1 (RSnap.stable _ _ _ _ e hr) hkl (by have := encN_len 3; have := encSnap_len hm; omega)))) ?_
  rintro _ w7 ⟨p7, g7, rfl, o7, e7, hg7, hgl7⟩
  have z7 := e7.size
  replace e := e.trans e7
  replace hb1 := e7.at hb1
  refine runl_ev (ev_extract rfl rfl) ?_
  refine runl_ev (ev_extract rfl rfl) ?_
  refine runl_ev (ev_assign rfl) ?_
  refine runl_ev (ev_assign rfl) ?_
  refine runl_nil ?_
  refine run_ret_any Tryd.func10 (res2 Tryd.results10 rfl rfl) ?_
  have hz := e.size
  exact ⟨p7, rfl, ownB_of o7 e (by omega) (by omega)⟩
theorem isSnap_nil (v e : Int) : isSnapP ⟨v, e, []⟩ = (verB v && numB e) := by simp [isSnapP]
theorem encE_zero {α : Type} (may : α → Bool) (x : α) : decide (encE may x = 0) = may x := by unfold encE; cases may x <;> simp
theorem encE_one {α : Type} (may : α → Bool) (x : α) (h : may x = false) : encE may x = 1 := by unfold encE; rw [h]; rfl

theorem lawBounds_any (v ex sn : Int) (w : World) : Ret Tryd.prog 4 [.int .i64 v, .int .i64 ex, .int .i64 sn] w fun r w' => r = .bool true ∧ Ext w w' := by
  have e := ExtB.refl (fun _ => False) w
  refine ret_of_run Tryd.func4 rfl Tryd.ntmps4 rfl ?_
  refine run_seq ?_
  refine run_region rfl ?_
  refine runl_ev (ev_assign rfl) ?_
  refine runl_nil ?_
  refine run_seq ?_
  refine run_region rfl ?_
  refine runl_ev (ev_move rfl) ?_
  refine runl_ev (ev_move rfl) ?_
  refine runl_ev (ev_move rfl) ?_
  refine runl_ev (ev_build (out := TimeP.cells ⟨v, ex, sn, List.replicate 32 0⟩) ps_31 zero_31 rfl rfl (by rfl)) ?_
  refine runl_op (t_call call_9 rfl (enctime_any ⟨v, ex, sn, List.replicate 32 0⟩ _ (by simp))) ?_
  rintro _ w17 ⟨p17, rfl, o17⟩
  have e17 := o17.ext
  have z17 := e17.size
  replace e := e.trans e17
  refine runl_ev (ev_move rfl) ?_
  refine runl_ev (ev_extract rfl rfl) ?_
  refine runl_ev (ev_extract rfl rfl) ?_
  refine runl_ev (ev_assign rfl) ?_
  refine runl_ev (ev_assign rfl) ?_
  refine runl_nil ?_
  refine run_seq ?_
  refine run_region rfl ?_
  refine runl_ev (ev_move rfl) ?_
  refine runl_ev (ev_move rfl) ?_
  refine runl_ev (ev_build (out := [.int .i64 v, .int .i64 ex, .slice none 0 0]) ps_35 zero_35 rfl rfl (rfl)) ?_
  refine runl_op (t_call call_10 rfl (encsnap_any ⟨v, ex, []⟩ _ _ ⟨none, 0, rfl, sl_nil⟩ (by simp))) ?_
  rintro _ w24 ⟨p24, rfl, o24⟩
  have e24 := o24.ext
  have hsn := encE_zero isSnapP ⟨v, ex, []⟩
  have htm := encE_zero isTimeP ⟨v, ex, sn, List.replicate 32 0⟩
  rw [isSnap_nil] at hsn
  have htp : isTimeP ⟨v, ex, sn, List.replicate 32 0⟩ = (verB v && (numB ex && verB sn)) := rfl
  have hone := encE_one isTimeP ⟨v, ex, sn, List.replicate 32 0⟩
  rw [htp] at htm hone
  generalize encE isSnapP ⟨v, ex, []⟩ = es at hsn
  generalize encE isTimeP ⟨v, ex, sn, List.replicate 32 0⟩ = et at htm hone
  have z24 := e24.size
  replace e := e.trans e24
  refine runl_ev (ev_move rfl) ?_
  refine runl_ev (ev_extract rfl rfl) ?_
  refine runl_ev (ev_extract rfl rfl) ?_
  refine runl_ev (ev_assign rfl) ?_
  refine runl_ev (ev_assign rfl) ?_
  refine runl_nil ?_
  refine run_seq ?_
  have hcs : ¬ 1 ≤ v ∨ (1 ≤ v ∧ ¬ v ≤ 1073741824) ∨ (1 ≤ v ∧ v ≤ 1073741824 ∧ ¬ 0 ≤ ex) ∨ (1 ≤ v ∧ v ≤ 1073741824 ∧ 0 ≤ ex ∧ ¬ ex ≤ 1073741824) ∨ (1 ≤ v ∧ v ≤ 1073741824 ∧ 0 ≤ ex ∧ ex ≤ 1073741824 ∧ ¬ 1 ≤ sn) ∨ (1 ≤ v ∧ v ≤ 1073741824 ∧ 0 ≤ ex ∧ ex ≤ 1073741824 ∧ 1 ≤ sn ∧ ¬ sn ≤ 1073741824) ∨ (1 ≤ v ∧ v ≤ 1073741824 ∧ 0 ≤ ex ∧ ex ≤ 1073741824 ∧ 1 ≤ sn ∧ sn ≤ 1073741824) := by omega
  rcases hcs with q1 | ⟨q1, q2⟩ | ⟨q1, q2, q3⟩ | ⟨q1, q2, q3, q4⟩ | ⟨q1, q2, q3, q4, q5⟩ | ⟨q1, q2, q3, q4, q5, q6⟩ | ⟨q1, q2, q3, q4, q5, q6⟩
  · have hok : (verB v && numB ex) = false := by simp [verB, numB]; omega
    have htt : (verB v && (numB ex && verB sn)) = false := by rw [← Bool.and_assoc, hok]; rfl
    obtain rfl : et = 1 := hone htt
    refine run_region rfl ?_
    refine runl_ev (ev_move rfl) ?_
    refine runl_ev (ev_geq rfl rfl) ?_
    refine runl_ev (ev_move rfl) ?_
    refine runl_no_g rfl rfl (decide_eq_false (by omega)) ?_
    refine runl_no_g rfl rfl (decide_eq_false (by omega)) ?_
    refine runl_ev (ev_pick rfl rfl rfl (if_neg (by simp <;> omega))) ?_
    refine runl_ev (ev_move rfl) ?_
    refine runl_no_g rfl rfl (rfl) ?_
    refine runl_no_g rfl rfl (rfl) ?_
    refine runl_ev (ev_pick rfl rfl rfl (if_neg (by simp))) ?_
    refine runl_ev (ev_move rfl) ?_
    refine runl_no_g rfl rfl (rfl) ?_
    refine runl_no_g rfl rfl (rfl) ?_
    refine runl_ev (ev_pick rfl rfl rfl (if_neg (by simp))) ?_
    refine runl_ev (ev_assign rfl) ?_
    refine runl_nil ?_
    refine run_seq ?_
    refine run_region rfl ?_
    refine runl_ev (ev_move rfl) ?_
    refine runl_ev (ev_eqlI rfl rfl) ?_
    refine runl_ev (ev_move rfl) ?_
    refine runl_ev (ev_eqlB Tryd.underlying4 rfl rfl) ?_
    refine runl_ev (ev_move rfl) ?_
    refine runl_ev_g rfl rfl (decide_eq_true (by rw [hsn, hok] <;> first | rfl | (symm; exact decide_eq_false (by omega)) | (symm; exact decide_eq_true (by omega)))) (ev_move rfl) ?_
    refine runl_ev_g rfl rfl (decide_eq_true (by rw [hsn, hok] <;> first | rfl | (symm; exact decide_eq_false (by omega)) | (symm; exact decide_eq_true (by omega)))) (ev_eqlI rfl rfl) ?_
    refine runl_ev_g rfl rfl (decide_eq_true (by rw [hsn, hok] <;> first | rfl | (symm; exact decide_eq_false (by omega)) | (symm; exact decide_eq_true (by omega)))) (ev_move rfl) ?_
    refine runl_ev_g rfl rfl (decide_eq_true (by rw [hsn, hok] <;> first | rfl | (symm; exact decide_eq_false (by omega)) | (symm; exact decide_eq_true (by omega)))) (ev_move rfl) ?_
    refine runl_no_g rfl rfl (rfl) ?_
    refine runl_no_g rfl rfl (rfl) ?_
    refine runl_ev_g rfl rfl (decide_eq_true (by rw [hsn, hok] <;> first | rfl | (symm; exact decide_eq_false (by omega)) | (symm; exact decide_eq_true (by omega)))) (ev_pick rfl rfl rfl (if_neg (by simp))) ?_
    refine runl_ev_g rfl rfl (decide_eq_true (by rw [hsn, hok] <;> first | rfl | (symm; exact decide_eq_false (by omega)) | (symm; exact decide_eq_true (by omega)))) (ev_move rfl) ?_
    refine runl_no_g rfl rfl (rfl) ?_
    refine runl_no_g rfl rfl (rfl) ?_
    refine runl_ev_g rfl rfl (decide_eq_true (by rw [hsn, hok] <;> first | rfl | (symm; exact decide_eq_false (by omega)) | (symm; exact decide_eq_true (by omega)))) (ev_pick rfl rfl rfl (if_neg (by simp))) ?_
    refine runl_ev_g rfl rfl (decide_eq_true (by rw [hsn, hok] <;> first | rfl | (symm; exact decide_eq_false (by omega)) | (symm; exact decide_eq_true (by omega)))) (ev_eqlB Tryd.underlying4 rfl rfl) ?_
    refine runl_ev (ev_pick rfl rfl rfl (if_pos (decide_eq_true (by rw [hsn, hok] <;> first | rfl | (symm; exact decide_eq_false (by omega)) | (symm; exact decide_eq_true (by omega)))))) ?_
    refine runl_ev (ev_move rfl) ?_
    refine runl_ev_g rfl rfl (decide_eq_true (by first | rfl | (symm; exact rfl) | exact rfl)) (ev_move rfl) ?_
    refine runl_ev_g rfl rfl (decide_eq_true (by first | rfl | (symm; exact rfl) | exact rfl)) (ev_eqlI rfl rfl) ?_
    refine runl_ev_g rfl rfl (decide_eq_true (by first | rfl | (symm; exact rfl) | exact rfl)) (ev_move rfl) ?_
    refine runl_ev_g rfl rfl (rfl) (ev_move rfl) ?_
    refine runl_ev_g rfl rfl (rfl) (ev_eqlI rfl rfl) ?_
    refine runl_ev_g rfl rfl (decide_eq_true (by first | rfl | (symm; exact rfl) | exact rfl)) (ev_pick rfl rfl rfl (if_neg (by decide))) ?_
    refine runl_ev (ev_pick rfl rfl rfl (if_pos (decide_eq_true (by first | rfl | (symm; exact rfl) | exact rfl)))) ?_
    refine runl_ev (ev_move rfl) ?_
    refine runl_op_g rfl rfl (rfl) (t_call call_8 rfl (known_any _)) ?_
    rintro _ w68 ⟨rfl, e68⟩
    have z68 := e68.size
    replace e := e.trans e68
    refine runl_ev (ev_pick rfl rfl rfl (if_pos (rfl))) ?_
    refine runl_ev (ev_assign rfl) ?_
    refine runl_nil ?_
    refine run_ret_any Tryd.func4 (res1 Tryd.results4 rfl) ?_
    exact ⟨rfl, e⟩
  · have hok : (verB v && numB ex) = false := by simp [verB, numB]; omega
    have htt : (verB v && (numB ex && verB sn)) = false := by rw [← Bool.and_assoc, hok]; rfl
    obtain rfl : et = 1 := hone htt
    refine run_region rfl ?_
    refine runl_ev (ev_move rfl) ?_
    refine runl_ev (ev_geq rfl rfl) ?_
    refine runl_ev (ev_move rfl) ?_
    refine runl_ev_g rfl rfl (decide_eq_true (by omega)) (ev_move rfl) ?_
    refine runl_ev_g rfl rfl (decide_eq_true (by omega)) (ev_leq rfl rfl) ?_
    refine runl_ev (ev_pick rfl rfl rfl (if_pos (decide_eq_true (by omega)))) ?_
    refine runl_ev (ev_move rfl) ?_
    refine runl_no_g rfl rfl (decide_eq_false (by omega)) ?_
    refine runl_no_g rfl rfl (decide_eq_false (by omega)) ?_
    refine runl_ev (ev_pick rfl rfl rfl (if_neg (by simp <;> omega))) ?_
    refine runl_ev (ev_move rfl) ?_
    refine runl_no_g rfl rfl (rfl) ?_
    refine runl_no_g rfl rfl (rfl) ?_
    refine runl_ev (ev_pick rfl rfl rfl (if_neg (by simp))) ?_
    refine runl_ev (ev_assign rfl) ?_
    refine runl_nil ?_
    refine run_seq ?_
    refine run_region rfl ?_
    refine runl_ev (ev_move rfl) ?_
    refine runl_ev (ev_eqlI rfl rfl) ?_
    refine runl_ev (ev_move rfl) ?_
    refine runl_ev (ev_eqlB Tryd.underlying4 rfl rfl) ?_
    refine runl_ev (ev_move rfl) ?_
    refine runl_ev_g rfl rfl (decide_eq_true (by rw [hsn, hok] <;> first | rfl | (symm; exact decide_eq_false (by omega)) | (symm; exact decide_eq_true (by omega)))) (ev_move rfl) ?_
    refine runl_ev_g rfl rfl (decide_eq_true (by rw [hsn, hok] <;> first | rfl | (symm; exact decide_eq_false (by omega)) | (symm; exact decide_eq_true (by omega)))) (ev_eqlI rfl rfl) ?_
    refine runl_ev_g rfl rfl (decide_eq_true (by rw [hsn, hok] <;> first | rfl | (symm; exact decide_eq_false (by omega)) | (symm; exact decide_eq_true (by omega)))) (ev_move rfl) ?_
    refine runl_ev_g rfl rfl (decide_eq_true (by rw [hsn, hok] <;> first | rfl | (symm; exact decide_eq_false (by omega)) | (symm; exact decide_eq_true (by omega)))) (ev_move rfl) ?_
    refine runl_no_g rfl rfl (rfl) ?_
    refine runl_no_g rfl rfl (rfl) ?_
    refine runl_ev_g rfl rfl (decide_eq_true (by rw [hsn, hok] <;> first | rfl | (symm; exact decide_eq_false (by omega)) | (symm; exact decide_eq_true (by omega)))) (ev_pick rfl rfl rfl (if_neg (by simp))) ?_
    refine runl_ev_g rfl rfl (decide_eq_true (by rw [hsn, hok] <;> first | rfl | (symm; exact decide_eq_false (by omega)) | (symm; exact decide_eq_true (by omega)))) (ev_move rfl) ?_
    refine runl_no_g rfl rfl (rfl) ?_
    refine runl_no_g rfl rfl (rfl) ?_
    refine runl_ev_g rfl rfl (decide_eq_true (by rw [hsn, hok] <;> first | rfl | (symm; exact decide_eq_false (by omega)) | (symm; exact decide_eq_true (by omega)))) (ev_pick rfl rfl rfl (if_neg (by simp))) ?_
    refine runl_ev_g rfl rfl (decide_eq_true (by rw [hsn, hok] <;> first | rfl | (symm; exact decide_eq_false (by omega)) | (symm; exact decide_eq_true (by omega)))) (ev_eqlB Tryd.underlying4 rfl rfl) ?_
    refine runl_ev (ev_pick rfl rfl rfl (if_pos (decide_eq_true (by rw [hsn, hok] <;> first | rfl | (symm; exact decide_eq_false (by omega)) | (symm; exact decide_eq_true (by omega)))))) ?_
    refine runl_ev (ev_move rfl) ?_
    refine runl_ev_g rfl rfl (decide_eq_true (by first | rfl | (symm; exact rfl) | exact rfl)) (ev_move rfl) ?_
    refine runl_ev_g rfl rfl (decide_eq_true (by first | rfl | (symm; exact rfl) | exact rfl)) (ev_eqlI rfl rfl) ?_
    refine runl_ev_g rfl rfl (decide_eq_true (by first | rfl | (symm; exact rfl) | exact rfl)) (ev_move rfl) ?_
    refine runl_ev_g rfl rfl (rfl) (ev_move rfl) ?_
    refine runl_ev_g rfl rfl (rfl) (ev_eqlI rfl rfl) ?_
    refine runl_ev_g rfl rfl (decide_eq_true (by first | rfl | (symm; exact rfl) | exact rfl)) (ev_pick rfl rfl rfl (if_neg (by decide))) ?_
    refine runl_ev (ev_pick rfl rfl rfl (if_pos (decide_eq_true (by first | rfl | (symm; exact rfl) | exact rfl)))) ?_
    refine runl_ev (ev_move rfl) ?_
    refine runl_op_g rfl rfl (rfl) (t_call call_8 rfl (known_any _)) ?_
    rintro _ w68 ⟨rfl, e68⟩
    have z68 := e68.size
    replace e := e.trans e68
    refine runl_ev (ev_pick rfl rfl rfl (if_pos (rfl))) ?_
    refine runl_ev (ev_assign rfl) ?_
    refine runl_nil ?_
    refine run_ret_any Tryd.func4 (res1 Tryd.results4 rfl) ?_
    exact ⟨rfl, e⟩
  · have hok : (verB v && numB ex) = false := by simp [verB, numB]; omega
    have htt : (verB v && (numB ex && verB sn)) = false := by rw [← Bool.and_assoc, hok]; rfl
    obtain rfl : et = 1 := hone htt
    refine run_region rfl ?_
    refine runl_ev (ev_move rfl) ?_
    refine runl_ev (ev_geq rfl rfl) ?_
    refine runl_ev (ev_move rfl) ?_
    refine runl_ev_g rfl rfl (decide_eq_true (by omega)) (ev_move rfl) ?_
    refine runl_ev_g rfl rfl (decide_eq_true (by omega)) (ev_leq rfl rfl) ?_
    refine runl_ev (ev_pick rfl rfl rfl (if_pos (decide_eq_true (by omega)))) ?_
    refine runl_ev (ev_move rfl) ?_
    refine runl_ev_g rfl rfl (decide_eq_true (by omega)) (ev_move rfl) ?_
    refine runl_ev_g rfl rfl (decide_eq_true (by omega)) (ev_geq rfl rfl) ?_
    refine runl_ev (ev_pick rfl rfl rfl (if_pos (decide_eq_true (by omega)))) ?_
    refine runl_ev (ev_move rfl) ?_
    refine runl_no_g rfl rfl (decide_eq_false (by omega)) ?_
    refine runl_no_g rfl rfl (decide_eq_false (by omega)) ?_
    refine runl_ev (ev_pick rfl rfl rfl (if_neg (by simp <;> omega))) ?_
    refine runl_ev (ev_assign rfl) ?_
    refine runl_nil ?_
    refine run_seq ?_
    refine run_region rfl ?_
    refine runl_ev (ev_move rfl) ?_
    refine runl_ev (ev_eqlI rfl rfl) ?_
    refine runl_ev (ev_move rfl) ?_
    refine runl_ev (ev_eqlB Tryd.underlying4 rfl rfl) ?_
    refine runl_ev (ev_move rfl) ?_
    refine runl_ev_g rfl rfl (decide_eq_true (by rw [hsn, hok] <;> first | rfl | (symm; exact decide_eq_false (by omega)) | (symm; exact decide_eq_true (by omega)))) (ev_move rfl) ?_
    refine runl_ev_g rfl rfl (decide_eq_true (by rw [hsn, hok] <;> first | rfl | (symm; exact decide_eq_false (by omega)) | (symm; exact decide_eq_true (by omega)))) (ev_eqlI rfl rfl) ?_
    refine runl_ev_g rfl rfl (decide_eq_true (by rw [hsn, hok] <;> first | rfl | (symm; exact decide_eq_false (by omega)) | (symm; exact decide_eq_true (by omega)))) (ev_move rfl) ?_
    refine runl_ev_g rfl rfl (decide_eq_true (by rw [hsn, hok] <;> first | rfl | (symm; exact decide_eq_false (by omega)) | (symm; exact decide_eq_true (by omega)))) (ev_move rfl) ?_
    refine runl_no_g rfl rfl (rfl) ?_
    refine runl_no_g rfl rfl (rfl) ?_
    refine runl_ev_g rfl rfl (decide_eq_true (by rw [hsn, hok] <;> first | rfl | (symm; exact decide_eq_false (by omega)) | (symm; exact decide_eq_true (by omega)))) (ev_pick rfl rfl rfl (if_neg (by simp))) ?_
    refine runl_ev_g rfl rfl (decide_eq_true (by rw [hsn, hok] <;> first | rfl | (symm; exact decide_eq_false (by omega)) | (symm; exact decide_eq_true (by omega)))) (ev_move rfl) ?_
    refine runl_no_g rfl rfl (rfl) ?_
    refine runl_no_g rfl rfl (rfl) ?_
    refine runl_ev_g rfl rfl (decide_eq_true (by rw [hsn, hok] <;> first | rfl | (symm; exact decide_eq_false (by omega)) | (symm; exact decide_eq_true (by omega)))) (ev_pick rfl rfl rfl (if_neg (by simp))) ?_
    refine runl_ev_g rfl rfl (decide_eq_true (by rw [hsn, hok] <;> first | rfl | (symm; exact decide_eq_false (by omega)) | (symm; exact decide_eq_true (by omega)))) (ev_eqlB Tryd.underlying4 rfl rfl) ?_
    refine runl_ev (ev_pick rfl rfl rfl (if_pos (decide_eq_true (by rw [hsn, hok] <;> first | rfl | (symm; exact decide_eq_false (by omega)) | (symm; exact decide_eq_true (by omega)))))) ?_
    refine runl_ev (ev_move rfl) ?_
    refine runl_ev_g rfl rfl (decide_eq_true (by first | rfl | (symm; exact rfl) | exact rfl)) (ev_move rfl) ?_
    refine runl_ev_g rfl rfl (decide_eq_true (by first | rfl | (symm; exact rfl) | exact rfl)) (ev_eqlI rfl rfl) ?_
    refine runl_ev_g rfl rfl (decide_eq_true (by first | rfl | (symm; exact rfl) | exact rfl)) (ev_move rfl) ?_
    refine runl_ev_g rfl rfl (rfl) (ev_move rfl) ?_
    refine runl_ev_g rfl rfl (rfl) (ev_eqlI rfl rfl) ?_
    refine runl_ev_g rfl rfl (decide_eq_true (by first | rfl | (symm; exact rfl) | exact rfl)) (ev_pick rfl rfl rfl (if_neg (by decide))) ?_
    refine runl_ev (ev_pick rfl rfl rfl (if_pos (decide_eq_true (by first | rfl | (symm; exact rfl) | exact rfl)))) ?_
    refine runl_ev (ev_move rfl) ?_
    refine runl_op_g rfl rfl (rfl) (t_call call_8 rfl (known_any _)) ?_
    rintro _ w68 ⟨rfl, e68⟩
    have z68 := e68.size
    replace e := e.trans e68
    refine runl_ev (ev_pick rfl rfl rfl (if_pos (rfl))) ?_
    refine runl_ev (ev_assign rfl) ?_
    refine runl_nil ?_
    refine run_ret_any Tryd.func4 (res1 Tryd.results4 rfl) ?_
    exact ⟨rfl, e⟩
  · have hok : (verB v && numB ex) = false := by simp [verB, numB]; omega
    have htt : (verB v && (numB ex && verB sn)) = false := by rw [← Bool.and_assoc, hok]; rfl
    obtain rfl : et = 1 := hone htt
    refine run_region rfl ?_
    refine runl_ev (ev_move rfl) ?_
    refine runl_ev (ev_geq rfl rfl) ?_
    refine runl_ev (ev_move rfl) ?_
    refine runl_ev_g rfl rfl (decide_eq_true (by omega)) (ev_move rfl) ?_
    refine runl_ev_g rfl rfl (decide_eq_true (by omega)) (ev_leq rfl rfl) ?_
    refine runl_ev (ev_pick rfl rfl rfl (if_pos (decide_eq_true (by omega)))) ?_
    refine runl_ev (ev_move rfl) ?_
    refine runl_ev_g rfl rfl (decide_eq_true (by omega)) (ev_move rfl) ?_
    refine runl_ev_g rfl rfl (decide_eq_true (by omega)) (ev_geq rfl rfl) ?_
    refine runl_ev (ev_pick rfl rfl rfl (if_pos (decide_eq_true (by omega)))) ?_
    refine runl_ev (ev_move rfl) ?_
    refine runl_ev_g rfl rfl (decide_eq_true (by omega)) (ev_move rfl) ?_
    refine runl_ev_g rfl rfl (decide_eq_true (by omega)) (ev_leq rfl rfl) ?_
    refine runl_ev (ev_pick rfl rfl rfl (if_pos (decide_eq_true (by omega)))) ?_
    refine runl_ev (ev_assign rfl) ?_
    refine runl_nil ?_
    refine run_seq ?_
    refine run_region rfl ?_
    refine runl_ev (ev_move rfl) ?_
    refine runl_ev (ev_eqlI rfl rfl) ?_
    refine runl_ev (ev_move rfl) ?_
    refine runl_ev (ev_eqlB Tryd.underlying4 rfl rfl) ?_
    refine runl_ev (ev_move rfl) ?_
    refine runl_ev_g rfl rfl (decide_eq_true (by rw [hsn, hok] <;> first | rfl | (symm; exact decide_eq_false (by omega)) | (symm; exact decide_eq_true (by omega)))) (ev_move rfl) ?_
    refine runl_ev_g rfl rfl (decide_eq_true (by rw [hsn, hok] <;> first | rfl | (symm; exact decide_eq_false (by omega)) | (symm; exact decide_eq_true (by omega)))) (ev_eqlI rfl rfl) ?_
    refine runl_ev_g rfl rfl (decide_eq_true (by rw [hsn, hok] <;> first | rfl | (symm; exact decide_eq_false (by omega)) | (symm; exact decide_eq_true (by omega)))) (ev_move rfl) ?_
    refine runl_ev_g rfl rfl (decide_eq_true (by rw [hsn, hok] <;> first | rfl | (symm; exact decide_eq_false (by omega)) | (symm; exact decide_eq_true (by omega)))) (ev_move rfl) ?_
    refine runl_no_g rfl rfl (decide_eq_false (by omega)) ?_
    refine runl_no_g rfl rfl (decide_eq_false (by omega)) ?_
    refine runl_ev_g rfl rfl (decide_eq_true (by rw [hsn, hok] <;> first | rfl | (symm; exact decide_eq_false (by omega)) | (symm; exact decide_eq_true (by omega)))) (ev_pick rfl rfl rfl (if_neg (by simp <;> omega))) ?_
    refine runl_ev_g rfl rfl (decide_eq_true (by rw [hsn, hok] <;> first | rfl | (symm; exact decide_eq_false (by omega)) | (symm; exact decide_eq_true (by omega)))) (ev_move rfl) ?_
    refine runl_no_g rfl rfl (rfl) ?_
    refine runl_no_g rfl rfl (rfl) ?_
    refine runl_ev_g rfl rfl (decide_eq_true (by rw [hsn, hok] <;> first | rfl | (symm; exact decide_eq_false (by omega)) | (symm; exact decide_eq_true (by omega)))) (ev_pick rfl rfl rfl (if_neg (by simp))) ?_
    refine runl_ev_g rfl rfl (decide_eq_true (by rw [hsn, hok] <;> first | rfl | (symm; exact decide_eq_false (by omega)) | (symm; exact decide_eq_true (by omega)))) (ev_eqlB Tryd.underlying4 rfl rfl) ?_
    refine runl_ev (ev_pick rfl rfl rfl (if_pos (decide_eq_true (by rw [hsn, hok] <;> first | rfl | (symm; exact decide_eq_false (by omega)) | (symm; exact decide_eq_true (by omega)))))) ?_
    refine runl_ev (ev_move rfl) ?_
    refine runl_ev_g rfl rfl (decide_eq_true (by first | rfl | (symm; exact rfl) | exact rfl)) (ev_move rfl) ?_
    refine runl_ev_g rfl rfl (decide_eq_true (by first | rfl | (symm; exact rfl) | exact rfl)) (ev_eqlI rfl rfl) ?_
    refine runl_ev_g rfl rfl (decide_eq_true (by first | rfl | (symm; exact rfl) | exact rfl)) (ev_move rfl) ?_
    refine runl_ev_g rfl rfl (rfl) (ev_move rfl) ?_
    refine runl_ev_g rfl rfl (rfl) (ev_eqlI rfl rfl) ?_
    refine runl_ev_g rfl rfl (decide_eq_true (by first | rfl | (symm; exact rfl) | exact rfl)) (ev_pick rfl rfl rfl (if_neg (by decide))) ?_
    refine runl_ev (ev_pick rfl rfl rfl (if_pos (decide_eq_true (by first | rfl | (symm; exact rfl) | exact rfl)))) ?_
    refine runl_ev (ev_move rfl) ?_
    refine runl_op_g rfl rfl (rfl) (t_call call_8 rfl (known_any _)) ?_
    rintro _ w68 ⟨rfl, e68⟩
    have z68 := e68.size
    replace e := e.trans e68
    refine runl_ev (ev_pick rfl rfl rfl (if_pos (rfl))) ?_
    refine runl_ev (ev_assign rfl) ?_
    refine runl_nil ?_
    refine run_ret_any Tryd.func4 (res1 Tryd.results4 rfl) ?_
    exact ⟨rfl, e⟩
  · have hok : (verB v && numB ex) = true := by simp [verB, numB]; omega
    have htt : (verB v && (numB ex && verB sn)) = false := by rw [← Bool.and_assoc, hok]; simp [verB]; omega
    obtain rfl : et = 1 := hone htt
    refine run_region rfl ?_
    refine runl_ev (ev_move rfl) ?_
    refine runl_ev (ev_geq rfl rfl) ?_
    refine runl_ev (ev_move rfl) ?_
    refine runl_ev_g rfl rfl (decide_eq_true (by omega)) (ev_move rfl) ?_
    refine runl_ev_g rfl rfl (decide_eq_true (by omega)) (ev_leq rfl rfl) ?_
    refine runl_ev (ev_pick rfl rfl rfl (if_pos (decide_eq_true (by omega)))) ?_
    refine runl_ev (ev_move rfl) ?_
    refine runl_ev_g rfl rfl (decide_eq_true (by omega)) (ev_move rfl) ?_
    refine runl_ev_g rfl rfl (decide_eq_true (by omega)) (ev_geq rfl rfl) ?_
    refine runl_ev (ev_pick rfl rfl rfl (if_pos (decide_eq_true (by omega)))) ?_
    refine runl_ev (ev_move rfl) ?_
    refine runl_ev_g rfl rfl (decide_eq_true (by omega)) (ev_move rfl) ?_
    refine runl_ev_g rfl rfl (decide_eq_true (by omega)) (ev_leq rfl rfl) ?_
    refine runl_ev (ev_pick rfl rfl rfl (if_pos (decide_eq_true (by omega)))) ?_
    refine runl_ev (ev_assign rfl) ?_
    refine runl_nil ?_
    refine run_seq ?_
    refine run_region rfl ?_
    refine runl_ev (ev_move rfl) ?_
    refine runl_ev (ev_eqlI rfl rfl) ?_
    refine runl_ev (ev_move rfl) ?_
    refine runl_ev (ev_eqlB Tryd.underlying4 rfl rfl) ?_
    refine runl_ev (ev_move rfl) ?_
    refine runl_ev_g rfl rfl (decide_eq_true (by rw [hsn, hok] <;> first | rfl | (symm; exact decide_eq_false (by omega)) | (symm; exact decide_eq_true (by omega)))) (ev_move rfl) ?_
    refine runl_ev_g rfl rfl (decide_eq_true (by rw [hsn, hok] <;> first | rfl | (symm; exact decide_eq_false (by omega)) | (symm; exact decide_eq_true (by omega)))) (ev_eqlI rfl rfl) ?_
    refine runl_ev_g rfl rfl (decide_eq_true (by rw [hsn, hok] <;> first | rfl | (symm; exact decide_eq_false (by omega)) | (symm; exact decide_eq_true (by omega)))) (ev_move rfl) ?_
    refine runl_ev_g rfl rfl (decide_eq_true (by rw [hsn, hok] <;> first | rfl | (symm; exact decide_eq_false (by omega)) | (symm; exact decide_eq_true (by omega)))) (ev_move rfl) ?_
    refine runl_ev_g rfl rfl (decide_eq_true (by omega)) (ev_move rfl) ?_
    refine runl_ev_g rfl rfl (decide_eq_true (by omega)) (ev_geq rfl rfl) ?_
    refine runl_ev_g rfl rfl (decide_eq_true (by rw [hsn, hok] <;> first | rfl | (symm; exact decide_eq_false (by omega)) | (symm; exact decide_eq_true (by omega)))) (ev_pick rfl rfl rfl (if_pos (decide_eq_true (by omega)))) ?_
    refine runl_ev_g rfl rfl (decide_eq_true (by rw [hsn, hok] <;> first | rfl | (symm; exact decide_eq_false (by omega)) | (symm; exact decide_eq_true (by omega)))) (ev_move rfl) ?_
    refine runl_no_g rfl rfl (decide_eq_false (by omega)) ?_
    refine runl_no_g rfl rfl (decide_eq_false (by omega)) ?_
    refine runl_ev_g rfl rfl (decide_eq_true (by rw [hsn, hok] <;> first | rfl | (symm; exact decide_eq_false (by omega)) | (symm; exact decide_eq_true (by omega)))) (ev_pick rfl rfl rfl (if_neg (by simp <;> omega))) ?_
    refine runl_ev_g rfl rfl (decide_eq_true (by rw [hsn, hok] <;> first | rfl | (symm; exact decide_eq_false (by omega)) | (symm; exact decide_eq_true (by omega)))) (ev_eqlB Tryd.underlying4 rfl rfl) ?_
    refine runl_ev (ev_pick rfl rfl rfl (if_pos (decide_eq_true (by rw [hsn, hok] <;> first | rfl | (symm; exact decide_eq_false (by omega)) | (symm; exact decide_eq_true (by omega)))))) ?_
    refine runl_ev (ev_move rfl) ?_
    refine runl_ev_g rfl rfl (decide_eq_true (by first | rfl | (symm; exact rfl) | exact rfl)) (ev_move rfl) ?_
    refine runl_ev_g rfl rfl (decide_eq_true (by first | rfl | (symm; exact rfl) | exact rfl)) (ev_eqlI rfl rfl) ?_
    refine runl_ev_g rfl rfl (decide_eq_true (by first | rfl | (symm; exact rfl) | exact rfl)) (ev_move rfl) ?_
    refine runl_ev_g rfl rfl (rfl) (ev_move rfl) ?_
    refine runl_ev_g rfl rfl (rfl) (ev_eqlI rfl rfl) ?_
    refine runl_ev_g rfl rfl (decide_eq_true (by first | rfl | (symm; exact rfl) | exact rfl)) (ev_pick rfl rfl rfl (if_neg (by decide))) ?_
    refine runl_ev (ev_pick rfl rfl rfl (if_pos (decide_eq_true (by first | rfl | (symm; exact rfl) | exact rfl)))) ?_
    refine runl_ev (ev_move rfl) ?_
    refine runl_op_g rfl rfl (rfl) (t_call call_8 rfl (known_any _)) ?_
    rintro _ w68 ⟨rfl, e68⟩
    have z68 := e68.size
    replace e := e.trans e68
    refine runl_ev (ev_pick rfl rfl rfl (if_pos (rfl))) ?_
    refine runl_ev (ev_assign rfl) ?_
    refine runl_nil ?_
    refine run_ret_any Tryd.func4 (res1 Tryd.results4 rfl) ?_
    exact ⟨rfl, e⟩
  · have hok : (verB v && numB ex) = true := by simp [verB, numB]; omega
    have htt : (verB v && (numB ex && verB sn)) = false := by rw [← Bool.and_assoc, hok]; simp [verB]; omega
    obtain rfl : et = 1 := hone htt
    refine run_region rfl ?_
    refine runl_ev (ev_move rfl) ?_
    refine runl_ev (ev_geq rfl rfl) ?_
    refine runl_ev (ev_move rfl) ?_
    refine runl_ev_g rfl rfl (decide_eq_true (by omega)) (ev_move rfl) ?_
    refine runl_ev_g rfl rfl (decide_eq_true (by omega)) (ev_leq rfl rfl) ?_
    refine runl_ev (ev_pick rfl rfl rfl (if_pos (decide_eq_true (by omega)))) ?_
    refine runl_ev (ev_move rfl) ?_
    refine runl_ev_g rfl rfl (decide_eq_true (by omega)) (ev_move rfl) ?_
    refine runl_ev_g rfl rfl (decide_eq_true (by omega)) (ev_geq rfl rfl) ?_
    refine runl_ev (ev_pick rfl rfl rfl (if_pos (decide_eq_true (by omega)))) ?_
    refine runl_ev (ev_move rfl) ?_
    refine runl_ev_g rfl rfl (decide_eq_true (by omega)) (ev_move rfl) ?_
    refine runl_ev_g rfl rfl (decide_eq_true (by omega)) (ev_leq rfl rfl) ?_
    refine runl_ev (ev_pick rfl rfl rfl (if_pos (decide_eq_true (by omega)))) ?_
    refine runl_ev (ev_assign rfl) ?_
    refine runl_nil ?_
    refine run_seq ?_
    refine run_region rfl ?_
    refine runl_ev (ev_move rfl) ?_
    refine runl_ev (ev_eqlI rfl rfl) ?_
    refine runl_ev (ev_move rfl) ?_
    refine runl_ev (ev_eqlB Tryd.underlying4 rfl rfl) ?_
    refine runl_ev (ev_move rfl) ?_
    refine runl_ev_g rfl rfl (decide_eq_true (by rw [hsn, hok] <;> first | rfl | (symm; exact decide_eq_false (by omega)) | (symm; exact decide_eq_true (by omega)))) (ev_move rfl) ?_
    refine runl_ev_g rfl rfl (decide_eq_true (by rw [hsn, hok] <;> first | rfl | (symm; exact decide_eq_false (by omega)) | (symm; exact decide_eq_true (by omega)))) (ev_eqlI rfl rfl) ?_
    refine runl_ev_g rfl rfl (decide_eq_true (by rw [hsn, hok] <;> first | rfl | (symm; exact decide_eq_false (by omega)) | (symm; exact decide_eq_true (by omega)))) (ev_move rfl) ?_
    refine runl_ev_g rfl rfl (decide_eq_true (by rw [hsn, hok] <;> first | rfl | (symm; exact decide_eq_false (by omega)) | (symm; exact decide_eq_true (by omega)))) (ev_move rfl) ?_
    refine runl_ev_g rfl rfl (decide_eq_true (by omega)) (ev_move rfl) ?_
    refine runl_ev_g rfl rfl (decide_eq_true (by omega)) (ev_geq rfl rfl) ?_
    refine runl_ev_g rfl rfl (decide_eq_true (by rw [hsn, hok] <;> first | rfl | (symm; exact decide_eq_false (by omega)) | (symm; exact decide_eq_true (by omega)))) (ev_pick rfl rfl rfl (if_pos (decide_eq_true (by omega)))) ?_
    refine runl_ev_g rfl rfl (decide_eq_true (by rw [hsn, hok] <;> first | rfl | (symm; exact decide_eq_false (by omega)) | (symm; exact decide_eq_true (by omega)))) (ev_move rfl) ?_
    refine runl_ev_g rfl rfl (decide_eq_true (by omega)) (ev_move rfl) ?_
    refine runl_ev_g rfl rfl (decide_eq_true (by omega)) (ev_leq rfl rfl) ?_
    refine runl_ev_g rfl rfl (decide_eq_true (by rw [hsn, hok] <;> first | rfl | (symm; exact decide_eq_false (by omega)) | (symm; exact decide_eq_true (by omega)))) (ev_pick rfl rfl rfl (if_pos (decide_eq_true (by omega)))) ?_
    refine runl_ev_g rfl rfl (decide_eq_true (by rw [hsn, hok] <;> first | rfl | (symm; exact decide_eq_false (by omega)) | (symm; exact decide_eq_true (by omega)))) (ev_eqlB Tryd.underlying4 rfl rfl) ?_
    refine runl_ev (ev_pick rfl rfl rfl (if_pos (decide_eq_true (by rw [hsn, hok] <;> first | rfl | (symm; exact decide_eq_false (by omega)) | (symm; exact decide_eq_true (by omega)))))) ?_
    refine runl_ev (ev_move rfl) ?_
    refine runl_ev_g rfl rfl (decide_eq_true (by first | rfl | (symm; exact decide_eq_false (by omega)) | exact decide_eq_false (by omega))) (ev_move rfl) ?_
    refine runl_ev_g rfl rfl (decide_eq_true (by first | rfl | (symm; exact decide_eq_false (by omega)) | exact decide_eq_false (by omega))) (ev_eqlI rfl rfl) ?_
    refine runl_ev_g rfl rfl (decide_eq_true (by first | rfl | (symm; exact decide_eq_false (by omega)) | exact decide_eq_false (by omega))) (ev_move rfl) ?_
    refine runl_ev_g rfl rfl (rfl) (ev_move rfl) ?_
    refine runl_ev_g rfl rfl (rfl) (ev_eqlI rfl rfl) ?_
    refine runl_ev_g rfl rfl (decide_eq_true (by first | rfl | (symm; exact decide_eq_false (by omega)) | exact decide_eq_false (by omega))) (ev_pick rfl rfl rfl (if_neg (by decide))) ?_
    refine runl_ev (ev_pick rfl rfl rfl (if_pos (decide_eq_true (by first | rfl | (symm; exact decide_eq_false (by omega)) | exact decide_eq_false (by omega))))) ?_
    refine runl_ev (ev_move rfl) ?_
    refine runl_op_g rfl rfl (rfl) (t_call call_8 rfl (known_any _)) ?_
    rintro _ w68 ⟨rfl, e68⟩
    have z68 := e68.size
    replace e := e.trans e68
    refine runl_ev (ev_pick rfl rfl rfl (if_pos (rfl))) ?_
    refine runl_ev (ev_assign rfl) ?_
    refine runl_nil ?_
    refine run_ret_any Tryd.func4 (res1 Tryd.results4 rfl) ?_
    exact ⟨rfl, e⟩
  · have hok : (verB v && numB ex) = true := by simp [verB, numB]; omega
    have htt : (verB v && (numB ex && verB sn)) = true := by rw [← Bool.and_assoc, hok]; simp [verB]; omega
    obtain rfl : et = 0 := by rw [htt] at htm; exact of_decide_eq_true htm
    refine run_region rfl ?_
    refine runl_ev (ev_move rfl) ?_
    refine runl_ev (ev_geq rfl rfl) ?_
    refine runl_ev (ev_move rfl) ?_
    refine runl_ev_g rfl rfl (decide_eq_true (by omega)) (ev_move rfl) ?_
    refine runl_ev_g rfl rfl (decide_eq_true (by omega)) (ev_leq rfl rfl) ?_
    refine runl_ev (ev_pick rfl rfl rfl (if_pos (decide_eq_true (by omega)))) ?_
    refine runl_ev (ev_move rfl) ?_
    refine runl_ev_g rfl rfl (decide_eq_true (by omega)) (ev_move rfl) ?_
    refine runl_ev_g rfl rfl (decide_eq_true (by omega)) (ev_geq rfl rfl) ?_
    refine runl_ev (ev_pick rfl rfl rfl (if_pos (decide_eq_true (by omega)))) ?_
    refine runl_ev (ev_move rfl) ?_
    refine runl_ev_g rfl rfl (decide_eq_true (by omega)) (ev_move rfl) ?_
    refine runl_ev_g rfl rfl (decide_eq_true (by omega)) (ev_leq rfl rfl) ?_
    refine runl_ev (ev_pick rfl rfl rfl (if_pos (decide_eq_true (by omega)))) ?_
    refine runl_ev (ev_assign rfl) ?_
    refine runl_nil ?_
    refine run_seq ?_
    refine run_region rfl ?_
    refine runl_ev (ev_move rfl) ?_
    refine runl_ev (ev_eqlI rfl rfl) ?_
    refine runl_ev (ev_move rfl) ?_
    refine runl_ev (ev_eqlB Tryd.underlying4 rfl rfl) ?_
    refine runl_ev (ev_move rfl) ?_
    refine runl_ev_g rfl rfl (decide_eq_true (by rw [hsn, hok] <;> first | rfl | (symm; exact decide_eq_false (by omega)) | (symm; exact decide_eq_true (by omega)))) (ev_move rfl) ?_
    refine runl_ev_g rfl rfl (decide_eq_true (by rw [hsn, hok] <;> first | rfl | (symm; exact decide_eq_false (by omega)) | (symm; exact decide_eq_true (by omega)))) (ev_eqlI rfl rfl) ?_
    refine runl_ev_g rfl rfl (decide_eq_true (by rw [hsn, hok] <;> first | rfl | (symm; exact decide_eq_false (by omega)) | (symm; exact decide_eq_true (by omega)))) (ev_move rfl) ?_
    refine runl_ev_g rfl rfl (decide_eq_true (by rw [hsn, hok] <;> first | rfl | (symm; exact decide_eq_false (by omega)) | (symm; exact decide_eq_true (by omega)))) (ev_move rfl) ?_
    refine runl_ev_g rfl rfl (decide_eq_true (by omega)) (ev_move rfl) ?_
    refine runl_ev_g rfl rfl (decide_eq_true (by omega)) (ev_geq rfl rfl) ?_
    refine runl_ev_g rfl rfl (decide_eq_true (by rw [hsn, hok] <;> first | rfl | (symm; exact decide_eq_false (by omega)) | (symm; exact decide_eq_true (by omega)))) (ev_pick rfl rfl rfl (if_pos (decide_eq_true (by omega)))) ?_
    refine runl_ev_g rfl rfl (decide_eq_true (by rw [hsn, hok] <;> first | rfl | (symm; exact decide_eq_false (by omega)) | (symm; exact decide_eq_true (by omega)))) (ev_move rfl) ?_
    refine runl_ev_g rfl rfl (decide_eq_true (by omega)) (ev_move rfl) ?_
    refine runl_ev_g rfl rfl (decide_eq_true (by omega)) (ev_leq rfl rfl) ?_
    refine runl_ev_g rfl rfl (decide_eq_true (by rw [hsn, hok] <;> first | rfl | (symm; exact decide_eq_false (by omega)) | (symm; exact decide_eq_true (by omega)))) (ev_pick rfl rfl rfl (if_pos (decide_eq_true (by omega)))) ?_
    refine runl_ev_g rfl rfl (decide_eq_true (by rw [hsn, hok] <;> first | rfl | (symm; exact decide_eq_false (by omega)) | (symm; exact decide_eq_true (by omega)))) (ev_eqlB Tryd.underlying4 rfl rfl) ?_
    refine runl_ev (ev_pick rfl rfl rfl (if_pos (decide_eq_true (by rw [hsn, hok] <;> first | rfl | (symm; exact decide_eq_false (by omega)) | (symm; exact decide_eq_true (by omega)))))) ?_
    refine runl_ev (ev_move rfl) ?_
    refine runl_ev_g rfl rfl (decide_eq_true (by first | rfl | (symm; exact decide_eq_true (by omega)) | exact decide_eq_true (by omega))) (ev_move rfl) ?_
    refine runl_ev_g rfl rfl (decide_eq_true (by first | rfl | (symm; exact decide_eq_true (by omega)) | exact decide_eq_true (by omega))) (ev_eqlI rfl rfl) ?_
    refine runl_ev_g rfl rfl (decide_eq_true (by first | rfl | (symm; exact decide_eq_true (by omega)) | exact decide_eq_true (by omega))) (ev_move rfl) ?_
    refine runl_no_g rfl rfl (rfl) ?_
    refine runl_no_g rfl rfl (rfl) ?_
    refine runl_ev_g rfl rfl (decide_eq_true (by first | rfl | (symm; exact decide_eq_true (by omega)) | exact decide_eq_true (by omega))) (ev_pick rfl rfl rfl (if_pos (rfl))) ?_
    refine runl_ev (ev_pick rfl rfl rfl (if_pos (decide_eq_true (by first | rfl | (symm; exact decide_eq_true (by omega)) | exact decide_eq_true (by omega))))) ?_
    refine runl_ev (ev_move rfl) ?_
    refine runl_op_g rfl rfl (rfl) (t_call call_8 rfl (known_any _)) ?_
    rintro _ w68 ⟨rfl, e68⟩
    have z68 := e68.size
    replace e := e.trans e68
    refine runl_ev (ev_pick rfl rfl rfl (if_pos (rfl))) ?_
    refine runl_ev (ev_assign rfl) ?_
    refine runl_nil ?_
    refine run_ret_any Tryd.func4 (res1 Tryd.results4 rfl) ?_
    exact ⟨rfl, e⟩
end Go.Proofs.YtcmbiaibocdfeaaDoor
