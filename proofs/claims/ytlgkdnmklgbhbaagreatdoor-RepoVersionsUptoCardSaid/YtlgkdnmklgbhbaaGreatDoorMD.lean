/- The walks of what encodes snapshots, and of the law on bounds. -/
import Derived.Test.YtlgkdnmklgbhbaaGreatDoorMB
import Derived.Test.YtlgkdnmklgbhbaaGreatDoorMC
import Derived.Test.YtlgkdnmklgbhbaaGreatDoorMA
namespace Go.Proofs.YtlgkdnmklgbhbaaGreatDoor
open Go Go.Fw
set_option maxRecDepth 100000

theorem wtext_any {l : List UInt8} {w0 w : World} {wb : Nat} {g : Int} {v : Value} {T : TypeId} (st : WSt T 5 w0 w wb g v l) (s : ByteArray) (hb : l.length + (encText s).length ≤ 1099511627776) : Ret Tryz.prog 91 [.pointer (some ⟨wb, 0, none⟩), .string s] w (WP T 5 w0 w wb g l (encText s)) := by
  have e := ExtB.refl (fun _ => False) w
  have lwb := lt_of_at st.hw
  have hgl := st.hgl
  refine ret_of_run Tryz.func91 rfl Tryz.ntmps91 rfl ?_
  refine run_region rfl ?_
  refine runl_ev (ev_move rfl) ?_
  refine runl_ev (ev_nilCheck rfl) ?_
  refine runl_ev (ev_fieldAddr fld_175_0 rfl) ?_
  refine runl_ev (ev_move rfl) ?_
  refine runl_op (t_convSB Tryz.underlying9 Tryz.underlying29 Tryz.underlying5 rfl) ?_
  rintro _ w8 ⟨b8, c8, rfl, hc8, sl8, e8, n8, l8⟩
  have z8 := e8.size
  replace e := e.trans e8
  have E8 := e8
  refine runl_op (t_buildSlice (out := [.slice (some ⟨b8, 0, none⟩) (tb s).length c8]) Tryz.underlying274 sz_29 zero_29 rfl rfl (by decide) (by decide) rfl (rfl)) ?_
  rintro _ w9 ⟨b9, rfl, hb9, e9, n9, l9⟩
  have z9 := e9.size
  replace e := e.trans e9
  refine runl_op (t_call call_163 rfl (wbytes_any (st.up e) (tb s) _ _ _ _ _ _ _ hb9 ⟨by omega, by omega⟩ (fun w1 e1 => (sl8.ext RByte.stable e9).keep rbyte_any e1 (fun b o ha hm => by cases ha; rcases hm with hm | hm <;> omega)) hb)) ?_
  rintro _ w10 ⟨rfl, v10, g10, p10⟩
  have q10 := p10.from e
  have z10 := q10.extB.size
  refine runl_nil ?_
  refine run_end_any Tryz.func91 (res0 Tryz.results91) ?_
  exact ⟨rfl, v10, g10, q10⟩
theorem wpin_any {l : List UInt8} {w0 w : World} {wb : Nat} {g : Int} {v : Value} {T : TypeId} (st : WSt T 5 w0 w wb g v l) (p : PinP) (cs : List Value) (hp : RPin w0 p cs) (hb : l.length + (encPin p).length ≤ 1099511627776) : Ret Tryz.prog 100 [.pointer (some ⟨wb, 0, none⟩), .agg ⟨cs⟩] w (WP T 5 w0 w wb g l (encPin p)) := by
  have e := ExtB.refl (fun _ => False) w
  have lwb := lt_of_at st.hw
  have hgl := st.hgl
  obtain rfl := hp
  unfold encPin at hb ⊢
  rw [List.length_append] at hb
  refine ret_of_run Tryz.func100 rfl Tryz.ntmps100 rfl ?_
  refine run_seq ?_
  refine run_region rfl ?_
  refine runl_op (t_boxA rfl) ?_
  rintro _ w3 ⟨b3, rfl, hb3, e3, n3, l3⟩
  have z3 := e3.size
  replace e := e.trans e3
  refine runl_nil ?_
  refine run_seq ?_
  refine run_region rfl ?_
  refine runl_ev (ev_move rfl) ?_
  refine runl_ev (ev_fieldAddr fld_52_0 rfl) ?_
  refine runl_ev (ev_load1 cell_9 rfl (eqw (cell_blk hb3 rfl))) ?_
  refine runl_op (t_call call_91 rfl (wtext_any (st.up e) p.name (by omega))) ?_
  rintro _ w7 ⟨rfl, v7, g7, p7⟩
  have q7 := p7.from e
  have z7 := q7.extB.size
  replace hb3 := p7.extB.at hb3 (fun h => by rcases h with h | h <;> omega)
  clear e
  have e := ExtB.refl (fun _ => False) w7
  have hgl7 := q7.st.hgl
  have lwb7 := lt_of_at q7.st.hw
  refine runl_nil ?_
  refine run_draw mo (fun w' => Ext w7 w') [6] [(true, 0), (true, 1), (true, 2), (true, 3), (true, 4), (false, 5), (false, 6)] (by kernel_rfl) ?_
  intro wr2 er2
  have zr2 := er2.size
  have hsr2 := er2
  have ep := e.trans er2
  have hb3p := er2.at hb3
  refine rund_ev hsr2 rfl (ev_move rfl) ?_
  refine rund_ev hsr2 rfl (ev_nilCheck rfl) ?_
  refine rund_ev hsr2 rfl (ev_fieldAddr fld_175_0 rfl) ?_
  refine rund_ev hsr2 rfl (ev_fieldAddr fld_52_1 rfl) ?_
  refine rund_ev hsr2 rfl (ev_load1 cell_3 rfl (fun wz hz => cell_blk (hz.at hb3) rfl)) ?_
  refine rund_op rfl (t_buildSlice (out := [.int .i64 p.ver]) Tryz.underlying248 sz_3 zero_3 rfl rfl (by decide) (by decide) rfl (rfl)) ?_
  rintro _ w13 ⟨b13, rfl, hb13, e13, n13, l13⟩
  have z13 := e13.size
  replace ep := ep.trans e13
  replace hb3p := e13.at hb3p
  have hs13 := hsr2.trans e13
  refine ⟨hs13, ?_⟩
  have hb13p := hb13
  refine rund_opT rfl rfl (t_call call_92 rfl (wnums_any (q7.st.up ep) [p.ver] _ _ _ (sl_lit (l := [p.ver]) (R := RInt) hb13p (pc rfl pn)) (fun b o h => by cases h; exact ⟨by omega, by omega⟩) (by simp) (by rw [encNs_one]; simp only [List.length_append]; omega))) ?_
  rintro _ w14 ⟨rfl, v14, g14, p14⟩
  rw [encNs_one] at p14
  have q14 := q7.trans st.hgl (p14.from ep)
  have z14 := q14.extB.size
  refine rund_nil ?_
  refine run_end_any Tryz.func100 (res0 Tryz.results100) ?_
  exact ⟨rfl, v14, g14, q14⟩
theorem wrowsP_any {l : List UInt8} {w0 w : World} {wb : Nat} {g : Int} {v : Value} {T : TypeId} (st : WSt T 5 w0 w wb g v l) (xs : List PinP) (a : Option Addr) (n c : Nat) (hs : SlAt 2 RPin w0 (.slice a n c) xs) (hxl : xs.length ≤ 1099511627776) (hb : l.length + (encN xs.length ++ xs.flatMap encPin).length ≤ 1099511627776) :
    Ret Tryz.prog 99 [.pointer (some ⟨wb, 0, none⟩), .func (.func 100) #[] #[], .slice a n c] w (WP T 5 w0 w wb g l (encN xs.length ++ xs.flatMap encPin)) := by
  have e := ExtB.refl (fun _ => False) w
  have lwb := lt_of_at st.hw
  have hgl := st.hgl
  have hs0 := hs
  obtain ⟨rfl, hat⟩ := hs.at
  rw [List.length_append] at hb
  refine ret_of_run Tryz.func99 rfl Tryz.ntmps99 rfl ?_
  refine run_seq ?_
  refine run_region rfl ?_
  refine runl_ev (ev_move rfl) ?_
  refine runl_ev (ev_nilCheck rfl) ?_
  refine runl_ev (ev_fieldAddr fld_175_0 rfl) ?_
  refine runl_ev (ev_move rfl) ?_
  refine runl_ev (ev_lenL sl_40 rfl) ?_
  refine runl_op (t_buildSlice (out := [.int .i64 (xs.length : Int)]) Tryz.underlying248 sz_3 zero_3 rfl rfl (by decide) (by decide) rfl (rfl)) ?_
  rintro _ w13 ⟨b13, rfl, hb13, e13, n13, l13⟩
  have z13 := e13.size
  replace e := e.trans e13
  refine runl_op (t_call call_92 rfl (wnums_any (st.up e) [(xs.length : Int)] _ _ _ (sl_lit (l := [(xs.length : Int)]) (R := RInt) hb13 (pc rfl pn)) (fun b o h => by cases h; exact ⟨by omega, by omega⟩) (by simp) (by rw [encNs_one]; omega))) ?_
  rintro _ w14 ⟨rfl, v14, g14, p14⟩
  have q14 := p14.from e
  rw [encNs_one] at q14
  have z14 := q14.extB.size
  refine runl_nil ?_
  refine run_seq ?_
  refine run_region rfl ?_
  refine runl_ev (ev_move rfl) ?_
  refine runl_ev (ev_lenL sl_40 rfl) ?_
  refine runl_ev (ev_move rfl) ?_
  refine runl_nil ?_
  refine run_block ?_
  refine run_loop (ι := Nat × Value × Int) (fun x => [(0, .pointer (some ⟨wb, 0, none⟩)), (1, .func (.func 100) #[] #[]), (15, .slice a xs.length c), (16, .int .i64 (xs.length : Int)), (17, .int .i64 (x.1 : Int))]) (fun x w' => x.1 ≤ xs.length ∧ WPost T 5 w0 w wb g l (encN xs.length ++ (xs.take x.1).flatMap encPin) x.2.1 x.2.2 w') (fun x => xs.length - x.1) ((0, v14, g14)) ⟨rfl, rfl, rfl, rfl, rfl, trivial⟩ (⟨Nat.zero_le _, by simpa using q14⟩) ?_
  clear q14 p14 e
  intro ⟨k, v1, g1⟩ w1 ⟨hk, po⟩ IH
  simp only at hk po
  have e := ExtB.refl (fun _ => False) w1
  have lwb1 := lt_of_at po.st.hw
  have hgl1 := po.st.hgl
  have hpz := po.extB.size
  refine run_seq ?_
  refine run_region rfl ?_
  refine runl_ev (ev_lss rfl rfl) ?_
  refine runl_nil ?_
  refine run_seq ?_
  refine run_dcond rfl (fun h0 => ?_) (fun h0 => ?_)
  · have hk1 : k < xs.length := by omega
    obtain ⟨b1, o1, cs1, rfl, hr1, hc1⟩ := hat k hk1
    have hcl1 := rpin_len _ _ _ hr1
    have hone1 := rpin_one _ _ hr1
    have htk := flat_take (f := encPin) hk1
    have htl := flat_take_le (f := encPin) (l := xs) (k + 1)
    rw [htk, List.length_append] at htl
    have htl0 : (l ++ (encN (xs.length : Int) ++ (xs.take k).flatMap encPin)).length = l.length + (encN (xs.length : Int)).length + ((xs.take k).flatMap encPin).length := by simp only [List.length_append]; omega
    refine run_skip ?_
    refine run_seq ?_
    refine run_block ?_
    refine run_seq ?_
    refine run_region rfl ?_
    refine runl_ev (ev_indexAddr el_40 rfl rfl (by omega)) ?_
    refine runl_ev (ev_loadA agg_52 hcl1 rfl (eqw (hc1.ext (po.st.ext.trans e)))) ?_
    refine runl_op (t_alloc zero_52 rfl) ?_
    rintro _ w7 ⟨b7, rfl, hb7, e7, n7, l7⟩
    have z7 := e7.size
    replace e := e.trans e7
    refine runl_do (t_storeW sz_52 rfl rfl hcl1 rfl hb7 (hone1)) ?_
    rintro _ v3_3 ⟨hq3_3, e3_3, z3_3⟩
    replace e := e.new1 e3_3 (by omega)
    replace hb7 := hq3_3
    clear hq3_3
    refine runl_nil ?_
    refine run_region rfl ?_
    refine runl_ev (ev_move rfl) ?_
    refine runl_ev (ev_move rfl) ?_
    refine runl_ev (ev_loadA agg_52 hcl1 rfl (eqw (cells_all hb7))) ?_
    refine runl_op (t_callv call_100 rfl rfl (wpin_any (po.st.up e) xs[k] cs1 hr1 (by omega))) ?_
    rintro _ w24 ⟨rfl, v24, g24, p24⟩
    have q24 := po.trans hgl (p24.from e)
    have z24 := q24.extB.size
    refine runl_nil ?_
    refine run_inBlock ?_
    refine run_region rfl ?_
    refine runl_ev (ev_add rfl rfl (by omega) (by omega)) ?_
    refine runl_ev (ev_move rfl) ?_
    refine runl_nil ?_
    refine IH (k + 1, v24, g24) _ _ (by simp only; omega) ⟨rfl, rfl, rfl, rfl, rfl, trivial⟩ ⟨hk1, ?_⟩
    simp only
    rw [htk, ← List.append_assoc]
    exact q24
  · obtain rfl : k = xs.length := by omega
    rw [List.take_length] at po
    refine run_exit rfl ?_
    refine run_end_any Tryz.func99 (res0 Tryz.results99) ?_
    exact ⟨rfl, v1, g1, po⟩
theorem encsnap1_any {l : List UInt8} {w0 w : World} {wb : Nat} {g : Int} {v : Value} {T : TypeId} (st : WSt T 5 w0 w wb g v l) (x : SnapP) (cs : List Value) (xb : Nat) (hx : w0.heap[xb]? = some (.cells ⟨cs⟩ 42 (0, 0))) (hr : RSnap w0 x cs) (hkl : x.pins.length ≤ 1099511627776) (hb : l.length + (encSnap x).length ≤ 1099511627776) :
    Ret Tryz.prog 98 [.pointer (some ⟨wb, 0, none⟩), .pointer (some ⟨xb, 0, none⟩)] w (WP T 5 w0 w wb g l (encSnap x)) := by
  have e := ExtB.refl (fun _ => False) w
  have lwb := lt_of_at st.hw
  have hgl := st.hgl
  have lxb := lt_of_at hx
  have hwb := st.hwb
  have hg0 := st.hg
  replace hx := st.ext.at hx
  obtain ⟨a, c, rfl, hpi⟩ := hr
  have henc : encSnap x = encNs [x.ver, x.exp] ++ (encN x.pins.length ++ x.pins.flatMap encPin) := by simp [encSnap, encNs]
  rw [henc] at hb ⊢
  rw [List.length_append] at hb
  refine ret_of_run Tryz.func98 rfl Tryz.ntmps98 rfl ?_
  refine run_seq ?_
  refine run_draw mo (fun w' => Ext w w') [8] [(true, 0), (true, 1), (true, 2), (true, 3), (true, 4), (true, 5), (true, 6), (false, 7), (false, 8)] (by kernel_rfl) ?_
  intro wr0 er0
  have zr0 := er0.size
  have hsr0 := er0
  have ep := e.trans er0
  have hxp := er0.at hx
  refine rund_ev hsr0 rfl (ev_move rfl) ?_
  refine rund_ev hsr0 rfl (ev_nilCheck rfl) ?_
  refine rund_ev hsr0 rfl (ev_fieldAddr fld_175_0 rfl) ?_
  refine rund_ev hsr0 rfl (ev_fieldAddr fld_42_0 rfl) ?_
  refine rund_ev hsr0 rfl (ev_load1 cell_3 rfl (fun wz hz => cell_blk (hz.at hx) rfl)) ?_
  refine rund_ev hsr0 rfl (ev_fieldAddr fld_42_1 rfl) ?_
  refine rund_ev hsr0 rfl (ev_load1 cell_3 rfl (fun wz hz => cell_blk (hz.at hx) rfl)) ?_
  refine rund_op rfl (t_buildSlice (out := [.int .i64 x.ver, .int .i64 x.exp]) Tryz.underlying248 sz_3 zero_3 rfl rfl (by decide) (by decide) rfl (rfl)) ?_
  rintro _ w10 ⟨b10, rfl, hb10, e10, n10, l10⟩
  have z10 := e10.size
  replace ep := ep.trans e10
  replace hxp := e10.at hxp
  have hs10 := hsr0.trans e10
  refine ⟨hs10, ?_⟩
  have hb10p := hb10
  refine rund_opT rfl rfl (t_call call_92 rfl (wnums_any (st.up ep) [x.ver, x.exp] _ _ _ (sl_lit (l := [x.ver, x.exp]) (R := RInt) hb10p (pc rfl (pc rfl pn))) (fun b o h => by cases h; exact ⟨by omega, by omega⟩) (by simp) (by omega))) ?_
  rintro _ w11 ⟨rfl, v11, g11, p11⟩
  have q11 := p11.from ep
  have z11 := q11.extB.size
  replace hxp := p11.extB.at hxp (fun h => by rcases h with h | h <;> omega)
  refine rund_nil ?_
  replace hx := hxp
  clear hxp
  refine run_region rfl ?_
  refine runl_ev (ev_move rfl) ?_
  refine runl_ev (ev_fieldAddr fld_42_2 rfl) ?_
  refine runl_ev (ev_load1 cell_40 rfl (eqw (cell_blk hx rfl))) ?_
  refine runl_op (t_call call_99 rfl (wrowsP_any q11.st x.pins a _ c hpi hkl (by rw [List.length_append]; omega))) ?_
  rintro _ w15 ⟨rfl, v15, g15, p15⟩
  have q15 := q11.trans hgl p15
  have z15 := q15.extB.size
  refine runl_nil ?_
  refine run_end_any Tryz.func98 (res0 Tryz.results98) ?_
  exact ⟨rfl, v15, g15, q15⟩
theorem issnap_any (x : SnapP) (cs : List Value) (w : World) (hx : RSnap w x cs) (hn : x.pins.length ≤ 2199023255552) : Ret Tryz.prog 97 [.agg ⟨cs⟩] w fun v w' => v = .bool (isSnapP x) ∧ Ext w w' := by
  have e := ExtB.refl (fun _ => False) w
  obtain ⟨a, c, rfl, hpi⟩ := hx
  refine ret_of_run Tryz.func97 rfl Tryz.ntmps97 rfl ?_
  refine run_seq ?_
  refine run_region rfl ?_
  refine runl_op (t_boxA rfl) ?_
  rintro _ w1 ⟨b1, rfl, hb1, e1, n1, l1⟩
  have z1 := e1.size
  replace e := e.trans e1
  refine runl_ev (ev_assign rfl) ?_
  refine runl_nil ?_
  refine run_seq ?_
  refine run_seq ?_
  refine run_region rfl ?_
  refine runl_ev (ev_fieldAddr fld_42_2 rfl) ?_
  refine runl_ev (ev_load1 cell_40 rfl (eqw (cell_blk hb1 rfl))) ?_
  refine runl_ev (ev_lenL sl_40 rfl) ?_
  refine runl_ev (ev_move rfl) ?_
  refine runl_nil ?_
  refine run_block ?_
  refine run_loop (ι := Nat) (fun k => [(1, .pointer (some ⟨b1, 0, none⟩)), (6, .slice a x.pins.length c), (7, .int .i64 (x.pins.length : Int)), (8, .int .i64 (k : Int))]) (fun k w' => k ≤ x.pins.length ∧ (List.range k).all (pinAt x.pins) = true ∧ w'.heap[b1]? = some (.cells ⟨[.int .i64 x.ver, .int .i64 x.exp, .slice a x.pins.length c]⟩ 42 (0, 0)) ∧ Ext w w') (fun k => x.pins.length - k) (0) ⟨rfl, rfl, rfl, rfl, trivial⟩ (⟨Nat.zero_le _, rfl, hb1, e⟩) ?_
  clear e hb1
  intro k w1 ⟨hk, hall, hb1, e⟩ IH
  have lb1 := lt_of_at hb1
  refine run_seq ?_
  refine run_region rfl ?_
  refine runl_ev (ev_lss rfl rfl) ?_
  refine runl_nil ?_
  refine run_seq ?_
  refine run_dcond rfl (fun h0 => ?_) (fun h0 => ?_)
  · have hk1 : k < x.pins.length := by omega
    obtain ⟨bA, oA, cA, rfl, hrA, hcA⟩ := hpi.at.2 k hk1
    obtain rfl := hrA
    have hpa := pinAt_eq hk1
    refine run_skip ?_
    refine run_seq ?_
    refine run_block ?_
    refine run_seq ?_
    refine run_region rfl ?_
    refine runl_ev (ev_move rfl) ?_
    refine runl_ev (ev_indexAddr el_40 rfl rfl (by omega)) ?_
    refine runl_ev (ev_loadA agg_52 rfl rfl (eqw (hcA.ext e))) ?_
    refine runl_op (t_alloc zero_52 rfl) ?_
    rintro _ w4 ⟨b4, rfl, hb4, e4, n4, l4⟩
    have z4 := e4.size
    replace e := e.trans e4
    replace hb1 := e4.at hb1
    refine runl_ev (ev_assign rfl) ?_
    refine runl_do (t_storeW sz_52 rfl rfl rfl rfl hb4 ((by simp))) ?_
    rintro _ v3_5 ⟨hq3_5, e3_5, z3_5⟩
    replace e := e.new1 e3_5 (by omega)
    replace hb1 := e3_5.at1 hb1 (by omega)
    replace hb4 := hq3_5
    clear hq3_5
    refine runl_nil ?_
    refine run_seq ?_
    have hcs : nameB x.pins[k].name = false ∨ (nameB x.pins[k].name = true ∧ verB x.pins[k].ver = false) ∨ (nameB x.pins[k].name = true ∧ verB x.pins[k].ver = true ∧ k = 0) ∨ (nameB x.pins[k].name = true ∧ verB x.pins[k].ver = true ∧ 0 < k) := by
      cases nameB x.pins[k].name <;> cases verB x.pins[k].ver <;> simp <;> omega
    rcases hcs with q1 | ⟨q1, q2⟩ | ⟨q1, q2, rfl⟩ | ⟨q1, q2, q3⟩
    · have hno : pinAt x.pins k = false := by rw [hpa, q1]; rfl
      refine run_draw mo (fun w' => Ext v3_5 w') [] [(true, 0), (true, 1), (false, 2), (true, 3), (true, 4), (true, 5), (true, 6), (false, 7), (true, 8), (true, 9), (true, 10), (true, 11), (true, 12), (true, 13), (true, 14), (true, 15), (true, 16), (true, 17), (true, 18), (true, 19), (true, 20), (true, 21), (true, 22), (true, 23), (true, 24), (true, 25)] (by kernel_rfl) ?_
      intro wr4 er4
      have zr4 := er4.size
      have hsr4 := er4
      have ep := e.trans er4
      have hb1p := er4.at hb1
      have hb4p := er4.at hb4
      refine rund_ev hsr4 rfl (ev_fieldAddr fld_52_0 rfl) ?_
      refine rund_ev hsr4 rfl (ev_load1 cell_9 rfl (fun wz hz => cell_blk (hz.at hb4) rfl)) ?_
      refine rund_op rfl (t_call call_75 rfl (name_any _ _)) ?_
      rintro _ w15 ⟨rfl, e15⟩
      have z15 := e15.size
      replace ep := ep.trans e15
      replace hb1p := e15.at hb1p
      replace hb4p := e15.at hb4p
      have hs15 := hsr4.trans e15
      refine ⟨hs15, ?_⟩
      refine rund_ev hs15 rfl (ev_not rfl) ?_
      refine rund_ev hs15 rfl (ev_move rfl) ?_
      refine rund_no_g hs15 rfl rfl rfl (by rw [q1] <;> rfl) ?_
      refine rund_no_g hs15 rfl rfl rfl (by rw [q1] <;> rfl) ?_
      refine rund_no_gf rfl rfl rfl (by rw [q1] <;> rfl) hs15 ?_
      refine rund_no_g hs15 rfl rfl rfl (by rw [q1] <;> rfl) ?_
      refine rund_ev hs15 rfl (ev_pick rfl rfl rfl (if_pos (by rw [q1] <;> rfl))) ?_
      refine rund_ev hs15 rfl (ev_move rfl) ?_
      refine rund_no_g hs15 rfl rfl rfl (rfl) ?_
      refine rund_no_g hs15 rfl rfl rfl (rfl) ?_
      refine rund_no_g hs15 rfl rfl rfl (rfl) ?_
      refine rund_no_u hs15 rfl rfl rfl ?_
      refine rund_no_u hs15 rfl rfl rfl ?_
      refine rund_no_u hs15 rfl rfl rfl ?_
      refine rund_no_u hs15 rfl rfl rfl ?_
      refine rund_no_u hs15 rfl rfl rfl ?_
      refine rund_no_u hs15 rfl rfl rfl ?_
      refine rund_no_u hs15 rfl rfl rfl ?_
      refine rund_no_u hs15 rfl rfl rfl ?_
      refine rund_no_u hs15 rfl rfl rfl ?_
      refine rund_no_u hs15 rfl rfl rfl ?_
      refine rund_no_g hs15 rfl rfl rfl (rfl) ?_
      refine rund_ev hs15 rfl (ev_pick rfl rfl rfl (if_pos (rfl))) ?_
      refine rund_nil ?_
      replace e := ep
      clear ep
      replace hb1 := hb1p
      clear hb1p
      replace hb4 := hb4p
      clear hb4p
      refine run_cond_true rfl (rfl) ?_
      refine run_seq ?_
      refine run_region rfl ?_
      refine runl_ev (ev_assign rfl) ?_
      refine runl_nil ?_
      refine run_ret_any Tryz.func97 (res1 Tryz.results97 rfl) ?_
      exact ⟨by rw [snap_pins hk1 hno], e⟩
    · have hno : pinAt x.pins k = false := by rw [hpa, q1, q2]; rfl
      refine run_draw mo (fun w' => Ext v3_5 w') [] [(true, 0), (true, 1), (false, 2), (true, 3), (true, 4), (true, 5), (true, 6), (false, 7), (true, 8), (true, 9), (true, 10), (true, 11), (true, 12), (true, 13), (true, 14), (true, 15), (true, 16), (true, 17), (true, 18), (true, 19), (true, 20), (true, 21), (true, 22), (true, 23), (true, 24), (true, 25)] (by kernel_rfl) ?_
      intro wr4 er4
      have zr4 := er4.size
      have hsr4 := er4
      have ep := e.trans er4
      have hb1p := er4.at hb1
      have hb4p := er4.at hb4
      refine rund_ev hsr4 rfl (ev_fieldAddr fld_52_0 rfl) ?_
      refine rund_ev hsr4 rfl (ev_load1 cell_9 rfl (fun wz hz => cell_blk (hz.at hb4) rfl)) ?_
      refine rund_op rfl (t_call call_75 rfl (name_any _ _)) ?_
      rintro _ w15 ⟨rfl, e15⟩
      have z15 := e15.size
      replace ep := ep.trans e15
      replace hb1p := e15.at hb1p
      replace hb4p := e15.at hb4p
      have hs15 := hsr4.trans e15
      refine ⟨hs15, ?_⟩
      refine rund_ev hs15 rfl (ev_not rfl) ?_
      refine rund_ev hs15 rfl (ev_move rfl) ?_
      refine rund_ev_g hs15 rfl rfl rfl (by rw [q1] <;> rfl) (ev_fieldAddr fld_52_1 rfl) ?_
      refine rund_ev_g hs15 rfl rfl rfl (by rw [q1] <;> rfl) (ev_load1 cell_3 rfl (fun wz hz => cell_blk (hz.at hb4) rfl)) ?_
      refine rund_op_g rfl rfl rfl (by rw [q1] <;> rfl) (t_call call_156 rfl (isver_any _ _)) ?_
      rintro _ w20 ⟨rfl, e20⟩
      have z20 := e20.size
      replace ep := ep.trans e20
      replace hb1p := e20.at hb1p
      replace hb4p := e20.at hb4p
      have hs20 := hs15.trans e20
      refine ⟨hs20, ?_⟩
      refine rund_ev_g hs20 rfl rfl rfl (by rw [q1] <;> rfl) (ev_not rfl) ?_
      refine rund_ev hs20 rfl (ev_pick rfl rfl rfl (if_neg (by rw [q1]; simp))) ?_
      refine rund_ev hs20 rfl (ev_move rfl) ?_
      refine rund_no_g hs20 rfl rfl rfl (by rw [q2] <;> rfl) ?_
      refine rund_no_g hs20 rfl rfl rfl (by rw [q2] <;> rfl) ?_
      refine rund_no_g hs20 rfl rfl rfl (by rw [q2] <;> rfl) ?_
      refine rund_no_u hs20 rfl rfl rfl ?_
      refine rund_no_u hs20 rfl rfl rfl ?_
      refine rund_no_u hs20 rfl rfl rfl ?_
      refine rund_no_u hs20 rfl rfl rfl ?_
      refine rund_no_u hs20 rfl rfl rfl ?_
      refine rund_no_u hs20 rfl rfl rfl ?_
      refine rund_no_u hs20 rfl rfl rfl ?_
      refine rund_no_u hs20 rfl rfl rfl ?_
      refine rund_no_u hs20 rfl rfl rfl ?_
      refine rund_no_u hs20 rfl rfl rfl ?_
      refine rund_no_g hs20 rfl rfl rfl (by rw [q2] <;> rfl) ?_
      refine rund_ev hs20 rfl (ev_pick rfl rfl rfl (if_pos (by rw [q2] <;> rfl))) ?_
      refine rund_nil ?_
      replace e := ep
      clear ep
      replace hb1 := hb1p
      clear hb1p
      replace hb4 := hb4p
      clear hb4p
      refine run_cond_true rfl (rfl) ?_
      refine run_seq ?_
      refine run_region rfl ?_
      refine runl_ev (ev_assign rfl) ?_
      refine runl_nil ?_
      refine run_ret_any Tryz.func97 (res1 Tryz.results97 rfl) ?_
      exact ⟨by rw [snap_pins hk1 hno], e⟩
    · have hyes : pinAt x.pins 0 = true := by rw [hpa, q1, q2]; rfl
      refine run_draw mo (fun w' => Ext v3_5 w') [] [(true, 0), (true, 1), (false, 2), (true, 3), (true, 4), (true, 5), (true, 6), (false, 7), (true, 8), (true, 9), (true, 10), (true, 11), (true, 12), (true, 13), (true, 14), (true, 15), (true, 16), (true, 17), (true, 18), (true, 19), (true, 20), (true, 21), (true, 22), (true, 23), (true, 24), (true, 25)] (by kernel_rfl) ?_
      intro wr4 er4
      have zr4 := er4.size
      have hsr4 := er4
      have ep := e.trans er4
      have hb1p := er4.at hb1
      have hb4p := er4.at hb4
      refine rund_ev hsr4 rfl (ev_fieldAddr fld_52_0 rfl) ?_
      refine rund_ev hsr4 rfl (ev_load1 cell_9 rfl (fun wz hz => cell_blk (hz.at hb4) rfl)) ?_
      refine rund_op rfl (t_call call_75 rfl (name_any _ _)) ?_
      rintro _ w15 ⟨rfl, e15⟩
      have z15 := e15.size
      replace ep := ep.trans e15
      replace hb1p := e15.at hb1p
      replace hb4p := e15.at hb4p
      have hs15 := hsr4.trans e15
      refine ⟨hs15, ?_⟩
      refine rund_ev hs15 rfl (ev_not rfl) ?_
      refine rund_ev hs15 rfl (ev_move rfl) ?_
      refine rund_ev_g hs15 rfl rfl rfl (by rw [q1] <;> rfl) (ev_fieldAddr fld_52_1 rfl) ?_
      refine rund_ev_g hs15 rfl rfl rfl (by rw [q1] <;> rfl) (ev_load1 cell_3 rfl (fun wz hz => cell_blk (hz.at hb4) rfl)) ?_
      refine rund_op_g rfl rfl rfl (by rw [q1] <;> rfl) (t_call call_156 rfl (isver_any _ _)) ?_
      rintro _ w20 ⟨rfl, e20⟩
      have z20 := e20.size
      replace ep := ep.trans e20
      replace hb1p := e20.at hb1p
      replace hb4p := e20.at hb4p
      have hs20 := hs15.trans e20
      refine ⟨hs20, ?_⟩
      refine rund_ev_g hs20 rfl rfl rfl (by rw [q1] <;> rfl) (ev_not rfl) ?_
      refine rund_ev hs20 rfl (ev_pick rfl rfl rfl (if_neg (by rw [q1]; simp))) ?_
      refine rund_ev hs20 rfl (ev_move rfl) ?_
      refine rund_ev_g hs20 rfl rfl rfl (by rw [q2] <;> rfl) (ev_move rfl) ?_
      refine rund_ev_g hs20 rfl rfl rfl (by rw [q2] <;> rfl) (ev_gtr rfl rfl) ?_
      refine rund_ev_g hs20 rfl rfl rfl (by rw [q2] <;> rfl) (ev_move rfl) ?_
      refine rund_no_g hs20 rfl rfl rfl (by decide) ?_
      refine rund_no_g hs20 rfl rfl rfl (by decide) ?_
      refine rund_no_g hs20 rfl rfl rfl (by decide) ?_
      refine rund_no_g hs20 rfl rfl rfl (by decide) ?_
      refine rund_no_g hs20 rfl rfl rfl (by decide) ?_
      refine rund_no_g hs20 rfl rfl rfl (by decide) ?_
      refine rund_no_g hs20 rfl rfl rfl (by decide) ?_
      refine rund_no_g hs20 rfl rfl rfl (by decide) ?_
      refine rund_no_g hs20 rfl rfl rfl (by decide) ?_
      refine rund_no_g hs20 rfl rfl rfl (by decide) ?_
      refine rund_ev_g hs20 rfl rfl rfl (by rw [q2] <;> rfl) (ev_pick rfl rfl rfl (if_neg (by decide))) ?_
      refine rund_ev hs20 rfl (ev_pick rfl rfl rfl (if_neg (by rw [q2]; simp))) ?_
      refine rund_nil ?_
      replace e := ep
      clear ep
      replace hb1 := hb1p
      clear hb1p
      replace hb4 := hb4p
      clear hb4p
      refine run_cond_false rfl (rfl) ?_
      refine run_skip ?_
      refine run_inBlock ?_
      refine run_region rfl ?_
      refine runl_ev (ev_add rfl rfl (by omega) (by omega)) ?_
      refine runl_ev (ev_move rfl) ?_
      refine runl_nil ?_
      exact IH (0 + 1) _ _ (by omega) ⟨rfl, rfl, rfl, rfl, trivial⟩ ⟨by omega, range_succ_all hall hyes, hb1, e⟩
    · obtain ⟨bB, oB, cB, heB, hrB, hcB⟩ := hpi.at.2 (k - 1) (by omega)
      cases heB
      obtain rfl := hrB
      obtain ⟨lt, hlt⟩ : ∃ b, b = strLt (x.pins[k - 1]'(by omega)).name x.pins[k].name := ⟨_, rfl⟩
      refine run_draw mo (fun w' => Ext v3_5 w') [] [(true, 0), (true, 1), (false, 2), (true, 3), (true, 4), (true, 5), (true, 6), (false, 7), (true, 8), (true, 9), (true, 10), (true, 11), (true, 12), (true, 13), (true, 14), (true, 15), (true, 16), (true, 17), (true, 18), (true, 19), (true, 20), (true, 21), (true, 22), (true, 23), (true, 24), (true, 25)] (by kernel_rfl) ?_
      intro wr4 er4
      have zr4 := er4.size
      have hsr4 := er4
      have ep := e.trans er4
      have hb1p := er4.at hb1
      have hb4p := er4.at hb4
      refine rund_ev hsr4 rfl (ev_fieldAddr fld_52_0 rfl) ?_
      refine rund_ev hsr4 rfl (ev_load1 cell_9 rfl (fun wz hz => cell_blk (hz.at hb4) rfl)) ?_
      refine rund_op rfl (t_call call_75 rfl (name_any _ _)) ?_
      rintro _ w15 ⟨rfl, e15⟩
      have z15 := e15.size
      replace ep := ep.trans e15
      replace hb1p := e15.at hb1p
      replace hb4p := e15.at hb4p
      have hs15 := hsr4.trans e15
      refine ⟨hs15, ?_⟩
      refine rund_ev hs15 rfl (ev_not rfl) ?_
      refine rund_ev hs15 rfl (ev_move rfl) ?_
      refine rund_ev_g hs15 rfl rfl rfl (by rw [q1] <;> rfl) (ev_fieldAddr fld_52_1 rfl) ?_
      refine rund_ev_g hs15 rfl rfl rfl (by rw [q1] <;> rfl) (ev_load1 cell_3 rfl (fun wz hz => cell_blk (hz.at hb4) rfl)) ?_
      refine rund_op_g rfl rfl rfl (by rw [q1] <;> rfl) (t_call call_156 rfl (isver_any _ _)) ?_
      rintro _ w20 ⟨rfl, e20⟩
      have z20 := e20.size
      replace ep := ep.trans e20
      replace hb1p := e20.at hb1p
      replace hb4p := e20.at hb4p
      have hs20 := hs15.trans e20
      refine ⟨hs20, ?_⟩
      refine rund_ev_g hs20 rfl rfl rfl (by rw [q1] <;> rfl) (ev_not rfl) ?_
      refine rund_ev hs20 rfl (ev_pick rfl rfl rfl (if_neg (by rw [q1]; simp))) ?_
      refine rund_ev hs20 rfl (ev_move rfl) ?_
      refine rund_ev_g hs20 rfl rfl rfl (by rw [q2] <;> rfl) (ev_move rfl) ?_
      refine rund_ev_g hs20 rfl rfl rfl (by rw [q2] <;> rfl) (ev_gtr rfl rfl) ?_
      refine rund_ev_g hs20 rfl rfl rfl (by rw [q2] <;> rfl) (ev_move rfl) ?_
      refine rund_ev_g hs20 rfl rfl rfl (decide_eq_true (by omega)) (ev_fieldAddr fld_42_2 rfl) ?_
      refine rund_ev_g hs20 rfl rfl rfl (decide_eq_true (by omega)) (ev_load1 cell_40 rfl (fun wz hz => cell_blk (hz.at hb1) rfl)) ?_
      refine rund_ev_g hs20 rfl rfl rfl (decide_eq_true (by omega)) (ev_move rfl) ?_
      refine rund_ev_g hs20 rfl rfl rfl (decide_eq_true (by omega)) (ev_subK (((k - 1 : Nat) : Int)) rfl rfl (by rw [show ((k : Int) - 1) = ((k - 1 : Nat) : Int) by omega]; exact wrap_i64 (by omega) (by omega))) ?_
      refine rund_ev_g hs20 rfl rfl rfl (decide_eq_true (by omega)) (ev_indexAddr (k := k - 1) el_40 rfl rfl (by omega)) ?_
      refine rund_ev_g hs20 rfl rfl rfl (decide_eq_true (by omega)) (ev_fieldAddr fld_52_0 rfl) ?_
      refine rund_ev_g hs20 rfl rfl rfl (decide_eq_true (by omega)) (ev_load1 cell_9 rfl (fun wz hz => (hcB.ext (e.trans hz)).pick 0 rfl rfl)) ?_
      refine rund_ev_g hs20 rfl rfl rfl (decide_eq_true (by omega)) (ev_fieldAddr fld_52_0 rfl) ?_
      refine rund_ev_g hs20 rfl rfl rfl (decide_eq_true (by omega)) (ev_load1 cell_9 rfl (fun wz hz => cell_blk (hz.at hb4) rfl)) ?_
      refine rund_ev_g hs20 rfl rfl rfl (decide_eq_true (by omega)) (ev_geqS rfl rfl) ?_
      refine rund_ev_g hs20 rfl rfl rfl (by rw [q2] <;> rfl) (ev_pick rfl rfl rfl (if_pos (decide_eq_true (by omega)))) ?_
      refine rund_ev hs20 rfl (ev_pick rfl rfl rfl (if_neg (by rw [q2]; simp))) ?_
      refine rund_nil ?_
      replace e := ep
      clear ep
      replace hb1 := hb1p
      clear hb1p
      replace hb4 := hb4p
      clear hb4p
      refine run_cond_split rfl (fun h1 => ?_) (fun h1 => ?_)
      · have hno : pinAt x.pins k = false := by rw [hpa, q1, q2, decide_eq_false (by omega : ¬ k = 0)]; simpa using h1
        refine run_seq ?_
        refine run_region rfl ?_
        refine runl_ev (ev_assign rfl) ?_
        refine runl_nil ?_
        refine run_ret_any Tryz.func97 (res1 Tryz.results97 rfl) ?_
        exact ⟨by rw [snap_pins hk1 hno], e⟩
      · have hyes : pinAt x.pins k = true := by rw [hpa, q1, q2, decide_eq_false (by omega : ¬ k = 0)]; simpa using h1
        refine run_skip ?_
        refine run_inBlock ?_
        refine run_region rfl ?_
        refine runl_ev (ev_add rfl rfl (by omega) (by omega)) ?_
        refine runl_ev (ev_move rfl) ?_
        refine runl_nil ?_
        exact IH (k + 1) _ _ (by omega) ⟨rfl, rfl, rfl, rfl, trivial⟩ ⟨by omega, range_succ_all hall hyes, hb1, e⟩
  · obtain rfl : k = x.pins.length := by omega
    refine run_exit rfl ?_
    refine run_seq ?_
    refine run_region rfl ?_
    refine runl_ev (ev_fieldAddr fld_42_0 rfl) ?_
    refine runl_ev (ev_load1 cell_3 rfl (eqw (cell_blk hb1 rfl))) ?_
    refine runl_op (t_call call_156 rfl (isver_any x.ver _)) ?_
    rintro _ w42 ⟨rfl, e42⟩
    have z42 := e42.size
    replace e := e.trans e42
    replace hb1 := e42.at hb1
    cases hv : verB x.ver
    · refine runl_ev (ev_move rfl) ?_
      refine runl_no_g rfl rfl (rfl) ?_
      refine runl_no_g rfl rfl (rfl) ?_
      refine runl_no_g rfl rfl (rfl) ?_
      refine runl_ev (ev_pick rfl rfl rfl (if_neg (by simp))) ?_
      refine runl_ev (ev_move rfl) ?_
      refine runl_no_g rfl rfl (rfl) ?_
      refine runl_no_g rfl rfl (rfl) ?_
      refine runl_no_g rfl rfl (rfl) ?_
      refine runl_no_g rfl rfl (rfl) ?_
      refine runl_ev (ev_pick rfl rfl rfl (if_neg (by simp))) ?_
      refine runl_ev (ev_assign rfl) ?_
      refine runl_nil ?_
      refine run_ret_any Tryz.func97 (res1 Tryz.results97 rfl) ?_
      exact ⟨by simp [isSnapP, hv], e⟩
    · refine runl_ev (ev_move rfl) ?_
      refine runl_ev_g rfl rfl (rfl) (ev_fieldAddr fld_42_1 rfl) ?_
      refine runl_ev_g rfl rfl (rfl) (ev_load1 cell_3 rfl (eqw (cell_blk hb1 rfl))) ?_
      refine runl_op_g rfl rfl (rfl) (t_call call_157 rfl (isnum_any x.exp _)) ?_
      rintro _ w46 ⟨rfl, e46⟩
      have z46 := e46.size
      replace e := e.trans e46
      replace hb1 := e46.at hb1
      cases hx : numB x.exp
      · refine runl_ev (ev_pick rfl rfl rfl (if_pos (rfl))) ?_
        refine runl_ev (ev_move rfl) ?_
        refine runl_no_g rfl rfl (rfl) ?_
        refine runl_no_g rfl rfl (rfl) ?_
        refine runl_no_g rfl rfl (rfl) ?_
        refine runl_no_g rfl rfl (rfl) ?_
        refine runl_ev (ev_pick rfl rfl rfl (if_neg (by simp))) ?_
        refine runl_ev (ev_assign rfl) ?_
        refine runl_nil ?_
        refine run_ret_any Tryz.func97 (res1 Tryz.results97 rfl) ?_
        exact ⟨by simp [isSnapP, hv, hx], e⟩
      · refine runl_ev (ev_pick rfl rfl rfl (if_pos (rfl))) ?_
        refine runl_ev (ev_move rfl) ?_
        refine runl_ev_g rfl rfl (rfl) (ev_fieldAddr fld_42_2 rfl) ?_
        refine runl_ev_g rfl rfl (rfl) (ev_load1 cell_40 rfl (eqw (cell_blk hb1 rfl))) ?_
        refine runl_ev_g rfl rfl (rfl) (ev_lenL sl_40 rfl) ?_
        refine runl_ev_g rfl rfl (rfl) (ev_leq rfl rfl) ?_
        refine runl_ev (ev_pick rfl rfl rfl (if_pos (rfl))) ?_
        refine runl_ev (ev_assign rfl) ?_
        refine runl_nil ?_
        refine run_ret_any Tryz.func97 (res1 Tryz.results97 rfl) ?_
        refine ⟨?_, e⟩
        rw [isSnapP, hall, hv, hx]
        congr 1
        exact decide_eq_decide.2 (by omega)
theorem encsnap_any (x : SnapP) (cs : List Value) (w : World) (hr : RSnap w x cs) (hkl : x.pins.length ≤ 1099511627776) : Ret Tryz.prog 45 [.agg ⟨cs⟩] w fun v w' => ∃ p, v = .tuple #[p, .int .i64 (encE isSnapP x)] ∧ OwnB 5 w (encP 3 isSnapP encSnap x) p w' := by
  have e := ExtB.refl (fun _ => False) w
  have hcl := rsnap_len hr
  refine ret_of_run Tryz.func45 rfl Tryz.ntmps45 rfl ?_
  refine run_seq ?_
  refine run_region rfl ?_
  refine runl_op (t_boxA rfl) ?_
  rintro _ w1 ⟨b1, rfl, hb1, e1, n1, l1⟩
  have z1 := e1.size
  replace e := e.trans e1
  refine runl_ev (ev_assign rfl) ?_
  refine runl_ev (ev_assign rfl) ?_
  refine runl_nil ?_
  refine run_seq ?_
  refine run_region rfl ?_
  refine runl_ev (ev_loadA agg_42 hcl rfl (eqw (cells_all hb1))) ?_
  refine runl_op (t_call call_97 rfl (issnap_any x cs _ (RSnap.stable _ _ _ _ e hr) (by omega))) ?_
  rintro _ w5 ⟨rfl, e5⟩
  have z5 := e5.size
  replace e := e.trans e5
  replace hb1 := e5.at hb1
  refine runl_ev (ev_makeFunc rfl rfl) ?_
  refine runl_op (t_call call_88 rfl (encoded_any _ 3 (isSnapP x) 98 [.pointer (some ⟨b1, 0, none⟩)] call_98 (encSnap x) (by have := encN_len 3; omega) (fun hm => by have := encSnap_len hm; omega) (fun hm w1 wb g v st => encsnap1_any st x cs b1 hb1 (RSnap.stable _ _ _ _ e hr) hkl (by have := encN_len 3; have := encSnap_len hm; omega)))) ?_
  rintro _ w7 ⟨p7, g7, rfl, o7, e7, hg7, hgl7⟩
  have z7 := e7.size
  replace e := e.trans e7
  replace hb1 := e7.at hb1
  refine runl_ev (ev_extract rfl rfl) ?_
  refine runl_ev (ev_extract rfl rfl) ?_
  refine runl_ev (ev_assign rfl) ?_
  refine runl_ev (ev_assign rfl) ?_
  refine runl_nil ?_
  refine run_ret_any Tryz.func45 (res2 Tryz.results45 rfl rfl) ?_
  have hz := e.size
  exact ⟨p7, rfl, ownB_of o7 e (by omega) (by omega)⟩
theorem isSnap_nil (v e : Int) : isSnapP ⟨v, e, []⟩ = (verB v && numB e) := by simp [isSnapP]
theorem encE_zero {α : Type} (may : α → Bool) (x : α) : decide (encE may x = 0) = may x := by unfold encE; cases may x <;> simp
theorem encE_one {α : Type} (may : α → Bool) (x : α) (h : may x = false) : encE may x = 1 := by unfold encE; rw [h]; rfl

end Go.Proofs.YtlgkdnmklgbhbaaGreatDoor
/- The walks of the reference's names and of what encodes snapshots there. -/
namespace Go.Proofs.YtlgkdnmklgbhbaaGreatDoor
open Go Go.Fw
set_option maxRecDepth 100000

theorem qname_any (s : ByteArray) (w : World) (hn : s.size ≤ 1099511627776) : Ret Tryz.prog 178 [.string s] w fun r w' => r = .bool (nameB s) ∧ Ext w w' := by
  have e := ExtB.refl (fun _ => False) w
  have hsl : s.data.toList.length = s.size := rfl
  refine ret_of_run Tryz.func178 rfl Tryz.ntmps178 rfl ?_
  refine run_seq ?_
  refine run_region rfl ?_
  refine runl_ev (ev_assign rfl) ?_
  refine runl_nil ?_
  refine run_seq ?_
  refine run_seq ?_
  refine run_region rfl ?_
  refine runl_ev (ev_assign rfl) ?_
  refine runl_nil ?_
  refine run_block ?_
  refine run_loop (ι := Nat) (fun k => [(0, .string s), (3, .int .i64 (k : Int))]) (fun k w' => k ≤ s.size ∧ (s.data.toList.take k).all isSign = true ∧ Ext w w') (fun k => s.size - k) (0) ⟨rfl, rfl, trivial⟩ (⟨Nat.zero_le _, rfl, e⟩) ?_
  clear e
  intro k w1 ⟨hk, hall, e⟩ IH
  refine run_seq ?_
  refine run_seq ?_
  refine run_region rfl ?_
  refine runl_ev (ev_move rfl) ?_
  refine runl_ev (ev_move rfl) ?_
  refine runl_ev (ev_lenS str_9 rfl) ?_
  refine runl_ev (ev_lss rfl rfl) ?_
  refine runl_nil ?_
  refine run_dcond rfl (fun h0 => ?_) (fun h0 => ?_)
  · have hk1 : k < s.size := by omega
    have htk := all_take_and (p := isSign) (l := s.data.toList) (k := k) (by omega)
    obtain ⟨c, hc⟩ : ∃ c, c = s[k] := ⟨_, rfl⟩
    have hcl : s.data.toList[k] = c := hc.symm
    rw [hcl] at htk
    refine run_skip ?_
    refine run_seq ?_
    refine run_block ?_
    refine run_seq ?_
    have hcs : (97 ≤ c.toNat ∧ c.toNat ≤ 122) ∨ (¬ 97 ≤ c.toNat ∧ ¬ 48 ≤ c.toNat ∧ c.toNat = 45) ∨ (¬ 97 ≤ c.toNat ∧ ¬ 48 ≤ c.toNat ∧ ¬ c.toNat = 45) ∨ (¬ 97 ≤ c.toNat ∧ 48 ≤ c.toNat ∧ c.toNat ≤ 57) ∨ (¬ 97 ≤ c.toNat ∧ 48 ≤ c.toNat ∧ ¬ c.toNat ≤ 57) ∨ (97 ≤ c.toNat ∧ ¬ c.toNat ≤ 122) := by omega
    rcases hcs with ⟨q1, q2⟩ | ⟨q1, q2, q3⟩ | ⟨q1, q2, q3⟩ | ⟨q1, q2, q3⟩ | ⟨q1, q2, q3⟩ | ⟨q1, q2⟩
    · have hsg := sign_true (c := c) (.inl ⟨q1, q2⟩)
      refine run_region rfl ?_
      refine runl_ev (ev_move rfl) ?_
      refine runl_ev (ev_move rfl) ?_
      refine runl_ev (ev_indexS (k := k) Tryz.underlying9 rfl rfl (hk1)) ?_
      refine runl_ev (ev_lss rfl rfl) ?_
      refine runl_ev (ev_move rfl) ?_
      refine runl_ev_g rfl rfl (decide_eq_false (by rw [← hc]; omega)) (ev_move rfl) ?_
      refine runl_ev_g rfl rfl (decide_eq_false (by rw [← hc]; omega)) (ev_move rfl) ?_
      refine runl_ev_g rfl rfl (decide_eq_false (by rw [← hc]; omega)) (ev_indexS (k := k) Tryz.underlying9 rfl rfl (hk1)) ?_
      refine runl_ev_g rfl rfl (decide_eq_false (by rw [← hc]; omega)) (ev_gtr rfl rfl) ?_
      refine runl_ev (ev_pick rfl rfl rfl (if_neg (by rw [← hc]; simp; omega))) ?_
      refine runl_ev (ev_move rfl) ?_
      refine runl_no_g rfl rfl (decide_eq_false (by rw [← hc]; omega)) ?_
      refine runl_no_g rfl rfl (decide_eq_false (by rw [← hc]; omega)) ?_
      refine runl_no_g rfl rfl (decide_eq_false (by rw [← hc]; omega)) ?_
      refine runl_no_g rfl rfl (decide_eq_false (by rw [← hc]; omega)) ?_
      refine runl_no_g rfl rfl (decide_eq_false (by rw [← hc]; omega)) ?_
      refine runl_no_u rfl rfl ?_
      refine runl_no_u rfl rfl ?_
      refine runl_no_u rfl rfl ?_
      refine runl_no_u rfl rfl ?_
      refine runl_no_g rfl rfl (decide_eq_false (by rw [← hc]; omega)) ?_
      refine runl_ev (ev_pick rfl rfl rfl (if_neg (by rw [← hc]; simp; omega))) ?_
      refine runl_ev (ev_move rfl) ?_
      refine runl_no_g rfl rfl (rfl) ?_
      refine runl_no_g rfl rfl (rfl) ?_
      refine runl_no_g rfl rfl (rfl) ?_
      refine runl_no_g rfl rfl (rfl) ?_
      refine runl_ev (ev_pick rfl rfl rfl (if_neg (by simp))) ?_
      refine runl_nil ?_
      refine run_cond_false rfl (rfl) ?_
      refine run_skip ?_
      refine run_inBlock ?_
      refine run_region rfl ?_
      refine runl_ev (ev_move rfl) ?_
      refine runl_ev (ev_add rfl rfl (by omega) (by omega)) ?_
      refine runl_ev (ev_assign rfl) ?_
      refine runl_nil ?_
      exact IH (k + 1) _ _ (by omega) ⟨rfl, rfl, trivial⟩ ⟨by omega, by rw [htk, hall, hsg]; rfl, e⟩
    · have hsg := sign_true (c := c) (.inr (.inr q3))
      refine run_region rfl ?_
      refine runl_ev (ev_move rfl) ?_
      refine runl_ev (ev_move rfl) ?_
      refine runl_ev (ev_indexS (k := k) Tryz.underlying9 rfl rfl (hk1)) ?_
      refine runl_ev (ev_lss rfl rfl) ?_
      refine runl_ev (ev_move rfl) ?_
      refine runl_no_g rfl rfl (decide_eq_true (by rw [← hc]; omega)) ?_
      refine runl_no_g rfl rfl (decide_eq_true (by rw [← hc]; omega)) ?_
      refine runl_no_g rfl rfl (decide_eq_true (by rw [← hc]; omega)) ?_
      refine runl_no_g rfl rfl (decide_eq_true (by rw [← hc]; omega)) ?_
      refine runl_ev (ev_pick rfl rfl rfl (if_pos (decide_eq_true (by rw [← hc]; omega)))) ?_
      refine runl_ev (ev_move rfl) ?_
      refine runl_ev_g rfl rfl (rfl) (ev_move rfl) ?_
      refine runl_ev_g rfl rfl (rfl) (ev_move rfl) ?_
      refine runl_ev_g rfl rfl (rfl) (ev_indexS (k := k) Tryz.underlying9 rfl rfl (hk1)) ?_
      refine runl_ev_g rfl rfl (rfl) (ev_lss rfl rfl) ?_
      refine runl_ev_g rfl rfl (rfl) (ev_move rfl) ?_
      refine runl_no_g rfl rfl (decide_eq_true (by rw [← hc]; omega)) ?_
      refine runl_no_g rfl rfl (decide_eq_true (by rw [← hc]; omega)) ?_
      refine runl_no_g rfl rfl (decide_eq_true (by rw [← hc]; omega)) ?_
      refine runl_no_g rfl rfl (decide_eq_true (by rw [← hc]; omega)) ?_
      refine runl_ev_g rfl rfl (rfl) (ev_pick rfl rfl rfl (if_pos (decide_eq_true (by rw [← hc]; omega)))) ?_
      refine runl_ev (ev_pick rfl rfl rfl (if_pos (rfl))) ?_
      refine runl_ev (ev_move rfl) ?_
      refine runl_ev_g rfl rfl (rfl) (ev_move rfl) ?_
      refine runl_ev_g rfl rfl (rfl) (ev_move rfl) ?_
      refine runl_ev_g rfl rfl (rfl) (ev_indexS (k := k) Tryz.underlying9 rfl rfl (hk1)) ?_
      refine runl_ev_g rfl rfl (rfl) (ev_neqI rfl rfl) ?_
      refine runl_ev (ev_pick rfl rfl rfl (if_pos (rfl))) ?_
      refine runl_nil ?_
      refine run_cond_false rfl (decide_eq_false (by rw [← hc]; omega)) ?_
      refine run_skip ?_
      refine run_inBlock ?_
      refine run_region rfl ?_
      refine runl_ev (ev_move rfl) ?_
      refine runl_ev (ev_add rfl rfl (by omega) (by omega)) ?_
      refine runl_ev (ev_assign rfl) ?_
      refine runl_nil ?_
      exact IH (k + 1) _ _ (by omega) ⟨rfl, rfl, trivial⟩ ⟨by omega, by rw [htk, hall, hsg]; rfl, e⟩
    · have hsg := sign_false (c := c) (by omega)
      refine run_region rfl ?_
      refine runl_ev (ev_move rfl) ?_
      refine runl_ev (ev_move rfl) ?_
      refine runl_ev (ev_indexS (k := k) Tryz.underlying9 rfl rfl (hk1)) ?_
      refine runl_ev (ev_lss rfl rfl) ?_
      refine runl_ev (ev_move rfl) ?_
      refine runl_no_g rfl rfl (decide_eq_true (by rw [← hc]; omega)) ?_
      refine runl_no_g rfl rfl (decide_eq_true (by rw [← hc]; omega)) ?_
      refine runl_no_g rfl rfl (decide_eq_true (by rw [← hc]; omega)) ?_
      refine runl_no_g rfl rfl (decide_eq_true (by rw [← hc]; omega)) ?_
      refine runl_ev (ev_pick rfl rfl rfl (if_pos (decide_eq_true (by rw [← hc]; omega)))) ?_
      refine runl_ev (ev_move rfl) ?_
      refine runl_ev_g rfl rfl (rfl) (ev_move rfl) ?_
      refine runl_ev_g rfl rfl (rfl) (ev_move rfl) ?_
      refine runl_ev_g rfl rfl (rfl) (ev_indexS (k := k) Tryz.underlying9 rfl rfl (hk1)) ?_
      refine runl_ev_g rfl rfl (rfl) (ev_lss rfl rfl) ?_
      refine runl_ev_g rfl rfl (rfl) (ev_move rfl) ?_
      refine runl_no_g rfl rfl (decide_eq_true (by rw [← hc]; omega)) ?_
      refine runl_no_g rfl rfl (decide_eq_true (by rw [← hc]; omega)) ?_
      refine runl_no_g rfl rfl (decide_eq_true (by rw [← hc]; omega)) ?_
      refine runl_no_g rfl rfl (decide_eq_true (by rw [← hc]; omega)) ?_
      refine runl_ev_g rfl rfl (rfl) (ev_pick rfl rfl rfl (if_pos (decide_eq_true (by rw [← hc]; omega)))) ?_
      refine runl_ev (ev_pick rfl rfl rfl (if_pos (rfl))) ?_
      refine runl_ev (ev_move rfl) ?_
      refine runl_ev_g rfl rfl (rfl) (ev_move rfl) ?_
      refine runl_ev_g rfl rfl (rfl) (ev_move rfl) ?_
      refine runl_ev_g rfl rfl (rfl) (ev_indexS (k := k) Tryz.underlying9 rfl rfl (hk1)) ?_
      refine runl_ev_g rfl rfl (rfl) (ev_neqI rfl rfl) ?_
      refine runl_ev (ev_pick rfl rfl rfl (if_pos (rfl))) ?_
      refine runl_nil ?_
      refine run_cond_true rfl (decide_eq_true (by rw [← hc]; omega)) ?_
      refine run_seq ?_
      refine run_region rfl ?_
      refine runl_ev (ev_assign rfl) ?_
      refine runl_nil ?_
      refine run_ret_any Tryz.func178 (res1 Tryz.results178 rfl) ?_
      exact ⟨by rw [name_no hk1 (by rw [← hc]; exact hsg)], e⟩
    · have hsg := sign_true (c := c) (.inr (.inl ⟨q2, q3⟩))
      refine run_region rfl ?_
      refine runl_ev (ev_move rfl) ?_
      refine runl_ev (ev_move rfl) ?_
      refine runl_ev (ev_indexS (k := k) Tryz.underlying9 rfl rfl (hk1)) ?_
      refine runl_ev (ev_lss rfl rfl) ?_
      refine runl_ev (ev_move rfl) ?_
      refine runl_no_g rfl rfl (decide_eq_true (by rw [← hc]; omega)) ?_
      refine runl_no_g rfl rfl (decide_eq_true (by rw [← hc]; omega)) ?_
      refine runl_no_g rfl rfl (decide_eq_true (by rw [← hc]; omega)) ?_
      refine runl_no_g rfl rfl (decide_eq_true (by rw [← hc]; omega)) ?_
      refine runl_ev (ev_pick rfl rfl rfl (if_pos (decide_eq_true (by rw [← hc]; omega)))) ?_
      refine runl_ev (ev_move rfl) ?_
      refine runl_ev_g rfl rfl (rfl) (ev_move rfl) ?_
      refine runl_ev_g rfl rfl (rfl) (ev_move rfl) ?_
      refine runl_ev_g rfl rfl (rfl) (ev_indexS (k := k) Tryz.underlying9 rfl rfl (hk1)) ?_
      refine runl_ev_g rfl rfl (rfl) (ev_lss rfl rfl) ?_
      refine runl_ev_g rfl rfl (rfl) (ev_move rfl) ?_
      refine runl_ev_g rfl rfl (decide_eq_false (by rw [← hc]; omega)) (ev_move rfl) ?_
      refine runl_ev_g rfl rfl (decide_eq_false (by rw [← hc]; omega)) (ev_move rfl) ?_
      refine runl_ev_g rfl rfl (decide_eq_false (by rw [← hc]; omega)) (ev_indexS (k := k) Tryz.underlying9 rfl rfl (hk1)) ?_
      refine runl_ev_g rfl rfl (decide_eq_false (by rw [← hc]; omega)) (ev_gtr rfl rfl) ?_
      refine runl_ev_g rfl rfl (rfl) (ev_pick rfl rfl rfl (if_neg (by rw [← hc]; simp; omega))) ?_
      refine runl_ev (ev_pick rfl rfl rfl (if_pos (rfl))) ?_
      refine runl_ev (ev_move rfl) ?_
      refine runl_no_g rfl rfl (decide_eq_false (by rw [← hc]; omega)) ?_
      refine runl_no_g rfl rfl (decide_eq_false (by rw [← hc]; omega)) ?_
      refine runl_no_g rfl rfl (decide_eq_false (by rw [← hc]; omega)) ?_
      refine runl_no_g rfl rfl (decide_eq_false (by rw [← hc]; omega)) ?_
      refine runl_ev (ev_pick rfl rfl rfl (if_neg (by rw [← hc]; simp; omega))) ?_
      refine runl_nil ?_
      refine run_cond_false rfl (rfl) ?_
      refine run_skip ?_
      refine run_inBlock ?_
      refine run_region rfl ?_
      refine runl_ev (ev_move rfl) ?_
      refine runl_ev (ev_add rfl rfl (by omega) (by omega)) ?_
      refine runl_ev (ev_assign rfl) ?_
      refine runl_nil ?_
      exact IH (k + 1) _ _ (by omega) ⟨rfl, rfl, trivial⟩ ⟨by omega, by rw [htk, hall, hsg]; rfl, e⟩
    · have hsg := sign_false (c := c) (by omega)
      refine run_region rfl ?_
      refine runl_ev (ev_move rfl) ?_
      refine runl_ev (ev_move rfl) ?_
      refine runl_ev (ev_indexS (k := k) Tryz.underlying9 rfl rfl (hk1)) ?_
      refine runl_ev (ev_lss rfl rfl) ?_
      refine runl_ev (ev_move rfl) ?_
      refine runl_no_g rfl rfl (decide_eq_true (by rw [← hc]; omega)) ?_
      refine runl_no_g rfl rfl (decide_eq_true (by rw [← hc]; omega)) ?_
      refine runl_no_g rfl rfl (decide_eq_true (by rw [← hc]; omega)) ?_
      refine runl_no_g rfl rfl (decide_eq_true (by rw [← hc]; omega)) ?_
      refine runl_ev (ev_pick rfl rfl rfl (if_pos (decide_eq_true (by rw [← hc]; omega)))) ?_
      refine runl_ev (ev_move rfl) ?_
      refine runl_ev_g rfl rfl (rfl) (ev_move rfl) ?_
      refine runl_ev_g rfl rfl (rfl) (ev_move rfl) ?_
      refine runl_ev_g rfl rfl (rfl) (ev_indexS (k := k) Tryz.underlying9 rfl rfl (hk1)) ?_
      refine runl_ev_g rfl rfl (rfl) (ev_lss rfl rfl) ?_
      refine runl_ev_g rfl rfl (rfl) (ev_move rfl) ?_
      refine runl_ev_g rfl rfl (decide_eq_false (by rw [← hc]; omega)) (ev_move rfl) ?_
      refine runl_ev_g rfl rfl (decide_eq_false (by rw [← hc]; omega)) (ev_move rfl) ?_
      refine runl_ev_g rfl rfl (decide_eq_false (by rw [← hc]; omega)) (ev_indexS (k := k) Tryz.underlying9 rfl rfl (hk1)) ?_
      refine runl_ev_g rfl rfl (decide_eq_false (by rw [← hc]; omega)) (ev_gtr rfl rfl) ?_
      refine runl_ev_g rfl rfl (rfl) (ev_pick rfl rfl rfl (if_neg (by rw [← hc]; simp; omega))) ?_
      refine runl_ev (ev_pick rfl rfl rfl (if_pos (rfl))) ?_
      refine runl_ev (ev_move rfl) ?_
      refine runl_ev_g rfl rfl (decide_eq_true (by rw [← hc]; omega)) (ev_move rfl) ?_
      refine runl_ev_g rfl rfl (decide_eq_true (by rw [← hc]; omega)) (ev_move rfl) ?_
      refine runl_ev_g rfl rfl (decide_eq_true (by rw [← hc]; omega)) (ev_indexS (k := k) Tryz.underlying9 rfl rfl (hk1)) ?_
      refine runl_ev_g rfl rfl (decide_eq_true (by rw [← hc]; omega)) (ev_neqI rfl rfl) ?_
      refine runl_ev (ev_pick rfl rfl rfl (if_pos (decide_eq_true (by rw [← hc]; omega)))) ?_
      refine runl_nil ?_
      refine run_cond_true rfl (decide_eq_true (by rw [← hc]; omega)) ?_
      refine run_seq ?_
      refine run_region rfl ?_
      refine runl_ev (ev_assign rfl) ?_
      refine runl_nil ?_
      refine run_ret_any Tryz.func178 (res1 Tryz.results178 rfl) ?_
      exact ⟨by rw [name_no hk1 (by rw [← hc]; exact hsg)], e⟩
    · have hsg := sign_false (c := c) (by omega)
      refine run_region rfl ?_
      refine runl_ev (ev_move rfl) ?_
      refine runl_ev (ev_move rfl) ?_
      refine runl_ev (ev_indexS (k := k) Tryz.underlying9 rfl rfl (hk1)) ?_
      refine runl_ev (ev_lss rfl rfl) ?_
      refine runl_ev (ev_move rfl) ?_
      refine runl_ev_g rfl rfl (decide_eq_false (by rw [← hc]; omega)) (ev_move rfl) ?_
      refine runl_ev_g rfl rfl (decide_eq_false (by rw [← hc]; omega)) (ev_move rfl) ?_
      refine runl_ev_g rfl rfl (decide_eq_false (by rw [← hc]; omega)) (ev_indexS (k := k) Tryz.underlying9 rfl rfl (hk1)) ?_
      refine runl_ev_g rfl rfl (decide_eq_false (by rw [← hc]; omega)) (ev_gtr rfl rfl) ?_
      refine runl_ev (ev_pick rfl rfl rfl (if_neg (by rw [← hc]; simp; omega))) ?_
      refine runl_ev (ev_move rfl) ?_
      refine runl_ev_g rfl rfl (decide_eq_true (by rw [← hc]; omega)) (ev_move rfl) ?_
      refine runl_ev_g rfl rfl (decide_eq_true (by rw [← hc]; omega)) (ev_move rfl) ?_
      refine runl_ev_g rfl rfl (decide_eq_true (by rw [← hc]; omega)) (ev_indexS (k := k) Tryz.underlying9 rfl rfl (hk1)) ?_
      refine runl_ev_g rfl rfl (decide_eq_true (by rw [← hc]; omega)) (ev_lss rfl rfl) ?_
      refine runl_ev_g rfl rfl (decide_eq_true (by rw [← hc]; omega)) (ev_move rfl) ?_
      refine runl_ev_g rfl rfl (decide_eq_false (by rw [← hc]; omega)) (ev_move rfl) ?_
      refine runl_ev_g rfl rfl (decide_eq_false (by rw [← hc]; omega)) (ev_move rfl) ?_
      refine runl_ev_g rfl rfl (decide_eq_false (by rw [← hc]; omega)) (ev_indexS (k := k) Tryz.underlying9 rfl rfl (hk1)) ?_
      refine runl_ev_g rfl rfl (decide_eq_false (by rw [← hc]; omega)) (ev_gtr rfl rfl) ?_
      refine runl_ev_g rfl rfl (decide_eq_true (by rw [← hc]; omega)) (ev_pick rfl rfl rfl (if_neg (by rw [← hc]; simp; omega))) ?_
      refine runl_ev (ev_pick rfl rfl rfl (if_pos (decide_eq_true (by rw [← hc]; omega)))) ?_
      refine runl_ev (ev_move rfl) ?_
      refine runl_ev_g rfl rfl (decide_eq_true (by rw [← hc]; omega)) (ev_move rfl) ?_
      refine runl_ev_g rfl rfl (decide_eq_true (by rw [← hc]; omega)) (ev_move rfl) ?_
      refine runl_ev_g rfl rfl (decide_eq_true (by rw [← hc]; omega)) (ev_indexS (k := k) Tryz.underlying9 rfl rfl (hk1)) ?_
      refine runl_ev_g rfl rfl (decide_eq_true (by rw [← hc]; omega)) (ev_neqI rfl rfl) ?_
      refine runl_ev (ev_pick rfl rfl rfl (if_pos (decide_eq_true (by rw [← hc]; omega)))) ?_
      refine runl_nil ?_
      refine run_cond_true rfl (decide_eq_true (by rw [← hc]; omega)) ?_
      refine run_seq ?_
      refine run_region rfl ?_
      refine runl_ev (ev_assign rfl) ?_
      refine runl_nil ?_
      refine run_ret_any Tryz.func178 (res1 Tryz.results178 rfl) ?_
      exact ⟨by rw [name_no hk1 (by rw [← hc]; exact hsg)], e⟩
  · obtain rfl : k = s.size := by omega
    rw [List.take_of_length_le (by omega : s.data.toList.length ≤ s.size)] at hall
    refine run_exit rfl ?_
    refine run_seq ?_
    by_cases q1 : 1 ≤ s.size
    · refine run_region rfl ?_
      refine runl_ev (ev_move rfl) ?_
      refine runl_ev (ev_lenS str_9 rfl) ?_
      refine runl_ev (ev_geq rfl rfl) ?_
      refine runl_ev (ev_move rfl) ?_
      refine runl_ev_g rfl rfl (decide_eq_true (by omega)) (ev_move rfl) ?_
      refine runl_ev_g rfl rfl (decide_eq_true (by omega)) (ev_lenS str_9 rfl) ?_
      refine runl_ev_g rfl rfl (decide_eq_true (by omega)) (ev_leq rfl rfl) ?_
      refine runl_ev (ev_pick rfl rfl rfl (if_pos (decide_eq_true (by omega)))) ?_
      refine runl_ev (ev_assign rfl) ?_
      refine runl_nil ?_
      refine run_ret_any Tryz.func178 (res1 Tryz.results178 rfl) ?_
      refine ⟨?_, e⟩
      rw [name_all hall, decide_eq_true q1, Bool.true_and]
      congr 1
      exact decide_eq_decide.2 (by omega)
    · refine run_region rfl ?_
      refine runl_ev (ev_move rfl) ?_
      refine runl_ev (ev_lenS str_9 rfl) ?_
      refine runl_ev (ev_geq rfl rfl) ?_
      refine runl_ev (ev_move rfl) ?_
      refine runl_no_g rfl rfl (decide_eq_false (by omega)) ?_
      refine runl_no_g rfl rfl (decide_eq_false (by omega)) ?_
      refine runl_no_g rfl rfl (decide_eq_false (by omega)) ?_
      refine runl_ev (ev_pick rfl rfl rfl (if_neg (by simp; omega))) ?_
      refine runl_ev (ev_assign rfl) ?_
      refine runl_nil ?_
      refine run_ret_any Tryz.func178 (res1 Tryz.results178 rfl) ?_
      exact ⟨by rw [name_all hall, decide_eq_false q1]; rfl, e⟩
theorem qissnap_any (x : SnapP) (cs : List Value) (w : World) (hx : RSnap w x cs) (hn : x.pins.length ≤ 2199023255552) (hnb : ∀ p ∈ x.pins, p.name.size ≤ 1099511627776) : Ret Tryz.prog 119 [.agg ⟨cs⟩] w fun v w' => v = .bool (isSnapP x) ∧ Ext w w' := by
  have e := ExtB.refl (fun _ => False) w
  obtain ⟨a, c, rfl, hpi⟩ := hx
  refine ret_of_run Tryz.func119 rfl Tryz.ntmps119 rfl ?_
  refine run_seq ?_
  refine run_region rfl ?_
  refine runl_op (t_boxA rfl) ?_
  rintro _ w1 ⟨b1, rfl, hb1, e1, n1, l1⟩
  have z1 := e1.size
  replace e := e.trans e1
  refine runl_ev (ev_assign rfl) ?_
  refine runl_nil ?_
  refine run_seq ?_
  refine run_seq ?_
  refine run_region rfl ?_
  refine runl_ev (ev_assign rfl) ?_
  refine runl_nil ?_
  refine run_block ?_
  refine run_loop (ι := Nat) (fun k => [(1, .pointer (some ⟨b1, 0, none⟩)), (3, .int .i64 (k : Int))]) (fun k w' => k ≤ x.pins.length ∧ (List.range k).all (pinAt x.pins) = true ∧ w'.heap[b1]? = some (.cells ⟨[.int .i64 x.ver, .int .i64 x.exp, .slice a x.pins.length c]⟩ 42 (0, 0)) ∧ Ext w w') (fun k => x.pins.length - k) (0) ⟨rfl, rfl, trivial⟩ (⟨Nat.zero_le _, rfl, hb1, e⟩) ?_
  clear e hb1
  intro k w1 ⟨hk, hall, hb1, e⟩ IH
  have lb1 := lt_of_at hb1
  refine run_seq ?_
  refine run_seq ?_
  refine run_region rfl ?_
  refine runl_ev (ev_move rfl) ?_
  refine runl_ev (ev_fieldAddr fld_42_2 rfl) ?_
  refine runl_ev (ev_load1 cell_40 rfl (eqw (cell_blk hb1 rfl))) ?_
  refine runl_ev (ev_lenL sl_40 rfl) ?_
  refine runl_ev (ev_lss rfl rfl) ?_
  refine runl_nil ?_
  refine run_dcond rfl (fun h0 => ?_) (fun h0 => ?_)
  · have hk1 : k < x.pins.length := by omega
    obtain ⟨bA, oA, cA, rfl, hrA, hcA⟩ := hpi.at.2 k hk1
    obtain rfl := hrA
    have hpa := pinAt_eq hk1
    refine run_skip ?_
    refine run_seq ?_
    refine run_block ?_
    refine run_seq ?_
    have hcs : nameB x.pins[k].name = false ∨ (nameB x.pins[k].name = true ∧ verB x.pins[k].ver = false) ∨ (nameB x.pins[k].name = true ∧ verB x.pins[k].ver = true ∧ k = 0) ∨ (nameB x.pins[k].name = true ∧ verB x.pins[k].ver = true ∧ 0 < k) := by
      cases nameB x.pins[k].name <;> cases verB x.pins[k].ver <;> simp <;> omega
    rcases hcs with q1 | ⟨q1, q2⟩ | ⟨q1, q2, rfl⟩ | ⟨q1, q2, q3⟩
    · have hno : pinAt x.pins k = false := by rw [hpa, q1]; rfl
      refine run_draw mo (fun w' => Ext w1 w') [] [(true, 0), (true, 1), (true, 2), (true, 3), (true, 4), (true, 5), (false, 6), (true, 7), (true, 8), (true, 9), (true, 10), (true, 11), (true, 12), (true, 13), (true, 14), (false, 15), (true, 16), (true, 17), (true, 18), (true, 19), (true, 20), (true, 21), (true, 22), (true, 23), (true, 24), (true, 25), (true, 26), (true, 27), (true, 28), (true, 29), (true, 30), (true, 31), (true, 32), (true, 33), (true, 34), (true, 35), (true, 36), (true, 37)] (by kernel_rfl) ?_
      intro wr4 er4
      have zr4 := er4.size
      have hsr4 := er4
      have ep := e.trans er4
      have hb1p := er4.at hb1
      refine rund_ev hsr4 rfl (ev_fieldAddr fld_42_2 rfl) ?_
      refine rund_ev hsr4 rfl (ev_load1 cell_40 rfl (fun wz hz => cell_blk (hz.at hb1) rfl)) ?_
      refine rund_ev hsr4 rfl (ev_move rfl) ?_
      refine rund_ev hsr4 rfl (ev_indexAddr el_40 rfl rfl (by omega)) ?_
      refine rund_ev hsr4 rfl (ev_fieldAddr fld_52_0 rfl) ?_
      refine rund_ev hsr4 rfl (ev_load1 cell_9 rfl (fun wz hz => (hcA.ext (e.trans hz)).pick 0 rfl rfl)) ?_
      refine rund_op rfl (t_call call_178 rfl (qname_any _ _ (hnb _ (List.getElem_mem hk1)))) ?_
      rintro _ w17 ⟨rfl, e17⟩
      have z17 := e17.size
      replace ep := ep.trans e17
      replace hb1p := e17.at hb1p
      have hs17 := hsr4.trans e17
      refine ⟨hs17, ?_⟩
      refine rund_ev hs17 rfl (ev_not rfl) ?_
      refine rund_ev hs17 rfl (ev_move rfl) ?_
      refine rund_no_g hs17 rfl rfl rfl (by rw [q1] <;> rfl) ?_
      refine rund_no_g hs17 rfl rfl rfl (by rw [q1] <;> rfl) ?_
      refine rund_no_g hs17 rfl rfl rfl (by rw [q1] <;> rfl) ?_
      refine rund_no_g hs17 rfl rfl rfl (by rw [q1] <;> rfl) ?_
      refine rund_no_g hs17 rfl rfl rfl (by rw [q1] <;> rfl) ?_
      refine rund_no_g hs17 rfl rfl rfl (by rw [q1] <;> rfl) ?_
      refine rund_no_gf rfl rfl rfl (by rw [q1] <;> rfl) hs17 ?_
      refine rund_no_g hs17 rfl rfl rfl (by rw [q1] <;> rfl) ?_
      refine rund_ev hs17 rfl (ev_pick rfl rfl rfl (if_pos (by rw [q1] <;> rfl))) ?_
      refine rund_ev hs17 rfl (ev_move rfl) ?_
      refine rund_no_g hs17 rfl rfl rfl (rfl) ?_
      refine rund_no_g hs17 rfl rfl rfl (rfl) ?_
      refine rund_no_g hs17 rfl rfl rfl (rfl) ?_
      refine rund_no_u hs17 rfl rfl rfl ?_
      refine rund_no_u hs17 rfl rfl rfl ?_
      refine rund_no_u hs17 rfl rfl rfl ?_
      refine rund_no_u hs17 rfl rfl rfl ?_
      refine rund_no_u hs17 rfl rfl rfl ?_
      refine rund_no_u hs17 rfl rfl rfl ?_
      refine rund_no_u hs17 rfl rfl rfl ?_
      refine rund_no_u hs17 rfl rfl rfl ?_
      refine rund_no_u hs17 rfl rfl rfl ?_
      refine rund_no_u hs17 rfl rfl rfl ?_
      refine rund_no_u hs17 rfl rfl rfl ?_
      refine rund_no_u hs17 rfl rfl rfl ?_
      refine rund_no_u hs17 rfl rfl rfl ?_
      refine rund_no_u hs17 rfl rfl rfl ?_
      refine rund_no_g hs17 rfl rfl rfl (rfl) ?_
      refine rund_ev hs17 rfl (ev_pick rfl rfl rfl (if_pos (rfl))) ?_
      refine rund_nil ?_
      replace e := ep
      clear ep
      replace hb1 := hb1p
      clear hb1p
      refine run_cond_true rfl (rfl) ?_
      refine run_seq ?_
      refine run_region rfl ?_
      refine runl_ev (ev_assign rfl) ?_
      refine runl_nil ?_
      refine run_ret_any Tryz.func119 (res1 Tryz.results119 rfl) ?_
      exact ⟨by rw [snap_pins hk1 hno], e⟩
    · have hno : pinAt x.pins k = false := by rw [hpa, q1, q2]; rfl
      refine run_draw mo (fun w' => Ext w1 w') [] [(true, 0), (true, 1), (true, 2), (true, 3), (true, 4), (true, 5), (false, 6), (true, 7), (true, 8), (true, 9), (true, 10), (true, 11), (true, 12), (true, 13), (true, 14), (false, 15), (true, 16), (true, 17), (true, 18), (true, 19), (true, 20), (true, 21), (true, 22), (true, 23), (true, 24), (true, 25), (true, 26), (true, 27), (true, 28), (true, 29), (true, 30), (true, 31), (true, 32), (true, 33), (true, 34), (true, 35), (true, 36), (true, 37)] (by kernel_rfl) ?_
      intro wr4 er4
      have zr4 := er4.size
      have hsr4 := er4
      have ep := e.trans er4
      have hb1p := er4.at hb1
      refine rund_ev hsr4 rfl (ev_fieldAddr fld_42_2 rfl) ?_
      refine rund_ev hsr4 rfl (ev_load1 cell_40 rfl (fun wz hz => cell_blk (hz.at hb1) rfl)) ?_
      refine rund_ev hsr4 rfl (ev_move rfl) ?_
      refine rund_ev hsr4 rfl (ev_indexAddr el_40 rfl rfl (by omega)) ?_
      refine rund_ev hsr4 rfl (ev_fieldAddr fld_52_0 rfl) ?_
      refine rund_ev hsr4 rfl (ev_load1 cell_9 rfl (fun wz hz => (hcA.ext (e.trans hz)).pick 0 rfl rfl)) ?_
      refine rund_op rfl (t_call call_178 rfl (qname_any _ _ (hnb _ (List.getElem_mem hk1)))) ?_
      rintro _ w17 ⟨rfl, e17⟩
      have z17 := e17.size
      replace ep := ep.trans e17
      replace hb1p := e17.at hb1p
      have hs17 := hsr4.trans e17
      refine ⟨hs17, ?_⟩
      refine rund_ev hs17 rfl (ev_not rfl) ?_
      refine rund_ev hs17 rfl (ev_move rfl) ?_
      refine rund_ev_g hs17 rfl rfl rfl (by rw [q1] <;> rfl) (ev_fieldAddr fld_42_2 rfl) ?_
      refine rund_ev_g hs17 rfl rfl rfl (by rw [q1] <;> rfl) (ev_load1 cell_40 rfl (fun wz hz => cell_blk (hz.at hb1) rfl)) ?_
      refine rund_ev_g hs17 rfl rfl rfl (by rw [q1] <;> rfl) (ev_move rfl) ?_
      refine rund_ev_g hs17 rfl rfl rfl (by rw [q1] <;> rfl) (ev_indexAddr el_40 rfl rfl (by omega)) ?_
      refine rund_ev_g hs17 rfl rfl rfl (by rw [q1] <;> rfl) (ev_fieldAddr fld_52_1 rfl) ?_
      refine rund_ev_g hs17 rfl rfl rfl (by rw [q1] <;> rfl) (ev_load1 cell_3 rfl (fun wz hz => (hcA.ext (e.trans hz)).pick 1 rfl rfl)) ?_
      refine rund_op_g rfl rfl rfl (by rw [q1] <;> rfl) (t_call call_176 rfl (rver_any _ _)) ?_
      rintro _ w26 ⟨rfl, e26⟩
      have z26 := e26.size
      replace ep := ep.trans e26
      replace hb1p := e26.at hb1p
      have hs26 := hs17.trans e26
      refine ⟨hs26, ?_⟩
      refine rund_ev_g hs26 rfl rfl rfl (by rw [q1] <;> rfl) (ev_not rfl) ?_
      refine rund_ev hs26 rfl (ev_pick rfl rfl rfl (if_neg (by rw [q1]; simp))) ?_
      refine rund_ev hs26 rfl (ev_move rfl) ?_
      refine rund_no_g hs26 rfl rfl rfl (by rw [q2] <;> rfl) ?_
      refine rund_no_g hs26 rfl rfl rfl (by rw [q2] <;> rfl) ?_
      refine rund_no_g hs26 rfl rfl rfl (by rw [q2] <;> rfl) ?_
      refine rund_no_u hs26 rfl rfl rfl ?_
      refine rund_no_u hs26 rfl rfl rfl ?_
      refine rund_no_u hs26 rfl rfl rfl ?_
      refine rund_no_u hs26 rfl rfl rfl ?_
      refine rund_no_u hs26 rfl rfl rfl ?_
      refine rund_no_u hs26 rfl rfl rfl ?_
      refine rund_no_u hs26 rfl rfl rfl ?_
      refine rund_no_u hs26 rfl rfl rfl ?_
      refine rund_no_u hs26 rfl rfl rfl ?_
      refine rund_no_u hs26 rfl rfl rfl ?_
      refine rund_no_u hs26 rfl rfl rfl ?_
      refine rund_no_u hs26 rfl rfl rfl ?_
      refine rund_no_u hs26 rfl rfl rfl ?_
      refine rund_no_u hs26 rfl rfl rfl ?_
      refine rund_no_g hs26 rfl rfl rfl (by rw [q2] <;> rfl) ?_
      refine rund_ev hs26 rfl (ev_pick rfl rfl rfl (if_pos (by rw [q2] <;> rfl))) ?_
      refine rund_nil ?_
      replace e := ep
      clear ep
      replace hb1 := hb1p
      clear hb1p
      refine run_cond_true rfl (rfl) ?_
      refine run_seq ?_
      refine run_region rfl ?_
      refine runl_ev (ev_assign rfl) ?_
      refine runl_nil ?_
      refine run_ret_any Tryz.func119 (res1 Tryz.results119 rfl) ?_
      exact ⟨by rw [snap_pins hk1 hno], e⟩
    · have hyes : pinAt x.pins 0 = true := by rw [hpa, q1, q2]; rfl
      refine run_draw mo (fun w' => Ext w1 w') [] [(true, 0), (true, 1), (true, 2), (true, 3), (true, 4), (true, 5), (false, 6), (true, 7), (true, 8), (true, 9), (true, 10), (true, 11), (true, 12), (true, 13), (true, 14), (false, 15), (true, 16), (true, 17), (true, 18), (true, 19), (true, 20), (true, 21), (true, 22), (true, 23), (true, 24), (true, 25), (true, 26), (true, 27), (true, 28), (true, 29), (true, 30), (true, 31), (true, 32), (true, 33), (true, 34), (true, 35), (true, 36), (true, 37)] (by kernel_rfl) ?_
      intro wr4 er4
      have zr4 := er4.size
      have hsr4 := er4
      have ep := e.trans er4
      have hb1p := er4.at hb1
      refine rund_ev hsr4 rfl (ev_fieldAddr fld_42_2 rfl) ?_
      refine rund_ev hsr4 rfl (ev_load1 cell_40 rfl (fun wz hz => cell_blk (hz.at hb1) rfl)) ?_
      refine rund_ev hsr4 rfl (ev_move rfl) ?_
      refine rund_ev hsr4 rfl (ev_indexAddr el_40 rfl rfl (by omega)) ?_
      refine rund_ev hsr4 rfl (ev_fieldAddr fld_52_0 rfl) ?_
      refine rund_ev hsr4 rfl (ev_load1 cell_9 rfl (fun wz hz => (hcA.ext (e.trans hz)).pick 0 rfl rfl)) ?_
      refine rund_op rfl (t_call call_178 rfl (qname_any _ _ (hnb _ (List.getElem_mem hk1)))) ?_
      rintro _ w17 ⟨rfl, e17⟩
      have z17 := e17.size
      replace ep := ep.trans e17
      replace hb1p := e17.at hb1p
      have hs17 := hsr4.trans e17
      refine ⟨hs17, ?_⟩
      refine rund_ev hs17 rfl (ev_not rfl) ?_
      refine rund_ev hs17 rfl (ev_move rfl) ?_
      refine rund_ev_g hs17 rfl rfl rfl (by rw [q1] <;> rfl) (ev_fieldAddr fld_42_2 rfl) ?_
      refine rund_ev_g hs17 rfl rfl rfl (by rw [q1] <;> rfl) (ev_load1 cell_40 rfl (fun wz hz => cell_blk (hz.at hb1) rfl)) ?_
      refine rund_ev_g hs17 rfl rfl rfl (by rw [q1] <;> rfl) (ev_move rfl) ?_
      refine rund_ev_g hs17 rfl rfl rfl (by rw [q1] <;> rfl) (ev_indexAddr el_40 rfl rfl (by omega)) ?_
      refine rund_ev_g hs17 rfl rfl rfl (by rw [q1] <;> rfl) (ev_fieldAddr fld_52_1 rfl) ?_
      refine rund_ev_g hs17 rfl rfl rfl (by rw [q1] <;> rfl) (ev_load1 cell_3 rfl (fun wz hz => (hcA.ext (e.trans hz)).pick 1 rfl rfl)) ?_
      refine rund_op_g rfl rfl rfl (by rw [q1] <;> rfl) (t_call call_176 rfl (rver_any _ _)) ?_
      rintro _ w26 ⟨rfl, e26⟩
      have z26 := e26.size
      replace ep := ep.trans e26
      replace hb1p := e26.at hb1p
      have hs26 := hs17.trans e26
      refine ⟨hs26, ?_⟩
      refine rund_ev_g hs26 rfl rfl rfl (by rw [q1] <;> rfl) (ev_not rfl) ?_
      refine rund_ev hs26 rfl (ev_pick rfl rfl rfl (if_neg (by rw [q1]; simp))) ?_
      refine rund_ev hs26 rfl (ev_move rfl) ?_
      refine rund_ev_g hs26 rfl rfl rfl (by rw [q2] <;> rfl) (ev_move rfl) ?_
      refine rund_ev_g hs26 rfl rfl rfl (by rw [q2] <;> rfl) (ev_gtr rfl rfl) ?_
      refine rund_ev_g hs26 rfl rfl rfl (by rw [q2] <;> rfl) (ev_move rfl) ?_
      refine rund_no_g hs26 rfl rfl rfl (by decide) ?_
      refine rund_no_g hs26 rfl rfl rfl (by decide) ?_
      refine rund_no_g hs26 rfl rfl rfl (by decide) ?_
      refine rund_no_g hs26 rfl rfl rfl (by decide) ?_
      refine rund_no_g hs26 rfl rfl rfl (by decide) ?_
      refine rund_no_g hs26 rfl rfl rfl (by decide) ?_
      refine rund_no_g hs26 rfl rfl rfl (by decide) ?_
      refine rund_no_g hs26 rfl rfl rfl (by decide) ?_
      refine rund_no_g hs26 rfl rfl rfl (by decide) ?_
      refine rund_no_g hs26 rfl rfl rfl (by decide) ?_
      refine rund_no_g hs26 rfl rfl rfl (by decide) ?_
      refine rund_no_g hs26 rfl rfl rfl (by decide) ?_
      refine rund_no_g hs26 rfl rfl rfl (by decide) ?_
      refine rund_no_g hs26 rfl rfl rfl (by decide) ?_
      refine rund_ev_g hs26 rfl rfl rfl (by rw [q2] <;> rfl) (ev_pick rfl rfl rfl (if_neg (by decide))) ?_
      refine rund_ev hs26 rfl (ev_pick rfl rfl rfl (if_neg (by rw [q2]; simp))) ?_
      refine rund_nil ?_
      replace e := ep
      clear ep
      replace hb1 := hb1p
      clear hb1p
      refine run_cond_false rfl (rfl) ?_
      refine run_skip ?_
      refine run_inBlock ?_
      refine run_region rfl ?_
      refine runl_ev (ev_move rfl) ?_
      refine runl_ev (ev_add rfl rfl (by omega) (by omega)) ?_
      refine runl_ev (ev_assign rfl) ?_
      refine runl_nil ?_
      exact IH (0 + 1) _ _ (by omega) ⟨rfl, rfl, trivial⟩ ⟨by omega, range_succ_all hall hyes, hb1, e⟩
    · obtain ⟨bB, oB, cB, heB, hrB, hcB⟩ := hpi.at.2 (k - 1) (by omega)
      cases heB
      obtain rfl := hrB
      obtain ⟨lt, hlt⟩ : ∃ b, b = strLt (x.pins[k - 1]'(by omega)).name x.pins[k].name := ⟨_, rfl⟩
      refine run_draw mo (fun w' => Ext w1 w') [] [(true, 0), (true, 1), (true, 2), (true, 3), (true, 4), (true, 5), (false, 6), (true, 7), (true, 8), (true, 9), (true, 10), (true, 11), (true, 12), (true, 13), (true, 14), (false, 15), (true, 16), (true, 17), (true, 18), (true, 19), (true, 20), (true, 21), (true, 22), (true, 23), (true, 24), (true, 25), (true, 26), (true, 27), (true, 28), (true, 29), (true, 30), (true, 31), (true, 32), (true, 33), (true, 34), (true, 35), (true, 36), (true, 37)] (by kernel_rfl) ?_
      intro wr4 er4
      have zr4 := er4.size
      have hsr4 := er4
      have ep := e.trans er4
      have hb1p := er4.at hb1
      refine rund_ev hsr4 rfl (ev_fieldAddr fld_42_2 rfl) ?_
      refine rund_ev hsr4 rfl (ev_load1 cell_40 rfl (fun wz hz => cell_blk (hz.at hb1) rfl)) ?_
      refine rund_ev hsr4 rfl (ev_move rfl) ?_
      refine rund_ev hsr4 rfl (ev_indexAddr el_40 rfl rfl (by omega)) ?_
      refine rund_ev hsr4 rfl (ev_fieldAddr fld_52_0 rfl) ?_
      refine rund_ev hsr4 rfl (ev_load1 cell_9 rfl (fun wz hz => (hcA.ext (e.trans hz)).pick 0 rfl rfl)) ?_
      refine rund_op rfl (t_call call_178 rfl (qname_any _ _ (hnb _ (List.getElem_mem hk1)))) ?_
      rintro _ w17 ⟨rfl, e17⟩
      have z17 := e17.size
      replace ep := ep.trans e17
      replace hb1p := e17.at hb1p
      have hs17 := hsr4.trans e17
      refine ⟨hs17, ?_⟩
      refine rund_ev hs17 rfl (ev_not rfl) ?_
      refine rund_ev hs17 rfl (ev_move rfl) ?_
      refine rund_ev_g hs17 rfl rfl rfl (by rw [q1] <;> rfl) (ev_fieldAddr fld_42_2 rfl) ?_
      refine rund_ev_g hs17 rfl rfl rfl (by rw [q1] <;> rfl) (ev_load1 cell_40 rfl (fun wz hz => cell_blk (hz.at hb1) rfl)) ?_
      refine rund_ev_g hs17 rfl rfl rfl (by rw [q1] <;> rfl) (ev_move rfl) ?_
      refine rund_ev_g hs17 rfl rfl rfl (by rw [q1] <;> rfl) (ev_indexAddr el_40 rfl rfl (by omega)) ?_
      refine rund_ev_g hs17 rfl rfl rfl (by rw [q1] <;> rfl) (ev_fieldAddr fld_52_1 rfl) ?_
      refine rund_ev_g hs17 rfl rfl rfl (by rw [q1] <;> rfl) (ev_load1 cell_3 rfl (fun wz hz => (hcA.ext (e.trans hz)).pick 1 rfl rfl)) ?_
      refine rund_op_g rfl rfl rfl (by rw [q1] <;> rfl) (t_call call_176 rfl (rver_any _ _)) ?_
      rintro _ w26 ⟨rfl, e26⟩
      have z26 := e26.size
      replace ep := ep.trans e26
      replace hb1p := e26.at hb1p
      have hs26 := hs17.trans e26
      refine ⟨hs26, ?_⟩
      refine rund_ev_g hs26 rfl rfl rfl (by rw [q1] <;> rfl) (ev_not rfl) ?_
      refine rund_ev hs26 rfl (ev_pick rfl rfl rfl (if_neg (by rw [q1]; simp))) ?_
      refine rund_ev hs26 rfl (ev_move rfl) ?_
      refine rund_ev_g hs26 rfl rfl rfl (by rw [q2] <;> rfl) (ev_move rfl) ?_
      refine rund_ev_g hs26 rfl rfl rfl (by rw [q2] <;> rfl) (ev_gtr rfl rfl) ?_
      refine rund_ev_g hs26 rfl rfl rfl (by rw [q2] <;> rfl) (ev_move rfl) ?_
      refine rund_ev_g hs26 rfl rfl rfl (decide_eq_true (by omega)) (ev_fieldAddr fld_42_2 rfl) ?_
      refine rund_ev_g hs26 rfl rfl rfl (decide_eq_true (by omega)) (ev_load1 cell_40 rfl (fun wz hz => cell_blk (hz.at hb1) rfl)) ?_
      refine rund_ev_g hs26 rfl rfl rfl (decide_eq_true (by omega)) (ev_move rfl) ?_
      refine rund_ev_g hs26 rfl rfl rfl (decide_eq_true (by omega)) (ev_subK (((k - 1 : Nat) : Int)) rfl rfl (by rw [show ((k : Int) - 1) = ((k - 1 : Nat) : Int) by omega]; exact wrap_i64 (by omega) (by omega))) ?_
      refine rund_ev_g hs26 rfl rfl rfl (decide_eq_true (by omega)) (ev_indexAddr (k := k - 1) el_40 rfl rfl (by omega)) ?_
      refine rund_ev_g hs26 rfl rfl rfl (decide_eq_true (by omega)) (ev_fieldAddr fld_52_0 rfl) ?_
      refine rund_ev_g hs26 rfl rfl rfl (decide_eq_true (by omega)) (ev_load1 cell_9 rfl (fun wz hz => (hcB.ext (e.trans hz)).pick 0 rfl rfl)) ?_
      refine rund_ev_g hs26 rfl rfl rfl (decide_eq_true (by omega)) (ev_fieldAddr fld_42_2 rfl) ?_
      refine rund_ev_g hs26 rfl rfl rfl (decide_eq_true (by omega)) (ev_load1 cell_40 rfl (fun wz hz => cell_blk (hz.at hb1) rfl)) ?_
      refine rund_ev_g hs26 rfl rfl rfl (decide_eq_true (by omega)) (ev_move rfl) ?_
      refine rund_ev_g hs26 rfl rfl rfl (decide_eq_true (by omega)) (ev_indexAddr el_40 rfl rfl (by omega)) ?_
      refine rund_ev_g hs26 rfl rfl rfl (decide_eq_true (by omega)) (ev_fieldAddr fld_52_0 rfl) ?_
      refine rund_ev_g hs26 rfl rfl rfl (decide_eq_true (by omega)) (ev_load1 cell_9 rfl (fun wz hz => (hcA.ext (e.trans hz)).pick 0 rfl rfl)) ?_
      refine rund_ev_g hs26 rfl rfl rfl (decide_eq_true (by omega)) (ev_geqS rfl rfl) ?_
      refine rund_ev_g hs26 rfl rfl rfl (by rw [q2] <;> rfl) (ev_pick rfl rfl rfl (if_pos (decide_eq_true (by omega)))) ?_
      refine rund_ev hs26 rfl (ev_pick rfl rfl rfl (if_neg (by rw [q2]; simp))) ?_
      refine rund_nil ?_
      replace e := ep
      clear ep
      replace hb1 := hb1p
      clear hb1p
      refine run_cond_split rfl (fun h1 => ?_) (fun h1 => ?_)
      · have hno : pinAt x.pins k = false := by rw [hpa, q1, q2, decide_eq_false (by omega : ¬ k = 0)]; simpa using h1
        refine run_seq ?_
        refine run_region rfl ?_
        refine runl_ev (ev_assign rfl) ?_
        refine runl_nil ?_
        refine run_ret_any Tryz.func119 (res1 Tryz.results119 rfl) ?_
        exact ⟨by rw [snap_pins hk1 hno], e⟩
      · have hyes : pinAt x.pins k = true := by rw [hpa, q1, q2, decide_eq_false (by omega : ¬ k = 0)]; simpa using h1
        refine run_skip ?_
        refine run_inBlock ?_
        refine run_region rfl ?_
        refine runl_ev (ev_move rfl) ?_
        refine runl_ev (ev_add rfl rfl (by omega) (by omega)) ?_
        refine runl_ev (ev_assign rfl) ?_
        refine runl_nil ?_
        exact IH (k + 1) _ _ (by omega) ⟨rfl, rfl, trivial⟩ ⟨by omega, range_succ_all hall hyes, hb1, e⟩
  · obtain rfl : k = x.pins.length := by omega
    refine run_exit rfl ?_
    refine run_seq ?_
    refine run_region rfl ?_
    refine runl_ev (ev_fieldAddr fld_42_0 rfl) ?_
    refine runl_ev (ev_load1 cell_3 rfl (eqw (cell_blk hb1 rfl))) ?_
    refine runl_op (t_call call_176 rfl (rver_any x.ver _)) ?_
    rintro _ w51 ⟨rfl, e51⟩
    have z51 := e51.size
    replace e := e.trans e51
    replace hb1 := e51.at hb1
    cases hv : verB x.ver
    · refine runl_ev (ev_move rfl) ?_
      refine runl_no_g rfl rfl (rfl) ?_
      refine runl_no_g rfl rfl (rfl) ?_
      refine runl_no_g rfl rfl (rfl) ?_
      refine runl_no_g rfl rfl (rfl) ?_
      refine runl_ev (ev_pick rfl rfl rfl (if_neg (by simp))) ?_
      refine runl_ev (ev_move rfl) ?_
      refine runl_no_g rfl rfl (rfl) ?_
      refine runl_no_g rfl rfl (rfl) ?_
      refine runl_no_g rfl rfl (rfl) ?_
      refine runl_no_g rfl rfl (rfl) ?_
      refine runl_ev (ev_pick rfl rfl rfl (if_neg (by simp))) ?_
      refine runl_ev (ev_assign rfl) ?_
      refine runl_nil ?_
      refine run_ret_any Tryz.func119 (res1 Tryz.results119 rfl) ?_
      exact ⟨by simp [isSnapP, hv], e⟩
    · refine runl_ev (ev_move rfl) ?_
      refine runl_ev_g rfl rfl (rfl) (ev_fieldAddr fld_42_1 rfl) ?_
      refine runl_ev_g rfl rfl (rfl) (ev_load1 cell_3 rfl (eqw (cell_blk hb1 rfl))) ?_
      refine runl_op_g rfl rfl (rfl) (t_buildSlice (out := [.int .i64 x.exp]) Tryz.underlying248 sz_3 zero_3 rfl rfl (by decide) (by decide) rfl (rfl)) ?_
      rintro _ w55 ⟨b55, rfl, hb55, e55, n55, l55⟩
      have z55 := e55.size
      replace e := e.trans e55
      replace hb1 := e55.at hb1
      refine runl_op_g rfl rfl (rfl) (t_call call_177 rfl (rnums_any [x.exp] _ _ _ _ (sl_lit (l := [x.exp]) (R := RInt) hb55 (pc rfl pn)) (by simp))) ?_
      rintro _ w56 ⟨rfl, e56⟩
      have z56 := e56.size
      replace e := e.trans e56
      replace hb1 := e56.at hb1
      replace hb55 := e56.at hb55
      have hall1 : [x.exp].all numB = numB x.exp := by simp
      rw [hall1]
      cases hx : numB x.exp
      · refine runl_ev (ev_pick rfl rfl rfl (if_pos (rfl))) ?_
        refine runl_ev (ev_move rfl) ?_
        refine runl_no_g rfl rfl (rfl) ?_
        refine runl_no_g rfl rfl (rfl) ?_
        refine runl_no_g rfl rfl (rfl) ?_
        refine runl_no_g rfl rfl (rfl) ?_
        refine runl_ev (ev_pick rfl rfl rfl (if_neg (by simp))) ?_
        refine runl_ev (ev_assign rfl) ?_
        refine runl_nil ?_
        refine run_ret_any Tryz.func119 (res1 Tryz.results119 rfl) ?_
        exact ⟨by simp [isSnapP, hv, hx], e⟩
      · refine runl_ev (ev_pick rfl rfl rfl (if_pos (rfl))) ?_
        refine runl_ev (ev_move rfl) ?_
        refine runl_ev_g rfl rfl (rfl) (ev_fieldAddr fld_42_2 rfl) ?_
        refine runl_ev_g rfl rfl (rfl) (ev_load1 cell_40 rfl (eqw (cell_blk hb1 rfl))) ?_
        refine runl_ev_g rfl rfl (rfl) (ev_lenL sl_40 rfl) ?_
        refine runl_ev_g rfl rfl (rfl) (ev_leq rfl rfl) ?_
        refine runl_ev (ev_pick rfl rfl rfl (if_pos (rfl))) ?_
        refine runl_ev (ev_assign rfl) ?_
        refine runl_nil ?_
        refine run_ret_any Tryz.func119 (res1 Tryz.results119 rfl) ?_
        refine ⟨?_, e⟩
        rw [isSnapP, hall, hv, hx]
        congr 1
        exact decide_eq_decide.2 (by omega)
theorem rbytes1_any (bs : List UInt8) (w : World) (a : Option Addr) (n c : Nat) (hs : SlAt 1 RByte w (.slice a n c) bs) (hn : bs.length ≤ 1000000000) : Ret Tryz.prog 179 [.slice a n c] w (OwnB 5 w (encBs bs)) := by
  have e := ExtB.refl (fun _ => False) w
  have hs0 := hs
  obtain ⟨rfl, -⟩ := hs.at
  have hnl := encN_len bs.length
  refine ret_of_run Tryz.func179 rfl Tryz.ntmps179 rfl ?_
  refine run_seq ?_
  refine run_region rfl ?_
  refine runl_ev (ev_assign rfl) ?_
  refine runl_nil ?_
  refine run_seq ?_
  refine run_region rfl ?_
  refine runl_ev (ev_move rfl) ?_
  refine runl_ev (ev_lenL sl_29 rfl) ?_
  refine runl_op (t_call call_121 rfl (rnum1_any (bs.length : Int) _)) ?_
  rintro v5 w5 ow5
  have ow := ow5.from e
  obtain ⟨xs, g, own, hpp, hxl, -, hg, hgl⟩ := ow.open
  have e5 := ow5.ext
  have z5 := e5.size
  replace e := e.trans e5
  refine runl_ev (ev_move rfl) ?_
  refine runl_op (t_appendL (l := bs) (R := RByte) ef_29 rfl rfl own (hs0.ext RByte.stable e) rbyte_len (fun x cs h => rbyte_one x cs h) (by unfold maxLen; omega) (by omega)) ?_
  rintro v7 w7 ⟨n7, g7, hnl7, hnp7, ap7⟩
  have z7 := ap7.size
  have ow7 := OwnL.app flat_byte e hg (by omega) (hpp.mono fun _ _ _ hr => flat_byte _ _ _ _ hr) hxl hnp7 ap7 (by first | rfl | rw [List.length_append]) rfl
  refine runl_ev (ev_assign rfl) ?_
  refine runl_nil ?_
  refine run_ret_any Tryz.func179 (res1 Tryz.results179 rfl) ?_
  exact ow7
theorem qtext_any (s : ByteArray) (w : World) (hn : s.size ≤ 1000000000) : Ret Tryz.prog 120 [.string s] w (OwnB 5 w (encText s)) := by
  have e := ExtB.refl (fun _ => False) w
  refine ret_of_run Tryz.func120 rfl Tryz.ntmps120 rfl ?_
  refine run_seq ?_
  refine run_region rfl ?_
  refine runl_ev (ev_assign rfl) ?_
  refine runl_nil ?_
  refine run_seq ?_
  refine run_region rfl ?_
  refine runl_ev (ev_move rfl) ?_
  refine runl_op (t_convSB Tryz.underlying9 Tryz.underlying29 Tryz.underlying5 rfl) ?_
  rintro _ w4 ⟨b4, c4, rfl, hc4, sl4, e4, n4, l4⟩
  have z4 := e4.size
  replace e := e.trans e4
  refine runl_op (t_call call_179 rfl (rbytes1_any (tb s) _ _ _ _ sl4 hn)) ?_
  rintro v5 w5 ow5
  have ow := ow5.from e
  have e5 := ow5.ext
  have z5 := e5.size
  replace e := e.trans e5
  refine runl_ev (ev_assign rfl) ?_
  refine runl_nil ?_
  refine run_ret_any Tryz.func120 (res1 Tryz.results120 rfl) ?_
  exact ow
theorem rencsnap_any (x : SnapP) (cs : List Value) (w : World) (hx : RSnap w x cs) (hn : x.pins.length ≤ 2000000) (hnb : ∀ p ∈ x.pins, p.name.size ≤ 1099511627776) :
    Ret Tryz.prog 59 [.agg ⟨cs⟩] w fun v w' => ∃ p, v = .tuple #[p, .int .i64 (encE isSnapP x)] ∧ OwnB 5 w (encP 3 isSnapP encSnap x) p w' := by
  have e := ExtB.refl (fun _ => False) w
  have hcl := rsnap_len hx
  have hx0 := hx
  obtain ⟨a, c, rfl, hpi⟩ := hx
  have hn3 := encNs_len [3, x.ver, x.exp, (x.pins.length : Int)]
  simp only [List.length_cons, List.length_nil] at hn3
  refine ret_of_run Tryz.func59 rfl Tryz.ntmps59 rfl ?_
  refine run_seq ?_
  refine run_region rfl ?_
  refine runl_op (t_boxA rfl) ?_
  rintro _ w1 ⟨b1, rfl, hb1, e1, n1, l1⟩
  have z1 := e1.size
  replace e := e.trans e1
  have E1 := e
  clear e
  have e := ExtB.refl (fun _ => False) w1
  have lb1 := lt_of_at hb1
  refine runl_ev (ev_assign rfl) ?_
  refine runl_ev (ev_assign rfl) ?_
  refine runl_nil ?_
  refine run_seq ?_
  refine run_seq ?_
  refine run_region rfl ?_
  refine runl_ev (ev_loadA agg_42 hcl rfl (eqw (cells_all hb1))) ?_
  refine runl_op (t_call call_119 rfl (qissnap_any x _ _ (RSnap.stable _ _ _ _ (E1.trans e) hx0) (by omega) hnb)) ?_
  rintro _ w7 ⟨rfl, e7⟩
  have z7 := e7.size
  replace e := e.trans e7
  replace hb1 := e7.at hb1
  refine runl_ev (ev_not rfl) ?_
  refine runl_nil ?_
  refine run_cond_split rfl (fun h0 => ?_) (fun h0 => ?_)
  · have hm : isSnapP x = false := by simpa using h0
    refine run_seq ?_
    refine run_region rfl ?_
    refine runl_ev (ev_assign rfl) ?_
    refine runl_ev (ev_assign rfl) ?_
    refine runl_nil ?_
    refine run_ret_any Tryz.func59 (res2 Tryz.results59 rfl rfl) ?_
    refine ⟨_, by rw [encE, hm]; rfl, ?_⟩
    rw [show encP 3 isSnapP encSnap x = [] by unfold encP; rw [hm]; rfl]
    exact OwnL.nil _ _ (E1.trans e)
  · have hm : isSnapP x = true := by simpa using h0
    have hb := encSnap_len hm
    have hnm := snap_names hm
    unfold encSnap at hb
    simp only [List.length_append] at hb
    refine run_skip ?_
    refine run_seq ?_
    refine run_region rfl ?_
    refine runl_ev (ev_fieldAddr fld_42_0 rfl) ?_
    refine runl_ev (ev_load1 cell_3 rfl (eqw (cell_blk hb1 rfl))) ?_
    refine runl_ev (ev_fieldAddr fld_42_1 rfl) ?_
    refine runl_ev (ev_load1 cell_3 rfl (eqw (cell_blk hb1 rfl))) ?_
    refine runl_ev (ev_fieldAddr fld_42_2 rfl) ?_
    refine runl_ev (ev_load1 cell_40 rfl (eqw (cell_blk hb1 rfl))) ?_
    refine runl_ev (ev_lenL sl_40 rfl) ?_
    refine runl_op (t_buildSlice (out := [.int .i64 3, .int .i64 x.ver, .int .i64 x.exp, .int .i64 (x.pins.length : Int)]) Tryz.underlying248 sz_3 zero_3 rfl rfl (by decide) (by decide) rfl (rfl)) ?_
    rintro _ w16 ⟨b16, rfl, hb16, e16, n16, l16⟩
    have z16 := e16.size
    replace e := e.trans e16
    replace hb1 := e16.at hb1
    refine runl_op (t_call call_116 rfl (rnums1_any [3, x.ver, x.exp, (x.pins.length : Int)] _ _ _ _ (sl_lit (l := [3, x.ver, x.exp, (x.pins.length : Int)]) (R := RInt) hb16 (pc rfl (pc rfl (pc rfl (pc rfl pn))))) (by simp))) ?_
    rintro v17 w17 ow17
    have e17 := ow17.ext
    have ow := ow17.from e
    have z17 := e17.size
    replace e := e.trans e17
    replace hb1 := e17.at hb1
    replace hb16 := e17.at hb16
    clear ow17
    refine runl_ev (ev_assign rfl) ?_
    refine runl_nil ?_
    refine run_seq ?_
    refine run_seq ?_
    refine run_region rfl ?_
    refine runl_ev (ev_assign rfl) ?_
    refine runl_nil ?_
    refine run_block ?_
    refine run_loop (ι := Nat × Value) (fun x => [(1, .pointer (some ⟨b1, 0, none⟩)), (4, x.2), (5, .int .i64 (x.1 : Int))]) (fun y w2 => y.1 ≤ x.pins.length ∧ w2.heap[b1]? = some (.cells ⟨[.int .i64 x.ver, .int .i64 x.exp, .slice a x.pins.length c]⟩ 42 (0, 0)) ∧ OwnB 5 w1 (encNs [3, x.ver, x.exp, (x.pins.length : Int)] ++ (x.pins.take y.1).flatMap encPin) y.2 w2) (fun y => x.pins.length - y.1) ((0, v17)) ⟨rfl, rfl, rfl, trivial⟩ (⟨Nat.zero_le _, hb1, by simpa using ow⟩) ?_
    clear e hb1 ow
    intro ⟨k, v⟩ w2 ⟨hk, hb1, ow⟩ IH
    simp only at hk ow
    obtain ⟨xs, g, own, hpp, hxl, e, hg, hgl⟩ := ow.open
    have ze := e.size
    have htl0 := flat_take_le (f := encPin) (l := x.pins) k
    have hol : (encNs [3, x.ver, x.exp, (x.pins.length : Int)] ++ (x.pins.take k).flatMap encPin).length = (encNs [3, x.ver, x.exp, (x.pins.length : Int)]).length + ((x.pins.take k).flatMap encPin).length := by rw [List.length_append]
    refine run_seq ?_
    refine run_seq ?_
    refine run_region rfl ?_
    refine runl_ev (ev_move rfl) ?_
    refine runl_ev (ev_fieldAddr fld_42_2 rfl) ?_
    refine runl_ev (ev_load1 cell_40 rfl (eqw (cell_blk hb1 rfl))) ?_
    refine runl_ev (ev_lenL sl_40 rfl) ?_
    refine runl_ev (ev_lss rfl rfl) ?_
    refine runl_nil ?_
    refine run_dcond rfl (fun h1 => ?_) (fun h1 => ?_)
    · have hk1 : k < x.pins.length := by omega
      obtain ⟨bA, oA, cA, rfl, hrA, hcA⟩ := hpi.at.2 k hk1
      obtain rfl := hrA
      have htk := flat_take (f := encPin) hk1
      have htl := flat_take_le (f := encPin) (l := x.pins) (k + 1)
      rw [htk, List.length_append] at htl
      have hpl : (encPin x.pins[k]).length = (encText x.pins[k].name).length + (encN x.pins[k].ver).length := by unfold encPin; rw [List.length_append]
      have hn12 := hnm _ (List.getElem_mem hk1)
      refine run_skip ?_
      refine run_seq ?_
      refine run_block ?_
      refine run_draw mo (fun w' => w'.heap[b1]? = some (.cells ⟨[.int .i64 x.ver, .int .i64 x.exp, .slice (some ⟨bA, oA, none⟩) x.pins.length c]⟩ 42 (0, 0)) ∧ Ext w1 w') [] [(true, 0), (true, 1), (true, 2), (true, 3), (true, 4), (true, 5), (true, 6), (true, 9), (true, 10), (true, 11), (true, 12), (true, 13), (true, 14), (false, 7), (false, 8), (false, 15), (false, 16), (true, 17)] (by kernel_rfl) ?_
      intro wr7 er7
      have zr7 := er7.size
      have hsr7 : (fun w' => w'.heap[b1]? = some (.cells ⟨[.int .i64 x.ver, .int .i64 x.exp, .slice (some ⟨bA, oA, none⟩) x.pins.length c]⟩ 42 (0, 0)) ∧ Ext w1 w') wr7 := ⟨er7.at hb1, e.trans er7⟩
      have ep := e.trans er7
      have ownp := own.ext er7
      have hb1p := er7.at hb1
      refine rund_ev hsr7 rfl (ev_move rfl) ?_
      refine rund_ev hsr7 rfl (ev_fieldAddr fld_42_2 rfl) ?_
      refine rund_ev hsr7 rfl (ev_load1 cell_40 rfl (fun wz hz => cell_blk hz.1 rfl)) ?_
      refine rund_ev hsr7 rfl (ev_move rfl) ?_
      refine rund_ev hsr7 rfl (ev_indexAddr el_40 rfl rfl (by omega)) ?_
      refine rund_ev hsr7 rfl (ev_fieldAddr fld_52_0 rfl) ?_
      refine rund_ev hsr7 rfl (ev_load1 cell_9 rfl (fun wz hz => (hcA.ext (E1.trans hz.2)).pick 0 rfl rfl)) ?_
      refine rund_ev hsr7 rfl (ev_fieldAddr fld_42_2 rfl) ?_
      refine rund_ev hsr7 rfl (ev_load1 cell_40 rfl (fun wz hz => cell_blk hz.1 rfl)) ?_
      refine rund_ev hsr7 rfl (ev_move rfl) ?_
      refine rund_ev hsr7 rfl (ev_indexAddr el_40 rfl rfl (by omega)) ?_
      refine rund_ev hsr7 rfl (ev_fieldAddr fld_52_1 rfl) ?_
      refine rund_ev hsr7 rfl (ev_load1 cell_3 rfl (fun wz hz => (hcA.ext (E1.trans hz.2)).pick 1 rfl rfl)) ?_
      refine rund_op rfl (t_call call_120 rfl (qtext_any x.pins[k].name _ (by omega))) ?_
      rintro v32 w32 ow32
      have e32 := ow32.ext
      have og32 := ow32.g
      obtain ⟨a32, c32, rfl, hc32, -, -⟩ := og32.sl
      have z32 := e32.size
      replace ep := ep.trans e32
      replace ownp := ownp.ext e32
      replace hb1p := e32.at hb1p
      have hs32 := And.intro hb1p ep
      refine ⟨hs32, ?_⟩
      have og32p := og32
      refine rund_op rfl (t_appendL (l := encText x.pins[k].name) (R := RByte) ef_29 rfl rfl ownp og32p.slat rbyte_len (fun x cs h => rbyte_one x cs h) (by unfold maxLen; (try simp only [List.length_append]); omega) (by (try simp only [List.length_append]); omega)) ?_
      rintro v33 w33 ⟨n33, gg33, hnl33, hnp33, ap33⟩
      have og33 := OwnG.app flat_byte (w := w1) (by omega) (by omega : g = -1 ∨ (w1.heap.size : Int) ≤ g) (by omega) (hpp.mono fun _ _ _ hr => flat_byte _ _ _ _ hr) hxl hnp33 ap33 rfl rfl
      obtain ⟨xs33, g33, own33, hpp33, hxl33, hg33, hgl33⟩ := og33.open
      have z33 := ap33.ext.size
      replace ep := ep.newG ap33.ext (by omega)
      replace hb1p := ap33.ext.atG hb1p (by omega)
      replace og32p := og32p.keep flat_byte ap33.ext (fun k hk => by first | exact .inl (by omega) | exact .inr (by omega))
      have hsp33_ext := And.intro hb1p ep
      refine ⟨hsp33_ext, ?_⟩
      have own33p := own33
      refine rund_op rfl (t_call call_121 rfl (rnum1_any x.pins[k].ver _)) ?_
      rintro v40 w40 ow40
      have e40 := ow40.ext
      have og40 := ow40.g
      obtain ⟨a40, c40, rfl, hc40, -, -⟩ := og40.sl
      have z40 := e40.size
      replace ep := ep.trans e40
      replace hb1p := e40.at hb1p
      replace own33p := own33p.ext e40
      have hs40 := And.intro hb1p ep
      refine ⟨hs40, ?_⟩
      have og40p := og40
      refine rund_op rfl (t_appendL (l := encN x.pins[k].ver) (R := RByte) ef_29 rfl rfl own33p og40p.slat rbyte_len (fun x cs h => rbyte_one x cs h) (by unfold maxLen; (try simp only [List.length_append]); omega) (by (try simp only [List.length_append]); omega)) ?_
      rintro v41 w41 ⟨n41, gg41, hnl41, hnp41, ap41⟩
      have og41 := OwnG.app flat_byte (w := w1) (by omega) (by omega : g33 = -1 ∨ (w1.heap.size : Int) ≤ g33) (by omega) (hpp33.mono fun _ _ _ hr => flat_byte _ _ _ _ hr) hxl33 hnp41 ap41 rfl rfl
      obtain ⟨xs41, g41, own41, hpp41, hxl41, hg41, hgl41⟩ := og41.open
      have z41 := ap41.ext.size
      replace ep := ep.newG ap41.ext (by omega)
      replace hb1p := ap41.ext.atG hb1p (by omega)
      replace og40p := og40p.keep flat_byte ap41.ext (fun k hk => by first | exact .inl (by omega) | exact .inr (by omega))
      have hsp41_ext := And.intro hb1p ep
      refine ⟨hsp41_ext, ?_⟩
      have own41p := own41
      refine rund_ev hsp41_ext rfl (ev_assign rfl) ?_
      refine rund_nil ?_
      replace e := ep
      clear ep
      replace hb1 := hb1p
      clear hb1p
      replace own41 := own41p
      clear own41p
      refine run_inBlock ?_
      refine run_region rfl ?_
      refine runl_ev (ev_move rfl) ?_
      refine runl_ev (ev_add rfl rfl (by omega) (by omega)) ?_
      refine runl_ev (ev_assign rfl) ?_
      refine runl_nil ?_
      have ow41 := OwnG.l og41 e
      refine IH (k + 1, v41) _ _ (by simp only; omega) ⟨rfl, rfl, rfl, trivial⟩ ⟨hk1, hb1, ?_⟩
      simp only
      rw [htk, show encPin x.pins[k] = encText x.pins[k].name ++ encN x.pins[k].ver from rfl]
      simpa only [List.append_assoc] using ow41
    · obtain rfl : k = x.pins.length := by omega
      rw [List.take_length] at ow
      refine run_exit rfl ?_
      refine run_seq ?_
      refine run_region rfl ?_
      refine runl_ev (ev_move rfl) ?_
      refine runl_ev (ev_assign rfl) ?_
      refine runl_ev (ev_assign rfl) ?_
      refine runl_nil ?_
      refine run_ret_any Tryz.func59 (res2 Tryz.results59 rfl rfl) ?_
      refine ⟨_, by rw [encE, hm]; rfl, ?_⟩
      rw [show encP 3 isSnapP encSnap x = encNs [3, x.ver, x.exp, (x.pins.length : Int)] ++ x.pins.flatMap encPin by unfold encP encSnap; rw [hm]; simp [encNs]]
      exact OwnL.from E1 ow
end Go.Proofs.YtlgkdnmklgbhbaaGreatDoor
/- The walks of what encodes targets. -/
namespace Go.Proofs.YtlgkdnmklgbhbaaGreatDoor
open Go Go.Fw
set_option maxRecDepth 100000

theorem istarget_any (t : Tgt) (ht : t.wf) (w : World) : Ret Tryz.prog 158 [.agg ⟨t.cells⟩] w fun r w' => r = .bool (isTgtB t) ∧ Ext w w' := by
  have e := ExtB.refl (fun _ => False) w
  refine ret_of_run Tryz.func158 rfl Tryz.ntmps158 rfl ?_
  refine run_seq ?_
  refine run_region rfl ?_
  refine runl_op (t_boxA rfl) ?_
  rintro _ w1 ⟨b1, rfl, hb1, e1, n1, l1⟩
  have z1 := e1.size
  replace e := e.trans e1
  refine runl_ev (ev_assign rfl) ?_
  refine runl_nil ?_
  refine run_seq ?_
  have hcs : nameB t.name = false ∨ (nameB t.name = true ∧ ¬ 0 ≤ t.size) ∨ (nameB t.name = true ∧ 0 ≤ t.size ∧ ¬ t.size ≤ 512) ∨ (nameB t.name = true ∧ 0 ≤ t.size ∧ t.size ≤ 512 ∧ nameB t.hw = false) ∨ (nameB t.name = true ∧ 0 ≤ t.size ∧ t.size ≤ 512 ∧ nameB t.hw = true ∧ numB t.ctr = false) ∨ (nameB t.name = true ∧ 0 ≤ t.size ∧ t.size ≤ 512 ∧ nameB t.hw = true ∧ numB t.ctr = true ∧ t.ecu = ⟨#[]⟩) ∨ (nameB t.name = true ∧ 0 ≤ t.size ∧ t.size ≤ 512 ∧ nameB t.hw = true ∧ numB t.ctr = true ∧ ¬ t.ecu = ⟨#[]⟩) := by
    by_cases h6 : t.ecu = ⟨#[]⟩ <;> by_cases h2 : 0 ≤ t.size <;> by_cases h3 : t.size ≤ 512 <;> cases nameB t.name <;> cases nameB t.hw <;> cases numB t.ctr <;> simp [h2, h3, h6]
  rcases hcs with q1 | ⟨q1, q2⟩ | ⟨q1, q2, q3⟩ | ⟨q1, q2, q3, q4⟩ | ⟨q1, q2, q3, q4, q5⟩ | ⟨q1, q2, q3, q4, q5, q6⟩ | ⟨q1, q2, q3, q4, q5, q6⟩
  · refine run_region rfl ?_
    refine runl_ev (ev_fieldAddr fld_82_0 rfl) ?_
    refine runl_ev (ev_load1 cell_9 rfl (eqw (cell_blk hb1 rfl))) ?_
    refine runl_op (t_call call_75 rfl (name_any _ _)) ?_
    rintro _ w5 ⟨rfl, e5⟩
    have z5 := e5.size
    replace e := e.trans e5
    replace hb1 := e5.at hb1
    refine runl_ev (ev_move rfl) ?_
    refine runl_no_g rfl rfl (q1) ?_
    refine runl_no_g rfl rfl (q1) ?_
    refine runl_no_g rfl rfl (q1) ?_
    refine runl_ev (ev_pick rfl rfl rfl (if_neg (by rw [q1]; simp))) ?_
    refine runl_ev (ev_move rfl) ?_
    refine runl_no_g rfl rfl (rfl) ?_
    refine runl_no_g rfl rfl (rfl) ?_
    refine runl_no_g rfl rfl (rfl) ?_
    refine runl_ev (ev_pick rfl rfl rfl (if_neg (by simp))) ?_
    refine runl_ev (ev_move rfl) ?_
    refine runl_no_g rfl rfl (rfl) ?_
    refine runl_no_g rfl rfl (rfl) ?_
    refine runl_no_g rfl rfl (rfl) ?_
    refine runl_ev (ev_pick rfl rfl rfl (if_neg (by simp))) ?_
    refine runl_ev (ev_move rfl) ?_
    refine runl_no_g rfl rfl (rfl) ?_
    refine runl_no_g rfl rfl (rfl) ?_
    refine runl_no_g rfl rfl (rfl) ?_
    refine runl_ev (ev_pick rfl rfl rfl (if_neg (by simp))) ?_
    refine runl_ev (ev_move rfl) ?_
    refine runl_no_g rfl rfl (rfl) ?_
    refine runl_no_g rfl rfl (rfl) ?_
    refine runl_no_g rfl rfl (rfl) ?_
    refine runl_no_g rfl rfl (rfl) ?_
    refine runl_no_u rfl rfl ?_
    refine runl_no_u rfl rfl ?_
    refine runl_no_u rfl rfl ?_
    refine runl_no_g rfl rfl (rfl) ?_
    refine runl_ev (ev_pick rfl rfl rfl (if_neg (by simp))) ?_
    refine runl_ev (ev_assign rfl) ?_
    refine runl_nil ?_
    refine run_ret_any Tryz.func158 (res1 Tryz.results158 rfl) ?_
    exact ⟨by rw [isTgtB, q1] <;> rfl, e⟩
  · refine run_region rfl ?_
    refine runl_ev (ev_fieldAddr fld_82_0 rfl) ?_
    refine runl_ev (ev_load1 cell_9 rfl (eqw (cell_blk hb1 rfl))) ?_
    refine runl_op (t_call call_75 rfl (name_any _ _)) ?_
    rintro _ w5 ⟨rfl, e5⟩
    have z5 := e5.size
    replace e := e.trans e5
    replace hb1 := e5.at hb1
    refine runl_ev (ev_move rfl) ?_
    refine runl_ev_g rfl rfl (q1) (ev_fieldAddr fld_82_1 rfl) ?_
    refine runl_ev_g rfl rfl (q1) (ev_load1 cell_3 rfl (eqw ((cells_all hb1).pick 1 rfl (Tgt.c1 t)))) ?_
    refine runl_ev_g rfl rfl (q1) (ev_geq rfl rfl) ?_
    refine runl_ev (ev_pick rfl rfl rfl (if_pos (q1))) ?_
    refine runl_ev (ev_move rfl) ?_
    refine runl_no_g rfl rfl (decide_eq_false q2) ?_
    refine runl_no_g rfl rfl (decide_eq_false q2) ?_
    refine runl_no_g rfl rfl (decide_eq_false q2) ?_
    refine runl_ev (ev_pick rfl rfl rfl (if_neg (by rw [decide_eq_false q2]; simp))) ?_
    refine runl_ev (ev_move rfl) ?_
    refine runl_no_g rfl rfl (rfl) ?_
    refine runl_no_g rfl rfl (rfl) ?_
    refine runl_no_g rfl rfl (rfl) ?_
    refine runl_ev (ev_pick rfl rfl rfl (if_neg (by simp))) ?_
    refine runl_ev (ev_move rfl) ?_
    refine runl_no_g rfl rfl (rfl) ?_
    refine runl_no_g rfl rfl (rfl) ?_
    refine runl_no_g rfl rfl (rfl) ?_
    refine runl_ev (ev_pick rfl rfl rfl (if_neg (by simp))) ?_
    refine runl_ev (ev_move rfl) ?_
    refine runl_no_g rfl rfl (rfl) ?_
    refine runl_no_g rfl rfl (rfl) ?_
    refine runl_no_g rfl rfl (rfl) ?_
    refine runl_no_g rfl rfl (rfl) ?_
    refine runl_no_u rfl rfl ?_
    refine runl_no_u rfl rfl ?_
    refine runl_no_u rfl rfl ?_
    refine runl_no_g rfl rfl (rfl) ?_
    refine runl_ev (ev_pick rfl rfl rfl (if_neg (by simp))) ?_
    refine runl_ev (ev_assign rfl) ?_
    refine runl_nil ?_
    refine run_ret_any Tryz.func158 (res1 Tryz.results158 rfl) ?_
    exact ⟨by rw [isTgtB, q1, decide_eq_false q2] <;> rfl, e⟩
  · refine run_region rfl ?_
    refine runl_ev (ev_fieldAddr fld_82_0 rfl) ?_
    refine runl_ev (ev_load1 cell_9 rfl (eqw (cell_blk hb1 rfl))) ?_
    refine runl_op (t_call call_75 rfl (name_any _ _)) ?_
    rintro _ w5 ⟨rfl, e5⟩
    have z5 := e5.size
    replace e := e.trans e5
    replace hb1 := e5.at hb1
    refine runl_ev (ev_move rfl) ?_
    refine runl_ev_g rfl rfl (q1) (ev_fieldAddr fld_82_1 rfl) ?_
    refine runl_ev_g rfl rfl (q1) (ev_load1 cell_3 rfl (eqw ((cells_all hb1).pick 1 rfl (Tgt.c1 t)))) ?_
    refine runl_ev_g rfl rfl (q1) (ev_geq rfl rfl) ?_
    refine runl_ev (ev_pick rfl rfl rfl (if_pos (q1))) ?_
    refine runl_ev (ev_move rfl) ?_
    refine runl_ev_g rfl rfl (decide_eq_true q2) (ev_fieldAddr fld_82_1 rfl) ?_
    refine runl_ev_g rfl rfl (decide_eq_true q2) (ev_load1 cell_3 rfl (eqw ((cells_all hb1).pick 1 rfl (Tgt.c1 t)))) ?_
    refine runl_ev_g rfl rfl (decide_eq_true q2) (ev_leq rfl rfl) ?_
    refine runl_ev (ev_pick rfl rfl rfl (if_pos (decide_eq_true q2))) ?_
    refine runl_ev (ev_move rfl) ?_
    refine runl_no_g rfl rfl (decide_eq_false q3) ?_
    refine runl_no_g rfl rfl (decide_eq_false q3) ?_
    refine runl_no_g rfl rfl (decide_eq_false q3) ?_
    refine runl_ev (ev_pick rfl rfl rfl (if_neg (by rw [decide_eq_false q3]; simp))) ?_
    refine runl_ev (ev_move rfl) ?_
    refine runl_no_g rfl rfl (rfl) ?_
    refine runl_no_g rfl rfl (rfl) ?_
    refine runl_no_g rfl rfl (rfl) ?_
    refine runl_ev (ev_pick rfl rfl rfl (if_neg (by simp))) ?_
    refine runl_ev (ev_move rfl) ?_
    refine runl_no_g rfl rfl (rfl) ?_
    refine runl_no_g rfl rfl (rfl) ?_
    refine runl_no_g rfl rfl (rfl) ?_
    refine runl_no_g rfl rfl (rfl) ?_
    refine runl_no_u rfl rfl ?_
    refine runl_no_u rfl rfl ?_
    refine runl_no_u rfl rfl ?_
    refine runl_no_g rfl rfl (rfl) ?_
    refine runl_ev (ev_pick rfl rfl rfl (if_neg (by simp))) ?_
    refine runl_ev (ev_assign rfl) ?_
    refine runl_nil ?_
    refine run_ret_any Tryz.func158 (res1 Tryz.results158 rfl) ?_
    exact ⟨by rw [isTgtB, q1, decide_eq_true q2, decide_eq_false q3] <;> rfl, e⟩
  · refine run_region rfl ?_
    refine runl_ev (ev_fieldAddr fld_82_0 rfl) ?_
    refine runl_ev (ev_load1 cell_9 rfl (eqw (cell_blk hb1 rfl))) ?_
    refine runl_op (t_call call_75 rfl (name_any _ _)) ?_
    rintro _ w5 ⟨rfl, e5⟩
    have z5 := e5.size
    replace e := e.trans e5
    replace hb1 := e5.at hb1
    refine runl_ev (ev_move rfl) ?_
    refine runl_ev_g rfl rfl (q1) (ev_fieldAddr fld_82_1 rfl) ?_
    refine runl_ev_g rfl rfl (q1) (ev_load1 cell_3 rfl (eqw ((cells_all hb1).pick 1 rfl (Tgt.c1 t)))) ?_
    refine runl_ev_g rfl rfl (q1) (ev_geq rfl rfl) ?_
    refine runl_ev (ev_pick rfl rfl rfl (if_pos (q1))) ?_
    refine runl_ev (ev_move rfl) ?_
    refine runl_ev_g rfl rfl (decide_eq_true q2) (ev_fieldAddr fld_82_1 rfl) ?_
    refine runl_ev_g rfl rfl (decide_eq_true q2) (ev_load1 cell_3 rfl (eqw ((cells_all hb1).pick 1 rfl (Tgt.c1 t)))) ?_
    refine runl_ev_g rfl rfl (decide_eq_true q2) (ev_leq rfl rfl) ?_
    refine runl_ev (ev_pick rfl rfl rfl (if_pos (decide_eq_true q2))) ?_
    refine runl_ev (ev_move rfl) ?_
    refine runl_ev_g rfl rfl (decide_eq_true q3) (ev_fieldAddr fld_82_3 rfl) ?_
    refine runl_ev_g rfl rfl (decide_eq_true q3) (ev_load1 cell_9 rfl (eqw ((cells_all hb1).pick 34 rfl (Tgt.c34 ht)))) ?_
    refine runl_op_g rfl rfl (decide_eq_true q3) (t_call call_75 rfl (name_any _ _)) ?_
    rintro _ w19 ⟨rfl, e19⟩
    have z19 := e19.size
    replace e := e.trans e19
    replace hb1 := e19.at hb1
    refine runl_ev (ev_pick rfl rfl rfl (if_pos (decide_eq_true q3))) ?_
    refine runl_ev (ev_move rfl) ?_
    refine runl_no_g rfl rfl (q4) ?_
    refine runl_no_g rfl rfl (q4) ?_
    refine runl_no_g rfl rfl (q4) ?_
    refine runl_ev (ev_pick rfl rfl rfl (if_neg (by rw [q4]; simp))) ?_
    refine runl_ev (ev_move rfl) ?_
    refine runl_no_g rfl rfl (rfl) ?_
    refine runl_no_g rfl rfl (rfl) ?_
    refine runl_no_g rfl rfl (rfl) ?_
    refine runl_no_g rfl rfl (rfl) ?_
    refine runl_no_u rfl rfl ?_
    refine runl_no_u rfl rfl ?_
    refine runl_no_u rfl rfl ?_
    refine runl_no_g rfl rfl (rfl) ?_
    refine runl_ev (ev_pick rfl rfl rfl (if_neg (by simp))) ?_
    refine runl_ev (ev_assign rfl) ?_
    refine runl_nil ?_
    refine run_ret_any Tryz.func158 (res1 Tryz.results158 rfl) ?_
    exact ⟨by rw [isTgtB, q1, decide_eq_true q2, decide_eq_true q3, q4] <;> rfl, e⟩
  · refine run_region rfl ?_
    refine runl_ev (ev_fieldAddr fld_82_0 rfl) ?_
    refine runl_ev (ev_load1 cell_9 rfl (eqw (cell_blk hb1 rfl))) ?_
    refine runl_op (t_call call_75 rfl (name_any _ _)) ?_
    rintro _ w5 ⟨rfl, e5⟩
    have z5 := e5.size
    replace e := e.trans e5
    replace hb1 := e5.at hb1
    refine runl_ev (ev_move rfl) ?_
    refine runl_ev_g rfl rfl (q1) (ev_fieldAddr fld_82_1 rfl) ?_
    refine runl_ev_g rfl rfl (q1) (ev_load1 cell_3 rfl (eqw ((cells_all hb1).pick 1 rfl (Tgt.c1 t)))) ?_
    refine runl_ev_g rfl rfl (q1) (ev_geq rfl rfl) ?_
    refine runl_ev (ev_pick rfl rfl rfl (if_pos (q1))) ?_
    refine runl_ev (ev_move rfl) ?_
    refine runl_ev_g rfl rfl (decide_eq_true q2) (ev_fieldAddr fld_82_1 rfl) ?_
    refine runl_ev_g rfl rfl (decide_eq_true q2) (ev_load1 cell_3 rfl (eqw ((cells_all hb1).pick 1 rfl (Tgt.c1 t)))) ?_
    refine runl_ev_g rfl rfl (decide_eq_true q2) (ev_leq rfl rfl) ?_
    refine runl_ev (ev_pick rfl rfl rfl (if_pos (decide_eq_true q2))) ?_
    refine runl_ev (ev_move rfl) ?_
    refine runl_ev_g rfl rfl (decide_eq_true q3) (ev_fieldAddr fld_82_3 rfl) ?_
    refine runl_ev_g rfl rfl (decide_eq_true q3) (ev_load1 cell_9 rfl (eqw ((cells_all hb1).pick 34 rfl (Tgt.c34 ht)))) ?_
    refine runl_op_g rfl rfl (decide_eq_true q3) (t_call call_75 rfl (name_any _ _)) ?_
    rintro _ w19 ⟨rfl, e19⟩
    have z19 := e19.size
    replace e := e.trans e19
    replace hb1 := e19.at hb1
    refine runl_ev (ev_pick rfl rfl rfl (if_pos (decide_eq_true q3))) ?_
    refine runl_ev (ev_move rfl) ?_
    refine runl_ev_g rfl rfl (q4) (ev_fieldAddr fld_82_4 rfl) ?_
    refine runl_ev_g rfl rfl (q4) (ev_load1 cell_3 rfl (eqw ((cells_all hb1).pick 35 rfl (Tgt.c35 ht)))) ?_
    refine runl_op_g rfl rfl (q4) (t_call call_157 rfl (isnum_any _ _)) ?_
    rintro _ w24 ⟨rfl, e24⟩
    have z24 := e24.size
    replace e := e.trans e24
    replace hb1 := e24.at hb1
    refine runl_ev (ev_pick rfl rfl rfl (if_pos (q4))) ?_
    refine runl_ev (ev_move rfl) ?_
    refine runl_no_g rfl rfl (q5) ?_
    refine runl_no_g rfl rfl (q5) ?_
    refine runl_no_g rfl rfl (q5) ?_
    refine runl_no_g rfl rfl (q5) ?_
    refine runl_no_u rfl rfl ?_
    refine runl_no_u rfl rfl ?_
    refine runl_no_u rfl rfl ?_
    refine runl_no_g rfl rfl (q5) ?_
    refine runl_ev (ev_pick rfl rfl rfl (if_neg (by rw [q5]; simp))) ?_
    refine runl_ev (ev_assign rfl) ?_
    refine runl_nil ?_
    refine run_ret_any Tryz.func158 (res1 Tryz.results158 rfl) ?_
    exact ⟨by rw [isTgtB, q1, decide_eq_true q2, decide_eq_true q3, q4, q5] <;> rfl, e⟩
  · refine run_region rfl ?_
    refine runl_ev (ev_fieldAddr fld_82_0 rfl) ?_
    refine runl_ev (ev_load1 cell_9 rfl (eqw (cell_blk hb1 rfl))) ?_
    refine runl_op (t_call call_75 rfl (name_any _ _)) ?_
    rintro _ w5 ⟨rfl, e5⟩
    have z5 := e5.size
    replace e := e.trans e5
    replace hb1 := e5.at hb1
    refine runl_ev (ev_move rfl) ?_
    refine runl_ev_g rfl rfl (q1) (ev_fieldAddr fld_82_1 rfl) ?_
    refine runl_ev_g rfl rfl (q1) (ev_load1 cell_3 rfl (eqw ((cells_all hb1).pick 1 rfl (Tgt.c1 t)))) ?_
    refine runl_ev_g rfl rfl (q1) (ev_geq rfl rfl) ?_
    refine runl_ev (ev_pick rfl rfl rfl (if_pos (q1))) ?_
    refine runl_ev (ev_move rfl) ?_
    refine runl_ev_g rfl rfl (decide_eq_true q2) (ev_fieldAddr fld_82_1 rfl) ?_
    refine runl_ev_g rfl rfl (decide_eq_true q2) (ev_load1 cell_3 rfl (eqw ((cells_all hb1).pick 1 rfl (Tgt.c1 t)))) ?_
    refine runl_ev_g rfl rfl (decide_eq_true q2) (ev_leq rfl rfl) ?_
    refine runl_ev (ev_pick rfl rfl rfl (if_pos (decide_eq_true q2))) ?_
    refine runl_ev (ev_move rfl) ?_
    refine runl_ev_g rfl rfl (decide_eq_true q3) (ev_fieldAddr fld_82_3 rfl) ?_
    refine runl_ev_g rfl rfl (decide_eq_true q3) (ev_load1 cell_9 rfl (eqw ((cells_all hb1).pick 34 rfl (Tgt.c34 ht)))) ?_
    refine runl_op_g rfl rfl (decide_eq_true q3) (t_call call_75 rfl (name_any _ _)) ?_
    rintro _ w19 ⟨rfl, e19⟩
    have z19 := e19.size
    replace e := e.trans e19
    replace hb1 := e19.at hb1
    refine runl_ev (ev_pick rfl rfl rfl (if_pos (decide_eq_true q3))) ?_
    refine runl_ev (ev_move rfl) ?_
    refine runl_ev_g rfl rfl (q4) (ev_fieldAddr fld_82_4 rfl) ?_
    refine runl_ev_g rfl rfl (q4) (ev_load1 cell_3 rfl (eqw ((cells_all hb1).pick 35 rfl (Tgt.c35 ht)))) ?_
    refine runl_op_g rfl rfl (q4) (t_call call_157 rfl (isnum_any _ _)) ?_
    rintro _ w24 ⟨rfl, e24⟩
    have z24 := e24.size
    replace e := e.trans e24
    replace hb1 := e24.at hb1
    refine runl_ev (ev_pick rfl rfl rfl (if_pos (q4))) ?_
    refine runl_ev (ev_move rfl) ?_
    refine runl_ev_g rfl rfl (q5) (ev_fieldAddr fld_82_5 rfl) ?_
    refine runl_ev_g rfl rfl (q5) (ev_load1 cell_9 rfl (eqw ((cells_all hb1).pick 36 rfl (Tgt.c36 ht)))) ?_
    refine runl_ev_g rfl rfl (q5) (ev_eqlS rfl rfl) ?_
    refine runl_ev_g rfl rfl (q5) (ev_move rfl) ?_
    refine runl_no_g rfl rfl (decide_eq_true q6) ?_
    refine runl_no_g rfl rfl (decide_eq_true q6) ?_
    refine runl_no_g rfl rfl (decide_eq_true q6) ?_
    refine runl_ev_g rfl rfl (q5) (ev_pick rfl rfl rfl (if_pos (decide_eq_true q6))) ?_
    refine runl_ev (ev_pick rfl rfl rfl (if_pos (q5))) ?_
    refine runl_ev (ev_assign rfl) ?_
    refine runl_nil ?_
    refine run_ret_any Tryz.func158 (res1 Tryz.results158 rfl) ?_
    exact ⟨by rw [isTgtB, q1, decide_eq_true q2, decide_eq_true q3, q4, q5, decide_eq_true q6] <;> rfl, e⟩
  · refine run_region rfl ?_
    refine runl_ev (ev_fieldAddr fld_82_0 rfl) ?_
    refine runl_ev (ev_load1 cell_9 rfl (eqw (cell_blk hb1 rfl))) ?_
    refine runl_op (t_call call_75 rfl (name_any _ _)) ?_
    rintro _ w5 ⟨rfl, e5⟩
    have z5 := e5.size
    replace e := e.trans e5
    replace hb1 := e5.at hb1
    refine runl_ev (ev_move rfl) ?_
    refine runl_ev_g rfl rfl (q1) (ev_fieldAddr fld_82_1 rfl) ?_
    refine runl_ev_g rfl rfl (q1) (ev_load1 cell_3 rfl (eqw ((cells_all hb1).pick 1 rfl (Tgt.c1 t)))) ?_
    refine runl_ev_g rfl rfl (q1) (ev_geq rfl rfl) ?_
    refine runl_ev (ev_pick rfl rfl rfl (if_pos (q1))) ?_
    refine runl_ev (ev_move rfl) ?_
    refine runl_ev_g rfl rfl (decide_eq_true q2) (ev_fieldAddr fld_82_1 rfl) ?_
    refine runl_ev_g rfl rfl (decide_eq_true q2) (ev_load1 cell_3 rfl (eqw ((cells_all hb1).pick 1 rfl (Tgt.c1 t)))) ?_
    refine runl_ev_g rfl rfl (decide_eq_true q2) (ev_leq rfl rfl) ?_
    refine runl_ev (ev_pick rfl rfl rfl (if_pos (decide_eq_true q2))) ?_
    refine runl_ev (ev_move rfl) ?_
    refine runl_ev_g rfl rfl (decide_eq_true q3) (ev_fieldAddr fld_82_3 rfl) ?_
    refine runl_ev_g rfl rfl (decide_eq_true q3) (ev_load1 cell_9 rfl (eqw ((cells_all hb1).pick 34 rfl (Tgt.c34 ht)))) ?_
    refine runl_op_g rfl rfl (decide_eq_true q3) (t_call call_75 rfl (name_any _ _)) ?_
    rintro _ w19 ⟨rfl, e19⟩
    have z19 := e19.size
    replace e := e.trans e19
    replace hb1 := e19.at hb1
    refine runl_ev (ev_pick rfl rfl rfl (if_pos (decide_eq_true q3))) ?_
    refine runl_ev (ev_move rfl) ?_
    refine runl_ev_g rfl rfl (q4) (ev_fieldAddr fld_82_4 rfl) ?_
    refine runl_ev_g rfl rfl (q4) (ev_load1 cell_3 rfl (eqw ((cells_all hb1).pick 35 rfl (Tgt.c35 ht)))) ?_
    refine runl_op_g rfl rfl (q4) (t_call call_157 rfl (isnum_any _ _)) ?_
    rintro _ w24 ⟨rfl, e24⟩
    have z24 := e24.size
    replace e := e.trans e24
    replace hb1 := e24.at hb1
    refine runl_ev (ev_pick rfl rfl rfl (if_pos (q4))) ?_
    refine runl_ev (ev_move rfl) ?_
    refine runl_ev_g rfl rfl (q5) (ev_fieldAddr fld_82_5 rfl) ?_
    refine runl_ev_g rfl rfl (q5) (ev_load1 cell_9 rfl (eqw ((cells_all hb1).pick 36 rfl (Tgt.c36 ht)))) ?_
    refine runl_ev_g rfl rfl (q5) (ev_eqlS rfl rfl) ?_
    refine runl_ev_g rfl rfl (q5) (ev_move rfl) ?_
    refine runl_ev_g rfl rfl (decide_eq_false q6) (ev_fieldAddr fld_82_5 rfl) ?_
    refine runl_ev_g rfl rfl (decide_eq_false q6) (ev_load1 cell_9 rfl (eqw ((cells_all hb1).pick 36 rfl (Tgt.c36 ht)))) ?_
    refine runl_op_g rfl rfl (decide_eq_false q6) (t_call call_75 rfl (name_any _ _)) ?_
    rintro _ w33 ⟨rfl, e33⟩
    have z33 := e33.size
    replace e := e.trans e33
    replace hb1 := e33.at hb1
    refine runl_ev_g rfl rfl (q5) (ev_pick rfl rfl rfl (if_neg (by rw [decide_eq_false q6]; simp))) ?_
    refine runl_ev (ev_pick rfl rfl rfl (if_pos (q5))) ?_
    refine runl_ev (ev_assign rfl) ?_
    refine runl_nil ?_
    refine run_ret_any Tryz.func158 (res1 Tryz.results158 rfl) ?_
    exact ⟨by rw [isTgtB, q1, decide_eq_true q2, decide_eq_true q3, q4, q5, decide_eq_false q6] <;> rfl, e⟩
theorem qistarget_any (t : Tgt) (ht : t.wf) (w : World) (hs1 : t.name.size ≤ 1099511627776) (hs2 : t.hw.size ≤ 1099511627776) (hs3 : t.ecu.size ≤ 1099511627776) : Ret Tryz.prog 180 [.agg ⟨t.cells⟩] w fun r w' => r = .bool (isTgtB t) ∧ Ext w w' := by
  have e := ExtB.refl (fun _ => False) w
  refine ret_of_run Tryz.func180 rfl Tryz.ntmps180 rfl ?_
  refine run_seq ?_
  refine run_region rfl ?_
  refine runl_op (t_boxA rfl) ?_
  rintro _ w1 ⟨b1, rfl, hb1, e1, n1, l1⟩
  have z1 := e1.size
  replace e := e.trans e1
  refine runl_ev (ev_assign rfl) ?_
  refine runl_nil ?_
  refine run_seq ?_
  have hcs : nameB t.name = false ∨ (nameB t.name = true ∧ ¬ 0 ≤ t.size) ∨ (nameB t.name = true ∧ 0 ≤ t.size ∧ ¬ t.size ≤ 512) ∨ (nameB t.name = true ∧ 0 ≤ t.size ∧ t.size ≤ 512 ∧ nameB t.hw = false) ∨ (nameB t.name = true ∧ 0 ≤ t.size ∧ t.size ≤ 512 ∧ nameB t.hw = true ∧ numB t.ctr = false) ∨ (nameB t.name = true ∧ 0 ≤ t.size ∧ t.size ≤ 512 ∧ nameB t.hw = true ∧ numB t.ctr = true ∧ t.ecu = ⟨#[]⟩) ∨ (nameB t.name = true ∧ 0 ≤ t.size ∧ t.size ≤ 512 ∧ nameB t.hw = true ∧ numB t.ctr = true ∧ ¬ t.ecu = ⟨#[]⟩) := by
    by_cases h6 : t.ecu = ⟨#[]⟩ <;> by_cases h2 : 0 ≤ t.size <;> by_cases h3 : t.size ≤ 512 <;> cases nameB t.name <;> cases nameB t.hw <;> cases numB t.ctr <;> simp [h2, h3, h6]
  rcases hcs with q1 | ⟨q1, q2⟩ | ⟨q1, q2, q3⟩ | ⟨q1, q2, q3, q4⟩ | ⟨q1, q2, q3, q4, q5⟩ | ⟨q1, q2, q3, q4, q5, q6⟩ | ⟨q1, q2, q3, q4, q5, q6⟩
  · refine run_region rfl ?_
    refine runl_ev (ev_fieldAddr fld_82_0 rfl) ?_
    refine runl_ev (ev_load1 cell_9 rfl (eqw (cell_blk hb1 rfl))) ?_
    refine runl_op (t_call call_178 rfl (qname_any _ _ hs1)) ?_
    rintro _ w5 ⟨rfl, e5⟩
    have z5 := e5.size
    replace e := e.trans e5
    replace hb1 := e5.at hb1
    refine runl_ev (ev_move rfl) ?_
    refine runl_no_g rfl rfl (q1) ?_
    refine runl_no_g rfl rfl (q1) ?_
    refine runl_no_g rfl rfl (q1) ?_
    refine runl_ev (ev_pick rfl rfl rfl (if_neg (by rw [q1]; simp))) ?_
    refine runl_ev (ev_move rfl) ?_
    refine runl_no_g rfl rfl (rfl) ?_
    refine runl_no_g rfl rfl (rfl) ?_
    refine runl_no_g rfl rfl (rfl) ?_
    refine runl_ev (ev_pick rfl rfl rfl (if_neg (by simp))) ?_
    refine runl_ev (ev_move rfl) ?_
    refine runl_no_g rfl rfl (rfl) ?_
    refine runl_no_g rfl rfl (rfl) ?_
    refine runl_no_g rfl rfl (rfl) ?_
    refine runl_ev (ev_pick rfl rfl rfl (if_neg (by simp))) ?_
    refine runl_ev (ev_move rfl) ?_
    refine runl_no_g rfl rfl (rfl) ?_
    refine runl_no_g rfl rfl (rfl) ?_
    refine runl_no_g rfl rfl (rfl) ?_
    refine runl_no_g rfl rfl (rfl) ?_
    refine runl_ev (ev_pick rfl rfl rfl (if_neg (by simp))) ?_
    refine runl_ev (ev_move rfl) ?_
    refine runl_no_g rfl rfl (rfl) ?_
    refine runl_no_g rfl rfl (rfl) ?_
    refine runl_no_g rfl rfl (rfl) ?_
    refine runl_no_g rfl rfl (rfl) ?_
    refine runl_no_u rfl rfl ?_
    refine runl_no_u rfl rfl ?_
    refine runl_no_u rfl rfl ?_
    refine runl_no_g rfl rfl (rfl) ?_
    refine runl_ev (ev_pick rfl rfl rfl (if_neg (by simp))) ?_
    refine runl_ev (ev_assign rfl) ?_
    refine runl_nil ?_
    refine run_ret_any Tryz.func180 (res1 Tryz.results180 rfl) ?_
    exact ⟨by rw [isTgtB, q1] <;> rfl, e⟩
  · refine run_region rfl ?_
    refine runl_ev (ev_fieldAddr fld_82_0 rfl) ?_
    refine runl_ev (ev_load1 cell_9 rfl (eqw (cell_blk hb1 rfl))) ?_
    refine runl_op (t_call call_178 rfl (qname_any _ _ hs1)) ?_
    rintro _ w5 ⟨rfl, e5⟩
    have z5 := e5.size
    replace e := e.trans e5
    replace hb1 := e5.at hb1
    refine runl_ev (ev_move rfl) ?_
    refine runl_ev_g rfl rfl (q1) (ev_fieldAddr fld_82_1 rfl) ?_
    refine runl_ev_g rfl rfl (q1) (ev_load1 cell_3 rfl (eqw ((cells_all hb1).pick 1 rfl (Tgt.c1 t)))) ?_
    refine runl_ev_g rfl rfl (q1) (ev_geq rfl rfl) ?_
    refine runl_ev (ev_pick rfl rfl rfl (if_pos (q1))) ?_
    refine runl_ev (ev_move rfl) ?_
    refine runl_no_g rfl rfl (decide_eq_false q2) ?_
    refine runl_no_g rfl rfl (decide_eq_false q2) ?_
    refine runl_no_g rfl rfl (decide_eq_false q2) ?_
    refine runl_ev (ev_pick rfl rfl rfl (if_neg (by rw [decide_eq_false q2]; simp))) ?_
    refine runl_ev (ev_move rfl) ?_
    refine runl_no_g rfl rfl (rfl) ?_
    refine runl_no_g rfl rfl (rfl) ?_
    refine runl_no_g rfl rfl (rfl) ?_
    refine runl_ev (ev_pick rfl rfl rfl (if_neg (by simp))) ?_
    refine runl_ev (ev_move rfl) ?_
    refine runl_no_g rfl rfl (rfl) ?_
    refine runl_no_g rfl rfl (rfl) ?_
    refine runl_no_g rfl rfl (rfl) ?_
    refine runl_no_g rfl rfl (rfl) ?_
    refine runl_ev (ev_pick rfl rfl rfl (if_neg (by simp))) ?_
    refine runl_ev (ev_move rfl) ?_
    refine runl_no_g rfl rfl (rfl) ?_
    refine runl_no_g rfl rfl (rfl) ?_
    refine runl_no_g rfl rfl (rfl) ?_
    refine runl_no_g rfl rfl (rfl) ?_
    refine runl_no_u rfl rfl ?_
    refine runl_no_u rfl rfl ?_
    refine runl_no_u rfl rfl ?_
    refine runl_no_g rfl rfl (rfl) ?_
    refine runl_ev (ev_pick rfl rfl rfl (if_neg (by simp))) ?_
    refine runl_ev (ev_assign rfl) ?_
    refine runl_nil ?_
    refine run_ret_any Tryz.func180 (res1 Tryz.results180 rfl) ?_
    exact ⟨by rw [isTgtB, q1, decide_eq_false q2] <;> rfl, e⟩
  · refine run_region rfl ?_
    refine runl_ev (ev_fieldAddr fld_82_0 rfl) ?_
    refine runl_ev (ev_load1 cell_9 rfl (eqw (cell_blk hb1 rfl))) ?_
    refine runl_op (t_call call_178 rfl (qname_any _ _ hs1)) ?_
    rintro _ w5 ⟨rfl, e5⟩
    have z5 := e5.size
    replace e := e.trans e5
    replace hb1 := e5.at hb1
    refine runl_ev (ev_move rfl) ?_
    refine runl_ev_g rfl rfl (q1) (ev_fieldAddr fld_82_1 rfl) ?_
    refine runl_ev_g rfl rfl (q1) (ev_load1 cell_3 rfl (eqw ((cells_all hb1).pick 1 rfl (Tgt.c1 t)))) ?_
    refine runl_ev_g rfl rfl (q1) (ev_geq rfl rfl) ?_
    refine runl_ev (ev_pick rfl rfl rfl (if_pos (q1))) ?_
    refine runl_ev (ev_move rfl) ?_
    refine runl_ev_g rfl rfl (decide_eq_true q2) (ev_fieldAddr fld_82_1 rfl) ?_
    refine runl_ev_g rfl rfl (decide_eq_true q2) (ev_load1 cell_3 rfl (eqw ((cells_all hb1).pick 1 rfl (Tgt.c1 t)))) ?_
    refine runl_ev_g rfl rfl (decide_eq_true q2) (ev_leq rfl rfl) ?_
    refine runl_ev (ev_pick rfl rfl rfl (if_pos (decide_eq_true q2))) ?_
    refine runl_ev (ev_move rfl) ?_
    refine runl_no_g rfl rfl (decide_eq_false q3) ?_
    refine runl_no_g rfl rfl (decide_eq_false q3) ?_
    refine runl_no_g rfl rfl (decide_eq_false q3) ?_
    refine runl_ev (ev_pick rfl rfl rfl (if_neg (by rw [decide_eq_false q3]; simp))) ?_
    refine runl_ev (ev_move rfl) ?_
    refine runl_no_g rfl rfl (rfl) ?_
    refine runl_no_g rfl rfl (rfl) ?_
    refine runl_no_g rfl rfl (rfl) ?_
    refine runl_no_g rfl rfl (rfl) ?_
    refine runl_ev (ev_pick rfl rfl rfl (if_neg (by simp))) ?_
    refine runl_ev (ev_move rfl) ?_
    refine runl_no_g rfl rfl (rfl) ?_
    refine runl_no_g rfl rfl (rfl) ?_
    refine runl_no_g rfl rfl (rfl) ?_
    refine runl_no_g rfl rfl (rfl) ?_
    refine runl_no_u rfl rfl ?_
    refine runl_no_u rfl rfl ?_
    refine runl_no_u rfl rfl ?_
    refine runl_no_g rfl rfl (rfl) ?_
    refine runl_ev (ev_pick rfl rfl rfl (if_neg (by simp))) ?_
    refine runl_ev (ev_assign rfl) ?_
    refine runl_nil ?_
    refine run_ret_any Tryz.func180 (res1 Tryz.results180 rfl) ?_
    exact ⟨by rw [isTgtB, q1, decide_eq_true q2, decide_eq_false q3] <;> rfl, e⟩
  · refine run_region rfl ?_
    refine runl_ev (ev_fieldAddr fld_82_0 rfl) ?_
    refine runl_ev (ev_load1 cell_9 rfl (eqw (cell_blk hb1 rfl))) ?_
    refine runl_op (t_call call_178 rfl (qname_any _ _ hs1)) ?_
    rintro _ w5 ⟨rfl, e5⟩
    have z5 := e5.size
    replace e := e.trans e5
    replace hb1 := e5.at hb1
    refine runl_ev (ev_move rfl) ?_
    refine runl_ev_g rfl rfl (q1) (ev_fieldAddr fld_82_1 rfl) ?_
    refine runl_ev_g rfl rfl (q1) (ev_load1 cell_3 rfl (eqw ((cells_all hb1).pick 1 rfl (Tgt.c1 t)))) ?_
    refine runl_ev_g rfl rfl (q1) (ev_geq rfl rfl) ?_
    refine runl_ev (ev_pick rfl rfl rfl (if_pos (q1))) ?_
    refine runl_ev (ev_move rfl) ?_
    refine runl_ev_g rfl rfl (decide_eq_true q2) (ev_fieldAddr fld_82_1 rfl) ?_
    refine runl_ev_g rfl rfl (decide_eq_true q2) (ev_load1 cell_3 rfl (eqw ((cells_all hb1).pick 1 rfl (Tgt.c1 t)))) ?_
    refine runl_ev_g rfl rfl (decide_eq_true q2) (ev_leq rfl rfl) ?_
    refine runl_ev (ev_pick rfl rfl rfl (if_pos (decide_eq_true q2))) ?_
    refine runl_ev (ev_move rfl) ?_
    refine runl_ev_g rfl rfl (decide_eq_true q3) (ev_fieldAddr fld_82_3 rfl) ?_
    refine runl_ev_g rfl rfl (decide_eq_true q3) (ev_load1 cell_9 rfl (eqw ((cells_all hb1).pick 34 rfl (Tgt.c34 ht)))) ?_
    refine runl_op_g rfl rfl (decide_eq_true q3) (t_call call_178 rfl (qname_any _ _ hs2)) ?_
    rintro _ w19 ⟨rfl, e19⟩
    have z19 := e19.size
    replace e := e.trans e19
    replace hb1 := e19.at hb1
    refine runl_ev (ev_pick rfl rfl rfl (if_pos (decide_eq_true q3))) ?_
    refine runl_ev (ev_move rfl) ?_
    refine runl_no_g rfl rfl (q4) ?_
    refine runl_no_g rfl rfl (q4) ?_
    refine runl_no_g rfl rfl (q4) ?_
    refine runl_no_g rfl rfl (q4) ?_
    refine runl_ev (ev_pick rfl rfl rfl (if_neg (by rw [q4]; simp))) ?_
    refine runl_ev (ev_move rfl) ?_
    refine runl_no_g rfl rfl (rfl) ?_
    refine runl_no_g rfl rfl (rfl) ?_
    refine runl_no_g rfl rfl (rfl) ?_
    refine runl_no_g rfl rfl (rfl) ?_
    refine runl_no_u rfl rfl ?_
    refine runl_no_u rfl rfl ?_
    refine runl_no_u rfl rfl ?_
    refine runl_no_g rfl rfl (rfl) ?_
    refine runl_ev (ev_pick rfl rfl rfl (if_neg (by simp))) ?_
    refine runl_ev (ev_assign rfl) ?_
    refine runl_nil ?_
    refine run_ret_any Tryz.func180 (res1 Tryz.results180 rfl) ?_
    exact ⟨by rw [isTgtB, q1, decide_eq_true q2, decide_eq_true q3, q4] <;> rfl, e⟩
  · refine run_region rfl ?_
    refine runl_ev (ev_fieldAddr fld_82_0 rfl) ?_
    refine runl_ev (ev_load1 cell_9 rfl (eqw (cell_blk hb1 rfl))) ?_
    refine runl_op (t_call call_178 rfl (qname_any _ _ hs1)) ?_
    rintro _ w5 ⟨rfl, e5⟩
    have z5 := e5.size
    replace e := e.trans e5
    replace hb1 := e5.at hb1
    refine runl_ev (ev_move rfl) ?_
    refine runl_ev_g rfl rfl (q1) (ev_fieldAddr fld_82_1 rfl) ?_
    refine runl_ev_g rfl rfl (q1) (ev_load1 cell_3 rfl (eqw ((cells_all hb1).pick 1 rfl (Tgt.c1 t)))) ?_
    refine runl_ev_g rfl rfl (q1) (ev_geq rfl rfl) ?_
    refine runl_ev (ev_pick rfl rfl rfl (if_pos (q1))) ?_
    refine runl_ev (ev_move rfl) ?_
    refine runl_ev_g rfl rfl (decide_eq_true q2) (ev_fieldAddr fld_82_1 rfl) ?_
    refine runl_ev_g rfl rfl (decide_eq_true q2) (ev_load1 cell_3 rfl (eqw ((cells_all hb1).pick 1 rfl (Tgt.c1 t)))) ?_
    refine runl_ev_g rfl rfl (decide_eq_true q2) (ev_leq rfl rfl) ?_
    refine runl_ev (ev_pick rfl rfl rfl (if_pos (decide_eq_true q2))) ?_
    refine runl_ev (ev_move rfl) ?_
    refine runl_ev_g rfl rfl (decide_eq_true q3) (ev_fieldAddr fld_82_3 rfl) ?_
    refine runl_ev_g rfl rfl (decide_eq_true q3) (ev_load1 cell_9 rfl (eqw ((cells_all hb1).pick 34 rfl (Tgt.c34 ht)))) ?_
    refine runl_op_g rfl rfl (decide_eq_true q3) (t_call call_178 rfl (qname_any _ _ hs2)) ?_
    rintro _ w19 ⟨rfl, e19⟩
    have z19 := e19.size
    replace e := e.trans e19
    replace hb1 := e19.at hb1
    refine runl_ev (ev_pick rfl rfl rfl (if_pos (decide_eq_true q3))) ?_
    refine runl_ev (ev_move rfl) ?_
    refine runl_ev_g rfl rfl (q4) (ev_fieldAddr fld_82_4 rfl) ?_
    refine runl_ev_g rfl rfl (q4) (ev_load1 cell_3 rfl (eqw ((cells_all hb1).pick 35 rfl (Tgt.c35 ht)))) ?_
    refine runl_op_g rfl rfl (q4) (t_buildSlice (out := [.int .i64 t.ctr]) Tryz.underlying248 sz_3 zero_3 rfl rfl (by decide) (by decide) rfl (rfl)) ?_
    rintro _ w24 ⟨b24, rfl, hb24, e24, n24, l24⟩
    have z24 := e24.size
    replace e := e.trans e24
    replace hb1 := e24.at hb1
    refine runl_op_g rfl rfl (q4) (t_call call_177 rfl (rnums_any [t.ctr] _ _ _ _ (sl_lit (l := [t.ctr]) (R := RInt) hb24 (pc rfl pn)) (by simp))) ?_
    rintro _ w25 ⟨rfl, e25⟩
    rw [show [t.ctr].all numB = numB t.ctr by simp]
    have z25 := e25.size
    replace e := e.trans e25
    replace hb1 := e25.at hb1
    replace hb24 := e25.at hb24
    refine runl_ev (ev_pick rfl rfl rfl (if_pos (q4))) ?_
    refine runl_ev (ev_move rfl) ?_
    refine runl_no_g rfl rfl (q5) ?_
    refine runl_no_g rfl rfl (q5) ?_
    refine runl_no_g rfl rfl (q5) ?_
    refine runl_no_g rfl rfl (q5) ?_
    refine runl_no_u rfl rfl ?_
    refine runl_no_u rfl rfl ?_
    refine runl_no_u rfl rfl ?_
    refine runl_no_g rfl rfl (q5) ?_
    refine runl_ev (ev_pick rfl rfl rfl (if_neg (by rw [q5]; simp))) ?_
    refine runl_ev (ev_assign rfl) ?_
    refine runl_nil ?_
    refine run_ret_any Tryz.func180 (res1 Tryz.results180 rfl) ?_
    exact ⟨by rw [isTgtB, q1, decide_eq_true q2, decide_eq_true q3, q4, q5] <;> rfl, e⟩
  · refine run_region rfl ?_
    refine runl_ev (ev_fieldAddr fld_82_0 rfl) ?_
    refine runl_ev (ev_load1 cell_9 rfl (eqw (cell_blk hb1 rfl))) ?_
    refine runl_op (t_call call_178 rfl (qname_any _ _ hs1)) ?_
    rintro _ w5 ⟨rfl, e5⟩
    have z5 := e5.size
    replace e := e.trans e5
    replace hb1 := e5.at hb1
    refine runl_ev (ev_move rfl) ?_
    refine runl_ev_g rfl rfl (q1) (ev_fieldAddr fld_82_1 rfl) ?_
    refine runl_ev_g rfl rfl (q1) (ev_load1 cell_3 rfl (eqw ((cells_all hb1).pick 1 rfl (Tgt.c1 t)))) ?_
    refine runl_ev_g rfl rfl (q1) (ev_geq rfl rfl) ?_
    refine runl_ev (ev_pick rfl rfl rfl (if_pos (q1))) ?_
    refine runl_ev (ev_move rfl) ?_
    refine runl_ev_g rfl rfl (decide_eq_true q2) (ev_fieldAddr fld_82_1 rfl) ?_
    refine runl_ev_g rfl rfl (decide_eq_true q2) (ev_load1 cell_3 rfl (eqw ((cells_all hb1).pick 1 rfl (Tgt.c1 t)))) ?_
    refine runl_ev_g rfl rfl (decide_eq_true q2) (ev_leq rfl rfl) ?_
    refine runl_ev (ev_pick rfl rfl rfl (if_pos (decide_eq_true q2))) ?_
    refine runl_ev (ev_move rfl) ?_
    refine runl_ev_g rfl rfl (decide_eq_true q3) (ev_fieldAddr fld_82_3 rfl) ?_
    refine runl_ev_g rfl rfl (decide_eq_true q3) (ev_load1 cell_9 rfl (eqw ((cells_all hb1).pick 34 rfl (Tgt.c34 ht)))) ?_
    refine runl_op_g rfl rfl (decide_eq_true q3) (t_call call_178 rfl (qname_any _ _ hs2)) ?_
    rintro _ w19 ⟨rfl, e19⟩
    have z19 := e19.size
    replace e := e.trans e19
    replace hb1 := e19.at hb1
    refine runl_ev (ev_pick rfl rfl rfl (if_pos (decide_eq_true q3))) ?_
    refine runl_ev (ev_move rfl) ?_
    refine runl_ev_g rfl rfl (q4) (ev_fieldAddr fld_82_4 rfl) ?_
    refine runl_ev_g rfl rfl (q4) (ev_load1 cell_3 rfl (eqw ((cells_all hb1).pick 35 rfl (Tgt.c35 ht)))) ?_
    refine runl_op_g rfl rfl (q4) (t_buildSlice (out := [.int .i64 t.ctr]) Tryz.underlying248 sz_3 zero_3 rfl rfl (by decide) (by decide) rfl (rfl)) ?_
    rintro _ w24 ⟨b24, rfl, hb24, e24, n24, l24⟩
    have z24 := e24.size
    replace e := e.trans e24
    replace hb1 := e24.at hb1
    refine runl_op_g rfl rfl (q4) (t_call call_177 rfl (rnums_any [t.ctr] _ _ _ _ (sl_lit (l := [t.ctr]) (R := RInt) hb24 (pc rfl pn)) (by simp))) ?_
    rintro _ w25 ⟨rfl, e25⟩
    rw [show [t.ctr].all numB = numB t.ctr by simp]
    have z25 := e25.size
    replace e := e.trans e25
    replace hb1 := e25.at hb1
    replace hb24 := e25.at hb24
    refine runl_ev (ev_pick rfl rfl rfl (if_pos (q4))) ?_
    refine runl_ev (ev_move rfl) ?_
    refine runl_ev_g rfl rfl (q5) (ev_fieldAddr fld_82_5 rfl) ?_
    refine runl_ev_g rfl rfl (q5) (ev_load1 cell_9 rfl (eqw ((cells_all hb1).pick 36 rfl (Tgt.c36 ht)))) ?_
    refine runl_ev_g rfl rfl (q5) (ev_eqlS rfl rfl) ?_
    refine runl_ev_g rfl rfl (q5) (ev_move rfl) ?_
    refine runl_no_g rfl rfl (decide_eq_true q6) ?_
    refine runl_no_g rfl rfl (decide_eq_true q6) ?_
    refine runl_no_g rfl rfl (decide_eq_true q6) ?_
    refine runl_ev_g rfl rfl (q5) (ev_pick rfl rfl rfl (if_pos (decide_eq_true q6))) ?_
    refine runl_ev (ev_pick rfl rfl rfl (if_pos (q5))) ?_
    refine runl_ev (ev_assign rfl) ?_
    refine runl_nil ?_
    refine run_ret_any Tryz.func180 (res1 Tryz.results180 rfl) ?_
    exact ⟨by rw [isTgtB, q1, decide_eq_true q2, decide_eq_true q3, q4, q5, decide_eq_true q6] <;> rfl, e⟩
  · refine run_region rfl ?_
    refine runl_ev (ev_fieldAddr fld_82_0 rfl) ?_
    refine runl_ev (ev_load1 cell_9 rfl (eqw (cell_blk hb1 rfl))) ?_
    refine runl_op (t_call call_178 rfl (qname_any _ _ hs1)) ?_
    rintro _ w5 ⟨rfl, e5⟩
    have z5 := e5.size
    replace e := e.trans e5
    replace hb1 := e5.at hb1
    refine runl_ev (ev_move rfl) ?_
    refine runl_ev_g rfl rfl (q1) (ev_fieldAddr fld_82_1 rfl) ?_
    refine runl_ev_g rfl rfl (q1) (ev_load1 cell_3 rfl (eqw ((cells_all hb1).pick 1 rfl (Tgt.c1 t)))) ?_
    refine runl_ev_g rfl rfl (q1) (ev_geq rfl rfl) ?_
    refine runl_ev (ev_pick rfl rfl rfl (if_pos (q1))) ?_
    refine runl_ev (ev_move rfl) ?_
    refine runl_ev_g rfl rfl (decide_eq_true q2) (ev_fieldAddr fld_82_1 rfl) ?_
    refine runl_ev_g rfl rfl (decide_eq_true q2) (ev_load1 cell_3 rfl (eqw ((cells_all hb1).pick 1 rfl (Tgt.c1 t)))) ?_
    refine runl_ev_g rfl rfl (decide_eq_true q2) (ev_leq rfl rfl) ?_
    refine runl_ev (ev_pick rfl rfl rfl (if_pos (decide_eq_true q2))) ?_
    refine runl_ev (ev_move rfl) ?_
    refine runl_ev_g rfl rfl (decide_eq_true q3) (ev_fieldAddr fld_82_3 rfl) ?_
    refine runl_ev_g rfl rfl (decide_eq_true q3) (ev_load1 cell_9 rfl (eqw ((cells_all hb1).pick 34 rfl (Tgt.c34 ht)))) ?_
    refine runl_op_g rfl rfl (decide_eq_true q3) (t_call call_178 rfl (qname_any _ _ hs2)) ?_
    rintro _ w19 ⟨rfl, e19⟩
    have z19 := e19.size
    replace e := e.trans e19
    replace hb1 := e19.at hb1
    refine runl_ev (ev_pick rfl rfl rfl (if_pos (decide_eq_true q3))) ?_
    refine runl_ev (ev_move rfl) ?_
    refine runl_ev_g rfl rfl (q4) (ev_fieldAddr fld_82_4 rfl) ?_
    refine runl_ev_g rfl rfl (q4) (ev_load1 cell_3 rfl (eqw ((cells_all hb1).pick 35 rfl (Tgt.c35 ht)))) ?_
    refine runl_op_g rfl rfl (q4) (t_buildSlice (out := [.int .i64 t.ctr]) Tryz.underlying248 sz_3 zero_3 rfl rfl (by decide) (by decide) rfl (rfl)) ?_
    rintro _ w24 ⟨b24, rfl, hb24, e24, n24, l24⟩
    have z24 := e24.size
    replace e := e.trans e24
    replace hb1 := e24.at hb1
    refine runl_op_g rfl rfl (q4) (t_call call_177 rfl (rnums_any [t.ctr] _ _ _ _ (sl_lit (l := [t.ctr]) (R := RInt) hb24 (pc rfl pn)) (by simp))) ?_
    rintro _ w25 ⟨rfl, e25⟩
    rw [show [t.ctr].all numB = numB t.ctr by simp]
    have z25 := e25.size
    replace e := e.trans e25
    replace hb1 := e25.at hb1
    replace hb24 := e25.at hb24
    refine runl_ev (ev_pick rfl rfl rfl (if_pos (q4))) ?_
    refine runl_ev (ev_move rfl) ?_
    refine runl_ev_g rfl rfl (q5) (ev_fieldAddr fld_82_5 rfl) ?_
    refine runl_ev_g rfl rfl (q5) (ev_load1 cell_9 rfl (eqw ((cells_all hb1).pick 36 rfl (Tgt.c36 ht)))) ?_
    refine runl_ev_g rfl rfl (q5) (ev_eqlS rfl rfl) ?_
    refine runl_ev_g rfl rfl (q5) (ev_move rfl) ?_
    refine runl_ev_g rfl rfl (decide_eq_false q6) (ev_fieldAddr fld_82_5 rfl) ?_
    refine runl_ev_g rfl rfl (decide_eq_false q6) (ev_load1 cell_9 rfl (eqw ((cells_all hb1).pick 36 rfl (Tgt.c36 ht)))) ?_
    refine runl_op_g rfl rfl (decide_eq_false q6) (t_call call_178 rfl (qname_any _ _ hs3)) ?_
    rintro _ w34 ⟨rfl, e34⟩
    have z34 := e34.size
    replace e := e.trans e34
    replace hb1 := e34.at hb1
    replace hb24 := e34.at hb24
    refine runl_ev_g rfl rfl (q5) (ev_pick rfl rfl rfl (if_neg (by rw [decide_eq_false q6]; simp))) ?_
    refine runl_ev (ev_pick rfl rfl rfl (if_pos (q5))) ?_
    refine runl_ev (ev_assign rfl) ?_
    refine runl_nil ?_
    refine run_ret_any Tryz.func180 (res1 Tryz.results180 rfl) ?_
    exact ⟨by rw [isTgtB, q1, decide_eq_true q2, decide_eq_true q3, q4, q5, decide_eq_false q6] <;> rfl, e⟩
theorem rises_any (a b : Tgt) (ha : a.wf) (hb : b.wf) (w : World) : Ret Tryz.prog 159 [.agg ⟨a.cells⟩, .agg ⟨b.cells⟩] w fun r w' => r = .bool (riseB a b) ∧ Ext w w' := by
  have e := ExtB.refl (fun _ => False) w
  refine ret_of_run Tryz.func159 rfl Tryz.ntmps159 rfl ?_
  refine run_seq ?_
  refine run_region rfl ?_
  refine runl_op (t_boxA rfl) ?_
  rintro _ w2 ⟨b2, rfl, hb2, e2, n2, l2⟩
  have z2 := e2.size
  replace e := e.trans e2
  refine runl_op (t_boxA rfl) ?_
  rintro _ w3 ⟨b3, rfl, hb3, e3, n3, l3⟩
  have z3 := e3.size
  replace e := e.trans e3
  replace hb2 := e3.at hb2
  refine runl_ev (ev_assign rfl) ?_
  refine runl_nil ?_
  refine run_seq ?_
  have hcs : strLt a.name b.name = true ∨ (strLt a.name b.name = false ∧ a.name = b.name) ∨ (strLt a.name b.name = false ∧ ¬ a.name = b.name) := by
    by_cases h2 : a.name = b.name <;> cases strLt a.name b.name <;> simp [h2]
  rcases hcs with q1 | ⟨q1, q2⟩ | ⟨q1, q2⟩
  · refine run_region rfl ?_
    refine runl_ev (ev_fieldAddr fld_82_0 rfl) ?_
    refine runl_ev (ev_load1 cell_9 rfl (eqw (cell_blk hb2 rfl))) ?_
    refine runl_ev (ev_fieldAddr fld_82_0 rfl) ?_
    refine runl_ev (ev_load1 cell_9 rfl (eqw (cell_blk hb3 rfl))) ?_
    refine runl_ev (ev_lssS rfl rfl) ?_
    refine runl_ev (ev_move rfl) ?_
    refine runl_no_g rfl rfl (q1) ?_
    refine runl_no_g rfl rfl (q1) ?_
    refine runl_no_g rfl rfl (q1) ?_
    refine runl_no_g rfl rfl (q1) ?_
    refine runl_no_g rfl rfl (q1) ?_
    refine runl_no_g rfl rfl (q1) ?_
    refine runl_no_u rfl rfl ?_
    refine runl_no_u rfl rfl ?_
    refine runl_no_u rfl rfl ?_
    refine runl_no_u rfl rfl ?_
    refine runl_no_u rfl rfl ?_
    refine runl_no_g rfl rfl (q1) ?_
    refine runl_ev (ev_pick rfl rfl rfl (if_pos (q1))) ?_
    refine runl_ev (ev_assign rfl) ?_
    refine runl_nil ?_
    refine run_ret_any Tryz.func159 (res1 Tryz.results159 rfl) ?_
    exact ⟨by rw [riseB, q1] <;> rfl, e⟩
  · refine run_region rfl ?_
    refine runl_ev (ev_fieldAddr fld_82_0 rfl) ?_
    refine runl_ev (ev_load1 cell_9 rfl (eqw (cell_blk hb2 rfl))) ?_
    refine runl_ev (ev_fieldAddr fld_82_0 rfl) ?_
    refine runl_ev (ev_load1 cell_9 rfl (eqw (cell_blk hb3 rfl))) ?_
    refine runl_ev (ev_lssS rfl rfl) ?_
    refine runl_ev (ev_move rfl) ?_
    refine runl_ev_g rfl rfl (q1) (ev_fieldAddr fld_82_0 rfl) ?_
    refine runl_ev_g rfl rfl (q1) (ev_load1 cell_9 rfl (eqw (cell_blk hb2 rfl))) ?_
    refine runl_ev_g rfl rfl (q1) (ev_fieldAddr fld_82_0 rfl) ?_
    refine runl_ev_g rfl rfl (q1) (ev_load1 cell_9 rfl (eqw (cell_blk hb3 rfl))) ?_
    refine runl_ev_g rfl rfl (q1) (ev_eqlS rfl rfl) ?_
    refine runl_ev_g rfl rfl (q1) (ev_move rfl) ?_
    refine runl_ev_g rfl rfl (decide_eq_true q2) (ev_fieldAddr fld_82_5 rfl) ?_
    refine runl_ev_g rfl rfl (decide_eq_true q2) (ev_load1 cell_9 rfl (eqw ((cells_all hb2).pick 36 rfl (Tgt.c36 ha)))) ?_
    refine runl_ev_g rfl rfl (decide_eq_true q2) (ev_fieldAddr fld_82_5 rfl) ?_
    refine runl_ev_g rfl rfl (decide_eq_true q2) (ev_load1 cell_9 rfl (eqw ((cells_all hb3).pick 36 rfl (Tgt.c36 hb)))) ?_
    refine runl_ev_g rfl rfl (decide_eq_true q2) (ev_lssS rfl rfl) ?_
    refine runl_ev_g rfl rfl (q1) (ev_pick rfl rfl rfl (if_pos (decide_eq_true q2))) ?_
    refine runl_ev (ev_pick rfl rfl rfl (if_neg (by rw [q1]; simp))) ?_
    refine runl_ev (ev_assign rfl) ?_
    refine runl_nil ?_
    refine run_ret_any Tryz.func159 (res1 Tryz.results159 rfl) ?_
    exact ⟨by rw [riseB, q1, decide_eq_true q2] <;> rfl, e⟩
  · refine run_region rfl ?_
    refine runl_ev (ev_fieldAddr fld_82_0 rfl) ?_
    refine runl_ev (ev_load1 cell_9 rfl (eqw (cell_blk hb2 rfl))) ?_
    refine runl_ev (ev_fieldAddr fld_82_0 rfl) ?_
    refine runl_ev (ev_load1 cell_9 rfl (eqw (cell_blk hb3 rfl))) ?_
    refine runl_ev (ev_lssS rfl rfl) ?_
    refine runl_ev (ev_move rfl) ?_
    refine runl_ev_g rfl rfl (q1) (ev_fieldAddr fld_82_0 rfl) ?_
    refine runl_ev_g rfl rfl (q1) (ev_load1 cell_9 rfl (eqw (cell_blk hb2 rfl))) ?_
    refine runl_ev_g rfl rfl (q1) (ev_fieldAddr fld_82_0 rfl) ?_
    refine runl_ev_g rfl rfl (q1) (ev_load1 cell_9 rfl (eqw (cell_blk hb3 rfl))) ?_
    refine runl_ev_g rfl rfl (q1) (ev_eqlS rfl rfl) ?_
    refine runl_ev_g rfl rfl (q1) (ev_move rfl) ?_
    refine runl_no_g rfl rfl (decide_eq_false q2) ?_
    refine runl_no_g rfl rfl (decide_eq_false q2) ?_
    refine runl_no_g rfl rfl (decide_eq_false q2) ?_
    refine runl_no_g rfl rfl (decide_eq_false q2) ?_
    refine runl_no_g rfl rfl (decide_eq_false q2) ?_
    refine runl_ev_g rfl rfl (q1) (ev_pick rfl rfl rfl (if_neg (by rw [decide_eq_false q2]; simp))) ?_
    refine runl_ev (ev_pick rfl rfl rfl (if_neg (by rw [q1]; simp))) ?_
    refine runl_ev (ev_assign rfl) ?_
    refine runl_nil ?_
    refine run_ret_any Tryz.func159 (res1 Tryz.results159 rfl) ?_
    exact ⟨by rw [riseB, q1, decide_eq_false q2] <;> rfl, e⟩
theorem wtarget_any {l : List UInt8} {w0 w : World} {wb : Nat} {g : Int} {v : Value} {T : TypeId} (st : WSt T 5 w0 w wb g v l) (t : Tgt) (ht : t.wf) (hb : l.length + (encTgt t).length ≤ 1099511627776) : Ret Tryz.prog 94 [.pointer (some ⟨wb, 0, none⟩), .agg ⟨t.cells⟩] w (WP T 5 w0 w wb g l (encTgt t)) := by
  have e := ExtB.refl (fun _ => False) w
  have lwb := lt_of_at st.hw
  have hgl := st.hgl
  have h32 : t.sum.length = 32 := ht
  unfold encTgt at hb ⊢
  simp only [List.length_append] at hb
  refine ret_of_run Tryz.func94 rfl Tryz.ntmps94 rfl ?_
  refine run_seq ?_
  refine run_region rfl ?_
  refine runl_op (t_boxA rfl) ?_
  rintro _ w3 ⟨b3, rfl, hb3, e3, n3, l3⟩
  have z3 := e3.size
  replace e := e.trans e3
  refine runl_nil ?_
  refine run_seq ?_
  refine run_region rfl ?_
  refine runl_ev (ev_move rfl) ?_
  refine runl_ev (ev_fieldAddr fld_82_0 rfl) ?_
  refine runl_ev (ev_load1 cell_9 rfl (eqw (cell_blk hb3 rfl))) ?_
  refine runl_op (t_call call_91 rfl (wtext_any (st.up e) t.name (by omega))) ?_
  rintro _ w7 ⟨rfl, v7, g7, p7⟩
  have q7 := p7.from e
  have z7 := q7.extB.size
  have zz7 := p7.extB.size
  have hx7 : (b3 : Int) ≠ g7 := by rcases p7.new with h | h <;> omega
  replace hb3 := p7.extB.at hb3 (fun h => by rcases h with h | h <;> omega)
  clear e
  have e := ExtB.refl (fun _ => False) w7
  have hgl7 := q7.st.hgl
  have lwb7 := lt_of_at q7.st.hw
  refine runl_nil ?_
  refine run_seq ?_
  refine run_draw mo (fun w' => Ext w7 w') [6] [(true, 0), (true, 1), (true, 2), (true, 3), (true, 4), (false, 5), (false, 6)] (by kernel_rfl) ?_
  intro wr2 er2
  have zr2 := er2.size
  have hsr2 := er2
  have ep := e.trans er2
  have hb3p := er2.at hb3
  refine rund_ev hsr2 rfl (ev_move rfl) ?_
  refine rund_ev hsr2 rfl (ev_nilCheck rfl) ?_
  refine rund_ev hsr2 rfl (ev_fieldAddr fld_175_0 rfl) ?_
  refine rund_ev hsr2 rfl (ev_fieldAddr fld_82_1 rfl) ?_
  refine rund_ev hsr2 rfl (ev_load1 cell_3 rfl (fun wz hz => cell_blk (hz.at hb3) (Tgt.c1 t))) ?_
  refine rund_op rfl (t_buildSlice (out := [.int .i64 t.size]) Tryz.underlying248 sz_3 zero_3 rfl rfl (by decide) (by decide) rfl (rfl)) ?_
  rintro _ w13 ⟨b13, rfl, hb13, e13, n13, l13⟩
  have z13 := e13.size
  replace ep := ep.trans e13
  replace hb3p := e13.at hb3p
  have hs13 := hsr2.trans e13
  refine ⟨hs13, ?_⟩
  have hb13p := hb13
  refine rund_opT rfl rfl (t_call call_92 rfl (wnums_any (q7.st.up ep) [t.size] _ _ _ (sl_lit (l := [t.size]) (R := RInt) hb13p (pc rfl pn)) (fun b o h => by cases h; exact ⟨by omega, by omega⟩) (by simp) (by rw [encNs_one]; simp only [List.length_append]; omega))) ?_
  rintro _ w14 ⟨rfl, v14, g14, p14⟩
  rw [encNs_one] at p14
  have q14 := q7.trans st.hgl (p14.from ep)
  have z14 := q14.extB.size
  have zz14 := p14.extB.size
  have hx14 : (b3 : Int) ≠ g14 := by rcases p14.new with h | h <;> omega
  replace hb3p := p14.extB.at hb3p (fun h => by rcases h with h | h <;> omega)
  refine rund_nil ?_
  replace hb3 := hb3p
  clear hb3p
  refine run_seq ?_
  refine run_region rfl ?_
  refine runl_ev (ev_move rfl) ?_
  refine runl_ev (ev_fieldAddr fld_82_2 rfl) ?_
  refine runl_ev (ev_loadA agg_25 (by rw [hcells_length]; exact ht) rfl (eqw ((cells_all hb3).seg (hcells t.sum) 2 (by omega) (Tgt.sumdrop' ht)))) ?_
  refine runl_op (t_call call_103 rfl (whash_any q14.st t.sum ht (by simp only [List.length_append]; omega))) ?_
  rintro _ w18 ⟨rfl, v18, g18, p18⟩
  have q18 := q14.trans st.hgl p18
  have z18 := q18.extB.size
  have zz18 := p18.extB.size
  have hx18 : (b3 : Int) ≠ g18 := by rcases p18.new with h | h <;> omega
  have hgl14 := q14.st.hgl
  have lwb14 := lt_of_at q14.st.hw
  replace hb3 := p18.extB.at hb3 (fun h => by rcases h with h | h <;> omega)
  refine runl_nil ?_
  refine run_seq ?_
  refine run_region rfl ?_
  refine runl_ev (ev_move rfl) ?_
  refine runl_ev (ev_fieldAddr fld_82_3 rfl) ?_
  refine runl_ev (ev_load1 cell_9 rfl (eqw ((cells_all hb3).pick 34 rfl (Tgt.c34 ht)))) ?_
  refine runl_op (t_call call_91 rfl (wtext_any q18.st t.hw (by simp only [List.length_append]; omega))) ?_
  rintro _ w22 ⟨rfl, v22, g22, p22⟩
  have q22 := q18.trans st.hgl p22
  have z22 := q22.extB.size
  have zz22 := p22.extB.size
  have hx22 : (b3 : Int) ≠ g22 := by rcases p22.new with h | h <;> omega
  have hgl18 := q18.st.hgl
  have lwb18 := lt_of_at q18.st.hw
  replace hb3 := p22.extB.at hb3 (fun h => by rcases h with h | h <;> omega)
  have e := ExtB.refl (fun _ => False) w22
  have hgl22 := q22.st.hgl
  have lwb22 := lt_of_at q22.st.hw
  refine runl_nil ?_
  refine run_seq ?_
  refine run_draw mo (fun w' => Ext w22 w') [6] [(true, 0), (true, 1), (true, 2), (true, 3), (true, 4), (false, 5), (false, 6)] (by kernel_rfl) ?_
  intro wr5 er5
  have zr5 := er5.size
  have hsr5 := er5
  have hb3p := er5.at hb3
  have ep := e.trans er5
  refine rund_ev hsr5 rfl (ev_move rfl) ?_
  refine rund_ev hsr5 rfl (ev_nilCheck rfl) ?_
  refine rund_ev hsr5 rfl (ev_fieldAddr fld_175_0 rfl) ?_
  refine rund_ev hsr5 rfl (ev_fieldAddr fld_82_4 rfl) ?_
  refine rund_ev hsr5 rfl (ev_load1 cell_3 rfl (fun wz hz => (cells_all (hz.at hb3)).pick 35 rfl (Tgt.c35 ht))) ?_
  refine rund_op rfl (t_buildSlice (out := [.int .i64 t.ctr]) Tryz.underlying248 sz_3 zero_3 rfl rfl (by decide) (by decide) rfl (rfl)) ?_
  rintro _ w28 ⟨b28, rfl, hb28, e28, n28, l28⟩
  have z28 := e28.size
  replace hb3p := e28.at hb3p
  replace ep := ep.trans e28
  have hs28 := hsr5.trans e28
  refine ⟨hs28, ?_⟩
  have hb28p := hb28
  refine rund_opT rfl rfl (t_call call_92 rfl (wnums_any (q22.st.up ep) [t.ctr] _ _ _ (sl_lit (l := [t.ctr]) (R := RInt) hb28p (pc rfl pn)) (fun b o h => by cases h; exact ⟨by omega, by omega⟩) (by simp) (by rw [encNs_one]; simp only [List.length_append]; omega))) ?_
  rintro _ w29 ⟨rfl, v29, g29, p29⟩
  rw [encNs_one] at p29
  have q29 := q22.trans st.hgl (p29.from ep)
  have z29 := q29.extB.size
  have zz29 := p29.extB.size
  have hx29 : (b3 : Int) ≠ g29 := by rcases p29.new with h | h <;> omega
  replace hb3p := p29.extB.at hb3p (fun h => by rcases h with h | h <;> omega)
  refine rund_nil ?_
  replace hb3 := hb3p
  clear hb3p
  refine run_region rfl ?_
  refine runl_ev (ev_move rfl) ?_
  refine runl_ev (ev_fieldAddr fld_82_5 rfl) ?_
  refine runl_ev (ev_load1 cell_9 rfl (eqw ((cells_all hb3).pick 36 rfl (Tgt.c36 ht)))) ?_
  refine runl_op (t_call call_91 rfl (wtext_any q29.st t.ecu (by simp only [List.length_append]; omega))) ?_
  rintro _ w33 ⟨rfl, v33, g33, p33⟩
  have q33 := q29.trans st.hgl p33
  have z33 := q33.extB.size
  refine runl_nil ?_
  refine run_end_any Tryz.func94 (res0 Tryz.results94) ?_
  simp only [List.append_assoc] at q33
  exact ⟨rfl, v33, g33, q33⟩
theorem wrowsT_any {l : List UInt8} {w0 w : World} {wb : Nat} {g : Int} {v : Value} {T : TypeId} (st : WSt T 5 w0 w wb g v l) (xs : List Tgt) (a : Option Addr) (n c : Nat) (hs : SlAt 37 RTgt w0 (.slice a n c) xs) (hxl : xs.length ≤ 1099511627776) (hb : l.length + (encN xs.length ++ xs.flatMap encTgt).length ≤ 1099511627776) :
    Ret Tryz.prog 93 [.pointer (some ⟨wb, 0, none⟩), .func (.func 94) #[] #[], .slice a n c] w (WP T 5 w0 w wb g l (encN xs.length ++ xs.flatMap encTgt)) := by
  have e := ExtB.refl (fun _ => False) w
  have lwb := lt_of_at st.hw
  have hgl := st.hgl
  have hs0 := hs
  obtain ⟨rfl, hat⟩ := hs.at
  rw [List.length_append] at hb
  refine ret_of_run Tryz.func93 rfl Tryz.ntmps93 rfl ?_
  refine run_seq ?_
  refine run_region rfl ?_
  refine runl_ev (ev_move rfl) ?_
  refine runl_ev (ev_nilCheck rfl) ?_
  refine runl_ev (ev_fieldAddr fld_175_0 rfl) ?_
  refine runl_ev (ev_move rfl) ?_
  refine runl_ev (ev_lenL sl_45 rfl) ?_
  refine runl_op (t_buildSlice (out := [.int .i64 (xs.length : Int)]) Tryz.underlying248 sz_3 zero_3 rfl rfl (by decide) (by decide) rfl (rfl)) ?_
  rintro _ w13 ⟨b13, rfl, hb13, e13, n13, l13⟩
  have z13 := e13.size
  replace e := e.trans e13
  refine runl_op (t_call call_92 rfl (wnums_any (st.up e) [(xs.length : Int)] _ _ _ (sl_lit (l := [(xs.length : Int)]) (R := RInt) hb13 (pc rfl pn)) (fun b o h => by cases h; exact ⟨by omega, by omega⟩) (by simp) (by rw [encNs_one]; omega))) ?_
  rintro _ w14 ⟨rfl, v14, g14, p14⟩
  have q14 := p14.from e
  rw [encNs_one] at q14
  have z14 := q14.extB.size
  refine runl_nil ?_
  refine run_seq ?_
  refine run_region rfl ?_
  refine runl_ev (ev_move rfl) ?_
  refine runl_ev (ev_lenL sl_45 rfl) ?_
  refine runl_ev (ev_move rfl) ?_
  refine runl_nil ?_
  refine run_block ?_
  refine run_loop (ι := Nat × Value × Int) (fun x => [(0, .pointer (some ⟨wb, 0, none⟩)), (1, .func (.func 94) #[] #[]), (15, .slice a xs.length c), (16, .int .i64 (xs.length : Int)), (17, .int .i64 (x.1 : Int))]) (fun x w' => x.1 ≤ xs.length ∧ WPost T 5 w0 w wb g l (encN xs.length ++ (xs.take x.1).flatMap encTgt) x.2.1 x.2.2 w') (fun x => xs.length - x.1) ((0, v14, g14)) ⟨rfl, rfl, rfl, rfl, rfl, trivial⟩ (⟨Nat.zero_le _, by simpa using q14⟩) ?_
  clear q14 p14 e
  intro ⟨k, v1, g1⟩ w1 ⟨hk, po⟩ IH
  simp only at hk po
  have e := ExtB.refl (fun _ => False) w1
  have lwb1 := lt_of_at po.st.hw
  have hgl1 := po.st.hgl
  have hpz := po.extB.size
  refine run_seq ?_
  refine run_region rfl ?_
  refine runl_ev (ev_lss rfl rfl) ?_
  refine runl_nil ?_
  refine run_seq ?_
  refine run_dcond rfl (fun h0 => ?_) (fun h0 => ?_)
  · have hk1 : k < xs.length := by omega
    obtain ⟨b1, o1, cs1, rfl, hr1, hc1⟩ := hat k hk1
    have hcl1 := rtgt_len _ _ _ hr1
    have hone1 := rtgt_one _ _ hr1
    have htk := flat_take (f := encTgt) hk1
    have htl := flat_take_le (f := encTgt) (l := xs) (k + 1)
    rw [htk, List.length_append] at htl
    have htl0 : (l ++ (encN (xs.length : Int) ++ (xs.take k).flatMap encTgt)).length = l.length + (encN (xs.length : Int)).length + ((xs.take k).flatMap encTgt).length := by simp only [List.length_append]; omega
    obtain ⟨hwf1, rfl⟩ := hr1
    refine run_skip ?_
    refine run_seq ?_
    refine run_block ?_
    refine run_seq ?_
    refine run_region rfl ?_
    refine runl_ev (ev_indexAddr el_45 rfl rfl (by omega)) ?_
    refine runl_ev (ev_loadA agg_82 hcl1 rfl (eqw (hc1.ext (po.st.ext.trans e)))) ?_
    refine runl_op (t_alloc zero_82 rfl) ?_
    rintro _ w7 ⟨b7, rfl, hb7, e7, n7, l7⟩
    have z7 := e7.size
    replace e := e.trans e7
    refine runl_do (t_storeW sz_82 rfl rfl hcl1 rfl hb7 (hone1)) ?_
    rintro _ v3_3 ⟨hq3_3, e3_3, z3_3⟩
    replace e := e.new1 e3_3 (by omega)
    replace hb7 := hq3_3
    clear hq3_3
    refine runl_nil ?_
    refine run_region rfl ?_
    refine runl_ev (ev_move rfl) ?_
    refine runl_ev (ev_move rfl) ?_
    refine runl_ev (ev_loadA agg_82 hcl1 rfl (eqw (cells_all hb7))) ?_
    refine runl_op (t_callv call_94 rfl rfl (wtarget_any (po.st.up e) xs[k] hwf1 (by omega))) ?_
    rintro _ w24 ⟨rfl, v24, g24, p24⟩
    have q24 := po.trans hgl (p24.from e)
    have z24 := q24.extB.size
    refine runl_nil ?_
    refine run_inBlock ?_
    refine run_region rfl ?_
    refine runl_ev (ev_add rfl rfl (by omega) (by omega)) ?_
    refine runl_ev (ev_move rfl) ?_
    refine runl_nil ?_
    refine IH (k + 1, v24, g24) _ _ (by simp only; omega) ⟨rfl, rfl, rfl, rfl, rfl, trivial⟩ ⟨hk1, ?_⟩
    simp only
    rw [htk, ← List.append_assoc]
    exact q24
  · obtain rfl : k = xs.length := by omega
    rw [List.take_length] at po
    refine run_exit rfl ?_
    refine run_end_any Tryz.func93 (res0 Tryz.results93) ?_
    exact ⟨rfl, v1, g1, po⟩
theorem wrowsD_any {l : List UInt8} {w0 w : World} {wb : Nat} {g : Int} {v : Value} {T : TypeId} (st : WSt T 5 w0 w wb g v l) (fd : FuncId) (hb : l.length + (encN 0).length ≤ 1099511627776) : Ret Tryz.prog 95 [.pointer (some ⟨wb, 0, none⟩), .func (.func fd) #[] #[], .slice none 0 0] w (WP T 5 w0 w wb g l (encN 0)) := by
  have e := ExtB.refl (fun _ => False) w
  have lwb := lt_of_at st.hw
  have hgl := st.hgl
  refine ret_of_run Tryz.func95 rfl Tryz.ntmps95 rfl ?_
  refine run_seq ?_
  refine run_region rfl ?_
  refine runl_ev (ev_move rfl) ?_
  refine runl_ev (ev_nilCheck rfl) ?_
  refine runl_ev (ev_fieldAddr fld_175_0 rfl) ?_
  refine runl_ev (ev_move rfl) ?_
  refine runl_ev (ev_lenL sl_46 rfl) ?_
  refine runl_op (t_buildSlice (out := [.int .i64 0]) Tryz.underlying248 sz_3 zero_3 rfl rfl (by decide) (by decide) rfl (rfl)) ?_
  rintro _ w13 ⟨b13, rfl, hb13, e13, n13, l13⟩
  have z13 := e13.size
  replace e := e.trans e13
  refine runl_op (t_call call_92 rfl (wnums_any (st.up e) [0] _ _ _ (sl_lit (l := [0]) (R := RInt) hb13 (pc rfl pn)) (fun b o h => by cases h; exact ⟨by omega, by omega⟩) (by simp) (by rw [encNs_one]; omega))) ?_
  rintro _ w14 ⟨rfl, v14, g14, p14⟩
  have q14 := p14.from e
  rw [encNs_one] at q14
  have z14 := q14.extB.size
  refine runl_nil ?_
  refine run_seq ?_
  refine run_region rfl ?_
  refine runl_ev (ev_move rfl) ?_
  refine runl_ev (ev_lenL sl_46 rfl) ?_
  refine runl_ev (ev_move rfl) ?_
  refine runl_nil ?_
  refine run_block ?_
  refine run_loop (ι := Unit) (fun _ => [(16, .int .i64 0), (17, .int .i64 0)]) (fun _ w' => WPost T 5 w0 w wb g l (encN 0) v14 g14 w') (fun _ => 0) (()) ⟨rfl, rfl, trivial⟩ (q14) ?_
  clear q14 p14
  intro _ w1 q14 IH
  refine run_seq ?_
  refine run_region rfl ?_
  refine runl_ev (ev_lss rfl rfl) ?_
  refine runl_nil ?_
  refine run_seq ?_
  refine run_cond_false rfl (by decide) ?_
  refine run_exit rfl ?_
  refine run_end_any Tryz.func95 (res0 Tryz.results95) ?_
  exact ⟨rfl, v14, g14, q14⟩
end Go.Proofs.YtlgkdnmklgbhbaaGreatDoor
/- The walks of which targets may be, and of what encodes them, of any name, version and time. -/
namespace Go.Proofs.YtlgkdnmklgbhbaaGreatDoor
open Go Go.Fw
set_option maxRecDepth 100000
def encTg (nm : ByteArray) (v ex : Int) (l : List Tgt) : List UInt8 := encText nm ++ (encNs [v, ex] ++ ((encN l.length ++ l.flatMap encTgt) ++ encN 0))
theorem encTg_len {nm : ByteArray} {v ex : Int} {l : List Tgt} (hn : nameB nm = true) (h : isTgsB l = true) (hw : ∀ t ∈ l, t.wf) (hl : l.length ≤ 16) : (encTg nm v ex l).length ≤ 10000 := by
  have h1 := encTgts_len (l := l) fun t ht => tgt_len (tgts_is h t ht) (hw t ht)
  have h2 := encText_len nm
  have h3 := encNs_len [v, ex]
  have h4 := encN_len l.length
  have h5 := encN_len 0
  have h6 : l.length * 200 ≤ 16 * 200 := Nat.mul_le_mul_right _ hl
  have h7 := name_len hn
  simp only [List.length_cons, List.length_nil] at h3
  unfold encTg
  simp only [List.length_append]
  omega

theorem istg_any (nm : ByteArray) (v ex : Int) (hnm : nameB nm = true) (hvv : verB v = true) (hxx : numB ex = true) (x : List Tgt) (a : Option Addr) (c : Nat) (w : World) (hl : SlAt 37 RTgt w (.slice a x.length c) x) (hn : x.length ≤ 16) : Ret Tryz.prog 89 [.agg ⟨[.string nm, .int .i64 v, .int .i64 ex, .slice a x.length c, .slice none 0 0]⟩] w fun v w' => v = .bool (isTgsB x) ∧ Ext w w' := by
  have e := ExtB.refl (fun _ => False) w
  refine ret_of_run Tryz.func89 rfl Tryz.ntmps89 rfl ?_
  refine run_seq ?_
  refine run_region rfl ?_
  refine runl_op (t_boxA rfl) ?_
  rintro _ w1 ⟨b1, rfl, hb1, e1, n1, l1⟩
  have z1 := e1.size
  replace e := e.trans e1
  refine runl_ev (ev_assign rfl) ?_
  refine runl_nil ?_
  refine run_seq ?_
  refine run_seq ?_
  refine run_region rfl ?_
  refine runl_ev (ev_fieldAddr fld_48_0 rfl) ?_
  refine runl_ev (ev_load1 cell_9 rfl (eqw (cell_blk hb1 rfl))) ?_
  refine runl_op (t_call call_75 rfl (name_any _ _)) ?_
  rintro _ w9 ⟨rfl, e9⟩
  rw [hnm]
  have z9 := e9.size
  replace e := e.trans e9
  replace hb1 := e9.at hb1
  refine runl_ev (ev_not rfl) ?_
  refine runl_ev (ev_move rfl) ?_
  refine runl_ev_g rfl rfl (rfl) (ev_fieldAddr fld_48_1 rfl) ?_
  refine runl_ev_g rfl rfl (rfl) (ev_load1 cell_3 rfl (eqw (cell_blk hb1 rfl))) ?_
  refine runl_op_g rfl rfl (rfl) (t_call call_156 rfl (isver_any _ _)) ?_
  rintro _ w14 ⟨rfl, e14⟩
  rw [hvv]
  have z14 := e14.size
  replace e := e.trans e14
  replace hb1 := e14.at hb1
  refine runl_ev_g rfl rfl (rfl) (ev_not rfl) ?_
  refine runl_ev (ev_pick rfl rfl rfl (if_neg (by simp))) ?_
  refine runl_ev (ev_move rfl) ?_
  refine runl_ev_g rfl rfl (rfl) (ev_fieldAddr fld_48_2 rfl) ?_
  refine runl_ev_g rfl rfl (rfl) (ev_load1 cell_3 rfl (eqw (cell_blk hb1 rfl))) ?_
  refine runl_op_g rfl rfl (rfl) (t_call call_157 rfl (isnum_any _ _)) ?_
  rintro _ w20 ⟨rfl, e20⟩
  rw [hxx]
  have z20 := e20.size
  replace e := e.trans e20
  replace hb1 := e20.at hb1
  refine runl_ev_g rfl rfl (rfl) (ev_not rfl) ?_
  refine runl_ev (ev_pick rfl rfl rfl (if_neg (by simp))) ?_
  refine runl_ev (ev_move rfl) ?_
  refine runl_ev_g rfl rfl (rfl) (ev_fieldAddr fld_48_3 rfl) ?_
  refine runl_ev_g rfl rfl (rfl) (ev_load1 cell_45 rfl (eqw (cell_blk hb1 rfl))) ?_
  refine runl_ev_g rfl rfl (rfl) (ev_lenL sl_45 rfl) ?_
  refine runl_ev_g rfl rfl (rfl) (ev_gtr rfl rfl) ?_
  refine runl_ev (ev_pick rfl rfl rfl (if_neg (by simp))) ?_
  refine runl_ev (ev_move rfl) ?_
  refine runl_ev_g rfl rfl (decide_eq_false (by omega)) (ev_fieldAddr fld_48_4 rfl) ?_
  refine runl_ev_g rfl rfl (decide_eq_false (by omega)) (ev_load1 cell_46 rfl (eqw (cell_blk hb1 rfl))) ?_
  refine runl_ev_g rfl rfl (decide_eq_false (by omega)) (ev_lenL sl_46 rfl) ?_
  refine runl_ev_g rfl rfl (decide_eq_false (by omega)) (ev_gtr rfl rfl) ?_
  refine runl_ev (ev_pick rfl rfl rfl (if_neg (by simp; omega))) ?_
  refine runl_nil ?_
  refine run_cond_false rfl (rfl) ?_
  refine run_skip ?_
  refine run_seq ?_
  refine run_seq ?_
  refine run_region rfl ?_
  refine runl_ev (ev_fieldAddr fld_48_3 rfl) ?_
  refine runl_ev (ev_load1 cell_45 rfl (eqw (cell_blk hb1 rfl))) ?_
  refine runl_ev (ev_lenL sl_45 rfl) ?_
  refine runl_ev (ev_move rfl) ?_
  refine runl_nil ?_
  refine run_block ?_
  refine run_loop (ι := Nat) (fun k => [(1, .pointer (some ⟨b1, 0, none⟩)), (36, .slice a x.length c), (37, .int .i64 (x.length : Int)), (38, .int .i64 (k : Int))]) (fun k w' => k ≤ x.length ∧ (List.range k).all (tgtAt x) = true ∧ w'.heap[b1]? = some (.cells ⟨[.string nm, .int .i64 v, .int .i64 ex, .slice a x.length c, .slice none 0 0]⟩ 48 (0, 0)) ∧ Ext w w') (fun k => x.length - k) (0) ⟨rfl, rfl, rfl, rfl, trivial⟩ (⟨Nat.zero_le _, rfl, hb1, e⟩) ?_
  clear e hb1
  intro k w1 ⟨hk, hall, hb1, e⟩ IH
  have lb1 := lt_of_at hb1
  refine run_seq ?_
  refine run_region rfl ?_
  refine runl_ev (ev_lss rfl rfl) ?_
  refine runl_nil ?_
  refine run_seq ?_
  refine run_dcond rfl (fun h1 => ?_) (fun h1 => ?_)
  · have hk1 : k < x.length := by omega
    obtain ⟨bA, oA, cA, rfl, ⟨hwA, rfl⟩, hcA⟩ := hl.at.2 k hk1
    have hpa := tgtAt_eq hk1
    have hcl := Tgt.cells_length hwA
    refine run_skip ?_
    refine run_seq ?_
    refine run_block ?_
    refine run_seq ?_
    refine run_region rfl ?_
    refine runl_ev (ev_move rfl) ?_
    refine runl_ev (ev_indexAddr el_45 rfl rfl (by omega)) ?_
    refine runl_ev (ev_loadA agg_82 hcl rfl (eqw (hcA.ext e))) ?_
    refine runl_op (t_alloc zero_82 rfl) ?_
    rintro _ w4 ⟨b4, rfl, hb4, e4, n4, l4⟩
    have z4 := e4.size
    replace e := e.trans e4
    replace hb1 := e4.at hb1
    refine runl_ev (ev_assign rfl) ?_
    refine runl_do (t_storeW sz_82 rfl rfl hcl rfl hb4 ((Tgt.one _))) ?_
    rintro _ v5_5 ⟨hq5_5, e5_5, z5_5⟩
    replace e := e.new1 e5_5 (by omega)
    replace hb1 := e5_5.at1 hb1 (by omega)
    replace hb4 := hq5_5
    clear hq5_5
    refine runl_nil ?_
    refine run_seq ?_
    have hcs : isTgtB x[k] = false ∨ (isTgtB x[k] = true ∧ k = 0) ∨ (isTgtB x[k] = true ∧ 0 < k) := by
      cases isTgtB x[k] <;> simp <;> omega
    rcases hcs with q1 | ⟨q1, rfl⟩ | ⟨q1, q3⟩
    · have hno : tgtAt x k = false := by rw [hpa, q1]; rfl
      refine run_draw mo (fun w' => Ext v5_5 w') [] [(true, 0), (false, 1), (true, 2), (true, 3), (true, 4), (true, 5), (true, 6), (true, 7), (true, 8), (true, 9), (true, 10), (true, 11), (true, 12), (true, 13), (false, 14), (true, 15), (true, 16), (true, 17)] (by kernel_rfl) ?_
      intro wr6 er6
      have zr6 := er6.size
      have hsr6 := er6
      have ep := e.trans er6
      have hb1p := er6.at hb1
      have hb4p := er6.at hb4
      refine rund_ev hsr6 rfl (ev_loadA agg_82 hcl rfl (fun wz hz => cells_all (hz.at hb4))) ?_
      refine rund_op rfl (t_call call_158 rfl (istarget_any _ hwA _)) ?_
      rintro _ w44 ⟨rfl, e44⟩
      have z44 := e44.size
      replace ep := ep.trans e44
      replace hb1p := e44.at hb1p
      replace hb4p := e44.at hb4p
      have hs44 := hsr6.trans e44
      refine ⟨hs44, ?_⟩
      refine rund_ev hs44 rfl (ev_not rfl) ?_
      refine rund_ev hs44 rfl (ev_move rfl) ?_
      refine rund_no_g hs44 rfl rfl rfl (by rw [q1] <;> rfl) ?_
      refine rund_no_g hs44 rfl rfl rfl (by rw [q1] <;> rfl) ?_
      refine rund_no_g hs44 rfl rfl rfl (by rw [q1] <;> rfl) ?_
      refine rund_no_u hs44 rfl rfl rfl ?_
      refine rund_no_u hs44 rfl rfl rfl ?_
      refine rund_no_u hs44 rfl rfl rfl ?_
      refine rund_no_u hs44 rfl rfl rfl ?_
      refine rund_no_u hs44 rfl rfl rfl ?_
      refine rund_no_u hs44 rfl rfl rfl ?_
      refine rund_no_u hs44 rfl rfl rfl ?_
      refine rund_no_uf rfl rfl rfl hs44 ?_
      refine rund_no_u hs44 rfl rfl rfl ?_
      refine rund_no_g hs44 rfl rfl rfl (by rw [q1] <;> rfl) ?_
      refine rund_ev hs44 rfl (ev_pick rfl rfl rfl (if_pos (by rw [q1] <;> rfl))) ?_
      refine rund_nil ?_
      replace e := ep
      clear ep
      replace hb1 := hb1p
      clear hb1p
      replace hb4 := hb4p
      clear hb4p
      refine run_cond_true rfl (rfl) ?_
      refine run_seq ?_
      refine run_region rfl ?_
      refine runl_ev (ev_assign rfl) ?_
      refine runl_nil ?_
      refine run_ret_any Tryz.func89 (res1 Tryz.results89 rfl) ?_
      exact ⟨by rw [tgs_no hk1 hno], e⟩
    · have hyes : tgtAt x 0 = true := by rw [hpa, q1]; rfl
      refine run_draw mo (fun w' => Ext v5_5 w') [] [(true, 0), (false, 1), (true, 2), (true, 3), (true, 4), (true, 5), (true, 6), (true, 7), (true, 8), (true, 9), (true, 10), (true, 11), (true, 12), (true, 13), (false, 14), (true, 15), (true, 16), (true, 17)] (by kernel_rfl) ?_
      intro wr6 er6
      have zr6 := er6.size
      have hsr6 := er6
      have ep := e.trans er6
      have hb1p := er6.at hb1
      have hb4p := er6.at hb4
      refine rund_ev hsr6 rfl (ev_loadA agg_82 hcl rfl (fun wz hz => cells_all (hz.at hb4))) ?_
      refine rund_op rfl (t_call call_158 rfl (istarget_any _ hwA _)) ?_
      rintro _ w44 ⟨rfl, e44⟩
      have z44 := e44.size
      replace ep := ep.trans e44
      replace hb1p := e44.at hb1p
      replace hb4p := e44.at hb4p
      have hs44 := hsr6.trans e44
      refine ⟨hs44, ?_⟩
      refine rund_ev hs44 rfl (ev_not rfl) ?_
      refine rund_ev hs44 rfl (ev_move rfl) ?_
      refine rund_ev_g hs44 rfl rfl rfl (by rw [q1] <;> rfl) (ev_move rfl) ?_
      refine rund_ev_g hs44 rfl rfl rfl (by rw [q1] <;> rfl) (ev_gtr rfl rfl) ?_
      refine rund_ev_g hs44 rfl rfl rfl (by rw [q1] <;> rfl) (ev_move rfl) ?_
      refine rund_no_g hs44 rfl rfl rfl (by decide) ?_
      refine rund_no_g hs44 rfl rfl rfl (by decide) ?_
      refine rund_no_g hs44 rfl rfl rfl (by decide) ?_
      refine rund_no_g hs44 rfl rfl rfl (by decide) ?_
      refine rund_no_g hs44 rfl rfl rfl (by decide) ?_
      refine rund_no_g hs44 rfl rfl rfl (by decide) ?_
      refine rund_no_g hs44 rfl rfl rfl (by decide) ?_
      refine rund_no_gf rfl rfl rfl (by decide) hs44 ?_
      refine rund_no_g hs44 rfl rfl rfl (by decide) ?_
      refine rund_ev_g hs44 rfl rfl rfl (by rw [q1] <;> rfl) (ev_pick rfl rfl rfl (if_neg (by decide))) ?_
      refine rund_ev hs44 rfl (ev_pick rfl rfl rfl (if_neg (by rw [q1]; simp))) ?_
      refine rund_nil ?_
      replace e := ep
      clear ep
      replace hb1 := hb1p
      clear hb1p
      replace hb4 := hb4p
      clear hb4p
      refine run_cond_false rfl (rfl) ?_
      refine run_skip ?_
      refine run_inBlock ?_
      refine run_region rfl ?_
      refine runl_ev (ev_add rfl rfl (by omega) (by omega)) ?_
      refine runl_ev (ev_move rfl) ?_
      refine runl_nil ?_
      exact IH (0 + 1) _ _ (by omega) ⟨rfl, rfl, rfl, rfl, trivial⟩ ⟨by omega, range_succ_all hall hyes, hb1, e⟩
    · obtain ⟨bB, oB, cB, heB, ⟨hwB, rfl⟩, hcB⟩ := hl.at.2 (k - 1) (by omega)
      cases heB
      have hclB := Tgt.cells_length hwB
      refine run_draw mo (fun w' => Ext v5_5 w') [] [(true, 0), (false, 1), (true, 2), (true, 3), (true, 4), (true, 5), (true, 6), (true, 7), (true, 8), (true, 9), (true, 10), (true, 11), (true, 12), (true, 13), (false, 14), (true, 15), (true, 16), (true, 17)] (by kernel_rfl) ?_
      intro wr6 er6
      have zr6 := er6.size
      have hsr6 := er6
      have ep := e.trans er6
      have hb1p := er6.at hb1
      have hb4p := er6.at hb4
      refine rund_ev hsr6 rfl (ev_loadA agg_82 hcl rfl (fun wz hz => cells_all (hz.at hb4))) ?_
      refine rund_op rfl (t_call call_158 rfl (istarget_any _ hwA _)) ?_
      rintro _ w44 ⟨rfl, e44⟩
      have z44 := e44.size
      replace ep := ep.trans e44
      replace hb1p := e44.at hb1p
      replace hb4p := e44.at hb4p
      have hs44 := hsr6.trans e44
      refine ⟨hs44, ?_⟩
      refine rund_ev hs44 rfl (ev_not rfl) ?_
      refine rund_ev hs44 rfl (ev_move rfl) ?_
      refine rund_ev_g hs44 rfl rfl rfl (by rw [q1] <;> rfl) (ev_move rfl) ?_
      refine rund_ev_g hs44 rfl rfl rfl (by rw [q1] <;> rfl) (ev_gtr rfl rfl) ?_
      refine rund_ev_g hs44 rfl rfl rfl (by rw [q1] <;> rfl) (ev_move rfl) ?_
      refine rund_ev_g hs44 rfl rfl rfl (decide_eq_true (by omega)) (ev_fieldAddr fld_48_3 rfl) ?_
      refine rund_ev_g hs44 rfl rfl rfl (decide_eq_true (by omega)) (ev_load1 cell_45 rfl (fun wz hz => cell_blk (hz.at hb1) rfl)) ?_
      refine rund_ev_g hs44 rfl rfl rfl (decide_eq_true (by omega)) (ev_move rfl) ?_
      refine rund_ev_g hs44 rfl rfl rfl (decide_eq_true (by omega)) (ev_subK (((k - 1 : Nat) : Int)) rfl rfl (by rw [show ((k : Int) - 1) = ((k - 1 : Nat) : Int) by omega]; exact wrap_i64 (by omega) (by omega))) ?_
      refine rund_ev_g hs44 rfl rfl rfl (decide_eq_true (by omega)) (ev_indexAddr (k := k - 1) el_45 rfl rfl (by omega)) ?_
      refine rund_ev_g hs44 rfl rfl rfl (decide_eq_true (by omega)) (ev_loadA agg_82 hclB rfl (fun wz hz => hcB.ext (e.trans hz))) ?_
      refine rund_ev_g hs44 rfl rfl rfl (decide_eq_true (by omega)) (ev_loadA agg_82 hcl rfl (fun wz hz => cells_all (hz.at hb4))) ?_
      refine rund_op_g rfl rfl rfl (decide_eq_true (by omega)) (t_call call_159 rfl (rises_any (x[k - 1]'(by omega)) x[k] hwB hwA _)) ?_
      rintro _ w57 ⟨rfl, e57⟩
      have z57 := e57.size
      replace ep := ep.trans e57
      replace hb1p := e57.at hb1p
      replace hb4p := e57.at hb4p
      have hs57 := hs44.trans e57
      refine ⟨hs57, ?_⟩
      refine rund_ev_g hs57 rfl rfl rfl (decide_eq_true (by omega)) (ev_not rfl) ?_
      refine rund_ev_g hs57 rfl rfl rfl (by rw [q1] <;> rfl) (ev_pick rfl rfl rfl (if_pos (decide_eq_true (by omega)))) ?_
      refine rund_ev hs57 rfl (ev_pick rfl rfl rfl (if_neg (by rw [q1]; simp))) ?_
      refine rund_nil ?_
      replace e := ep
      clear ep
      replace hb1 := hb1p
      clear hb1p
      replace hb4 := hb4p
      clear hb4p
      refine run_cond_split rfl (fun h2 => ?_) (fun h2 => ?_)
      · have hno : tgtAt x k = false := by rw [hpa, q1, decide_eq_false (by omega : ¬ k = 0)]; simpa using h2
        refine run_seq ?_
        refine run_region rfl ?_
        refine runl_ev (ev_assign rfl) ?_
        refine runl_nil ?_
        refine run_ret_any Tryz.func89 (res1 Tryz.results89 rfl) ?_
        exact ⟨by rw [tgs_no hk1 hno], e⟩
      · have hyes : tgtAt x k = true := by rw [hpa, q1, decide_eq_false (by omega : ¬ k = 0)]; simpa using h2
        refine run_skip ?_
        refine run_inBlock ?_
        refine run_region rfl ?_
        refine runl_ev (ev_add rfl rfl (by omega) (by omega)) ?_
        refine runl_ev (ev_move rfl) ?_
        refine runl_nil ?_
        exact IH (k + 1) _ _ (by omega) ⟨rfl, rfl, rfl, rfl, trivial⟩ ⟨by omega, range_succ_all hall hyes, hb1, e⟩
  · obtain rfl : k = x.length := by omega
    refine run_exit rfl ?_
    refine run_seq ?_
    refine run_seq ?_
    refine run_region rfl ?_
    refine runl_ev (ev_fieldAddr fld_48_4 rfl) ?_
    refine runl_ev (ev_load1 cell_46 rfl (eqw (cell_blk hb1 rfl))) ?_
    refine runl_ev (ev_lenL sl_46 rfl) ?_
    refine runl_ev (ev_move rfl) ?_
    refine runl_nil ?_
    refine run_block ?_
    refine run_loop (ι := Unit) (fun _ => [(64, .int .i64 0), (65, .int .i64 0)]) (fun _ w' => Ext w w') (fun _ => 0) (()) ⟨rfl, rfl, trivial⟩ (e) ?_
    clear e hb1
    intro _ w2 e IH
    refine run_seq ?_
    refine run_region rfl ?_
    refine runl_ev (ev_lss rfl rfl) ?_
    refine runl_nil ?_
    refine run_seq ?_
    refine run_cond_false rfl (by decide) ?_
    refine run_exit rfl ?_
    refine run_seq ?_
    refine run_region rfl ?_
    refine runl_ev (ev_assign rfl) ?_
    refine runl_nil ?_
    refine run_ret_any Tryz.func89 (res1 Tryz.results89 rfl) ?_
    exact ⟨by rw [show isTgsB x = true from hall], e⟩
theorem enctg1_any {l : List UInt8} {w0 w : World} {wb : Nat} {g : Int} {v : Value} {T : TypeId} (st : WSt T 5 w0 w wb g v l) (nm : ByteArray) (ve ex : Int) (x : List Tgt) (a : Option Addr) (c : Nat) (xb : Nat) (hx : w0.heap[xb]? = some (.cells ⟨[.string nm, .int .i64 ve, .int .i64 ex, .slice a x.length c, .slice none 0 0]⟩ 48 (0, 0))) (hl : SlAt 37 RTgt w0 (.slice a x.length c) x) (hn : x.length ≤ 16) (hb : l.length + (encTg nm ve ex x).length ≤ 1099511627776) :
    Ret Tryz.prog 90 [.pointer (some ⟨wb, 0, none⟩), .pointer (some ⟨xb, 0, none⟩)] w (WP T 5 w0 w wb g l (encTg nm ve ex x)) := by
  have e := ExtB.refl (fun _ => False) w
  have lwb := lt_of_at st.hw
  have hgl := st.hgl
  have lxb := lt_of_at hx
  have hwb := st.hwb
  have hg0 := st.hg
  replace hx := st.ext.at hx
  unfold encTg at hb ⊢
  simp only [List.length_append] at hb
  refine ret_of_run Tryz.func90 rfl Tryz.ntmps90 rfl ?_
  refine run_seq ?_
  refine run_region rfl ?_
  refine runl_ev (ev_move rfl) ?_
  refine runl_ev (ev_fieldAddr fld_48_0 rfl) ?_
  refine runl_ev (ev_load1 cell_9 rfl (eqw (cell_blk hx rfl))) ?_
  refine runl_op (t_call call_91 rfl (wtext_any (st.up e) nm (by omega))) ?_
  rintro _ w6 ⟨rfl, v6, g6, p6⟩
  have q6 := p6.from e
  have z6 := q6.extB.size
  have hx6 : (xb : Int) ≠ g6 := by rcases p6.new with h | h <;> omega
  replace hx := p6.extB.at hx (fun h => by rcases h with h | h <;> omega)
  clear e
  have e := ExtB.refl (fun _ => False) w6
  have hgl6 := q6.st.hgl
  have lwb6 := lt_of_at q6.st.hw
  refine runl_nil ?_
  refine run_seq ?_
  refine run_draw mo (fun w' => Ext w6 w') [8] [(true, 0), (true, 1), (true, 2), (true, 3), (true, 4), (true, 5), (true, 6), (false, 7), (false, 8)] (by kernel_rfl) ?_
  intro wr1 er1
  have zr1 := er1.size
  have hsr1 := er1
  have ep := e.trans er1
  have hxp := er1.at hx
  refine rund_ev hsr1 rfl (ev_move rfl) ?_
  refine rund_ev hsr1 rfl (ev_nilCheck rfl) ?_
  refine rund_ev hsr1 rfl (ev_fieldAddr fld_175_0 rfl) ?_
  refine rund_ev hsr1 rfl (ev_fieldAddr fld_48_1 rfl) ?_
  refine rund_ev hsr1 rfl (ev_load1 cell_3 rfl (fun wz hz => cell_blk (hz.at hx) rfl)) ?_
  refine rund_ev hsr1 rfl (ev_fieldAddr fld_48_2 rfl) ?_
  refine rund_ev hsr1 rfl (ev_load1 cell_3 rfl (fun wz hz => cell_blk (hz.at hx) rfl)) ?_
  refine rund_op rfl (t_buildSlice (out := [.int .i64 ve, .int .i64 ex]) Tryz.underlying248 sz_3 zero_3 rfl rfl (by decide) (by decide) rfl (rfl)) ?_
  rintro _ w14 ⟨b14, rfl, hb14, e14, n14, l14⟩
  have z14 := e14.size
  replace ep := ep.trans e14
  replace hxp := e14.at hxp
  have hs14 := hsr1.trans e14
  refine ⟨hs14, ?_⟩
  have hb14p := hb14
  refine rund_opT rfl rfl (t_call call_92 rfl (wnums_any (q6.st.up ep) [ve, ex] _ _ _ (sl_lit (l := [ve, ex]) (R := RInt) hb14p (pc rfl (pc rfl pn))) (fun b o h => by cases h; exact ⟨by omega, by omega⟩) (by simp) (by simp only [List.length_append]; omega))) ?_
  rintro _ w15 ⟨rfl, v15, g15, p15⟩
  have q15 := q6.trans st.hgl (p15.from ep)
  have z15 := q15.extB.size
  have zz15 := p15.extB.size
  have hx15 : (xb : Int) ≠ g15 := by rcases p15.new with h | h <;> omega
  replace hxp := p15.extB.at hxp (fun h => by rcases h with h | h <;> omega)
  refine rund_nil ?_
  replace hx := hxp
  clear hxp
  refine run_seq ?_
  refine run_region rfl ?_
  refine runl_ev (ev_move rfl) ?_
  refine runl_ev (ev_fieldAddr fld_48_3 rfl) ?_
  refine runl_ev (ev_load1 cell_45 rfl (eqw (cell_blk hx rfl))) ?_
  refine runl_op (t_call call_93 rfl (wrowsT_any q15.st x a _ c hl (by omega) (by simp only [List.length_append]; omega))) ?_
  rintro _ w19 ⟨rfl, v19, g19, p19⟩
  have q19 := q15.trans st.hgl p19
  have z19 := q19.extB.size
  have hgl15 := q15.st.hgl
  have lwb15 := lt_of_at q15.st.hw
  replace hx := p19.extB.at hx (fun h => by rcases h with h | h <;> omega)
  refine runl_nil ?_
  refine run_region rfl ?_
  refine runl_ev (ev_move rfl) ?_
  refine runl_ev (ev_fieldAddr fld_48_4 rfl) ?_
  refine runl_ev (ev_load1 cell_46 rfl (eqw (cell_blk hx rfl))) ?_
  refine runl_op (t_call call_95 rfl (wrowsD_any q19.st _ (by simp only [List.length_append]; omega))) ?_
  rintro _ w23 ⟨rfl, v23, g23, p23⟩
  have q23 := q19.trans st.hgl p23
  have z23 := q23.extB.size
  refine runl_nil ?_
  refine run_end_any Tryz.func90 (res0 Tryz.results90) ?_
  simp only [List.append_assoc] at q23 ⊢
  exact ⟨rfl, v23, g23, q23⟩
theorem enctg_any (nm : ByteArray) (ve ex : Int) (hnm : nameB nm = true) (hvv : verB ve = true) (hxx : numB ex = true) (x : List Tgt) (a : Option Addr) (c : Nat) (w : World) (hl : SlAt 37 RTgt w (.slice a x.length c) x) (hn : x.length ≤ 16) : Ret Tryz.prog 44 [.agg ⟨[.string nm, .int .i64 ve, .int .i64 ex, .slice a x.length c, .slice none 0 0]⟩] w fun v w' => ∃ p, v = .tuple #[p, .int .i64 (encE isTgsB x)] ∧ OwnB 5 w (encP 4 isTgsB (encTg nm ve ex) x) p w' := by
  have e := ExtB.refl (fun _ => False) w
  have hwf := tgts_wf hl
  refine ret_of_run Tryz.func44 rfl Tryz.ntmps44 rfl ?_
  refine run_seq ?_
  refine run_region rfl ?_
  refine runl_op (t_boxA rfl) ?_
  rintro _ w1 ⟨b1, rfl, hb1, e1, n1, l1⟩
  have z1 := e1.size
  replace e := e.trans e1
  refine runl_ev (ev_assign rfl) ?_
  refine runl_ev (ev_assign rfl) ?_
  refine runl_nil ?_
  refine run_seq ?_
  refine run_region rfl ?_
  refine runl_ev (ev_loadA agg_48 rfl rfl (eqw (cells_all hb1))) ?_
  refine runl_op (t_call call_89 rfl (istg_any nm ve ex hnm hvv hxx x a c _ (hl.ext RTgt.stable e) hn)) ?_
  rintro _ w5 ⟨rfl, e5⟩
  have z5 := e5.size
  replace e := e.trans e5
  replace hb1 := e5.at hb1
  refine runl_ev (ev_makeFunc rfl rfl) ?_
  refine runl_op (t_call call_88 rfl (encoded_any _ 4 (isTgsB x) 90 [.pointer (some ⟨b1, 0, none⟩)] call_90 (encTg nm ve ex x) (by have := encN_len 4; omega) (fun hm => by have := encTg_len (v := ve) (ex := ex) hnm hm hwf hn; omega) (fun hm w1 wb g _ st => enctg1_any st nm ve ex x a c b1 hb1 (hl.ext RTgt.stable e) hn (by have := encN_len 4; have := encTg_len (v := ve) (ex := ex) hnm hm hwf hn; omega)))) ?_
  rintro _ w7 ⟨p7, g7, rfl, o7, e7, hg7, hgl7⟩
  have z7 := e7.size
  replace e := e.trans e7
  replace hb1 := e7.at hb1
  refine runl_ev (ev_extract rfl rfl) ?_
  refine runl_ev (ev_extract rfl rfl) ?_
  refine runl_ev (ev_assign rfl) ?_
  refine runl_ev (ev_assign rfl) ?_
  refine runl_nil ?_
  refine run_ret_any Tryz.func44 (res2 Tryz.results44 rfl rfl) ?_
  have hz := e.size
  exact ⟨p7, rfl, ownB_of o7 e (by omega) (by omega)⟩
end Go.Proofs.YtlgkdnmklgbhbaaGreatDoor
