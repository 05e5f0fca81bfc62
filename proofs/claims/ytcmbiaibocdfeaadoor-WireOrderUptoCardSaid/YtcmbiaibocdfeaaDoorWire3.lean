/- The walks of wire's writer: digests, keys, a record's bytes. -/
import Derived.Test.YtcmbiaibocdfeaaDoorFwI
import Derived.Test.YtcmbiaibocdfeaaDoorWire1
namespace Go.Proofs.YtcmbiaibocdfeaaDoor
open Go Go.Fw
set_option maxRecDepth 100000

theorem whash_any {l : List UInt8} {w0 w : World} {wb : Nat} {g : Int} {v : Value} {T : TypeId} (st : WSt T 5 w0 w wb g v l) (h : List UInt8) (hh : h.length = 32) (hb : l.length + 32 ≤ 1099511627776) :
    Ret Tryd.prog 23 [.pointer (some ⟨wb, 0, none⟩), .agg ⟨hcells h⟩] w (WP T 5 w0 w wb g l (h)) := by
  have e := ExtB.refl (fun _ => False) w
  have lwb := lt_of_at st.hw
  have hgl := st.hgl
  refine ret_of_run Tryd.func23 rfl Tryd.ntmps23 rfl ?_
  refine run_seq ?_
  refine run_region rfl ?_
  refine runl_op (t_boxA rfl) ?_
  rintro _ w3 ⟨b3, rfl, hb3, e3, n3, l3⟩
  have z3 := e3.size
  replace e := e.trans e3
  refine runl_nil ?_
  refine run_draw mo (fun w' => Ext w3 w') [4] [(true, 0), (true, 1), (true, 2), (true, 3), (false, 4)] (by kernel_rfl) ?_
  intro wr1 er1
  have zr1 := er1.size
  have hsr1 := er1
  have ep := e.trans er1
  have hb3p := er1.at hb3
  refine rund_ev hsr1 rfl (ev_move rfl) ?_
  refine rund_ev hsr1 rfl (ev_nilCheck rfl) ?_
  refine rund_ev hsr1 rfl (ev_fieldAddr fld_64_0 rfl) ?_
  refine rund_ev hsr1 rfl (ev_sliceA arr_29 rfl) ?_
  refine rund_opT rfl rfl (t_call call_56 rfl (wraw_any (st.up ep) h _ 32 32 (hh ▸ sl_cells (cells_all hb3p) (parts_bytes h)) (by omega))) ?_
  rintro _ w8 ⟨rfl, v8, g8, p8⟩
  have q8 := p8.from ep
  have z8 := q8.extB.size
  refine rund_nil ?_
  refine run_end_any Tryd.func23 (res0 Tryd.results23) ?_
  exact ⟨rfl, v8, g8, q8⟩
theorem wrowsH_any {l : List UInt8} {w0 w : World} {wb : Nat} {g : Int} {v : Value} {T : TypeId} (st : WSt T 5 w0 w wb g v l) (xs : List (List UInt8)) (a : Option Addr) (n c : Nat) (hs : SlAt 32 RHash w0 (.slice a n c) xs) (hxl : xs.length ≤ 1099511627776) (hb : l.length + (encN xs.length ++ xs.flatMap id).length ≤ 1099511627776) :
    Ret Tryd.prog 85 [.pointer (some ⟨wb, 0, none⟩), .func (.func 23) #[] #[], .slice a n c] w (WP T 5 w0 w wb g l (encN xs.length ++ xs.flatMap id)) := by
  have e := ExtB.refl (fun _ => False) w
  have lwb := lt_of_at st.hw
  have hgl := st.hgl
  have hs0 := hs
  obtain ⟨rfl, hat⟩ := hs.at
  rw [List.length_append] at hb
  refine ret_of_run Tryd.func85 rfl Tryd.ntmps85 rfl ?_
  refine run_seq ?_
  refine run_region rfl ?_
  refine runl_ev (ev_move rfl) ?_
  refine runl_ev (ev_nilCheck rfl) ?_
  refine runl_ev (ev_fieldAddr fld_64_0 rfl) ?_
  refine runl_ev (ev_move rfl) ?_
  refine runl_ev (ev_lenL sl_94 rfl) ?_
  refine runl_op (t_buildSlice (out := [.int .i64 (xs.length : Int)]) Tryd.underlying111 sz_3 zero_3 rfl rfl (by decide) (by decide) rfl (rfl)) ?_
  rintro _ w13 ⟨b13, rfl, hb13, e13, n13, l13⟩
  have z13 := e13.size
  replace e := e.trans e13
  refine runl_op (t_call call_22 rfl (wnums_any (st.up e) [(xs.length : Int)] _ _ _ (sl_lit (l := [(xs.length : Int)]) (R := RInt) hb13 (pc rfl pn)) (fun b o h => by cases h; exact ⟨by omega, by omega⟩) (by simp) (by rw [encNs_one]; omega))) ?_
  rintro _ w14 ⟨rfl, v14, g14, p14⟩
  have q14 := p14.from e
  rw [encNs_one] at q14
  have z14 := q14.extB.size
  refine runl_nil ?_
  refine run_seq ?_
  refine run_region rfl ?_
  refine runl_ev (ev_move rfl) ?_
  refine runl_ev (ev_lenL sl_94 rfl) ?_
  refine runl_ev (ev_move rfl) ?_
  refine runl_nil ?_
  refine run_block ?_
  refine run_loop (ι := Nat × Value × Int) (fun x => [(0, .pointer (some ⟨wb, 0, none⟩)), (1, .func (.func 23) #[] #[]), (15, .slice a xs.length c), (16, .int .i64 (xs.length : Int)), (17, .int .i64 (x.1 : Int))]) (fun x w' => x.1 ≤ xs.length ∧ WPost T 5 w0 w wb g l (encN xs.length ++ (xs.take x.1).flatMap id) x.2.1 x.2.2 w') (fun x => xs.length - x.1) ((0, v14, g14)) ⟨rfl, rfl, rfl, rfl, rfl, trivial⟩ (⟨Nat.zero_le _, by simpa using q14⟩) ?_
  clear q14 p14 e
  intro ⟨k, v1, g1⟩ w1 ⟨hk, po⟩ IH
  simp only at hk po
  have e := ExtB.refl (fun _ => False) w1
  have lwb1 := lt_of_at po.st.hw
  have hgl1 := po.st.hgl
  have hpz := po.extB.size
  refine run_seq ?_
  refine run_region rfl ?_
  refine runl_ev (ev_lss rfl rfl) ?_
  refine runl_nil ?_
  refine run_seq ?_
  refine run_dcond rfl (fun h0 => ?_) (fun h0 => ?_)
  · have hk1 : k < xs.length := by omega
    obtain ⟨b1, o1, cs1, rfl, hr1, hc1⟩ := hat k hk1
    have hcl1 := rhash_len _ _ _ hr1
    have hone1 := rhash_one _ _ hr1
    have htk : (xs.take (k + 1)).flatMap id = (xs.take k).flatMap id ++ id xs[k] := by rw [List.take_add_one, List.getElem?_eq_getElem hk1, List.flatMap_append]; simp
    have htl : ((xs.take k).flatMap id).length + (id xs[k]).length ≤ (xs.flatMap id).length := by
      have h1 := congrArg (fun l => (l.flatMap id).length) (List.take_append_drop (k + 1) xs)
      simp only [List.flatMap_append, List.length_append, htk] at h1
      omega
    have htl0 : (l ++ (encN (xs.length : Int) ++ (xs.take k).flatMap id)).length = l.length + (encN (xs.length : Int)).length + ((xs.take k).flatMap id).length := by simp only [List.length_append]; omega
    obtain ⟨hh1, rfl⟩ := hr1
    refine run_skip ?_
    refine run_seq ?_
    refine run_block ?_
    refine run_seq ?_
    refine run_region rfl ?_
    refine runl_ev (ev_indexAddr el_94 rfl rfl (by omega)) ?_
    refine runl_ev (ev_loadA agg_29 hcl1 rfl (eqw (hc1.ext (po.st.ext.trans e)))) ?_
    refine runl_op (t_alloc zero_29 rfl) ?_
    rintro _ w7 ⟨b7, rfl, hb7, e7, n7, l7⟩
    have z7 := e7.size
    replace e := e.trans e7
    refine runl_do (t_storeW sz_29 rfl rfl hcl1 rfl hb7 (hone1)) ?_
    rintro _ v3_3 ⟨hq3_3, e3_3, z3_3⟩
    replace e := e.new1 e3_3 (by omega)
    replace hb7 := hq3_3
    clear hq3_3
    refine runl_nil ?_
    refine run_region rfl ?_
    refine runl_ev (ev_move rfl) ?_
    refine runl_ev (ev_move rfl) ?_
    refine runl_ev (ev_loadA agg_29 hcl1 rfl (eqw (cells_all hb7))) ?_
    refine runl_op (t_callv call_23 rfl rfl (whash_any (po.st.up e) xs[k] hh1 (by rw [htl0]; simp only [id] at htl; omega))) ?_
    rintro _ w24 ⟨rfl, v24, g24, p24⟩
    have q24 := po.trans hgl (p24.from e)
    have z24 := q24.extB.size
    refine runl_nil ?_
    refine run_inBlock ?_
    refine run_region rfl ?_
    refine runl_ev (ev_add rfl rfl (by omega) (by omega)) ?_
    refine runl_ev (ev_move rfl) ?_
    refine runl_nil ?_
    refine IH (k + 1, v24, g24) _ _ (by simp only; omega) ⟨rfl, rfl, rfl, rfl, rfl, trivial⟩ ⟨hk1, ?_⟩
    simp only
    rw [htk, ← List.append_assoc]
    exact q24
  · obtain rfl : k = xs.length := by omega
    rw [List.take_length] at po
    refine run_exit rfl ?_
    refine run_end_any Tryd.func85 (res0 Tryd.results85) ?_
    exact ⟨rfl, v1, g1, po⟩
theorem wkeys_any {l : List UInt8} {w0 w : World} {wb : Nat} {g : Int} {v : Value} {T : TypeId} (st : WSt T 5 w0 w wb g v l) (k : KeysP) (cs : List Value) (hk : RKeys w0 k cs) (hkl : k.keys.length ≤ 1099511627776) (hb : l.length + (encKeys k).length ≤ 1099511627776) :
    Ret Tryd.prog 74 [.pointer (some ⟨wb, 0, none⟩), .agg ⟨cs⟩] w (WP T 5 w0 w wb g l (encKeys k)) := by
  have e := ExtB.refl (fun _ => False) w
  have lwb := lt_of_at st.hw
  have hgl := st.hgl
  obtain ⟨a, c, rfl, hks, -⟩ := hk
  unfold encKeys at hb ⊢
  simp only [List.length_append] at hb
  refine ret_of_run Tryd.func74 rfl Tryd.ntmps74 rfl ?_
  refine run_seq ?_
  refine run_region rfl ?_
  refine runl_op (t_boxA rfl) ?_
  rintro _ w3 ⟨b3, rfl, hb3, e3, n3, l3⟩
  have z3 := e3.size
  replace e := e.trans e3
  refine runl_nil ?_
  refine run_seq ?_
  refine run_region rfl ?_
  refine runl_ev (ev_move rfl) ?_
  refine runl_ev (ev_fieldAddr fld_96_0 rfl) ?_
  refine runl_ev (ev_load1 cell_94 rfl (eqw (cell_blk hb3 rfl))) ?_
  refine runl_op (t_call call_85 rfl (wrowsH_any (st.up e) k.keys a _ c hks hkl (by simp only [List.length_append]; omega))) ?_
  rintro _ w7 ⟨rfl, v7, g7, p7⟩
  have q7 := p7.from e
  have z7 := q7.extB.size
  replace hb3 := p7.extB.at hb3 (fun h => by rcases h with h | h <;> omega)
  clear e
  have e := ExtB.refl (fun _ => False) w7
  have hgl7 := q7.st.hgl
  have lwb7 := lt_of_at q7.st.hw
  refine runl_nil ?_
  refine run_draw mo (fun w' => Ext w7 w') [6] [(true, 0), (true, 1), (true, 2), (true, 3), (true, 4), (false, 5), (false, 6)] (by kernel_rfl) ?_
  intro wr2 er2
  have zr2 := er2.size
  have hsr2 := er2
  have ep := e.trans er2
  have hb3p := er2.at hb3
  refine rund_ev hsr2 rfl (ev_move rfl) ?_
  refine rund_ev hsr2 rfl (ev_nilCheck rfl) ?_
  refine rund_ev hsr2 rfl (ev_fieldAddr fld_64_0 rfl) ?_
  refine rund_ev hsr2 rfl (ev_fieldAddr fld_96_1 rfl) ?_
  refine rund_ev hsr2 rfl (ev_load1 cell_3 rfl (fun wz hz => cell_blk (hz.at hb3) rfl)) ?_
  refine rund_op rfl (t_buildSlice (out := [.int .i64 k.need]) Tryd.underlying111 sz_3 zero_3 rfl rfl (by decide) (by decide) rfl (rfl)) ?_
  rintro _ w13 ⟨b13, rfl, hb13, e13, n13, l13⟩
  have z13 := e13.size
  replace ep := ep.trans e13
  replace hb3p := e13.at hb3p
  have hs13 := hsr2.trans e13
  refine ⟨hs13, ?_⟩
  have hb13p := hb13
  refine rund_opT rfl rfl (t_call call_22 rfl (wnums_any (q7.st.up ep) [k.need] _ _ _ (sl_lit (l := [k.need]) (R := RInt) hb13p (pc rfl pn)) (fun b o h => by cases h; exact ⟨by omega, by omega⟩) (by simp) (by rw [encNs_one]; simp only [List.length_append]; omega))) ?_
  rintro _ w14 ⟨rfl, v14, g14, p14⟩
  rw [encNs_one] at p14
  have q14 := q7.trans st.hgl (p14.from ep)
  rw [List.append_assoc] at q14
  have z14 := q14.extB.size
  refine rund_nil ?_
  refine run_end_any Tryd.func74 (res0 Tryd.results74) ?_
  exact ⟨rfl, v14, g14, q14⟩
theorem encoded_any (w : World) (kind : Int) (may : Bool) (fid : FuncId) (caps : List Value) (hcall : callable Tryd.prog fid = true) (enc : List UInt8) (hkb : (encN kind).length ≤ 100) (hbe : may = true → enc.length ≤ 1000000000)
    (hlay : may = true → ∀ (w1 : World) (wb : Nat) (g : Int) (v : Value), WSt 64 5 w w1 wb g v (encN kind) → Ret Tryd.prog fid (.pointer (some ⟨wb, 0, none⟩) :: caps) w1 (WP 64 5 w w1 wb g (encN kind) enc)) :
    Ret Tryd.prog 19 [.int .i64 kind, .bool may, .func (.func fid) #[] ⟨caps⟩] w fun r w' => ∃ v g, r = .tuple #[v, .int .i64 (if may = true then 0 else 1)] ∧ Own w' 5 1 v (if may = true then encN kind ++ enc else []).length (hcells (if may = true then encN kind ++ enc else [])) g ∧ Ext w w' ∧ (g = -1 ∨ (w.heap.size : Int) ≤ g) ∧ g < w'.heap.size := by
  have e := ExtB.refl (fun _ => False) w
  refine ret_of_run Tryd.func19 rfl Tryd.ntmps19 rfl ?_
  refine run_seq ?_
  refine run_region rfl ?_
  refine runl_ev (ev_assign rfl) ?_
  refine runl_ev (ev_assign rfl) ?_
  refine runl_nil ?_
  refine run_seq ?_
  refine run_seq ?_
  refine run_region rfl ?_
  refine runl_ev (ev_move rfl) ?_
  refine runl_ev (ev_not rfl) ?_
  refine runl_nil ?_
  refine run_cond_split rfl (fun h0 => ?_) (fun h0 => ?_)
  · obtain rfl : may = false := by simpa using h0
    refine run_seq ?_
    refine run_region rfl ?_
    refine runl_ev (ev_assign rfl) ?_
    refine runl_ev (ev_assign rfl) ?_
    refine runl_nil ?_
    refine run_ret_any Tryd.func19 (res2 Tryd.results19 rfl rfl) ?_
    exact ⟨_, -1, rfl, own_nil _ _ _ _, e, .inl rfl, by omega⟩
  · obtain rfl : may = true := by simpa using h0
    have hbe := hbe rfl
    refine run_skip ?_
    refine run_seq ?_
    refine run_region rfl ?_
    refine runl_ev (ev_build (out := [.slice none 0 0]) ps_64 zero_64 rfl rfl (rfl)) ?_
    refine runl_op (t_boxA rfl) ?_
    rintro _ w12 ⟨b12, rfl, hb12, e12, n12, l12⟩
    have z12 := e12.size
    replace e := e.trans e12
    have st : WSt 64 5 w _ b12 (-1) (.slice none 0 0) [] := ⟨hb12, own_nil _ _ _ _, e, n12, .inl rfl, by omega, by omega⟩
    clear e
    have e := ExtB.refl (fun _ => False) w12
    refine runl_ev (ev_assign rfl) ?_
    refine runl_nil ?_
    refine run_seq ?_
    refine run_region rfl ?_
    refine runl_ev (ev_move rfl) ?_
    refine runl_ev (ev_nilCheck rfl) ?_
    refine runl_ev (ev_fieldAddr fld_64_0 rfl) ?_
    refine runl_ev (ev_move rfl) ?_
    refine runl_op (t_buildSlice (out := [.int .i64 kind]) Tryd.underlying111 sz_3 zero_3 rfl rfl (by decide) (by decide) rfl (rfl)) ?_
    rintro _ w17 ⟨b17, rfl, hb17, e17, n17, l17⟩
    have z17 := e17.size
    replace e := e.trans e17
    replace hb12 := e17.at hb12
    refine runl_op (t_call call_22 rfl (wnums_any (st.up e) [kind] _ _ _ (sl_lit (l := [kind]) (R := RInt) hb17 (pc rfl pn)) (fun b o h => by cases h; exact ⟨by omega, by omega⟩) (by simp) (by rw [encNs_one]; simp; omega))) ?_
    rintro _ w18 ⟨rfl, v18, g18, p18⟩
    rw [encNs_one] at p18
    have st18 := p18.st
    rw [List.nil_append] at st18
    have z18 := p18.extB.size
    refine runl_nil ?_
    refine run_seq ?_
    refine run_region rfl ?_
    refine runl_ev (ev_move rfl) ?_
    refine runl_ev (ev_move rfl) ?_
    refine runl_op (t_callv hcall rfl rfl (hlay rfl _ _ _ _ st18)) ?_
    rintro _ w21 ⟨rfl, v21, g21, p21⟩
    have z21 := p21.extB.size
    refine runl_nil ?_
    refine run_seq ?_
    refine run_region rfl ?_
    refine runl_ev (ev_move rfl) ?_
    refine runl_ev (ev_nilCheck rfl) ?_
    refine runl_ev (ev_fieldAddr fld_64_0 rfl) ?_
    refine runl_op (t_call call_53 rfl (wout_any p21.st (by rw [List.length_append]; omega))) ?_
    rintro r25 w25 ⟨g25, o25, e25, hg25, hl25⟩
    have z25 := e25.size
    refine runl_ev (ev_assign rfl) ?_
    refine runl_ev (ev_assign rfl) ?_
    refine runl_nil ?_
    refine run_ret_any Tryd.func19 (res2 Tryd.results19 rfl rfl) ?_
    have hz := p21.st.ext.size
    exact ⟨_, g25, rfl, o25, p21.st.ext.trans e25, by omega, hl25⟩
end Go.Proofs.YtcmbiaibocdfeaaDoor
