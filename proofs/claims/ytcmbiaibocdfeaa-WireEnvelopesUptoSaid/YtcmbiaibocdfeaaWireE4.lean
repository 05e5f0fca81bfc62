/- The walk of what encodes an envelope in the reference. -/
import Derived.Test.YtcmbiaibocdfeaaWireE3
namespace Go.Proofs.Ytcmbiaibocdfeaa
open Go Go.Fw
set_option maxRecDepth 100000

theorem rencenv_any (x : EnvP) (cs : List Value) (w : World) (hx : REnv w x cs) (hn : x.marks.length ≤ 2000000) (hb : isEnvP x = true → (encEnv x).length ≤ 1000000000) :
    Ret Try.prog 14 [.agg ⟨cs⟩] w fun v w' => ∃ p, v = .tuple #[p, .int .i64 (encE isEnvP x)] ∧ OwnB 5 w (encP 6 isEnvP encEnv x) p w' := by
  have e := ExtB.refl (fun _ => False) w
  have hcl := renv_len hx
  have hx0 := hx
  obtain ⟨a, c, a2, c2, rfl, hbo, hma⟩ := hx
  have hbl : (encBs x.body).length = (encN x.body.length).length + x.body.length := by simp [encBs]
  have hl6 := encN_len 6
  have hlm := encN_len x.marks.length
  refine ret_of_run Try.func14 rfl Try.ntmps14 rfl ?_
  refine run_seq ?_
  refine run_region rfl ?_
  refine runl_op (t_boxA rfl) ?_
  rintro _ w1 ⟨b1, rfl, hb1, e1, n1, l1⟩
  have z1 := e1.size
  replace e := e.trans e1
  have E1 := e
  clear e
  have e := ExtB.refl (fun _ => False) w1
  have lb1 := lt_of_at hb1
  refine runl_ev (ev_assign rfl) ?_
  refine runl_ev (ev_assign rfl) ?_
  refine runl_nil ?_
  refine run_seq ?_
  refine run_seq ?_
  refine run_region rfl ?_
  refine runl_ev (ev_loadA agg_44 hcl rfl (eqw (cells_all hb1))) ?_
  refine runl_op (t_call call_39 rfl (qisenv_any x _ _ (REnv.stable _ _ _ _ (E1.trans e) hx0) (by omega))) ?_
  rintro _ w9 ⟨rfl, e9⟩
  have z9 := e9.size
  replace e := e.trans e9
  replace hb1 := e9.at hb1
  refine runl_ev (ev_not rfl) ?_
  refine runl_nil ?_
  refine run_cond_split rfl (fun h0 => ?_) (fun h0 => ?_)
  · have hm : isEnvP x = false := by simpa using h0
    refine run_seq ?_
    refine run_region rfl ?_
    refine runl_ev (ev_assign rfl) ?_
    refine runl_ev (ev_assign rfl) ?_
    refine runl_nil ?_
    refine run_ret_any Try.func14 (res2 Try.results14 rfl rfl) ?_
    refine ⟨_, by rw [encE, hm]; rfl, ?_⟩
    rw [show encP 6 isEnvP encEnv x = [] by unfold encP; rw [hm]; rfl]
    exact OwnL.nil _ _ (E1.trans e)
  · have hm : isEnvP x = true := by simpa using h0
    replace hb := hb hm
    unfold encEnv at hb
    simp only [List.length_append] at hb
    refine run_skip ?_
    refine run_cut1 (ι := Value) (fun v => [(1, .pointer (some ⟨b1, 0, none⟩)), (4, v)]) (fun v w2 => w2.heap[b1]? = some (.cells ⟨[.slice a x.body.length c, .slice a2 x.marks.length c2]⟩ 44 (0, 0)) ∧ OwnB 5 w1 (encN 6 ++ encBs x.body ++ encN x.marks.length) v w2) ?_ ?_
    · clear e hb1
      intro v0 w2 ⟨hb1, ow⟩
      refine run_seq ?_
      refine run_seq ?_
      refine run_region rfl ?_
      refine runl_ev (ev_assign rfl) ?_
      refine runl_nil ?_
      refine run_block ?_
      refine run_loop (ι := Nat × Value) (fun x => [(1, .pointer (some ⟨b1, 0, none⟩)), (4, x.2), (5, .int .i64 (x.1 : Int))]) (fun y w2 => y.1 ≤ x.marks.length ∧ w2.heap[b1]? = some (.cells ⟨[.slice a x.body.length c, .slice a2 x.marks.length c2]⟩ 44 (0, 0)) ∧ OwnB 5 w1 (encN 6 ++ encBs x.body ++ encN x.marks.length ++ (x.marks.take y.1).flatMap encMark) y.2 w2) (fun y => x.marks.length - y.1) ((0, v0)) ⟨rfl, rfl, rfl, trivial⟩ (⟨Nat.zero_le _, hb1, by simpa using ow⟩) ?_
      clear hb1 ow
      intro ⟨j, v⟩ w3 ⟨hj, hb1, ow⟩ IH
      simp only at hj ow
      obtain ⟨xs, g, own, hpp, hxl, e, hg, hgl⟩ := ow.open
      have ze := e.size
      have htl := flat_take_le (f := encMark) (l := x.marks) j
      have hol : (encN 6 ++ encBs x.body ++ encN x.marks.length ++ (x.marks.take j).flatMap encMark).length = (encN 6).length + (encBs x.body).length + (encN x.marks.length).length + ((x.marks.take j).flatMap encMark).length := by simp only [List.length_append]
      refine run_seq ?_
      refine run_seq ?_
      refine run_region rfl ?_
      refine runl_ev (ev_move rfl) ?_
      refine runl_ev (ev_fieldAddr fld_44_1 rfl) ?_
      refine runl_ev (ev_load1 cell_42 rfl (eqw (cell_blk hb1 rfl))) ?_
      refine runl_ev (ev_lenL sl_42 rfl) ?_
      refine runl_ev (ev_lss rfl rfl) ?_
      refine runl_nil ?_
      refine run_dcond rfl (fun h1 => ?_) (fun h1 => ?_)
      · have hj1 : j < x.marks.length := by omega
        obtain ⟨b2, o2, cs2, rfl, ⟨sc, rfl, hkk, hsc⟩, hc2⟩ := hma.at.2 j hj1
        have htk := flat_take (f := encMark) hj1
        have htl2 := flat_take_le (f := encMark) (l := x.marks) (j + 1)
        rw [htk, List.length_append] at htl2
        have hml : (encMark x.marks[j]).length = 32 + (encBs (sigB x.marks[j].sig)).length := by unfold encMark; rw [List.length_append, hkk]
        have hsl : (encBs (sigB x.marks[j].sig)).length = (encN (sigB x.marks[j].sig).length).length + (sigB x.marks[j].sig).length := by simp [encBs]
        refine run_skip ?_
        refine run_seq ?_
        refine run_block ?_
        refine run_seq ?_
        refine run_region rfl ?_
        refine runl_ev (ev_fieldAddr fld_44_1 rfl) ?_
        refine runl_ev (ev_load1 cell_42 rfl (eqw (cell_blk hb1 rfl))) ?_
        refine runl_ev (ev_move rfl) ?_
        refine runl_ev (ev_indexAddr el_42 rfl rfl (by omega)) ?_
        refine runl_ev (ev_fieldAddr fld_87_1 rfl) ?_
        refine runl_ev (ev_loadA agg_85 (rsig_len _ _ _ hsc) rfl (eqw ((hc2.ext (E1.trans e)).seg sc 32 (by omega) (rmark_seg hkk)))) ?_
        refine runl_op (t_call call_42 rfl (rencsig_any x.marks[j].sig sc _ (RSig.stable _ _ _ _ (E1.trans e) hsc))) ?_
        rintro _ w35 ⟨p35, rfl, o35⟩
        have e35 := o35.ext
        have og35 := o35.g
        obtain ⟨a35, c35, rfl, hc35, -, -⟩ := og35.sl
        have z35 := e35.size
        replace e := e.trans e35
        replace own := own.ext e35
        replace hb1 := e35.at hb1
        refine runl_ev (ev_move rfl) ?_
        refine runl_ev (ev_extract rfl rfl) ?_
        refine runl_ev (ev_extract rfl rfl) ?_
        refine runl_ev (ev_assign rfl) ?_
        refine runl_ev (ev_assign rfl) ?_
        refine runl_nil ?_
        refine run_region rfl ?_
        refine runl_ev (ev_move rfl) ?_
        refine runl_ev (ev_fieldAddr fld_44_1 rfl) ?_
        refine runl_ev (ev_load1 cell_42 rfl (eqw (cell_blk hb1 rfl))) ?_
        refine runl_ev (ev_move rfl) ?_
        refine runl_ev (ev_indexAddr el_42 rfl rfl (by omega)) ?_
        refine runl_ev (ev_fieldAddr fld_87_0 rfl) ?_
        refine runl_ev (ev_sliceA arr_81 rfl) ?_
        refine runl_op (t_append (news := hcells x.marks[j].key) ef_28 rfl rfl own (by rw [hcells_length]; exact hkk) ((hc2.ext (E1.trans e)).seg (hcells x.marks[j].key) 0 rfl (rmark_key hkk)) (hcells_one _) (by unfold maxLen; omega) (by omega)) ?_
        rintro v45 w45 ⟨g45, ap45⟩
        have og45 := OwnG.app flat_byte (w := w1) (by omega) hg (by omega) (hpp.mono fun _ _ _ hr => flat_byte _ _ _ _ hr) hxl (parts_bytes x.marks[j].key) ap45 rfl hkk
        obtain ⟨xs45, q45, own45, hpp45, hxl45, hg45, hgl45⟩ := og45.open
        have z45 := ap45.ext.size
        replace e := e.newG ap45.ext (by omega)
        replace hb1 := ap45.ext.atG hb1 (by omega)
        replace og35 := og35.keep flat_byte ap45.ext (fun k hk => by first | exact .inl (by omega) | exact .inr (by omega))
        refine runl_ev (ev_move rfl) ?_
        refine runl_op (t_call call_41 rfl (rbytes1_any (sigB x.marks[j].sig) _ _ _ _ og35.slat (by omega))) ?_
        rintro v47 w47 ow47
        have e47 := ow47.ext
        have og47 := ow47.g
        obtain ⟨a47, c47, rfl, hc47, -, -⟩ := og47.sl
        have z47 := e47.size
        replace e := e.trans e47
        replace hb1 := e47.at hb1
        replace og35 := og35.up flat_byte.stable e47
        replace own45 := own45.ext e47
        refine runl_op (t_appendL (l := encBs (sigB x.marks[j].sig)) (R := RByte) ef_28 rfl rfl own45 og47.slat rbyte_len (fun x cs h => rbyte_one x cs h) (by unfold maxLen; simp only [List.length_append]; omega) (by simp only [List.length_append]; omega)) ?_
        rintro v48 w48 ⟨n48, g48, hnl48, hnp48, ap48⟩
        have z48 := ap48.ext.size
        replace e := e.newG ap48.ext (by omega)
        replace hb1 := ap48.ext.atG hb1 (by omega)
        replace og47 := og47.keep flat_byte ap48.ext (fun k hk => by first | exact .inl (by omega) | exact .inr (by omega))
        have og48 := OwnG.app flat_byte (w := w1) (by omega) hg45 (by omega) (hpp45.mono fun _ _ _ hr => flat_byte _ _ _ _ hr) hxl45 hnp48 ap48 rfl rfl
        refine runl_ev (ev_assign rfl) ?_
        refine runl_nil ?_
        refine run_inBlock ?_
        refine run_region rfl ?_
        refine runl_ev (ev_move rfl) ?_
        refine runl_ev (ev_add rfl rfl (by omega) (by omega)) ?_
        refine runl_ev (ev_assign rfl) ?_
        refine runl_nil ?_
        refine IH (j + 1, v48) _ _ (by simp only; omega) ⟨rfl, rfl, rfl, trivial⟩ ⟨hj1, hb1, ?_⟩
        simp only
        rw [htk]
        have := OwnG.l og48 e
        rw [show encMark x.marks[j] = x.marks[j].key ++ encBs (sigB x.marks[j].sig) from rfl]
        simpa only [List.append_assoc] using this
      · obtain rfl : j = x.marks.length := by omega
        rw [List.take_length] at ow
        refine run_exit rfl ?_
        refine run_seq ?_
        refine run_region rfl ?_
        refine runl_ev (ev_move rfl) ?_
        refine runl_ev (ev_assign rfl) ?_
        refine runl_ev (ev_assign rfl) ?_
        refine runl_nil ?_
        refine run_ret_any Try.func14 (res2 Try.results14 rfl rfl) ?_
        refine ⟨_, by rw [encE, hm]; rfl, ?_⟩
        rw [show encP 6 isEnvP encEnv x = encN 6 ++ encBs x.body ++ encN x.marks.length ++ x.marks.flatMap encMark by unfold encP encEnv; rw [hm, if_pos rfl]; simp only [List.append_assoc]]
        exact OwnL.from E1 ow
    · intro JJ
      refine run_draw mo (fun w' => w'.heap[b1]? = some (.cells ⟨[.slice a x.body.length c, .slice a2 x.marks.length c2]⟩ 44 (0, 0))) [] [(true, 1), (true, 2), (true, 5), (true, 6), (true, 7), (false, 0), (false, 3), (false, 4), (false, 8), (false, 9), (true, 10)] (by kernel_rfl) ?_
      intro wr3 er3
      have zr3 := er3.size
      have hsr3 : (fun w' => w'.heap[b1]? = some (.cells ⟨[.slice a x.body.length c, .slice a2 x.marks.length c2]⟩ 44 (0, 0))) wr3 := er3.at hb1
      have ep := e.trans er3
      have hb1p := er3.at hb1
      refine rund_ev hsr3 rfl (ev_fieldAddr fld_44_0 rfl) ?_
      refine rund_ev hsr3 rfl (ev_load1 cell_28 rfl (fun wz hz => cell_blk hz rfl)) ?_
      refine rund_ev hsr3 rfl (ev_fieldAddr fld_44_1 rfl) ?_
      refine rund_ev hsr3 rfl (ev_load1 cell_42 rfl (fun wz hz => cell_blk hz rfl)) ?_
      refine rund_ev hsr3 rfl (ev_lenL sl_42 rfl) ?_
      refine rund_op rfl (t_call call_40 rfl (rnum1_any 6 _)) ?_
      rintro v11 w11 ow11
      obtain ⟨xs11, g11, own11, hpp11, hxl11, e11, hg11, hgl11⟩ := ow11.open
      have z11 := e11.size
      replace ep := ep.trans e11
      replace hb1p := e11.at hb1p
      have hs11 := hb1p
      refine ⟨hs11, ?_⟩
      have own11p := own11
      refine rund_op rfl (t_call call_41 rfl (rbytes1_any x.body _ _ _ _ (hbo.ext RByte.stable (E1.trans ep)) (by omega))) ?_
      rintro v14 w14 ow14
      have e14 := ow14.ext
      have og14 := ow14.g
      obtain ⟨a14, c14, rfl, hc14, -, -⟩ := og14.sl
      have z14 := e14.size
      replace ep := ep.trans e14
      replace hb1p := e14.at hb1p
      replace own11p := own11p.ext e14
      have hs14 := hb1p
      refine ⟨hs14, ?_⟩
      have og14p := og14
      refine rund_op rfl (t_appendL (l := encBs x.body) (R := RByte) ef_28 rfl rfl own11p og14p.slat rbyte_len (fun x cs h => rbyte_one x cs h) (by unfold maxLen; (try simp only [List.length_append]); omega) (by (try simp only [List.length_append]); omega)) ?_
      rintro v15 w15 ⟨n15, gg15, hnl15, hnp15, ap15⟩
      have og15 := OwnG.app flat_byte (w := w1) (by omega) (by omega : g11 = -1 ∨ (w1.heap.size : Int) ≤ g11) (by omega) (hpp11.mono fun _ _ _ hr => flat_byte _ _ _ _ hr) hxl11 hnp15 ap15 rfl rfl
      obtain ⟨xs15, g15, own15, hpp15, hxl15, hg15, hgl15⟩ := og15.open
      have z15 := ap15.ext.size
      replace ep := ep.newG ap15.ext (by omega)
      replace hb1p := ap15.ext.atG hb1p (by omega)
      replace og14p := og14p.keep flat_byte ap15.ext (fun k hk => by first | exact .inl (by omega) | exact .inr (by omega))
      have hsp15_ext := hb1p
      refine ⟨hsp15_ext, ?_⟩
      have own15p := own15
      refine rund_op rfl (t_call call_40 rfl (rnum1_any (x.marks.length : Int) _)) ?_
      rintro v19 w19 ow19
      have e19 := ow19.ext
      have og19 := ow19.g
      obtain ⟨a19, c19, rfl, hc19, -, -⟩ := og19.sl
      have z19 := e19.size
      replace ep := ep.trans e19
      replace hb1p := e19.at hb1p
      replace own15p := own15p.ext e19
      have hs19 := hb1p
      refine ⟨hs19, ?_⟩
      have og19p := og19
      refine rund_op rfl (t_appendL (l := encN x.marks.length) (R := RByte) ef_28 rfl rfl own15p og19p.slat rbyte_len (fun x cs h => rbyte_one x cs h) (by unfold maxLen; (try simp only [List.length_append]); omega) (by (try simp only [List.length_append]); omega)) ?_
      rintro v20 w20 ⟨n20, gg20, hnl20, hnp20, ap20⟩
      have og20 := OwnG.app flat_byte (w := w1) (by omega) (by omega : g15 = -1 ∨ (w1.heap.size : Int) ≤ g15) (by omega) (hpp15.mono fun _ _ _ hr => flat_byte _ _ _ _ hr) hxl15 hnp20 ap20 rfl rfl
      obtain ⟨xs20, g20, own20, hpp20, hxl20, hg20, hgl20⟩ := og20.open
      have z20 := ap20.ext.size
      replace ep := ep.newG ap20.ext (by omega)
      replace hb1p := ap20.ext.atG hb1p (by omega)
      replace og19p := og19p.keep flat_byte ap20.ext (fun k hk => by first | exact .inl (by omega) | exact .inr (by omega))
      have hsp20_ext := hb1p
      refine ⟨hsp20_ext, ?_⟩
      have own20p := own20
      refine rund_ev hsp20_ext rfl (ev_assign rfl) ?_
      refine rund_nil ?_
      replace e := ep
      clear ep
      replace hb1 := hb1p
      clear hb1p
      replace own20 := own20p
      clear own20p
      exact JJ _ _ _ ⟨rfl, rfl, trivial⟩ ⟨hb1, OwnG.l og20 e⟩
end Go.Proofs.Ytcmbiaibocdfeaa
