/- A Director's vehicles: rows of them, where one stands, how one comes in. -/
import Derived.Test.YtlgkdnmklgbhbaaGreatDoorMG
import Derived.Test.YtlgkdnmklgbhbaaGreatDoorMC
namespace Go.Proofs.YtlgkdnmklgbhbaaGreatDoor
open Go Go.Fw
set_option maxRecDepth 100000
structure Veh where
  name : ByteArray
  hw : ByteArray
  key : List UInt8
  deriving DecidableEq
def Veh.wf (v : Veh) : Prop := v.key.length = 32
def vtail : List Value := [.string ⟨#[]⟩, .string ⟨#[]⟩] ++ (List.replicate 32 (.int .u8 0) ++ [.int .i64 0, .int .i64 0, .bool false])
def Veh.cells (v : Veh) : List Value := .string v.name :: .string v.hw :: (hcells v.key ++ vtail)
theorem Veh.cells_length {v : Veh} (h : v.wf) : v.cells.length = 71 := by
  have : v.key.length = 32 := h
  simp [Veh.cells, hcells_length, this, vtail]
theorem Veh.one (v : Veh) : ∀ x ∈ v.cells, x.oneCell' = true := by
  intro x hx
  simp only [Veh.cells, vtail, hcells, List.mem_cons, List.mem_append, List.mem_map, List.mem_replicate, List.not_mem_nil, or_false] at hx
  rcases hx with rfl | rfl | ⟨b, _, rfl⟩ | (rfl | rfl) | ⟨_, rfl⟩ | rfl | rfl | rfl <;> rfl
def vcs (l : List Veh) : List Value := l.flatMap Veh.cells

theorem tcs_lenV : ∀ {l : List Veh}, (∀ t ∈ l, t.wf) → (vcs l).length = l.length * 71
  | [], _ => rfl
  | t :: l, h => by
    have := tcs_lenV (l := l) fun x hx => h x (List.mem_cons_of_mem _ hx)
    have h0 := Veh.cells_length (h t (List.mem_cons_self ..))
    show (t.cells ++ vcs l).length = _
    rw [List.length_append, this, h0, List.length_cons]
    omega
theorem tcs_appV (a b : List Veh) : vcs (a ++ b) = vcs a ++ vcs b := List.flatMap_append
theorem tcs_takeV {l : List Veh} (h : ∀ t ∈ l, t.wf) (i : Nat) (hi : i ≤ l.length) : (vcs l).take (i * 71) = vcs (l.take i) := by
  have e : vcs l = vcs (l.take i) ++ vcs (l.drop i) := by rw [← tcs_appV, List.take_append_drop]
  rw [e]
  exact List.take_left' (by rw [tcs_lenV fun t ht => h t (List.mem_of_mem_take ht), List.length_take, Nat.min_eq_left hi])
theorem tcs_dropV {l : List Veh} (h : ∀ t ∈ l, t.wf) (i : Nat) (hi : i ≤ l.length) : (vcs l).drop (i * 71) = vcs (l.drop i) := by
  have e : vcs l = vcs (l.take i) ++ vcs (l.drop i) := by rw [← tcs_appV, List.take_append_drop]
  rw [e]
  exact List.drop_left' (by rw [tcs_lenV fun t ht => h t (List.mem_of_mem_take ht), List.length_take, Nat.min_eq_left hi])
theorem tcs_oneV {l : List Veh} : ∀ v ∈ vcs l, v.oneCell' = true := by
  intro v hv
  obtain ⟨t, _, h⟩ := List.mem_flatMap.1 hv
  exact Veh.one t v h
def insFV (l : List Veh) (i : Nat) (t : Veh) : List Veh := l.take i ++ t :: l.drop i
theorem insF_lenV {l : List Veh} {i : Nat} {t : Veh} (h : i ≤ l.length) : (insFV l i t).length = l.length + 1 := by unfold insFV; simp; omega
theorem cut_dropV {l : List Veh} {c : List Value} (hwf : ∀ t ∈ l, t.wf) (hct : c.take (l.length * 71) = vcs l) (i : Nat) (hi : i ≤ l.length) : vcs (l.drop i) = (c.drop (i * 71)).take (vcs (l.drop i)).length := by
  have h1 : (vcs (l.drop i)).length = (l.length - i) * 71 := by rw [tcs_lenV fun t ht => hwf t (List.mem_of_mem_drop ht), List.length_drop]
  rw [h1, ← tcs_dropV hwf i hi, ← hct, List.drop_take]
  congr 1
  omega
theorem cut_takeV {l : List Veh} {c : List Value} (hwf : ∀ t ∈ l, t.wf) (hct : c.take (l.length * 71) = vcs l) (i : Nat) (hi : i ≤ l.length) : c.take (i * 71) = vcs (l.take i) := by
  rw [← tcs_takeV hwf i hi, ← hct, List.take_take, Nat.min_eq_left (by omega)]
theorem drop_lenV {l : List Veh} (hwf : ∀ t ∈ l, t.wf) (i : Nat) : (vcs (l.drop i)).length = (l.length - i) * 71 := by rw [tcs_lenV fun t ht => hwf t (List.mem_of_mem_drop ht), List.length_drop]
theorem take_lenV {l : List Veh} (hwf : ∀ t ∈ l, t.wf) (i : Nat) (hi : i ≤ l.length) : (vcs (l.take i)).length = i * 71 := by rw [tcs_lenV fun t ht => hwf t (List.mem_of_mem_take ht), List.length_take, Nat.min_eq_left hi]
theorem ins_endV (l : List Veh) (t : Veh) : vcs l ++ t.cells = vcs (insFV l l.length t) := by
  unfold insFV
  rw [List.take_length, List.drop_length, tcs_appV]
  simp [vcs]
theorem tcs_insV (l : List Veh) (i : Nat) (t : Veh) : vcs (insFV l i t) = vcs (l.take i) ++ (t.cells ++ vcs (l.drop i)) := by
  unfold insFV
  rw [tcs_appV]
  simp [vcs]
theorem ovl_apartV {w : World} {b b2 o o2 n c n2 c2 : Nat} {cs cs2 : List Value} (hne : b ≠ b2) (h1 : w.heap[b]? = some (.cells ⟨cs⟩ 157 (0, 0))) (h2 : w.heap[b2]? = some (.cells ⟨cs2⟩ 157 (0, 0))) (hl : cs2.length ≠ 0) :
    (callFunc 148 ⟨[.slice (some ⟨b, o, none⟩) n c, .slice (some ⟨b2, o2, none⟩) n2 c2]⟩).run Tryz.prog w = .ok (.value (.bool false)) w := by
  have h := run_callFunc_extern (P := Tryz.prog) (e := Extern.SlicesOverlaps.overlaps #[148, 148] #[4]) Tryz.func148 (by kernel_rfl) (by kernel_rfl) (by kernel_rfl) (by kernel_rfl) ⟨[.slice (some ⟨b, o, none⟩) n c, .slice (some ⟨b2, o2, none⟩) n2 c2]⟩ w
  rw [h]
  have hz : ∀ w, (Go.sizeOf 157).run Tryz.prog w = .ok 71 w := by
    intro w
    have hq := sz_157
    cases hi : Tryz.prog.info? 157 with
    | none => simp [hi] at hq
    | some i =>
      have hs : i.size = 71 := by simpa [hi] using hq
      simp [sizeOf, typeInfo, hi, hs]
  rw [Lib.run_overlaps_apart (P := Tryz.prog) w 148 4 157 Tryz.underlying148 71 hz ⟨b, o, none⟩ ⟨b2, o2, none⟩ n c n2 c2 hne 157 157 cs.length cs2.length (by simp [World.shape?, h1]) (by simp [World.shape?, h2]) hl (by simp [World.frozen?, h1]) (by simp [World.frozen?, h1])]
  rfl
theorem insertV_any {lg : Int} {l : List Veh} {lv : Value} {w : World} (ol : Own w 157 71 lv l.length (vcs l) lg) (hwf : ∀ x ∈ l, x.wf) (t : Veh) (ht : t.wf) (i : Nat) (hi : i ≤ l.length) (hl : l.length ≤ 1000) (bt : Nat) (hbt : w.heap[bt]? = some (.cells ⟨t.cells⟩ 157 (0, 0))) (hne : lg ≠ bt) :
    Ret Tryz.prog 77 [lv, .int .i64 (i : Int), .slice (some ⟨bt, 0, none⟩) 1 1] w fun r w' => ∃ g', Appended w 157 71 lg (l.length + 1) (vcs (insFV l i t)) r w' g' := by
  obtain ⟨la, lc, rfl⟩ := ol.shape
  have htl := Veh.cells_length ht
  have eG := ExtB.refl (fun k : Nat => (k : Int) = lg) w
  have lbt := lt_of_at hbt
  refine ret_of_run Tryz.func77 rfl Tryz.ntmps77 rfl ?_
  refine run_seq ?_
  refine run_region rfl ?_
  refine runl_ev (ev_assign rfl) ?_
  refine runl_nil ?_
  refine run_seq ?_
  refine run_region rfl ?_
  refine runl_ev (ev_move rfl) ?_
  refine runl_ev (ev_move rfl) ?_
  refine runl_ev (ev_sliceL_lo (n := i) el_148 rfl rfl hi) ?_
  refine runl_nil ?_
  refine run_seq ?_
  refine run_region rfl ?_
  refine runl_ev (ev_move rfl) ?_
  refine runl_ev (ev_lenL sl_148 rfl) ?_
  refine runl_ev (ev_assign rfl) ?_
  refine runl_nil ?_
  refine run_seq ?_
  refine run_seq ?_
  refine run_region rfl ?_
  refine runl_ev (ev_move rfl) ?_
  refine runl_ev (ev_eqlI rfl rfl) ?_
  refine runl_nil ?_
  refine run_cond_false rfl (rfl) ?_
  refine run_skip ?_
  refine run_seq ?_
  refine run_region rfl ?_
  refine runl_ev (ev_move rfl) ?_
  refine runl_ev (ev_lenL sl_148 rfl) ?_
  refine runl_ev (ev_assign rfl) ?_
  refine runl_nil ?_
  refine run_seq ?_
  refine run_seq ?_
  refine run_region rfl ?_
  refine runl_ev (ev_move rfl) ?_
  refine runl_ev (ev_move rfl) ?_
  refine runl_ev (ev_eqlI rfl rfl) ?_
  refine runl_nil ?_
  refine run_dcond rfl (fun h1 => ?_) (fun h1 => ?_)
  · obtain rfl : i = l.length := by omega
    refine run_seq ?_
    refine run_region rfl ?_
    refine runl_ev (ev_move rfl) ?_
    refine runl_ev (ev_move rfl) ?_
    refine runl_op (t_append (news := t.cells) ef_148 rfl rfl ol htl (cells_all hbt) (Veh.one t) (by unfold maxLen; omega) (by omega)) ?_
    rintro v25 w25 ⟨g25, ap25⟩
    skip
    refine runl_ev (ev_assign rfl) ?_
    refine runl_nil ?_
    refine run_ret_any Tryz.func77 (res1 Tryz.results77 rfl) ?_
    refine ⟨g25, ?_⟩
    rw [ins_endV] at ap25
    exact ap25
  · have hil : i < l.length := by omega
    obtain ⟨b, cap, c, hbg, hv, hb, hnc, hcm, hcl, hct⟩ := ol.blk (by omega)
    obtain ⟨rfl, rfl⟩ : la = some ⟨b, 0, none⟩ ∧ lc = cap := by injection hv with q1 _ q3; exact ⟨q1, q3⟩
    have lb := lt_of_at hb
    have hd := drop_lenV hwf i
    have hlt := take_lenV hwf i hi
    refine run_skip ?_
    refine run_seq ?_
    refine run_seq ?_
    refine run_region rfl ?_
    refine runl_ev (ev_move rfl) ?_
    refine runl_ev (ev_move rfl) ?_
    refine runl_ev (ev_addK (((l.length + 1 : Nat) : Int)) rfl rfl (by rw [show ((l.length : Nat) : Int) + ((1 : Nat) : Int) = ((l.length + 1 : Nat) : Int) by omega]; exact wrap_i64 (by omega) (by omega))) ?_
    refine runl_ev (ev_move rfl) ?_
    refine runl_ev (ev_capL sl_148 rfl) ?_
    refine runl_ev (ev_gtr rfl rfl) ?_
    refine runl_nil ?_
    refine run_dcond rfl (fun h2 => ?_) (fun h2 => ?_)
    · refine run_seq ?_
      refine run_region rfl ?_
      refine runl_ev (ev_move rfl) ?_
      refine runl_ev (ev_move rfl) ?_
      refine runl_ev (ev_sliceR_hi (n := i) el_148 rfl rfl (by omega)) ?_
      refine runl_ev (ev_move rfl) ?_
      refine runl_ev (ev_move rfl) ?_
      refine runl_ev (ev_addK (((l.length + 1 : Nat) : Int)) rfl rfl (by rw [show ((l.length : Nat) : Int) + ((1 : Nat) : Int) = ((l.length + 1 : Nat) : Int) by omega]; exact wrap_i64 (by omega) (by omega))) ?_
      refine runl_ev (ev_move rfl) ?_
      refine runl_ev (ev_subK (((l.length + 1 - i : Nat) : Int)) rfl rfl (by rw [show ((l.length + 1 : Nat) : Int) - (i : Int) = ((l.length + 1 - i : Nat) : Int) by omega]; exact wrap_i64 (by omega) (by omega))) ?_
      refine runl_op (t_appendMk (n := i) (k := l.length + 1 - i) (xs := vcs (l.take i)) ef_148 Tryz.underlying3 rfl rfl hlt ((cells_all hb).seg (vcs (l.take i)) 0 rfl (by rw [hlt, List.drop_zero]; exact (cut_takeV hwf hct i hi).symm)) (by omega) (by omega) (by unfold maxLen; omega) (by omega)) ?_
      rintro v40 w40 ⟨b40, cap40, c40, z40, hv40, hb40, hc40a, hc40b, hc40c, hc40d, hc40e, e40, n40, l40⟩
      rw [show i + (l.length + 1 - i) = l.length + 1 by omega] at hv40 hc40a hc40d
      subst hv40
      have z40 := e40.size
      replace eG := eG.trans e40.toB
      replace hb := e40.at hb
      replace hbt := e40.at hbt
      refine runl_ev (ev_assign rfl) ?_
      refine runl_nil ?_
      refine run_seq ?_
      refine run_region rfl ?_
      refine runl_ev (ev_move rfl) ?_
      refine runl_ev (ev_move rfl) ?_
      refine runl_ev (ev_sliceR_lo (n := i) el_148 rfl rfl (by omega) (by omega)) ?_
      refine runl_ev (ev_move rfl) ?_
      refine runl_op (t_copyN (cs := t.cells) Tryz.underlying148 sz_157 rfl rfl hb40 (by rw [htl, show min 1 (l.length + 1 - i) = 1 by omega]) (cells_all hbt) (by rw [htl, hc40c]; omega) (Veh.one t)) ?_
      rintro _ w45 ⟨rfl, hq45, e45, z45⟩
      have z45 := e45.size
      replace eG := eG.newB1 e45 (by first | exact .inl (by omega) | exact .inr rfl | exact .inr (.inl rfl) | exact .inr (.inr (by omega)) | (right; omega))
      replace hb := e45.at1 hb (by first | assumption | omega)
      replace hbt := e45.at1 hbt (by first | assumption | omega)
      replace hb40 := hq45
      refine runl_nil ?_
      refine run_seq ?_
      refine run_draw mo (fun w' => Ext w45 w') [8] [(true, 0), (true, 1), (true, 2), (true, 3), (true, 4), (true, 5), (true, 6), (true, 7), (false, 8)] (by kernel_rfl) ?_
      intro wr11 er11
      have zr11 := er11.size
      have hsr11 := er11
      have eGp := eG.trans er11.toB
      have hbp := er11.at hb
      have hbtp := er11.at hbt
      have hb40p := er11.at hb40
      refine rund_ev hsr11 rfl (ev_move rfl) ?_
      refine rund_ev hsr11 rfl (ev_move rfl) ?_
      refine rund_ev hsr11 rfl (ev_move rfl) ?_
      refine rund_ev hsr11 rfl (ev_addK (((i + 1 : Nat) : Int)) rfl rfl (by rw [show ((i : Nat) : Int) + ((1 : Nat) : Int) = ((i + 1 : Nat) : Int) by omega]; exact wrap_i64 (by omega) (by omega))) ?_
      refine rund_ev hsr11 rfl (ev_sliceR_lo (n := i + 1) el_148 rfl rfl (by omega) (by omega)) ?_
      refine rund_ev hsr11 rfl (ev_move rfl) ?_
      refine rund_ev hsr11 rfl (ev_move rfl) ?_
      refine rund_ev hsr11 rfl (ev_sliceR_lo (n := i) el_148 rfl rfl (by omega) (by omega)) ?_
      refine rund_opT rfl rfl (t_copyN (cs := vcs (l.drop i)) Tryz.underlying148 sz_157 rfl rfl hb40p (by rw [hd, show min (l.length - i) (l.length + 1 - (i + 1)) = l.length - i by omega]) ((cells_all hbp).seg (vcs (l.drop i)) (i * 71) rfl (cut_dropV hwf hct i hi)) (by rw [splice_len (by rw [htl, hc40c]; omega), hd, hc40c]; omega) tcs_oneV) ?_
      rintro _ w54 ⟨rfl, hq54, e54, z54⟩
      have z54 := e54.size
      replace eGp := eGp.newB1 e54 (by first | exact .inl (by omega) | exact .inr rfl | exact .inr (.inl rfl) | exact .inr (.inr (by omega)) | (right; omega))
      replace hbp := e54.at1 hbp (by first | assumption | omega)
      replace hbtp := e54.at1 hbtp (by first | assumption | omega)
      replace hb40p := hq54
      refine rund_nil ?_
      replace eG := eGp
      clear eGp
      replace hb := hbp
      clear hbp
      replace hbt := hbtp
      clear hbtp
      replace hb40 := hb40p
      clear hb40p
      refine run_seq ?_
      refine run_region rfl ?_
      refine runl_ev (ev_move rfl) ?_
      refine runl_ev (ev_assign rfl) ?_
      refine runl_nil ?_
      refine run_ret_any Tryz.func77 (res1 Tryz.results77 rfl) ?_
      have hx : c40.take (0 + i * 71) = vcs (l.take i) := by
        have h5 : (c40.take ((l.length + 1) * 71)).take (i * 71) = c40.take (i * 71) := by rw [List.take_take, Nat.min_eq_left (by omega)]
        rw [Nat.zero_add, ← h5, hc40d]
        exact List.take_left' hlt
      have hs := sp_grow (zs := vcs (l.drop i)) (tc := t.cells) (o1 := 0 + (i + 1) * 71) hx (by rw [hlt, Nat.zero_add]) (by rw [htl]; omega) (by rw [hd, hc40c]; omega)
      refine ⟨b40, own_blk hb40 (by omega) hc40b ?_ ?_, eG, by omega, .inr ⟨by omega, by omega⟩⟩
      · rw [splice_len (by rw [splice_len (by rw [htl, hc40c]; omega), hd, hc40c]; omega), splice_len (by rw [htl, hc40c]; omega), hc40c]
      · rw [tcs_insV, ← hs]
        congr 1
        rw [hd]; omega
    · refine run_skip ?_
      refine run_seq ?_
      refine run_region rfl ?_
      refine runl_ev (ev_move rfl) ?_
      refine runl_ev (ev_move rfl) ?_
      refine runl_ev (ev_move rfl) ?_
      refine runl_ev (ev_addK (((l.length + 1 : Nat) : Int)) rfl rfl (by rw [show ((l.length : Nat) : Int) + ((1 : Nat) : Int) = ((l.length + 1 : Nat) : Int) by omega]; exact wrap_i64 (by omega) (by omega))) ?_
      refine runl_ev (ev_sliceR_hi (n := l.length + 1) el_148 rfl rfl (by omega)) ?_
      refine runl_ev (ev_assign rfl) ?_
      refine runl_nil ?_
      refine run_seq ?_
      refine run_seq ?_
      refine run_region rfl ?_
      refine runl_ev (ev_move rfl) ?_
      refine runl_ev (ev_move rfl) ?_
      refine runl_ev (ev_move rfl) ?_
      refine runl_ev (ev_move rfl) ?_
      refine runl_ev (ev_addK (((i + 1 : Nat) : Int)) rfl rfl (by rw [show ((i : Nat) : Int) + ((1 : Nat) : Int) = ((i + 1 : Nat) : Int) by omega]; exact wrap_i64 (by omega) (by omega))) ?_
      refine runl_ev (ev_sliceR_lo (n := i + 1) el_148 rfl rfl (by omega) (by omega)) ?_
      refine runl_ev (ev_callX (v := .bool false) rfl (eqw (ovl_apartV (by omega) hbt hb (by omega)))) ?_
      refine runl_ev (ev_not rfl) ?_
      refine runl_nil ?_
      refine run_cond_true rfl (rfl) ?_
      refine run_seq ?_
      refine run_draw mo (fun w' => Ext w w') [8] [(true, 0), (true, 1), (true, 2), (true, 3), (true, 4), (true, 5), (true, 6), (true, 7), (false, 8)] (by kernel_rfl) ?_
      intro wr15 er15
      have zr15 := er15.size
      have hsr15 := er15
      have eGp := eG.trans er15.toB
      have hbp := er15.at hb
      have hbtp := er15.at hbt
      refine rund_ev hsr15 rfl (ev_move rfl) ?_
      refine rund_ev hsr15 rfl (ev_move rfl) ?_
      refine rund_ev hsr15 rfl (ev_move rfl) ?_
      refine rund_ev hsr15 rfl (ev_addK (((i + 1 : Nat) : Int)) rfl rfl (by rw [show ((i : Nat) : Int) + ((1 : Nat) : Int) = ((i + 1 : Nat) : Int) by omega]; exact wrap_i64 (by omega) (by omega))) ?_
      refine rund_ev hsr15 rfl (ev_sliceR_lo (n := i + 1) el_148 rfl rfl (by omega) (by omega)) ?_
      refine rund_ev hsr15 rfl (ev_move rfl) ?_
      refine rund_ev hsr15 rfl (ev_move rfl) ?_
      refine rund_ev hsr15 rfl (ev_sliceR_lo (n := i) el_148 rfl rfl (by omega) (by omega)) ?_
      refine rund_opT rfl rfl (t_copyN (cs := vcs (l.drop i)) Tryz.underlying148 sz_157 rfl rfl hbp (by rw [hd, show min (l.length + 1 - i) (l.length + 1 - (i + 1)) = l.length - i by omega]) ((cells_all hbp).seg (vcs (l.drop i)) (i * 71) rfl (cut_dropV hwf hct i hi)) (by rw [hd, hcl]; omega) tcs_oneV) ?_
      rintro _ w77 ⟨rfl, hq77, e77, z77⟩
      have z77 := e77.size
      replace eGp := eGp.newB1 e77 (by first | exact .inl (by omega) | exact .inr rfl | exact .inr (.inl rfl) | exact .inr (.inr (by omega)) | (right; omega))
      replace hbtp := e77.at1 hbtp (by first | assumption | omega)
      replace hbp := hq77
      refine rund_nil ?_
      replace eG := eGp
      clear eGp
      replace hb := hbp
      clear hbp
      replace hbt := hbtp
      clear hbtp
      refine run_seq ?_
      refine run_region rfl ?_
      refine runl_ev (ev_move rfl) ?_
      refine runl_ev (ev_move rfl) ?_
      refine runl_ev (ev_sliceR_lo (n := i) el_148 rfl rfl (by omega) (by omega)) ?_
      refine runl_ev (ev_move rfl) ?_
      refine runl_op (t_copyN (cs := t.cells) Tryz.underlying148 sz_157 rfl rfl hb (by rw [htl, show min 1 (l.length + 1 - i) = 1 by omega]) (cells_all hbt) (by rw [splice_len (by rw [hd, hcl]; omega), htl, hcl]; omega) (Veh.one t)) ?_
      rintro _ w82 ⟨rfl, hq82, e82, z82⟩
      have z82 := e82.size
      replace eG := eG.newB1 e82 (by first | exact .inl (by omega) | exact .inr rfl | exact .inr (.inl rfl) | exact .inr (.inr (by omega)) | (right; omega))
      replace hbt := e82.at1 hbt (by first | assumption | omega)
      replace hb := hq82
      refine runl_nil ?_
      refine run_seq ?_
      refine run_region rfl ?_
      refine runl_ev (ev_move rfl) ?_
      refine runl_ev (ev_assign rfl) ?_
      refine runl_nil ?_
      refine run_ret_any Tryz.func77 (res1 Tryz.results77 rfl) ?_
      have hs := sp_room (ys := vcs (l.take i)) (zs := vcs (l.drop i)) (tc := t.cells) (o := 0 + i * 71) (o1 := 0 + (i + 1) * 71) (by rw [Nat.zero_add]; exact cut_takeV hwf hct i hi) (by rw [hlt, Nat.zero_add]) (by rw [htl]; omega) (by rw [hd, hcl]; omega)
      refine ⟨b, own_blk hb (by omega) hcm ?_ ?_, eG, by omega, .inl hbg⟩
      · rw [splice_len (by rw [splice_len (by rw [hd, hcl]; omega), htl, hcl]; omega), splice_len (by rw [hd, hcl]; omega), hcl]
      · rw [tcs_insV, ← hs]
        congr 1
        rw [hd]; omega
def RVeh (_ : World) (v : Veh) (cs : List Value) : Prop := v.wf ∧ cs = v.cells
theorem RVeh.stable : Stable RVeh := fun _ _ _ _ _ h => h
theorem vcs_parts {w : World} : ∀ {l : List Veh}, (∀ t ∈ l, t.wf) → Parts 71 RVeh w l (vcs l)
  | [], _ => pn
  | t :: l, h => by
    have hl := Veh.cells_length (h t (List.mem_cons_self ..))
    refine pc ⟨h t (List.mem_cons_self ..), ?_⟩ ?_
    · show (t.cells ++ vcs l).take 71 = _
      exact List.take_left' hl
    · show Parts 71 RVeh w l ((t.cells ++ vcs l).drop 71)
      rw [List.drop_left' hl]
      exact vcs_parts fun x hx => h x (List.mem_cons_of_mem _ hx)
/-- A row of vehicles in order. -/
def SrtV (l : List Veh) : Prop := l.Pairwise fun a b => cmpB a.name b.name < 0
theorem cmpB_trans {a b c : ByteArray} (h1 : cmpB a b < 0) (h2 : cmpB b c < 0) : cmpB a c < 0 := by
  have h3 := cb_trans a.data.toList b.data.toList c.data.toList
  change cmpB a b ≤ 0 → cmpB b c ≤ 0 → cmpB a c ≤ 0 ∧ (cmpB a c = 0 → cmpB a b = 0 ∧ cmpB b c = 0) at h3
  obtain ⟨h4, h5⟩ := h3 (by omega) (by omega)
  rcases Int.lt_or_eq_of_le h4 with h | h
  · exact h
  · have := h5 h; omega
theorem SrtV.get {l : List Veh} (h : SrtV l) {i j : Nat} (hi : i < l.length) (hj : j < l.length) (hij : i < j) : cmpB l[i].name l[j].name < 0 := List.pairwise_iff_getElem.1 h i j hi hj hij
def posV (l : List Veh) (t : ByteArray) : Nat := (l.takeWhile fun x => decide (cmpB x.name t < 0)).length
def fndV (l : List Veh) (t : ByteArray) : Bool := match l[posV l t]? with | some x => decide (cmpB x.name t = 0) | none => false
theorem posV_eq {l : List Veh} {t : ByteArray} {i : Nat} (hi : i ≤ l.length) (h1 : ∀ k (h : k < l.length), k < i → cmpB l[k].name t < 0) (h2 : ∀ k (h : k < l.length), i ≤ k → ¬ cmpB l[k].name t < 0) : posV l t = i :=
  takeWhile_len l i hi (fun k h hk => decide_eq_true (h1 k h hk)) (fun h => decide_eq_false (h2 i h (Nat.le_refl _)))
theorem posV_le (l : List Veh) (t : ByteArray) : posV l t ≤ l.length := (List.takeWhile_sublist _).length_le
theorem fndV_in {l : List Veh} {t : ByteArray} {i : Nat} (hp : posV l t = i) (hi : i < l.length) : fndV l t = decide (cmpB l[i].name t = 0) := by
  unfold fndV
  rw [hp, List.getElem?_eq_getElem hi]
theorem fndV_out {l : List Veh} {t : ByteArray} {i : Nat} (hp : posV l t = i) (hi : l.length ≤ i) : fndV l t = false := by
  unfold fndV
  rw [hp, List.getElem?_eq_none hi]
theorem fndV_lt {l : List Veh} {t : ByteArray} (h : fndV l t = true) : posV l t < l.length := by
  by_cases hi : posV l t < l.length
  · exact hi
  · rw [fndV_out rfl (by omega)] at h; cases h
theorem bsv_lo {l : List Veh} {t : ByteArray} (hs : SrtV l) {m : Nat} (hm : m < l.length) (h : cmpB l[m].name t < 0) : ∀ k (hk : k < l.length), k < m + 1 → cmpB l[k].name t < 0 := by
  intro k hk hlt
  by_cases e : k = m
  · subst e; exact h
  · exact cmpB_trans (hs.get hk hm (by omega)) h
theorem bsv_hi {l : List Veh} {t : ByteArray} (hs : SrtV l) {m : Nat} (hm : m < l.length) (h : ¬ cmpB l[m].name t < 0) : ∀ k (hk : k < l.length), m ≤ k → ¬ cmpB l[k].name t < 0 := by
  intro k hk hle h2
  by_cases e : k = m
  · subst e; exact h h2
  · exact h (cmpB_trans (hs.get hm hk (by omega)) h2)

theorem atc_any (v : Veh) (nm : ByteArray) (w : World) : Ret Tryz.prog 146 [.agg ⟨v.cells⟩, .string nm] w fun r w' => r = .int .i64 (cmpB v.name nm) ∧ Ext w w' := by
  have e := ExtB.refl (fun _ => False) w
  refine ret_of_run Tryz.func146 rfl Tryz.ntmps146 rfl ?_
  refine run_seq ?_
  refine run_region rfl ?_
  refine runl_op (t_boxA rfl) ?_
  rintro _ w2 ⟨b2, rfl, hb2, e2, n2, l2⟩
  have z2 := e2.size
  replace e := e.trans e2
  refine runl_ev (ev_assign rfl) ?_
  refine runl_nil ?_
  refine run_seq ?_
  refine run_region rfl ?_
  refine runl_ev (ev_fieldAddr fld_157_0 rfl) ?_
  refine runl_ev (ev_load1 cell_9 rfl (eqw ((cells_all hb2).pick 0 rfl rfl))) ?_
  refine runl_ev (ev_move rfl) ?_
  refine runl_op (t_call call_147 rfl (compare_any v.name nm _)) ?_
  rintro _ w8 ⟨rfl, e8⟩
  have z8 := e8.size
  replace e := e.trans e8
  replace hb2 := e8.at hb2
  refine runl_ev (ev_assign rfl) ?_
  refine runl_nil ?_
  refine run_ret_any Tryz.func146 (res1 Tryz.results146 rfl) ?_
  exact ⟨rfl, e⟩
theorem bsearchV_any (l : List Veh) (t : ByteArray) (hs : SrtV l) (hl : l.length ≤ 1000) (a : Option Addr) (n c : Nat) (w : World) (hsl : SlAt 71 RVeh w (.slice a n c) l) : Ret Tryz.prog 145 [.slice a n c, .string t, .func (.func 146) #[] #[]] w fun r w' => r = .tuple #[.int .i64 (posV l t : Int), .bool (fndV l t)] ∧ Ext w w' := by
  have e := ExtB.refl (fun _ => False) w
  have hsl0 := hsl
  obtain ⟨rfl, hat⟩ := hsl.at
  refine ret_of_run Tryz.func145 rfl Tryz.ntmps145 rfl ?_
  refine run_seq ?_
  refine run_region rfl ?_
  refine runl_ev (ev_assign rfl) ?_
  refine runl_ev (ev_assign rfl) ?_
  refine runl_nil ?_
  refine run_seq ?_
  refine run_region rfl ?_
  refine runl_ev (ev_move rfl) ?_
  refine runl_ev (ev_lenL sl_148 rfl) ?_
  refine runl_ev (ev_assign rfl) ?_
  refine runl_nil ?_
  refine run_seq ?_
  refine run_region rfl ?_
  refine runl_ev (ev_move rfl) ?_
  refine runl_ev (ev_assign rfl) ?_
  refine runl_ev (ev_assign rfl) ?_
  refine runl_nil ?_
  refine run_seq ?_
  refine run_block ?_
  refine run_loop (ι := Nat × Nat) (fun x => [(0, .slice a l.length c), (2, .func (.func 146) #[] #[]), (1, .string t), (8, .int .i64 (l.length : Int)), (9, .int .i64 (x.1 : Int)), (10, .int .i64 (x.2 : Int))]) (fun x w' => x.1 ≤ x.2 ∧ x.2 ≤ l.length ∧ (∀ k (h : k < l.length), k < x.1 → cmpB l[k].name t < 0) ∧ (∀ k (h : k < l.length), x.2 ≤ k → ¬ cmpB l[k].name t < 0) ∧ Ext w w') (fun x => x.2 - x.1) ((0, l.length)) ⟨rfl, rfl, rfl, rfl, rfl, rfl, trivial⟩ (⟨Nat.zero_le _, Nat.le_refl _, fun k h h1 => absurd h1 (Nat.not_lt_zero _), fun k h h1 => absurd h (by omega), e⟩) ?_
  clear e
  intro ⟨i, j⟩ w1 ⟨hij, hj, hlo, hhi, e⟩ IH
  simp only at hij hj hlo hhi
  refine run_seq ?_
  refine run_seq ?_
  refine run_region rfl ?_
  refine runl_ev (ev_move rfl) ?_
  refine runl_ev (ev_move rfl) ?_
  refine runl_ev (ev_lss rfl rfl) ?_
  refine runl_nil ?_
  refine run_dcond rfl (fun h0 => ?_) (fun h0 => ?_)
  · have hh : (i + j) / 2 < l.length := by omega
    obtain ⟨bb, bo, cs1, rfl, ⟨hw1, rfl⟩, hc1⟩ := hat ((i + j) / 2) hh
    refine run_skip ?_
    refine run_block ?_
    refine run_seq ?_
    refine run_region rfl ?_
    refine runl_ev (ev_move rfl) ?_
    refine runl_ev (ev_move rfl) ?_
    refine runl_ev (ev_addK (((i + j : Nat) : Int)) rfl rfl (by rw [show ((i : Nat) : Int) + (j : Int) = ((i + j : Nat) : Int) by omega]; exact wrap_i64 (by omega) (by omega))) ?_
    refine runl_ev (ev_convI (((i + j : Nat) : Int)) Tryz.underlying3 Tryz.underlying198 rfl (wrap_u64 (by omega))) ?_
    refine runl_ev (ev_shr ((((i + j) / 2 : Nat) : Int)) rfl rfl (by omega) (shr1_raw _)) ?_
    refine runl_ev (ev_convI ((((i + j) / 2 : Nat) : Int)) Tryz.underlying198 Tryz.underlying3 rfl (wrap_i64 (by omega) (by omega))) ?_
    refine runl_ev (ev_assign rfl) ?_
    refine runl_nil ?_
    refine run_seq ?_
    refine run_region rfl ?_
    refine runl_ev (ev_move rfl) ?_
    refine runl_ev (ev_move rfl) ?_
    refine runl_ev (ev_move rfl) ?_
    refine runl_ev (ev_indexAddr (k := (i + j) / 2) el_148 rfl rfl (by omega)) ?_
    refine runl_ev (ev_loadA agg_157 (Veh.cells_length hw1) rfl (eqw (hc1.ext e))) ?_
    refine runl_ev (ev_move rfl) ?_
    refine runl_op (t_callv call_146 rfl rfl (atc_any l[(i + j) / 2] t _)) ?_
    rintro _ w30 ⟨rfl, e30⟩
    have z30 := e30.size
    replace e := e.trans e30
    refine runl_ev (ev_lss rfl rfl) ?_
    refine runl_nil ?_
    refine run_dcond rfl (fun h1 => ?_) (fun h1 => ?_)
    · refine run_region rfl ?_
      refine runl_ev (ev_move rfl) ?_
      refine runl_ev (ev_add rfl rfl (by omega) (by omega)) ?_
      refine runl_ev (ev_assign rfl) ?_
      refine runl_nil ?_
      refine run_inBlock ?_
      exact IH ((i + j) / 2 + 1, j) _ _ (by simp only; omega) ⟨rfl, rfl, rfl, rfl, rfl, rfl, trivial⟩ ⟨by show (i + j) / 2 + 1 ≤ j; omega, hj, bsv_lo hs hh h1, hhi, e⟩
    · refine run_region rfl ?_
      refine runl_ev (ev_move rfl) ?_
      refine runl_ev (ev_assign rfl) ?_
      refine runl_nil ?_
      refine run_inBlock ?_
      exact IH (i, (i + j) / 2) _ _ (by simp only; omega) ⟨rfl, rfl, rfl, rfl, rfl, rfl, trivial⟩ ⟨by show i ≤ (i + j) / 2; omega, by show (i + j) / 2 ≤ _; omega, hlo, bsv_hi hs hh h1, e⟩
  · obtain rfl : i = j := by omega
    have hp : posV l t = i := posV_eq hj hlo hhi
    refine run_exit rfl ?_
    refine run_seq ?_
    by_cases h3 : i < l.length
    · obtain ⟨bb, bo, cs1, rfl, ⟨hw1, rfl⟩, hc1⟩ := hat i h3
      refine run_region rfl ?_
      refine runl_ev (ev_move rfl) ?_
      refine runl_ev (ev_move rfl) ?_
      refine runl_ev (ev_move rfl) ?_
      refine runl_ev (ev_lss rfl rfl) ?_
      refine runl_ev (ev_move rfl) ?_
      refine runl_ev_g rfl rfl (decide_eq_true (by omega)) (ev_move rfl) ?_
      refine runl_ev_g rfl rfl (decide_eq_true (by omega)) (ev_move rfl) ?_
      refine runl_ev_g rfl rfl (decide_eq_true (by omega)) (ev_move rfl) ?_
      refine runl_ev_g rfl rfl (decide_eq_true (by omega)) (ev_indexAddr (k := i) el_148 rfl rfl (by omega)) ?_
      refine runl_ev_g rfl rfl (decide_eq_true (by omega)) (ev_loadA agg_157 (Veh.cells_length hw1) rfl (eqw (hc1.ext e))) ?_
      refine runl_ev_g rfl rfl (decide_eq_true (by omega)) (ev_move rfl) ?_
      refine runl_op_g rfl rfl (decide_eq_true (by omega)) (t_callv call_146 rfl rfl (atc_any l[i] t _)) ?_
      rintro _ w46 ⟨rfl, e46⟩
      have z46 := e46.size
      replace e := e.trans e46
      refine runl_ev_g rfl rfl (decide_eq_true (by omega)) (ev_eqlI rfl rfl) ?_
      refine runl_ev (ev_pick rfl rfl rfl (if_pos (decide_eq_true (by omega)))) ?_
      refine runl_ev (ev_assign rfl) ?_
      refine runl_ev (ev_assign rfl) ?_
      refine runl_nil ?_
      refine run_ret_any Tryz.func145 (res2 Tryz.results145 rfl rfl) ?_
      exact ⟨by rw [hp, fndV_in hp h3], e⟩
    · refine run_region rfl ?_
      refine runl_ev (ev_move rfl) ?_
      refine runl_ev (ev_move rfl) ?_
      refine runl_ev (ev_move rfl) ?_
      refine runl_ev (ev_lss rfl rfl) ?_
      refine runl_ev (ev_move rfl) ?_
      refine runl_no_g rfl rfl (decide_eq_false (by omega)) ?_
      refine runl_no_g rfl rfl (decide_eq_false (by omega)) ?_
      refine runl_no_g rfl rfl (decide_eq_false (by omega)) ?_
      refine runl_no_g rfl rfl (decide_eq_false (by omega)) ?_
      refine runl_no_g rfl rfl (decide_eq_false (by omega)) ?_
      refine runl_no_g rfl rfl (decide_eq_false (by omega)) ?_
      refine runl_no_g rfl rfl (decide_eq_false (by omega)) ?_
      refine runl_no_g rfl rfl (decide_eq_false (by omega)) ?_
      refine runl_ev (ev_pick rfl rfl rfl (if_neg (by simp; omega))) ?_
      refine runl_ev (ev_assign rfl) ?_
      refine runl_ev (ev_assign rfl) ?_
      refine runl_nil ?_
      refine run_ret_any Tryz.func145 (res2 Tryz.results145 rfl rfl) ?_
      exact ⟨by rw [hp, fndV_out hp (by omega)], e⟩
theorem isoneD_any (t : Tgt) (ht : t.wf) (w : World) : Ret Tryz.prog 78 [.agg ⟨t.cells⟩] w fun r w' => r = .bool (isTgsB [t]) ∧ Ext w w' := by
  have e := ExtB.refl (fun _ => False) w
  have htl := Tgt.cells_length ht
  refine ret_of_run Tryz.func78 rfl Tryz.ntmps78 rfl ?_
  refine run_seq ?_
  refine run_region rfl ?_
  refine runl_op (t_boxA rfl) ?_
  rintro _ w1 ⟨b1, rfl, hb1, e1, n1, l1⟩
  have z1 := e1.size
  replace e := e.trans e1
  refine runl_ev (ev_assign rfl) ?_
  refine runl_nil ?_
  refine run_seq ?_
  refine run_region rfl ?_
  refine runl_ev (ev_loadA agg_82 htl rfl (eqw (cells_all hb1))) ?_
  refine runl_op (t_buildSlice (out := t.cells) Tryz.underlying45 sz_82 zero_82 rfl rfl (by decide) (by decide) rfl (fill_one rfl htl rfl)) ?_
  rintro _ w7 ⟨b7, rfl, hb7, e7, n7, l7⟩
  have z7 := e7.size
  replace e := e.trans e7
  replace hb1 := e7.at hb1
  refine runl_ev (ev_build (out := [.string topB, .int .i64 1, .int .i64 0, .slice (some ⟨b7, 0, none⟩) 1 1, .slice none 0 0]) ps_48 zero_48 rfl rfl (rfl)) ?_
  refine runl_op (t_call call_44 rfl (enctg_any topB 1 0 (by decide) (by decide) (by decide) [t] _ _ _ (sl_lit hb7 (pc (by rw [List.take_of_length_le (Nat.le_of_eq htl)]; exact rtgt ht) pn)) (by simp))) ?_
  rintro _ w9 ⟨p9, rfl, o9⟩
  have e9 := o9.ext
  have z9 := e9.size
  replace e := e.trans e9
  replace hb1 := e9.at hb1
  replace hb7 := e9.at hb7
  refine runl_ev (ev_move rfl) ?_
  refine runl_ev (ev_extract rfl rfl) ?_
  refine runl_ev (ev_extract rfl rfl) ?_
  refine runl_ev (ev_assign rfl) ?_
  refine runl_ev (ev_assign rfl) ?_
  refine runl_nil ?_
  refine run_seq ?_
  refine run_region rfl ?_
  refine runl_ev (ev_move rfl) ?_
  refine runl_ev (ev_eqlI rfl rfl) ?_
  refine runl_ev (ev_assign rfl) ?_
  refine runl_nil ?_
  refine run_ret_any Tryz.func78 (res1 Tryz.results78 rfl) ?_
  refine ⟨?_, e⟩
  unfold encE
  cases isTgsB [t] <;> rfl
theorem idxT_any {α : Type} (R : World → α → List Value → Prop) (hRl : ∀ w x cs, R w x cs → cs.length = 37) (p : α → Bool) (l : List α) (w0 w : World) (E : Ext w0 w) (a : Option Addr) (len cap : Nat)
    (hl : SlAt 37 R w0 (.slice a len cap) l) (hlen : l.length ≤ 1099511627776) (g : FuncId) (caps : List Value) (hg : callable Tryz.prog g = true)
    (hf : ∀ x cs w', x ∈ l → R w0 x cs → Ext w w' → Ret Tryz.prog g ([] ++ [.agg ⟨cs⟩] ++ caps) w' fun r w'' => r = .bool (p x) ∧ Ext w' w'') :
    Ret Tryz.prog 79 [.slice a len cap, .func (.func g) ⟨[]⟩ ⟨caps⟩] w fun r w' => r = .int .i64 (idxOf p l) ∧ Ext w w' := by
  obtain ⟨rfl, hat⟩ := hl.at
  have e := ExtB.refl (fun _ => False) w
  refine ret_of_run Tryz.func79 rfl Tryz.ntmps79 rfl ?_
  refine run_seq ?_
  refine run_region rfl ?_
  refine runl_ev (ev_assign rfl) ?_
  refine runl_nil ?_
  refine run_seq ?_
  refine run_seq ?_
  refine run_region rfl ?_
  refine runl_ev (ev_move rfl) ?_
  refine runl_ev (ev_lenL sl_45 rfl) ?_
  refine runl_ev (ev_move rfl) ?_
  refine runl_nil ?_
  refine run_block ?_
  refine run_loop (ι := Nat) (fun k => [(0, .slice a l.length cap), (1, .func (.func g) ⟨[]⟩ ⟨caps⟩), (7, .int .i64 (l.length : Int)), (8, .int .i64 (k : Int))]) (fun k w' => k ≤ l.length ∧ (∀ j x, j < k → l[j]? = some x → p x = false) ∧ Ext w w') (fun k => l.length - k) (0) ⟨rfl, rfl, rfl, rfl, trivial⟩ (⟨by omega, fun j _ hj => by omega, e⟩) ?_
  clear e
  intro k w1 ⟨hk, hno, e⟩ IH
  refine run_seq ?_
  refine run_region rfl ?_
  refine runl_ev (ev_lss rfl rfl) ?_
  refine runl_nil ?_
  refine run_seq ?_
  refine run_dcond rfl (fun h0 => ?_) (fun h0 => ?_)
  · have hk1 : k < l.length := by omega
    obtain ⟨b, o, cs, rfl, hr, hc⟩ := hat k hk1
    refine run_skip ?_
    refine run_seq ?_
    refine run_block ?_
    refine run_seq ?_
    refine run_region rfl ?_
    refine runl_ev (ev_move rfl) ?_
    refine runl_ev (ev_assign rfl) ?_
    refine runl_nil ?_
    refine run_seq ?_
    refine run_region rfl ?_
    refine runl_ev (ev_move rfl) ?_
    refine runl_ev (ev_move rfl) ?_
    refine runl_ev (ev_move rfl) ?_
    refine runl_ev (ev_indexAddr el_45 rfl rfl (by omega)) ?_
    refine runl_ev (ev_loadA agg_82 (hRl _ _ _ hr) rfl (eqw (hc.ext (E.trans e)))) ?_
    refine runl_op (t_callv hg rfl rfl (hf _ _ _ (List.getElem_mem hk1) hr e)) ?_
    rintro _ w16 ⟨rfl, e16⟩
    have z16 := e16.size
    replace e := e.trans e16
    refine runl_nil ?_
    refine run_cond_split rfl (fun h1 => ?_) (fun h1 => ?_)
    · refine run_seq ?_
      refine run_region rfl ?_
      refine runl_ev (ev_move rfl) ?_
      refine runl_ev (ev_assign rfl) ?_
      refine runl_nil ?_
      refine run_ret_any Tryz.func79 (res1 Tryz.results79 rfl) ?_
      exact ⟨by rw [idxOf_hit hk1 hno h1], e⟩
    · refine run_skip ?_
      refine run_inBlock ?_
      refine run_region rfl ?_
      refine runl_ev (ev_add rfl rfl (by omega) (by omega)) ?_
      refine runl_ev (ev_move rfl) ?_
      refine runl_nil ?_
      exact IH (k + 1) _ _ (by omega) ⟨rfl, rfl, rfl, rfl, trivial⟩ ⟨by omega, idxOf_snoc hk1 hno h1, e⟩
  · refine run_exit rfl ?_
    refine run_seq ?_
    refine run_region rfl ?_
    refine runl_ev (ev_assign rfl) ?_
    refine runl_nil ?_
    refine run_ret_any Tryz.func79 (res1 Tryz.results79 rfl) ?_
    obtain rfl : k = l.length := by omega
    exact ⟨by rw [idxOf_none hno], e⟩
theorem asgc_any (t : Tgt) (ht : t.wf) (nb : Nat) (T : TypeId) (nm : ByteArray) (w : World) (hn : w.heap[nb]? = some (.cells ⟨[.string nm]⟩ T (0, 0))) : Ret Tryz.prog 80 [.agg ⟨t.cells⟩, .pointer (some ⟨nb, 0, none⟩)] w fun r w' => r = .bool (decide (t.ecu = nm)) ∧ Ext w w' := by
  have e := ExtB.refl (fun _ => False) w
  refine ret_of_run Tryz.func80 rfl Tryz.ntmps80 rfl ?_
  refine run_seq ?_
  refine run_region rfl ?_
  refine runl_op (t_boxA rfl) ?_
  rintro _ w2 ⟨b2, rfl, hb2, e2, n2, l2⟩
  have z2 := e2.size
  replace e := e.trans e2
  replace hn := e2.at hn
  refine runl_ev (ev_assign rfl) ?_
  refine runl_nil ?_
  refine run_seq ?_
  refine run_region rfl ?_
  refine runl_ev (ev_fieldAddr fld_82_5 rfl) ?_
  refine runl_ev (ev_load1 cell_9 rfl (eqw ((cells_all hb2).pick 36 rfl (Tgt.c36 ht)))) ?_
  refine runl_ev (ev_load1 cell_9 rfl (eqw (cells_all hn))) ?_
  refine runl_ev (ev_eqlS rfl rfl) ?_
  refine runl_ev (ev_assign rfl) ?_
  refine runl_nil ?_
  refine run_ret_any Tryz.func80 (res1 Tryz.results80 rfl) ?_
  exact ⟨rfl, e⟩
end Go.Proofs.YtlgkdnmklgbhbaaGreatDoor
/- The walks of a Director. -/
namespace Go.Proofs.YtlgkdnmklgbhbaaGreatDoor
open Go Go.Fw
set_option maxRecDepth 100000
/-- A Director, made since w0. -/
structure DirIn (K : Nat → Prop) (w0 : World) (db rb : Nat) (F : Nat → Prop) (lv : Value) (vg : Int) (L : List Veh) (S : RepoS) (w : World) : Prop where
  hb : w.heap[db]? = some (.cells ⟨[.pointer (some ⟨rb, 0, none⟩), lv]⟩ 150 (0, 0))
  ol : Own w 157 71 lv L.length (vcs L) vg
  wf : ∀ v ∈ L, v.wf
  rp : RepoAt F rb S w
  fd : ¬ F db
  fv : ∀ k, F k → (k : Int) ≠ vg
  vd : vg ≠ db
  vl : vg < w.heap.size
  f0 : ∀ k, F k → w0.heap.size ≤ k
  d0 : w0.heap.size ≤ db
  v0 : vg = -1 ∨ (w0.heap.size : Int) ≤ vg
  e : Ext w0 w
  kp : ∀ k, K k → ¬ F k ∧ k ≠ db ∧ (k : Int) ≠ vg ∧ k < w.heap.size
def DirAt (K : Nat → Prop) (w0 : World) (db : Nat) (L : List Veh) (S : RepoS) (w : World) : Prop := ∃ rb F lv vg, DirIn K w0 db rb F lv vg L S w
section
variable {K : Nat → Prop} {w0 w w2 : World} {db rb : Nat} {F : Nat → Prop} {lv : Value} {vg : Int} {L : List Veh} {S : RepoS}
theorem DirIn.ext (r : DirIn K w0 db rb F lv vg L S w) (e : Ext w w2) : DirIn K w0 db rb F lv vg L S w2 :=
  ⟨e.at r.hb, r.ol.ext e, r.wf, r.rp.ext e, r.fd, r.fv, r.vd, by have := r.vl; have := e.size; omega, r.f0, r.d0, r.v0, r.e.trans e, fun k hk => by obtain ⟨a, b, c, d⟩ := r.kp k hk; exact ⟨a, b, c, by have := e.size; omega⟩⟩
theorem DirIn.list (r : DirIn K w0 db rb F lv vg L S w) {lv2 : Value} {vg2 : Int} {L2 : List Veh} (hb : w2.heap[db]? = some (.cells ⟨[.pointer (some ⟨rb, 0, none⟩), lv2]⟩ 150 (0, 0)))
    (eB : ExtB (fun k => k = db ∨ (k : Int) = vg) w w2) (ol : Own w2 157 71 lv2 L2.length (vcs L2) vg2) (wf : ∀ v ∈ L2, v.wf) (an : vg2 = vg ∨ (w.heap.size : Int) ≤ vg2 ∧ vg2 < w2.heap.size) : DirIn K w0 db rb F lv2 vg2 L2 S w2 := by
  have hz := eB.size
  have hd := lt_of_at r.hb
  have h1 := r.vl
  have h2 := r.vd
  have h3 := r.v0
  have h4 := r.d0
  have h5 := r.e.size
  refine ⟨hb, ol, wf, r.rp.step eB (fun k hF hM => hM.elim (fun h => r.fd (h ▸ hF)) (fun h => r.fv k hF h)), r.fd, fun k hk => ?_, by omega, by omega, r.f0, r.d0, by omega, r.e.new eB (fun k hk => by omega), fun k hk => by obtain ⟨a, b, c, d⟩ := r.kp k hk; exact ⟨a, b, by omega, by omega⟩⟩
  have := r.fv k hk
  have := r.rp.lt k hk
  omega
theorem DirIn.repo (r : DirIn K w0 db rb F lv vg L S w) {F2 : Nat → Prop} {S2 : RepoS} (rp : RepoAt F2 rb S2 w2) (eF : ExtB F w w2) (hF : ∀ k, F2 k → F k ∨ w.heap.size ≤ k) : DirIn K w0 db rb F2 lv vg L S2 w2 := by
  have hz := eF.size
  have hd := lt_of_at r.hb
  have h1 := r.vl
  have h5 := r.e.size
  refine ⟨eF.at r.hb r.fd, r.ol.keep eF (fun k hk hF => r.fv k hF hk), r.wf, rp, fun h => (hF _ h).elim r.fd (fun h => by omega), fun k hk => (hF _ hk).elim (r.fv k) (fun h => by omega), r.vd, by omega, fun k hk => (hF _ hk).elim (r.f0 k) (fun h => by omega), r.d0, r.v0, r.e.new eF (fun k hk => r.f0 k hk), fun k hk => by obtain ⟨a, b, c, d⟩ := r.kp k hk; exact ⟨fun h => (hF _ h).elim a (fun h => by omega), b, c, by omega⟩⟩
theorem DirAt.ext (h : DirAt K w0 db L S w) (e : Ext w w2) : DirAt K w0 db L S w2 := by
  obtain ⟨rb, F, lv, vg, r⟩ := h
  exact ⟨rb, F, lv, vg, r.ext e⟩
theorem DirAt.e (h : DirAt K w0 db L S w) : Ext w0 w := by
  obtain ⟨rb, F, lv, vg, r⟩ := h
  exact r.e
end
theorem DirAt.watch {w0 w w2 : World} {db : Nat} {L : List Veh} {S : RepoS} (h : DirAt (fun _ => False) w0 db L S w) (e : Ext w w2) {b : Nat} (h1 : w.heap.size ≤ b) (h2 : b < w2.heap.size) : DirAt (fun k => k = b) w0 db L S w2 := by
  obtain ⟨rb, F, lv, vg, r⟩ := h
  have r2 := r.ext e
  have hd := lt_of_at r.hb
  have hv := r.vl
  refine ⟨rb, F, lv, vg, ⟨r2.hb, r2.ol, r2.wf, r2.rp, r2.fd, r2.fv, r2.vd, r2.vl, r2.f0, r2.d0, r2.v0, r2.e, fun k hk => ?_⟩⟩
  subst hk
  exact ⟨fun hF => by have := r.rp.lt _ hF; omega, by omega, by omega, h2⟩
/-- What is watched stays. -/
def Kept (K : Nat → Prop) (w w' : World) : Prop := ∀ k o, K k → w.heap[k]? = some o → w'.heap[k]? = some o
theorem Kept.ext {K : Nat → Prop} {w w' : World} (e : Ext w w') : Kept K w w' := fun _ _ _ h => e.at h
theorem Kept.extB {K M : Nat → Prop} {w w' : World} (e : ExtB M w w') (hm : ∀ k, K k → ¬ M k) : Kept K w w' := fun k _ hk h => e.at h (hm k hk)
theorem Kept.trans {K : Nat → Prop} {a b c : World} (h : Kept K a b) (g : Kept K b c) : Kept K a c := fun k o hk ho => g k o hk (h k o hk ho)
theorem Veh.c0 (v : Veh) : v.cells[0]? = some (.string v.name) := rfl
theorem Veh.c1 (v : Veh) : v.cells[1]? = some (.string v.hw) := rfl
theorem Veh.c70 {v : Veh} (h : v.wf) : v.cells[70]? = some (.bool false) := by
  have : v.key.length = 32 := h
  simp [Veh.cells, hcells_length, this, vtail, List.getElem?_append]
theorem set_veh {l : List Veh} {c : List Value} {hw : ByteArray} {key : List UInt8} (hwf : ∀ t ∈ l, t.wf) (hk : key.length = 32) (hct : c.take (l.length * 71) = vcs l) (i : Nat) (hi : i < l.length) : (splice (c.set (0 + i * 71 + 1) (.string hw)) (0 + i * 71 + 2) (hcells key)).take (l.length * 71) = vcs (l.set i ⟨l[i].name, hw, key⟩) := by
  have hlt := take_lenV hwf i (by omega)
  have hwi : (l[i]).key.length = 32 := hwf _ (List.getElem_mem hi)
  have e1 : vcs l = vcs (l.take i) ++ (l[i].cells ++ vcs (l.drop (i + 1))) := by
    conv => lhs; rw [← List.take_append_drop i l, List.drop_eq_getElem_cons hi]
    rw [tcs_appV]
    rfl
  have e2 : vcs (l.set i ⟨l[i].name, hw, key⟩) = vcs (l.take i) ++ (Veh.cells ⟨l[i].name, hw, key⟩ ++ vcs (l.drop (i + 1))) := by
    rw [take_eq_set hi, tcs_appV]
    rfl
  have hc : c = vcs (l.take i) ++ (l[i].cells ++ (vcs (l.drop (i + 1)) ++ c.drop (l.length * 71))) := by
    conv => lhs; rw [← List.take_append_drop (l.length * 71) c, hct, e1]
    simp
  have hd := drop_lenV hwf (i + 1)
  generalize c.drop (l.length * 71) = r at hc
  have e3 : splice (c.set (0 + i * 71 + 1) (.string hw)) (0 + i * 71 + 2) (hcells key) = (vcs (l.take i) ++ (Veh.cells ⟨l[i].name, hw, key⟩ ++ vcs (l.drop (i + 1)))) ++ r := by
    rw [hc, Nat.zero_add]
    unfold splice Veh.cells
    have s1 : (vcs (l.take i) ++ (.string l[i].name :: .string l[i].hw :: (hcells l[i].key ++ vtail) ++ (vcs (l.drop (i + 1)) ++ r))).set (i * 71 + 1) (.string hw) = vcs (l.take i) ++ (.string l[i].name :: .string hw :: (hcells l[i].key ++ (vtail ++ (vcs (l.drop (i + 1)) ++ r)))) := by
      rw [List.set_append, if_neg (by omega), hlt, show i * 71 + 1 - i * 71 = 1 by omega]
      simp
    rw [s1]
    have t1 : (vcs (l.take i) ++ (.string l[i].name :: .string hw :: (hcells l[i].key ++ (vtail ++ (vcs (l.drop (i + 1)) ++ r))))).take (i * 71 + 2) = vcs (l.take i) ++ [.string l[i].name, .string hw] := by
      rw [List.take_append, List.take_of_length_le (by omega), hlt, show i * 71 + 2 - i * 71 = 2 by omega]
      rfl
    have t2 : (vcs (l.take i) ++ (.string l[i].name :: .string hw :: (hcells l[i].key ++ (vtail ++ (vcs (l.drop (i + 1)) ++ r))))).drop (i * 71 + 2 + (hcells key).length) = vtail ++ (vcs (l.drop (i + 1)) ++ r) := by
      rw [List.drop_append, List.drop_eq_nil_of_le (by omega), hlt, hcells_length, hk, show i * 71 + 2 + 32 - i * 71 = 34 by omega]
      show (hcells l[i].key ++ _).drop 32 = _
      exact List.drop_left' (by rw [hcells_length, hwi])
    rw [t1, t2]
    simp
  rw [e3, e2]
  exact List.take_left' (by rw [List.length_append, List.length_append, hlt, hd, Veh.cells_length (v := ⟨l[i].name, hw, key⟩) hk]; omega)
theorem tgt_set {t : Tgt} (h : t.wf) (nm : ByteArray) : t.cells.set 36 (.string nm) = ({ t with ecu := nm } : Tgt).cells := by
  have : t.sum.length = 32 := h
  simp [Tgt.cells, hcells_length, this, List.set_append]
/-- A Director's vehicles behind Enroll, and what it answers. -/
def enrF (L : List Veh) (nm hw : ByteArray) (key : List UInt8) : List Veh × Int :=
  if nameB nm && nameB hw then (if fndV L nm then (L.set (posV L nm) ⟨nm, hw, key⟩, 0) else if 4 ≤ L.length then (L, 12) else (insFV L (posV L nm) ⟨nm, hw, key⟩, 0)) else (L, 1)
def tgtZ0 : Tgt := ⟨⟨#[]⟩, 0, List.replicate 32 0, ⟨#[]⟩, 0, ⟨#[]⟩⟩
theorem tgtZ0_wf : tgtZ0.wf := by show (List.replicate 32 (0 : UInt8)).length = 32; simp
/-- What an ECU is to run. -/
def asgF (l : List Tgt) (nm : ByteArray) : Option Tgt := if nm = ⟨#[]⟩ then none else if idxOf (fun t : Tgt => decide (t.ecu = nm)) l < 0 then none else l[(idxOf (fun t : Tgt => decide (t.ecu = nm)) l).toNat]?
def asgV (r : Option Tgt) : Value := .tuple #[.agg ⟨(r.getD tgtZ0).cells⟩, .bool r.isSome]
/-- A Director's targets behind Assign, and what it answers. -/
def asnF (L : List Veh) (l : List Tgt) (nm : ByteArray) (t : Tgt) : List Tgt × Int :=
  match L[posV L nm]? with
  | none => (l, 9)
  | some v => if fndV L nm then (if t.hw = v.hw ∧ isTgsB [{ t with ecu := nm }] = true then (match asgF l nm with
      | none => if 16 ≤ l.length then (l, 12) else putF l { t with ecu := nm }
      | some o => putF (remF l (remT o.name o.ecu)).1 { t with ecu := nm }) else (l, 1)) else (l, 9)
theorem idx_le {α : Type} (p : α → Bool) (l : List α) : idxOf p l < l.length := by
  unfold idxOf
  cases h : l.findIdx? p with
  | none => show (-1 : Int) < _; omega
  | some i =>
    have := (List.findIdx?_eq_some_iff_getElem.1 h).1
    show (i : Int) < _
    omega

theorem dirnew_any (s : List UInt8) (hs : s.length = 32) (w : World) : Ret Tryz.prog 26 [.agg ⟨hcells s⟩] w fun r w' => ∃ db, r = .pointer (some ⟨db, 0, none⟩) ∧ DirAt (fun _ => False) w db [] (.new s) w' := by
  have e := ExtB.refl (fun _ => False) w
  have hA : (hcells s).length = 32 := by rw [hcells_length]; exact hs
  refine ret_of_run Tryz.func26 rfl Tryz.ntmps26 rfl ?_
  refine run_seq ?_
  refine run_region rfl ?_
  refine runl_op (t_boxA rfl) ?_
  rintro _ w1 ⟨b1, rfl, hb1, e1, n1, l1⟩
  have z1 := e1.size
  replace e := e.trans e1
  refine runl_ev (ev_assign rfl) ?_
  refine runl_nil ?_
  refine run_seq ?_
  refine run_region rfl ?_
  refine runl_ev (ev_loadA agg_25 hA rfl (eqw (cells_all hb1))) ?_
  refine runl_op (t_call call_12 rfl (reponew_any s hs _)) ?_
  rintro _ w4 ⟨rb, rfl, at4, e4⟩
  have z4 := e4.size
  replace e := e.trans e4
  replace hb1 := e4.at hb1
  refine runl_ev (ev_build (out := [.pointer (some ⟨rb, 0, none⟩), .slice none 0 0]) ps_150 zero_150 rfl rfl (rfl)) ?_
  refine runl_op (t_boxA rfl) ?_
  rintro _ w6 ⟨b6, rfl, hb6, e6, n6, l6⟩
  have z6 := e6.size
  replace e := e.trans e6
  replace hb1 := e6.at hb1
  refine runl_ev (ev_assign rfl) ?_
  refine runl_nil ?_
  refine run_ret_any Tryz.func26 (res1 Tryz.results26 rfl) ?_
  exact ⟨b6, rfl, rb, _, .slice none 0 0, -1, ⟨hb6, own_nil _ _ _ _, fun _ h => (by cases h), at4.ext e6, fun h => (by have h : _ ∧ _ := h; omega), fun k _ => (by omega), (by omega), (by omega), fun k hk => (by have hk : _ ∧ _ := hk; omega), (by omega),   .inl rfl, e, fun k hk => hk.elim⟩⟩
theorem dirrepo_any {K : Nat → Prop} {w0 w : World} {db : Nat} {L : List Veh} {S : RepoS} (h : DirAt K w0 db L S w) : Ret Tryz.prog 27 [.pointer (some ⟨db, 0, none⟩)] w fun r w' => ∃ rb F, r = .pointer (some ⟨rb, 0, none⟩) ∧ RepoAt F rb S w' ∧ Ext w w' := by
  obtain ⟨rb, F, lv, vg, r⟩ := h
  have hb := r.hb
  have hbd := lt_of_at hb
  have e := ExtB.refl (fun _ => False) w
  have ol := r.ol
  obtain ⟨la, lcap, rfl⟩ := ol.shape
  refine ret_of_run Tryz.func27 rfl Tryz.ntmps27 rfl ?_
  refine run_seq ?_
  refine run_region rfl ?_
  refine runl_ev (ev_assign rfl) ?_
  refine runl_nil ?_
  refine run_seq ?_
  refine run_seq ?_
  refine run_region rfl ?_
  refine runl_ev (ev_move rfl) ?_
  refine runl_ev (ev_eqlPn Tryz.underlying83 rfl rfl) ?_
  refine runl_nil ?_
  refine run_cond_false rfl (rfl) ?_
  refine run_skip ?_
  refine run_seq ?_
  refine run_region rfl ?_
  refine runl_ev (ev_move rfl) ?_
  refine runl_ev (ev_nilCheck rfl) ?_
  refine runl_ev (ev_fieldAddr fld_150_0 rfl) ?_
  refine runl_ev (ev_load1 cell_22 rfl (eqw ((cells_all hb).pick 0 rfl rfl))) ?_
  refine runl_ev (ev_assign rfl) ?_
  refine runl_nil ?_
  refine run_ret_any Tryz.func27 (res1 Tryz.results27 rfl) ?_
  exact ⟨rb, F, rfl, r.rp.ext e, e⟩
theorem at_any {K : Nat → Prop} {w0 w : World} {db : Nat} {L : List Veh} {S : RepoS} (h : DirAt K w0 db L S w) (nm : ByteArray) (hs : SrtV L) (hl : L.length ≤ 1000) : Ret Tryz.prog 76 [.pointer (some ⟨db, 0, none⟩), .string nm] w fun r w' => r = .tuple #[.int .i64 (posV L nm : Int), .bool (fndV L nm)] ∧ Ext w w' := by
  obtain ⟨rb, F, lv, vg, r⟩ := h
  have hb := r.hb
  have hbd := lt_of_at hb
  have e := ExtB.refl (fun _ => False) w
  have ol := r.ol
  obtain ⟨la, lcap, rfl⟩ := ol.shape
  refine ret_of_run Tryz.func76 rfl Tryz.ntmps76 rfl ?_
  refine run_seq ?_
  refine run_region rfl ?_
  refine runl_ev (ev_assign rfl) ?_
  refine runl_ev (ev_assign rfl) ?_
  refine runl_nil ?_
  refine run_seq ?_
  refine run_region rfl ?_
  refine runl_ev (ev_move rfl) ?_
  refine runl_ev (ev_nilCheck rfl) ?_
  refine runl_ev (ev_fieldAddr fld_150_1 rfl) ?_
  refine runl_ev (ev_load1 cell_148 rfl (eqw ((cells_all hb).pick 1 rfl rfl))) ?_
  refine runl_ev (ev_move rfl) ?_
  refine runl_op (t_call call_145 rfl (bsearchV_any L nm hs hl _ _ _ _ (own_slat ol (vcs_parts r.wf) rfl))) ?_
  rintro _ w11 ⟨rfl, e11⟩
  have z11 := e11.size
  replace e := e.trans e11
  replace hb := e11.at hb
  replace ol := ol.ext e11
  refine runl_ev (ev_extract rfl rfl) ?_
  refine runl_ev (ev_extract rfl rfl) ?_
  refine runl_ev (ev_assign rfl) ?_
  refine runl_ev (ev_assign rfl) ?_
  refine runl_nil ?_
  refine run_ret_any Tryz.func76 (res2 Tryz.results76 rfl rfl) ?_
  exact ⟨rfl, e⟩
theorem enroll_any {K : Nat → Prop} {w0 w : World} {db : Nat} {L : List Veh} {S : RepoS} (h : DirAt K w0 db L S w) (nm hw : ByteArray) (key : List UInt8) (hk : key.length = 32) (hs : SrtV L) (hl : L.length ≤ 4) : Ret Tryz.prog 28 [.pointer (some ⟨db, 0, none⟩), .string nm, .string hw, .agg ⟨hcells key⟩] w fun v w' => v = .int .i64 (enrF L nm hw key).2 ∧ DirAt K w0 db (enrF L nm hw key).1 S w' := by
  obtain ⟨rb, F, lv, vg, r⟩ := h
  have hb := r.hb
  have hbd := lt_of_at hb
  have e := ExtB.refl (fun _ => False) w
  have ol := r.ol
  obtain ⟨la, lcap, rfl⟩ := ol.shape
  have eB := ExtB.refl (fun k => k = db ∨ (k : Int) = vg) w
  have hA : (hcells key).length = 32 := by rw [hcells_length]; exact hk
  have hpl := posV_le L nm
  have n1 := r.vd
  have n2 := r.vd.symm
  have n3 := r.vl
  refine ret_of_run Tryz.func28 rfl Tryz.ntmps28 rfl ?_
  refine run_seq ?_
  refine run_region rfl ?_
  refine runl_op (t_boxA rfl) ?_
  rintro _ w7 ⟨b7, rfl, hb7, e7, n7, l7⟩
  have z7 := e7.size
  replace e := e.trans e7
  replace eB := eB.trans e7.toB
  replace hb := e7.at hb
  replace ol := ol.ext e7
  refine runl_ev (ev_assign rfl) ?_
  refine runl_nil ?_
  refine run_seq ?_
  refine run_seq ?_
  cases hn : nameB nm
  · refine run_region rfl ?_
    refine runl_ev (ev_move rfl) ?_
    refine runl_ev (ev_eqlPn Tryz.underlying83 rfl rfl) ?_
    refine runl_ev (ev_move rfl) ?_
    refine runl_ev_g rfl rfl (rfl) (ev_move rfl) ?_
    refine runl_op_g rfl rfl (rfl) (t_call call_75 rfl (name_any nm _)) ?_
    rintro _ w15 ⟨rfl, e15⟩
    have z15 := e15.size
    replace e := e.trans e15
    replace eB := eB.trans e15.toB
    replace hb := e15.at hb
    replace ol := ol.ext e15
    replace hb7 := e15.at hb7
    refine runl_ev_g rfl rfl (rfl) (ev_not rfl) ?_
    refine runl_ev (ev_pick rfl rfl rfl (if_neg (by simp))) ?_
    refine runl_ev (ev_move rfl) ?_
    refine runl_no_g rfl rfl (by simp [hn]) ?_
    refine runl_no_g rfl rfl (by simp [hn]) ?_
    refine runl_no_g rfl rfl (by simp [hn]) ?_
    refine runl_ev (ev_pick rfl rfl rfl (if_pos (by simp [hn]))) ?_
    refine runl_nil ?_
    refine run_cond_true rfl (rfl) ?_
    refine run_seq ?_
    refine run_region rfl ?_
    refine runl_ev (ev_assign rfl) ?_
    refine runl_nil ?_
    refine run_ret_any Tryz.func28 (res1 Tryz.results28 rfl) ?_
    have hp : enrF L nm hw key = (L, 1) := by unfold enrF; rw [hn]; rfl
    rw [hp]
    exact ⟨rfl, rb, F, _, vg, r.ext e⟩
  · refine run_region rfl ?_
    refine runl_ev (ev_move rfl) ?_
    refine runl_ev (ev_eqlPn Tryz.underlying83 rfl rfl) ?_
    refine runl_ev (ev_move rfl) ?_
    refine runl_ev_g rfl rfl (rfl) (ev_move rfl) ?_
    refine runl_op_g rfl rfl (rfl) (t_call call_75 rfl (name_any nm _)) ?_
    rintro _ w15x1 ⟨rfl, e15x1⟩
    have z15x1 := e15x1.size
    replace e := e.trans e15x1
    replace eB := eB.trans e15x1.toB
    replace hb := e15x1.at hb
    replace ol := ol.ext e15x1
    replace hb7 := e15x1.at hb7
    refine runl_ev_g rfl rfl (rfl) (ev_not rfl) ?_
    refine runl_ev (ev_pick rfl rfl rfl (if_neg (by simp))) ?_
    refine runl_ev (ev_move rfl) ?_
    refine runl_ev_g rfl rfl (by simp [hn]) (ev_move rfl) ?_
    refine runl_op_g rfl rfl (by simp [hn]) (t_call call_75 rfl (name_any hw _)) ?_
    rintro _ w20 ⟨rfl, e20⟩
    have z20 := e20.size
    replace e := e.trans e20
    replace eB := eB.trans e20.toB
    replace hb := e20.at hb
    replace ol := ol.ext e20
    replace hb7 := e20.at hb7
    refine runl_ev_g rfl rfl (by simp [hn]) (ev_not rfl) ?_
    refine runl_ev (ev_pick rfl rfl rfl (if_neg (by simp [hn]))) ?_
    refine runl_nil ?_
    refine run_cond_split rfl (fun h1 => ?_) (fun h1 => ?_)
    · have hh : nameB hw = false := by simpa using h1
      have hp : enrF L nm hw key = (L, 1) := by unfold enrF; rw [hn, hh]; rfl
      rw [hp]
      refine run_seq ?_
      refine run_region rfl ?_
      refine runl_ev (ev_assign rfl) ?_
      refine runl_nil ?_
      refine run_ret_any Tryz.func28 (res1 Tryz.results28 rfl) ?_
      exact ⟨rfl, rb, F, _, vg, r.ext e⟩
    · have hh : nameB hw = true := by simpa using h1
      refine run_skip ?_
      refine run_seq ?_
      refine run_region rfl ?_
      refine runl_ev (ev_move rfl) ?_
      refine runl_ev (ev_move rfl) ?_
      refine runl_op (t_call call_76 rfl (at_any (DirAt.ext ⟨rb, F, _, vg, r⟩ e) nm hs (by omega))) ?_
      rintro _ w26 ⟨rfl, e26⟩
      have z26 := e26.size
      replace e := e.trans e26
      replace eB := eB.trans e26.toB
      replace hb := e26.at hb
      replace ol := ol.ext e26
      replace hb7 := e26.at hb7
      refine runl_ev (ev_move rfl) ?_
      refine runl_ev (ev_extract rfl rfl) ?_
      refine runl_ev (ev_extract rfl rfl) ?_
      refine runl_ev (ev_assign rfl) ?_
      refine runl_ev (ev_assign rfl) ?_
      refine runl_nil ?_
      refine run_seq ?_
      refine run_block ?_
      refine run_seq ?_
      refine run_region rfl ?_
      refine runl_ev (ev_move rfl) ?_
      refine runl_ev (ev_assign rfl) ?_
      refine runl_nil ?_
      refine run_cond_split rfl (fun hf => ?_) (fun hf => ?_)
      · have hlt := fndV_lt hf
        have hp : enrF L nm hw key = (L.set (posV L nm) ⟨nm, hw, key⟩, 0) := by unfold enrF; rw [hn, hh, hf]; rfl
        have hnm : L[posV L nm].name = nm := by have h2 := fndV_in (l := L) (t := nm) rfl hlt; rw [hf] at h2; exact (cmpB_eq _ _).1 (of_decide_eq_true h2.symm)
        rw [hp]
        obtain ⟨b, cap, c, hbg, hv, hbl, hnc, hcm, hcl, hct⟩ := ol.blk (by omega)
        obtain ⟨rfl, rfl⟩ : la = some ⟨b, 0, none⟩ ∧ lcap = cap := by injection hv with q1 _ q3; exact ⟨q1, q3⟩
        have lb := lt_of_at hbl
        refine run_draw mo (fun w' => ExtB (fun k => k = b) w26 w') [17] [(true, 0), (true, 1), (true, 2), (true, 3), (true, 4), (true, 5), (true, 6), (true, 7), (true, 8), (true, 9), (true, 10), (true, 11), (true, 12), (true, 13), (false, 14), (true, 15), (true, 16), (false, 17)] (by kernel_rfl) ?_
        intro wr6 er6
        have zr6 := er6.size
        have hsr6 : (fun w' => ExtB (fun k => k = b) w26 w') wr6 := er6.toB
        have eBp := eB.trans er6.toB
        have hbp := er6.at hb
        have hb7p := er6.at hb7
        have hblp := er6.at hbl
        refine rund_ev hsr6 rfl (ev_move rfl) ?_
        refine rund_ev hsr6 rfl (ev_nilCheck rfl) ?_
        refine rund_ev hsr6 rfl (ev_fieldAddr fld_150_1 rfl) ?_
        refine rund_ev hsr6 rfl (ev_load1 cell_148 rfl (fun wz hz => (cells_all (hz.at1 hb (by omega))).pick 1 rfl rfl)) ?_
        refine rund_ev hsr6 rfl (ev_move rfl) ?_
        refine rund_ev hsr6 rfl (ev_move rfl) ?_
        refine rund_ev hsr6 rfl (ev_nilCheck rfl) ?_
        refine rund_ev hsr6 rfl (ev_fieldAddr fld_150_1 rfl) ?_
        refine rund_ev hsr6 rfl (ev_load1 cell_148 rfl (fun wz hz => (cells_all (hz.at1 hb (by omega))).pick 1 rfl rfl)) ?_
        refine rund_ev hsr6 rfl (ev_move rfl) ?_
        refine rund_ev hsr6 rfl (ev_move rfl) ?_
        refine rund_ev hsr6 rfl (ev_loadA agg_25 hA rfl (fun wz hz => cells_all (hz.at1 hb7 (by first | assumption | omega)))) ?_
        refine rund_ev hsr6 rfl (ev_indexAddr (k := posV L nm) el_148 rfl rfl (by omega)) ?_
        refine rund_ev hsr6 rfl (ev_fieldAddr fld_157_1 rfl) ?_
        refine rund_do rfl (t_store1 sz_9 rfl rfl rfl rfl hblp (by rw [hcl]; omega)) ?_
        rintro _ v6_14 ⟨hq6_14, e6_14, z6_14⟩
        replace eBp := eBp.newB1 e6_14 (by first | exact .inl (by omega) | exact .inr rfl | exact .inr (.inl rfl) | exact .inr (.inr (by omega)) | (right; omega))
        replace hbp := e6_14.at1 hbp (by first | assumption | omega)
        replace hb7p := e6_14.at1 hb7p (by first | assumption | omega)
        replace hblp := hq6_14
        clear hq6_14
        have hs6_14 := hsr6.newB1 e6_14 (by first | exact .inl (by omega) | exact .inr rfl | (right; simp; done) | (right; simp; omega))
        refine ⟨hs6_14, ?_⟩
        refine rund_ev hs6_14 rfl (ev_indexAddr (k := posV L nm) el_148 rfl rfl (by omega)) ?_
        refine rund_ev hs6_14 rfl (ev_fieldAddr fld_157_2 rfl) ?_
        refine rund_doT rfl rfl (t_store sz_25 rfl rfl rfl hA hblp (by rw [List.length_set, hA, hcl]; omega) (hcells_one key)) ?_
        rintro _ v6_17 ⟨hq6_17, e6_17, z6_17⟩
        replace eBp := eBp.newB1 e6_17 (by first | exact .inl (by omega) | exact .inr rfl | exact .inr (.inl rfl) | exact .inr (.inr (by omega)) | (right; omega))
        replace hbp := e6_17.at1 hbp (by first | assumption | omega)
        replace hb7p := e6_17.at1 hb7p (by first | assumption | omega)
        replace hblp := hq6_17
        clear hq6_17
        refine rund_nil ?_
        replace eB := eBp
        clear eBp
        replace hb := hbp
        clear hbp
        replace hb7 := hb7p
        clear hb7p
        replace hbl := hblp
        clear hblp
        refine run_inBlock ?_
        refine run_seq ?_
        refine run_region rfl ?_
        refine runl_ev (ev_assign rfl) ?_
        refine runl_nil ?_
        refine run_ret_any Tryz.func28 (res1 Tryz.results28 rfl) ?_
        have hs2 := set_veh (hw := hw) r.wf hk hct (posV L nm) hlt
        rw [hnm] at hs2
        refine ⟨rfl, rb, F, _, vg, r.list hb eB ?_ (fun x hx => (List.mem_or_eq_of_mem_set hx).elim (r.wf x) (fun h => h ▸ hk)) (.inl rfl)⟩
        rw [List.length_set, ← hbg]
        exact own_blk hbl hnc hcm (by rw [splice_len (by rw [List.length_set, hA, hcl]; omega), List.length_set, hcl]) hs2
      · refine run_seq ?_
        refine run_region rfl ?_
        refine runl_ev (ev_move rfl) ?_
        refine runl_ev (ev_nilCheck rfl) ?_
        refine runl_ev (ev_fieldAddr fld_150_1 rfl) ?_
        refine runl_ev (ev_load1 cell_148 rfl (eqw ((cells_all hb).pick 1 rfl rfl))) ?_
        refine runl_ev (ev_lenL sl_148 rfl) ?_
        refine runl_ev (ev_geq rfl rfl) ?_
        refine runl_ev (ev_assign rfl) ?_
        refine runl_nil ?_
        refine run_dcond rfl (fun h4 => ?_) (fun h4 => ?_)
        · have hp : enrF L nm hw key = (L, 12) := by unfold enrF; rw [if_pos (by rw [hn, hh]; rfl), if_neg (by simp [hf]), if_pos (by omega)]
          rw [hp]
          refine run_seq ?_
          refine run_region rfl ?_
          refine runl_ev (ev_assign rfl) ?_
          refine runl_nil ?_
          refine run_ret_any Tryz.func28 (res1 Tryz.results28 rfl) ?_
          exact ⟨rfl, rb, F, _, vg, r.ext e⟩
        · have hp : enrF L nm hw key = (insFV L (posV L nm) ⟨nm, hw, key⟩, 0) := by unfold enrF; rw [if_pos (by rw [hn, hh]; rfl), if_neg (by simp [hf]), if_neg (by omega)]
          rw [hp]
          refine run_draw mo (fun w' => Ext w26 w') [11, 12, 13, 14] [(true, 0), (true, 1), (true, 2), (true, 3), (true, 4), (true, 5), (true, 6), (true, 7), (true, 8), (true, 9), (false, 10), (false, 11), (false, 12), (false, 13), (false, 14)] (by kernel_rfl) ?_
          intro wr4 er4
          have zr4 := er4.size
          have hsr4 := er4
          have ep := e.trans er4
          have eBp := eB.trans er4.toB
          have hbp := er4.at hb
          have olp := ol.ext er4
          have hb7p := er4.at hb7
          refine rund_ev hsr4 rfl (ev_move rfl) ?_
          refine rund_ev hsr4 rfl (ev_move rfl) ?_
          refine rund_ev hsr4 rfl (ev_nilCheck rfl) ?_
          refine rund_ev hsr4 rfl (ev_fieldAddr fld_150_1 rfl) ?_
          refine rund_ev hsr4 rfl (ev_load1 cell_148 rfl (fun wz hz => (cells_all (hz.at hb)).pick 1 rfl rfl)) ?_
          refine rund_ev hsr4 rfl (ev_move rfl) ?_
          refine rund_ev hsr4 rfl (ev_move rfl) ?_
          refine rund_ev hsr4 rfl (ev_move rfl) ?_
          refine rund_ev hsr4 rfl (ev_loadA agg_25 hA rfl (fun wz hz => cells_all (hz.at hb7))) ?_
          refine rund_ev hsr4 rfl (ev_build (out := Veh.cells ⟨nm, hw, key⟩) ps_157 zero_157 rfl rfl (by simp [fillL, Value.cells, hcells_length, hk, Veh.cells, vtail, List.replicate])) ?_
          refine rund_op rfl (t_buildSlice (out := Veh.cells ⟨nm, hw, key⟩) Tryz.underlying148 sz_157 zero_157 rfl rfl (by decide) (by decide) rfl (fill_one rfl (Veh.cells_length (v := ⟨nm, hw, key⟩) hk) rfl)) ?_
          rintro _ w39 ⟨b39, rfl, hb39, e39, n39, l39⟩
          have z39 := e39.size
          replace ep := ep.trans e39
          replace eBp := eBp.trans e39.toB
          replace hbp := e39.at hbp
          replace olp := olp.ext e39
          replace hb7p := e39.at hb7p
          have hs39 := hsr4.trans e39
          refine ⟨hs39, ?_⟩
          have hb39p := hb39
          refine rund_opT rfl rfl (t_call call_77 rfl (insertV_any olp r.wf ⟨nm, hw, key⟩ hk (posV L nm) hpl (by omega) _ hb39p (by omega))) ?_
          rintro v40 w40 ⟨g40, ap40⟩
          have ol40 := ap40.own
          have an40 := ap40.new
          obtain ⟨va, vc, rfl⟩ := ol40.shape
          have z40 := ap40.ext.size
          replace eBp := eBp.newBG ap40.ext (fun k hk => by first | exact .inl (by omega) | exact .inr hk | exact .inr (.inr hk) | exact .inr (.inr (by omega)))
          replace hbp := ap40.ext.atG hbp (by first | assumption | omega)
          replace hb7p := ap40.ext.atG hb7p (by first | assumption | omega)
          have ol40p := ol40
          refine rund_opT rfl rfl (opT_ev (ev_nilCheck rfl)) ?_
          rintro _ _ ⟨rfl, rfl⟩
          refine rund_opT rfl rfl (opT_ev (ev_fieldAddr fld_150_1 rfl)) ?_
          rintro _ _ ⟨rfl, rfl⟩
          refine rund_doT rfl rfl (t_store1 sz_148 rfl rfl rfl rfl hbp (by simp)) ?_
          rintro _ v4_14 ⟨hq4_14, e4_14, z4_14⟩
          replace eBp := eBp.newB1 e4_14 (by first | exact .inl (by omega) | exact .inr rfl | exact .inr (.inl rfl) | exact .inr (.inr (by omega)) | (right; omega))
          replace hb7p := e4_14.at1 hb7p (by first | assumption | omega)
          replace ol40p := ol40p.ext1 e4_14 (by first | assumption | omega)
          replace hbp := hq4_14
          clear hq4_14
          refine rund_nil ?_
          replace eB := eBp
          clear eBp
          replace hb := hbp
          clear hbp
          replace hb7 := hb7p
          clear hb7p
          replace ol40 := ol40p
          clear ol40p
          refine run_inBlock ?_
          refine run_seq ?_
          refine run_region rfl ?_
          refine runl_ev (ev_assign rfl) ?_
          refine runl_nil ?_
          refine run_ret_any Tryz.func28 (res1 Tryz.results28 rfl) ?_
          refine ⟨rfl, rb, F, _, g40, r.list hb eB (by rw [insF_lenV hpl]; exact ol40) (fun x hx => ?_) (an40.imp id fun h => ⟨by omega, by omega⟩)⟩
          simp only [insFV, List.mem_append, List.mem_cons] at hx
          rcases hx with h1 | rfl | h1
          · exact r.wf x (List.mem_of_mem_take h1)
          · exact hk
          · exact r.wf x (List.mem_of_mem_drop h1)
theorem assigned_any {K : Nat → Prop} {w0 w : World} {db : Nat} {L : List Veh} {S : RepoS} (h : DirAt K w0 db L S w) (nm : ByteArray) (hl : S.l.length ≤ 1000) (hwf : ∀ t ∈ S.l, t.wf) : Ret Tryz.prog 30 [.pointer (some ⟨db, 0, none⟩), .string nm] w fun v w' => v = asgV (asgF S.l nm) ∧ Ext w w' := by
  obtain ⟨rb, F, lv, vg, r⟩ := h
  have hb := r.hb
  have hbd := lt_of_at hb
  have e := ExtB.refl (fun _ => False) w
  have ol := r.ol
  obtain ⟨la, lcap, rfl⟩ := ol.shape
  refine ret_of_run Tryz.func30 rfl Tryz.ntmps30 rfl ?_
  refine run_seq ?_
  refine run_region rfl ?_
  refine runl_op (t_box1 rfl rfl) ?_
  rintro _ w3 ⟨b3, rfl, hb3, e3, n3, l3⟩
  have z3 := e3.size
  replace e := e.trans e3
  replace hb := e3.at hb
  refine runl_op (t_alloc zero_82 rfl) ?_
  rintro _ w4 ⟨b4, rfl, hb4, e4, n4, l4⟩
  have z4 := e4.size
  replace e := e.trans e4
  replace hb := e4.at hb
  replace hb3 := e4.at hb3
  refine runl_ev (ev_assign rfl) ?_
  refine runl_nil ?_
  refine run_seq ?_
  refine run_seq ?_
  refine run_region rfl ?_
  refine runl_ev (ev_move rfl) ?_
  refine runl_ev (ev_eqlPn Tryz.underlying83 rfl rfl) ?_
  refine runl_ev (ev_move rfl) ?_
  refine runl_ev_g rfl rfl (rfl) (ev_load1 cell_9 rfl (eqw (cells_all hb3))) ?_
  refine runl_ev_g rfl rfl (rfl) (ev_eqlS rfl rfl) ?_
  refine runl_ev (ev_pick rfl rfl rfl (if_neg (by simp))) ?_
  refine runl_nil ?_
  refine run_dcond rfl (fun h1 => ?_) (fun h1 => ?_)
  · have hp : asgF S.l nm = none := by unfold asgF; rw [if_pos h1]
    rw [hp]
    refine run_seq ?_
    refine run_region rfl ?_
    refine runl_ev (ev_build (out := tgtZ0.cells) ps_82 zero_82 rfl rfl (rfl)) ?_
    refine runl_do (t_storeW sz_82 rfl rfl (Tgt.cells_length tgtZ0_wf) (by decide) hb4 (Tgt.one _)) ?_
    rintro _ v2_1 ⟨hq2_1, e2_1, z2_1⟩
    replace e := e.new1 e2_1 (by omega)
    replace hb := e2_1.at1 hb (by first | assumption | omega)
    replace hb3 := e2_1.at1 hb3 (by first | assumption | omega)
    replace hb4 := hq2_1
    clear hq2_1
    refine runl_ev (ev_assign rfl) ?_
    refine runl_nil ?_
    refine run_ret_any Tryz.func30 (resCT Tryz.results30 rfl (loadVar_agg agg_82 (by decide) (cells_all hb4)) rfl) ?_
    exact ⟨rfl, e⟩
  · refine run_skip ?_
    refine run_seq ?_
    refine run_region rfl ?_
    refine runl_ev (ev_move rfl) ?_
    refine runl_ev (ev_nilCheck rfl) ?_
    refine runl_ev (ev_fieldAddr fld_150_0 rfl) ?_
    refine runl_ev (ev_load1 cell_22 rfl (eqw ((cells_all hb).pick 0 rfl rfl))) ?_
    refine runl_op (t_call call_31 rfl (targets_repo (r.rp.ext e) (Nat.le_trans hl (by decide)))) ?_
    rintro v19 w19 o19
    obtain ⟨ta, tc, rfl, -, sl19⟩ := o19.sl
    have e19 := o19.ext
    have z19 := e19.size
    replace e := e.trans e19
    replace hb := e19.at hb
    replace hb3 := e19.at hb3
    replace hb4 := e19.at hb4
    refine runl_ev (ev_assign rfl) ?_
    refine runl_nil ?_
    refine run_seq ?_
    refine run_region rfl ?_
    refine runl_ev (ev_move rfl) ?_
    refine runl_ev (ev_makeFunc rfl rfl) ?_
    refine runl_op (t_call call_79 rfl (idxT_any RTgt rtgt_len (fun t => decide (t.ecu = nm)) S.l w19 _ (ExtB.refl _ _) _ _ _ sl19 (by omega) _ _ (by kernel_rfl) (fun x cs w' hx hr hE => by obtain ⟨hr1, rfl⟩ := hr; exact asgc_any x hr1 _ _ nm _ (hE.at hb3)))) ?_
    rintro _ w22 ⟨rfl, e22⟩
    have z22 := e22.size
    replace e := e.trans e22
    replace hb := e22.at hb
    replace hb3 := e22.at hb3
    replace hb4 := e22.at hb4
    refine runl_ev (ev_assign rfl) ?_
    refine runl_nil ?_
    refine run_seq ?_
    refine run_seq ?_
    refine run_region rfl ?_
    refine runl_ev (ev_move rfl) ?_
    refine runl_ev (ev_lss rfl rfl) ?_
    refine runl_nil ?_
    refine run_dcond rfl (fun h2 => ?_) (fun h2 => ?_)
    · have hp : asgF S.l nm = none := by unfold asgF; rw [if_neg h1, if_pos h2]
      rw [hp]
      refine run_seq ?_
      refine run_region rfl ?_
      refine runl_ev (ev_build (out := tgtZ0.cells) ps_82 zero_82 rfl rfl (rfl)) ?_
      refine runl_do (t_storeW sz_82 rfl rfl (Tgt.cells_length tgtZ0_wf) (by decide) hb4 (Tgt.one _)) ?_
      rintro _ v6_1 ⟨hq6_1, e6_1, z6_1⟩
      replace e := e.new1 e6_1 (by omega)
      replace hb := e6_1.at1 hb (by first | assumption | omega)
      replace hb3 := e6_1.at1 hb3 (by first | assumption | omega)
      replace hb4 := hq6_1
      clear hq6_1
      refine runl_ev (ev_assign rfl) ?_
      refine runl_nil ?_
      refine run_ret_any Tryz.func30 (resCT Tryz.results30 rfl (loadVar_agg agg_82 (by decide) (cells_all hb4)) rfl) ?_
      exact ⟨rfl, e⟩
    · have hix := idx_le (fun t : Tgt => decide (t.ecu = nm)) S.l
      obtain ⟨i, hi⟩ : ∃ i : Nat, idxOf (fun t : Tgt => decide (t.ecu = nm)) S.l = i := ⟨(idxOf (fun t : Tgt => decide (t.ecu = nm)) S.l).toNat, by omega⟩
      have hil : i < S.l.length := by omega
      have hp : asgF S.l nm = some S.l[i] := by unfold asgF; rw [if_neg h1, if_neg h2, hi, Int.toNat_natCast, List.getElem?_eq_getElem hil]
      rw [hp]
      obtain ⟨-, hat⟩ := sl19.at
      obtain ⟨bb, bo, cs1, rfl, ⟨hw1, rfl⟩, hc1⟩ := hat i hil
      rw [hi]
      refine run_skip ?_
      refine run_seq ?_
      refine run_region rfl ?_
      refine runl_ev (ev_move rfl) ?_
      refine runl_ev (ev_move rfl) ?_
      refine runl_ev (ev_indexAddr (k := i) el_45 rfl rfl (by omega)) ?_
      refine runl_ev (ev_loadA agg_82 (Tgt.cells_length hw1) rfl (eqw (hc1.ext (ExtB.trans e22 (ExtB.refl _ _))))) ?_
      refine runl_do (t_storeW sz_82 rfl rfl (Tgt.cells_length hw1) (by decide) hb4 (Tgt.one _)) ?_
      rintro _ v7_4 ⟨hq7_4, e7_4, z7_4⟩
      replace e := e.new1 e7_4 (by omega)
      replace hb := e7_4.at1 hb (by first | assumption | omega)
      replace hb3 := e7_4.at1 hb3 (by first | assumption | omega)
      replace hb4 := hq7_4
      clear hq7_4
      refine runl_ev (ev_assign rfl) ?_
      refine runl_nil ?_
      refine run_ret_any Tryz.func30 (resCT Tryz.results30 rfl (loadVar_agg agg_82 (Tgt.cells_length hw1) (cells_all hb4)) rfl) ?_
      exact ⟨rfl, e⟩
end Go.Proofs.YtlgkdnmklgbhbaaGreatDoor
/- The walks of Assign and Inventory, and what all laws on Directors ask of one. -/
namespace Go.Proofs.YtlgkdnmklgbhbaaGreatDoor
open Go Go.Fw
set_option maxRecDepth 100000
theorem asg_wf {l : List Tgt} (h : ∀ t ∈ l, t.wf) (nm : ByteArray) : ((asgF l nm).getD tgtZ0).wf := by
  cases ha : asgF l nm with
  | none => exact tgtZ0_wf
  | some x =>
    unfold asgF at ha
    split at ha
    · cases ha
    · split at ha
      · cases ha
      · exact h x (List.mem_of_getElem? ha)
theorem asn_in {L : List Veh} {l : List Tgt} {nm : ByteArray} {t : Tgt} (hf : fndV L nm = true) : asnF L l nm t = if t.hw = (L[posV L nm]'(fndV_lt hf)).hw ∧ isTgsB [{ t with ecu := nm }] = true then (match asgF l nm with
      | none => if 16 ≤ l.length then (l, 12) else putF l { t with ecu := nm }
      | some o => putF (remF l (remT o.name o.ecu)).1 { t with ecu := nm }) else (l, 1) := by
  unfold asnF
  have hp := List.getElem?_eq_getElem (fndV_lt hf)
  rw [hp]
  simp only [hf, if_true]
  all_goals rfl
theorem asn_out {L : List Veh} {l : List Tgt} {nm : ByteArray} {t : Tgt} (hf : fndV L nm = false) : asnF L l nm t = (l, 9) := by
  unfold asnF
  split
  · rfl
  · rw [if_neg (by simp [hf])]

theorem assign_any {K : Nat → Prop} {w0 w : World} {db : Nat} {L : List Veh} {S : RepoS} (h : DirAt K w0 db L S w) (nm : ByteArray) (t : Tgt) (ht : t.wf) (hs : SrtV L) (hl : L.length ≤ 4) (hsr : Srt S.l) (hl16 : S.l.length ≤ 16) (hwf : ∀ t ∈ S.l, t.wf) : Ret Tryz.prog 29 [.pointer (some ⟨db, 0, none⟩), .string nm, .agg ⟨t.cells⟩] w fun v w' => v = .int .i64 (asnF L S.l nm t).2 ∧ DirAt K w0 db L { S with l := (asnF L S.l nm t).1 } w' ∧ Kept K w w' := by
  obtain ⟨rb, F, lv, vg, r⟩ := h
  have hb := r.hb
  have hbd := lt_of_at hb
  have e := ExtB.refl (fun _ => False) w
  have ol := r.ol
  obtain ⟨la, lcap, rfl⟩ := ol.shape
  have htl := Tgt.cells_length ht
  have ht2 : ({ t with ecu := nm } : Tgt).wf := ht
  have htl2 := Tgt.cells_length ht2
  have rw0 := r.rp.lt
  refine ret_of_run Tryz.func29 rfl Tryz.ntmps29 rfl ?_
  refine run_seq ?_
  refine run_region rfl ?_
  refine runl_op (t_boxA rfl) ?_
  rintro _ w5 ⟨b5, rfl, hb5, e5, n5, l5⟩
  have z5 := e5.size
  replace e := e.trans e5
  replace hb := e5.at hb
  refine runl_ev (ev_assign rfl) ?_
  refine runl_nil ?_
  refine run_seq ?_
  refine run_seq ?_
  refine run_region rfl ?_
  refine runl_ev (ev_move rfl) ?_
  refine runl_ev (ev_eqlPn Tryz.underlying83 rfl rfl) ?_
  refine runl_nil ?_
  refine run_cond_false rfl (rfl) ?_
  refine run_skip ?_
  refine run_seq ?_
  refine run_region rfl ?_
  refine runl_ev (ev_move rfl) ?_
  refine runl_ev (ev_move rfl) ?_
  refine runl_op (t_call call_76 rfl (at_any (DirAt.ext ⟨rb, F, _, vg, r⟩ e) nm hs (by omega))) ?_
  rintro _ w16 ⟨rfl, e16⟩
  have z16 := e16.size
  replace e := e.trans e16
  replace hb := e16.at hb
  replace hb5 := e16.at hb5
  refine runl_ev (ev_move rfl) ?_
  refine runl_ev (ev_extract rfl rfl) ?_
  refine runl_ev (ev_extract rfl rfl) ?_
  refine runl_ev (ev_assign rfl) ?_
  refine runl_ev (ev_assign rfl) ?_
  refine runl_nil ?_
  refine run_seq ?_
  refine run_region rfl ?_
  refine runl_ev (ev_move rfl) ?_
  refine runl_ev (ev_fieldAddr fld_82_5 rfl) ?_
  refine runl_do (t_store1 sz_9 rfl rfl rfl rfl hb5 (by rw [htl]; decide)) ?_
  rintro _ v4_2 ⟨hq4_2, e4_2, z4_2⟩
  replace e := e.new1 e4_2 (by omega)
  replace hb := e4_2.at1 hb (by first | assumption | omega)
  replace hb5 := hq4_2
  clear hq4_2
  refine runl_nil ?_
  rw [show (0 + 36 : Nat) = 36 from rfl, tgt_set ht] at hb5
  refine run_seq ?_
  refine run_block ?_
  refine run_seq ?_
  refine run_region rfl ?_
  refine runl_ev (ev_move rfl) ?_
  refine runl_ev (ev_not rfl) ?_
  refine runl_ev (ev_assign rfl) ?_
  refine runl_nil ?_
  refine run_cond_split rfl (fun hf => ?_) (fun hf => ?_)
  · have hf2 : fndV L nm = false := by simpa using hf
    rw [asn_out hf2]
    refine run_seq ?_
    refine run_region rfl ?_
    refine runl_ev (ev_assign rfl) ?_
    refine runl_nil ?_
    refine run_ret_any Tryz.func29 (res1 Tryz.results29 rfl) ?_
    exact ⟨rfl, ⟨rb, F, _, vg, r.ext e⟩, Kept.ext e⟩
  · have hf2 : fndV L nm = true := by simpa using hf
    have hlt := fndV_lt hf2
    obtain ⟨-, hatv⟩ := (own_slat ol (vcs_parts (w := w) r.wf) rfl).at
    obtain ⟨bb, bo, cs1, rfl, ⟨hw1, rfl⟩, hc1⟩ := hatv (posV L nm) hlt
    rw [asn_in hf2]
    refine run_seq ?_
    by_cases hq : t.hw = L[posV L nm].hw
    · refine run_draw mo (fun w' => Ext v4_2 w') [] [(true, 0), (true, 1), (true, 2), (true, 3), (true, 4), (true, 5), (true, 6), (true, 7), (true, 8), (true, 9), (true, 10), (true, 11), (true, 12), (false, 13), (true, 14), (true, 15), (true, 16)] (by kernel_rfl) ?_
      intro wr7 er7
      have zr7 := er7.size
      have hsr7 := er7
      have ep := e.trans er7
      have hbp := er7.at hb
      have hb5p := er7.at hb5
      refine rund_ev hsr7 rfl (ev_fieldAddr fld_82_3 rfl) ?_
      refine rund_ev hsr7 rfl (ev_load1 cell_9 rfl (fun wz hz => (cells_all (hz.at hb5)).pick 34 rfl (Tgt.c34 ht2))) ?_
      refine rund_ev hsr7 rfl (ev_move rfl) ?_
      refine rund_ev hsr7 rfl (ev_nilCheck rfl) ?_
      refine rund_ev hsr7 rfl (ev_fieldAddr fld_150_1 rfl) ?_
      refine rund_ev hsr7 rfl (ev_load1 cell_148 rfl (fun wz hz => (cells_all (hz.at hb)).pick 1 rfl rfl)) ?_
      refine rund_ev hsr7 rfl (ev_move rfl) ?_
      refine rund_ev hsr7 rfl (ev_indexAddr (k := posV L nm) el_148 rfl rfl (by omega)) ?_
      refine rund_ev hsr7 rfl (ev_fieldAddr fld_157_1 rfl) ?_
      refine rund_ev hsr7 rfl (ev_load1 cell_9 rfl (fun wz hz => (hc1.ext (e.trans hz)).pick 1 rfl (Veh.c1 _))) ?_
      refine rund_ev hsr7 rfl (ev_neqS rfl rfl) ?_
      refine rund_ev hsr7 rfl (ev_move rfl) ?_
      refine rund_ev_g hsr7 rfl rfl rfl (by simp [hq]) (ev_loadA agg_82 htl2 rfl (fun wz hz => cells_all (hz.at hb5))) ?_
      refine rund_op_g rfl rfl rfl (by simp [hq]) (t_call call_78 rfl (isoneD_any { t with ecu := nm } ht2 _)) ?_
      rintro _ w38 ⟨rfl, e38⟩
      have z38 := e38.size
      replace ep := ep.trans e38
      replace hbp := e38.at hbp
      replace hb5p := e38.at hb5p
      have hs38 := hsr7.trans e38
      refine ⟨hs38, ?_⟩
      refine rund_ev_g hs38 rfl rfl rfl (by simp [hq]) (ev_not rfl) ?_
      refine rund_ev hs38 rfl (ev_pick rfl rfl rfl (if_neg (by simp [hq]))) ?_
      refine rund_ev hs38 rfl (ev_assign rfl) ?_
      refine rund_nil ?_
      replace e := ep
      clear ep
      replace hb := hbp
      clear hbp
      replace hb5 := hb5p
      clear hb5p
      refine run_cond_split rfl (fun h5 => ?_) (fun h5 => ?_)
      · have hi : isTgsB [{ t with ecu := nm }] = false := by simpa using h5
        rw [if_neg (by simp [hi])]
        refine run_seq ?_
        refine run_region rfl ?_
        refine runl_ev (ev_assign rfl) ?_
        refine runl_nil ?_
        refine run_ret_any Tryz.func29 (res1 Tryz.results29 rfl) ?_
        exact ⟨rfl, ⟨rb, F, _, vg, r.ext e⟩, Kept.ext e⟩
      · have hi : isTgsB [{ t with ecu := nm }] = true := by simpa using h5
        rw [if_pos ⟨hq, hi⟩]
        refine run_skip ?_
        refine run_inBlock ?_
        refine run_seq ?_
        refine run_region rfl ?_
        refine runl_ev (ev_move rfl) ?_
        refine runl_ev (ev_move rfl) ?_
        refine runl_op (t_call call_30 rfl (assigned_any (DirAt.ext ⟨rb, F, _, vg, r⟩ e) nm (by omega) hwf)) ?_
        rintro _ w44 ⟨rfl, e44⟩
        obtain ⟨ao, hao⟩ : ∃ ao, asgF S.l nm = ao := ⟨_, rfl⟩
        have hwo := asg_wf hwf nm
        rw [hao] at hwo ⊢
        unfold asgV
        have z44 := e44.size
        replace e := e.trans e44
        replace hb := e44.at hb
        replace hb5 := e44.at hb5
        refine runl_ev (ev_move rfl) ?_
        refine runl_ev (ev_extract rfl rfl) ?_
        refine runl_ev (ev_extract rfl rfl) ?_
        refine runl_op (t_alloc zero_82 rfl) ?_
        rintro _ w9 ⟨b9, rfl, hb9, e9, n9, l9⟩
        have z9 := e9.size
        replace e := e.trans e9
        replace hb := e9.at hb
        replace hb5 := e9.at hb5
        refine runl_do (t_storeW sz_82 rfl rfl (Tgt.cells_length hwo) (by decide) hb9 (Tgt.one _)) ?_
        rintro _ v9_7 ⟨hq9_7, e9_7, z9_7⟩
        replace e := e.new1 e9_7 (by omega)
        replace hb := e9_7.at1 hb (by first | assumption | omega)
        replace hb5 := e9_7.at1 hb5 (by first | assumption | omega)
        replace hb9 := hq9_7
        clear hq9_7
        refine runl_ev (ev_assign rfl) ?_
        refine runl_nil ?_
        refine run_seq ?_
        refine run_seq ?_
        rcases ao with _ | o
        · refine run_region rfl ?_
          refine runl_ev (ev_move rfl) ?_
          refine runl_ev (ev_not rfl) ?_
          refine runl_ev (ev_move rfl) ?_
          refine runl_ev_g rfl rfl (rfl) (ev_move rfl) ?_
          refine runl_ev_g rfl rfl (rfl) (ev_nilCheck rfl) ?_
          refine runl_ev_g rfl rfl (rfl) (ev_fieldAddr fld_150_0 rfl) ?_
          refine runl_ev_g rfl rfl (rfl) (ev_load1 cell_22 rfl (eqw ((cells_all hb).pick 0 rfl rfl))) ?_
          refine runl_op_g rfl rfl (rfl) (t_call call_31 rfl (targets_repo (r.rp.ext e) (Nat.le_trans hl16 (by decide)))) ?_
          rintro v54 w54 o54
          obtain ⟨ta, tc, rfl, -, sl54⟩ := o54.sl
          have e54 := o54.ext
          have z54 := e54.size
          replace e := e.trans e54
          replace hb := e54.at hb
          replace hb5 := e54.at hb5
          replace hb9 := e54.at hb9
          refine runl_ev_g rfl rfl (rfl) (ev_lenL sl_45 rfl) ?_
          refine runl_ev_g rfl rfl (rfl) (ev_geq rfl rfl) ?_
          refine runl_ev (ev_pick rfl rfl rfl (if_pos (rfl))) ?_
          refine runl_nil ?_
          refine run_dcond rfl (fun h6 => ?_) (fun h6 => ?_)
          · simp only []
            rw [if_pos (by omega)]
            refine run_seq ?_
            refine run_region rfl ?_
            refine runl_ev (ev_assign rfl) ?_
            refine runl_nil ?_
            refine run_ret_any Tryz.func29 (res1 Tryz.results29 rfl) ?_
            exact ⟨rfl, ⟨rb, F, _, vg, r.ext e⟩, Kept.ext e⟩
          · simp only []
            rw [if_neg (by omega)]
            have rq := r.ext e
            have kq : Kept K w w54 := Kept.ext e
            have hsr2 := hsr
            have hl2 := hl16
            refine run_skip ?_
            refine run_seq ?_
            refine run_seq ?_
            refine run_region rfl ?_
            refine runl_ev (ev_move rfl) ?_
            refine runl_nil ?_
            refine run_cond_false rfl (rfl) ?_
            refine run_skip ?_
            refine run_seq ?_
            refine run_draw mo (fun w' => Ext w54 w') [5, 6] [(true, 0), (true, 1), (true, 2), (true, 3), (true, 4), (false, 5), (false, 6)] (by kernel_rfl) ?_
            intro wr14 er14
            have zr14 := er14.size
            have hsr14 := er14
            have ep := e.trans er14
            have hbp := er14.at hb
            have hb5p := er14.at hb5
            have hb9p := er14.at hb9
            refine rund_ev hsr14 rfl (ev_move rfl) ?_
            refine rund_ev hsr14 rfl (ev_nilCheck rfl) ?_
            refine rund_ev hsr14 rfl (ev_fieldAddr fld_150_0 rfl) ?_
            refine rund_ev hsr14 rfl (ev_load1 cell_22 rfl (fun wz hz => (cells_all (hz.at rq.hb)).pick 0 rfl rfl)) ?_
            refine rund_ev hsr14 rfl (ev_loadA agg_82 htl2 rfl (fun wz hz => cells_all (hz.at hb5))) ?_
            refine rund_opT rfl rfl (t_call call_34 rfl (publish_repo (rq.ext er14).rp _ ht2 hsr2 hl2)) ?_
            rintro _ w73 ⟨rfl, F73, at73, e73, hF73⟩
            have rr := (rq.ext er14).repo at73 e73 hF73
            have kr := (kq.trans (Kept.ext er14)).trans (Kept.extB e73 (fun k hk => (rq.kp k hk).1))
            skip
            refine rund_opT rfl rfl (opT_ev (ev_assign rfl)) ?_
            rintro _ _ ⟨rfl, rfl⟩
            refine rund_nil ?_
            refine run_ret_any Tryz.func29 (res1 Tryz.results29 rfl) ?_
            exact ⟨rfl, ⟨rb, _, _, vg, rr⟩, kr⟩
        · refine run_region rfl ?_
          refine runl_ev (ev_move rfl) ?_
          refine runl_ev (ev_not rfl) ?_
          refine runl_ev (ev_move rfl) ?_
          refine runl_no_g rfl rfl (rfl) ?_
          refine runl_no_g rfl rfl (rfl) ?_
          refine runl_no_g rfl rfl (rfl) ?_
          refine runl_no_g rfl rfl (rfl) ?_
          refine runl_no_g rfl rfl (rfl) ?_
          refine runl_no_g rfl rfl (rfl) ?_
          refine runl_no_g rfl rfl (rfl) ?_
          refine runl_ev (ev_pick rfl rfl rfl (if_neg (by simp))) ?_
          refine runl_nil ?_
          refine run_cond_false rfl (rfl) ?_
          refine run_skip ?_
          refine run_seq ?_
          refine run_seq ?_
          refine run_region rfl ?_
          refine runl_ev (ev_move rfl) ?_
          refine runl_nil ?_
          refine run_cond_true rfl (rfl) ?_
          refine run_draw mo (fun w' => Ext v9_7 w') [8] [(true, 0), (true, 1), (true, 2), (true, 3), (true, 4), (true, 5), (true, 6), (true, 7), (false, 8)] (by kernel_rfl) ?_
          intro wr13 er13
          have zr13 := er13.size
          have hsr13 := er13
          have ep := e.trans er13
          have hbp := er13.at hb
          have hb5p := er13.at hb5
          have hb9p := er13.at hb9
          refine rund_ev hsr13 rfl (ev_move rfl) ?_
          refine rund_ev hsr13 rfl (ev_nilCheck rfl) ?_
          refine rund_ev hsr13 rfl (ev_fieldAddr fld_150_0 rfl) ?_
          refine rund_ev hsr13 rfl (ev_load1 cell_22 rfl (fun wz hz => (cells_all (hz.at hb)).pick 0 rfl rfl)) ?_
          refine rund_ev hsr13 rfl (ev_fieldAddr fld_82_0 rfl) ?_
          refine rund_ev hsr13 rfl (ev_load1 cell_9 rfl (fun wz hz => (cells_all (hz.at hb9)).pick 0 rfl (Tgt.c0 _))) ?_
          refine rund_ev hsr13 rfl (ev_fieldAddr fld_82_5 rfl) ?_
          refine rund_ev hsr13 rfl (ev_load1 cell_9 rfl (fun wz hz => (cells_all (hz.at hb9)).pick 36 rfl (Tgt.c36 hwo))) ?_
          refine rund_opT rfl rfl (t_call call_37 rfl (remove_repo (r.rp.ext (e.trans er13)) _ _ hsr hl16)) ?_
          rintro _ w67 ⟨rfl, F67, at67, e67, hF67⟩
          have rq := (r.ext (e.trans er13)).repo at67 e67 hF67
          have kq : Kept K w w67 := (Kept.ext (e.trans er13)).trans (Kept.extB e67 (fun k hk => (r.kp k hk).1))
          have hsr2 := rem_srt (t := remT o.name o.ecu) hsr
          have hl2 := rem_len (t := remT o.name o.ecu) hl16
          simp only []
          replace hb5p := e67.at hb5p (fun h => by have := rw0 _ h; omega)
          refine rund_nil ?_
          replace hb5 := hb5p
          clear hb5p
          refine run_seq ?_
          refine run_draw mo (fun w' => Ext w67 w') [5, 6] [(true, 0), (true, 1), (true, 2), (true, 3), (true, 4), (false, 5), (false, 6)] (by kernel_rfl) ?_
          intro wr14 er14
          have zr14 := er14.size
          have hsr14 := er14
          have hb5p := er14.at hb5
          refine rund_ev hsr14 rfl (ev_move rfl) ?_
          refine rund_ev hsr14 rfl (ev_nilCheck rfl) ?_
          refine rund_ev hsr14 rfl (ev_fieldAddr fld_150_0 rfl) ?_
          refine rund_ev hsr14 rfl (ev_load1 cell_22 rfl (fun wz hz => (cells_all (hz.at rq.hb)).pick 0 rfl rfl)) ?_
          refine rund_ev hsr14 rfl (ev_loadA agg_82 htl2 rfl (fun wz hz => cells_all (hz.at hb5))) ?_
          refine rund_opT rfl rfl (t_call call_34 rfl (publish_repo (rq.ext er14).rp _ ht2 hsr2 hl2)) ?_
          rintro _ w73 ⟨rfl, F73, at73, e73, hF73⟩
          have rr := (rq.ext er14).repo at73 e73 hF73
          have kr := (kq.trans (Kept.ext er14)).trans (Kept.extB e73 (fun k hk => (rq.kp k hk).1))
          skip
          refine rund_opT rfl rfl (opT_ev (ev_assign rfl)) ?_
          rintro _ _ ⟨rfl, rfl⟩
          refine rund_nil ?_
          refine run_ret_any Tryz.func29 (res1 Tryz.results29 rfl) ?_
          exact ⟨rfl, ⟨rb, _, _, vg, rr⟩, kr⟩
    · rw [if_neg (fun h => hq h.1)]
      refine run_draw mo (fun w' => Ext v4_2 w') [] [(true, 0), (true, 1), (true, 2), (true, 3), (true, 4), (true, 5), (true, 6), (true, 7), (true, 8), (true, 9), (true, 10), (true, 11), (true, 12), (false, 13), (true, 14), (true, 15), (true, 16)] (by kernel_rfl) ?_
      intro wr7x1 er7x1
      have zr7x1 := er7x1.size
      have hsr7x1 := er7x1
      have ep := e.trans er7x1
      have hbp := er7x1.at hb
      have hb5p := er7x1.at hb5
      refine rund_ev hsr7x1 rfl (ev_fieldAddr fld_82_3 rfl) ?_
      refine rund_ev hsr7x1 rfl (ev_load1 cell_9 rfl (fun wz hz => (cells_all (hz.at hb5)).pick 34 rfl (Tgt.c34 ht2))) ?_
      refine rund_ev hsr7x1 rfl (ev_move rfl) ?_
      refine rund_ev hsr7x1 rfl (ev_nilCheck rfl) ?_
      refine rund_ev hsr7x1 rfl (ev_fieldAddr fld_150_1 rfl) ?_
      refine rund_ev hsr7x1 rfl (ev_load1 cell_148 rfl (fun wz hz => (cells_all (hz.at hb)).pick 1 rfl rfl)) ?_
      refine rund_ev hsr7x1 rfl (ev_move rfl) ?_
      refine rund_ev hsr7x1 rfl (ev_indexAddr (k := posV L nm) el_148 rfl rfl (by omega)) ?_
      refine rund_ev hsr7x1 rfl (ev_fieldAddr fld_157_1 rfl) ?_
      refine rund_ev hsr7x1 rfl (ev_load1 cell_9 rfl (fun wz hz => (hc1.ext (e.trans hz)).pick 1 rfl (Veh.c1 _))) ?_
      refine rund_ev hsr7x1 rfl (ev_neqS rfl rfl) ?_
      refine rund_ev hsr7x1 rfl (ev_move rfl) ?_
      refine rund_no_g hsr7x1 rfl rfl rfl (by simp [hq]) ?_
      refine rund_no_gf rfl rfl rfl (by simp [hq]) hsr7x1 ?_
      refine rund_no_g hsr7x1 rfl rfl rfl (by simp [hq]) ?_
      refine rund_ev hsr7x1 rfl (ev_pick rfl rfl rfl (if_pos (by simp [hq]))) ?_
      refine rund_ev hsr7x1 rfl (ev_assign rfl) ?_
      refine rund_nil ?_
      replace e := ep
      clear ep
      replace hb := hbp
      clear hbp
      replace hb5 := hb5p
      clear hb5p
      refine run_cond_true rfl (rfl) ?_
      refine run_seq ?_
      refine run_region rfl ?_
      refine runl_ev (ev_assign rfl) ?_
      refine runl_nil ?_
      refine run_ret_any Tryz.func29 (res1 Tryz.results29 rfl) ?_
      exact ⟨rfl, ⟨rb, F, _, vg, r.ext e⟩, Kept.ext e⟩
theorem inv_any {K : Nat → Prop} {w0 w : World} {db : Nat} {L : List Veh} {S : RepoS} (h : DirAt K w0 db L S w) (hl : L.length ≤ 1000) : Ret Tryz.prog 33 [.pointer (some ⟨db, 0, none⟩)] w fun v w' => v = .slice none 0 0 ∧ Ext w w' := by
  obtain ⟨rb, F, lv, vg, r⟩ := h
  have hb := r.hb
  have hbd := lt_of_at hb
  have e := ExtB.refl (fun _ => False) w
  have ol := r.ol
  obtain ⟨la, lcap, rfl⟩ := ol.shape
  obtain ⟨-, hatv⟩ := (own_slat ol (vcs_parts (w := w) r.wf) rfl).at
  refine ret_of_run Tryz.func33 rfl Tryz.ntmps33 rfl ?_
  refine run_seq ?_
  refine run_region rfl ?_
  refine runl_ev (ev_assign rfl) ?_
  refine runl_nil ?_
  refine run_seq ?_
  refine run_seq ?_
  refine run_region rfl ?_
  refine runl_ev (ev_move rfl) ?_
  refine runl_ev (ev_eqlPn Tryz.underlying83 rfl rfl) ?_
  refine runl_nil ?_
  refine run_cond_false rfl (rfl) ?_
  refine run_skip ?_
  refine run_seq ?_
  refine run_region rfl ?_
  refine runl_ev (ev_assign rfl) ?_
  refine runl_nil ?_
  refine run_seq ?_
  refine run_seq ?_
  refine run_region rfl ?_
  refine runl_ev (ev_move rfl) ?_
  refine runl_ev (ev_nilCheck rfl) ?_
  refine runl_ev (ev_fieldAddr fld_150_1 rfl) ?_
  refine runl_ev (ev_load1 cell_148 rfl (eqw ((cells_all hb).pick 1 rfl rfl))) ?_
  refine runl_ev (ev_lenL sl_148 rfl) ?_
  refine runl_ev (ev_move rfl) ?_
  refine runl_nil ?_
  refine run_block ?_
  refine run_loop (ι := Nat) (fun k => [(3, .slice none 0 0), (11, .slice la L.length lcap), (12, .int .i64 (L.length : Int)), (13, .int .i64 (k : Int))]) (fun k w' => k ≤ L.length ∧ Ext w w') (fun k => L.length - k) (0) ⟨rfl, rfl, rfl, rfl, trivial⟩ (⟨Nat.zero_le _, e⟩) ?_
  clear e
  intro k w1 ⟨hk, e⟩ IH
  have ze := e.size
  refine run_seq ?_
  refine run_region rfl ?_
  refine runl_ev (ev_lss rfl rfl) ?_
  refine runl_nil ?_
  refine run_seq ?_
  refine run_dcond rfl (fun h1 => ?_) (fun h1 => ?_)
  · have hk1 : k < L.length := by omega
    obtain ⟨bb, bo, cs1, rfl, ⟨hw1, rfl⟩, hc1⟩ := hatv k hk1
    refine run_skip ?_
    refine run_seq ?_
    refine run_block ?_
    refine run_seq ?_
    refine run_region rfl ?_
    refine runl_ev (ev_indexAddr (k := k) el_148 rfl rfl (by omega)) ?_
    refine runl_ev (ev_loadA agg_157 (Veh.cells_length hw1) rfl (eqw (hc1.ext e))) ?_
    refine runl_op (t_alloc zero_157 rfl) ?_
    rintro _ w5 ⟨b5, rfl, hb5, e5, n5, l5⟩
    have z5 := e5.size
    replace e := e.trans e5
    refine runl_do (t_storeW sz_157 rfl rfl (Veh.cells_length hw1) (by decide) hb5 (Veh.one _)) ?_
    rintro _ v6_3 ⟨hq6_3, e6_3, z6_3⟩
    replace e := e.new1 e6_3 (by omega)
    replace hb5 := hq6_3
    clear hq6_3
    refine runl_nil ?_
    refine run_seq ?_
    refine run_region rfl ?_
    refine runl_ev (ev_fieldAddr fld_157_4 rfl) ?_
    refine runl_ev (ev_load1 cell_4 rfl (eqw ((cells_all hb5).pick 70 rfl (Veh.c70 hw1)))) ?_
    refine runl_nil ?_
    refine run_cond_false rfl (rfl) ?_
    refine run_skip ?_
    refine run_inBlock ?_
    refine run_region rfl ?_
    refine runl_ev (ev_add rfl rfl (by omega) (by omega)) ?_
    refine runl_ev (ev_move rfl) ?_
    refine runl_nil ?_
    exact IH (k + 1) _ _ (by omega) ⟨rfl, rfl, rfl, rfl, trivial⟩ ⟨hk1, e⟩
  · refine run_exit rfl ?_
    refine run_seq ?_
    refine run_region rfl ?_
    refine runl_ev (ev_move rfl) ?_
    refine runl_ev (ev_assign rfl) ?_
    refine runl_nil ?_
    refine run_ret_any Tryz.func33 (res1 Tryz.results33 rfl) ?_
    exact ⟨rfl, e⟩
def aB : ByteArray := ⟨#[97]⟩
def hB : ByteArray := ⟨#[104]⟩
def z32 : List UInt8 := List.replicate 32 0
def xT : Tgt := ⟨⟨#[120]⟩, 0, z32, ⟨#[104]⟩, 0, ⟨#[]⟩⟩
theorem z32_len : z32.length = 32 := by decide
theorem xT_wf : xT.wf := by show z32.length = 32; decide
theorem known_enr : enrF [] aB hB z32 = ([⟨aB, hB, z32⟩], 0) := by
  unfold enrF
  rw [if_pos (by decide)]
  rfl
theorem known_asn : (asnF [⟨aB, hB, z32⟩] [] aB xT).2 = 0 := by decide +kernel
theorem known_srt : SrtV [⟨aB, hB, z32⟩] := List.pairwise_singleton _ _

theorem known17_any (w : World) : Ret Tryz.prog 32 [] w fun r w' => r = .bool true ∧ Ext w w' := by
  refine ret_of_run Tryz.func32 rfl Tryz.ntmps32 rfl ?_
  refine run_seq ?_
  refine run_region rfl ?_
  refine runl_ev (ev_assign rfl) ?_
  refine runl_nil ?_
  refine run_seq ?_
  refine run_region rfl ?_
  refine runl_ev (ev_build (out := hcells (hash1 1)) ps_25 zero_25 rfl rfl (rfl)) ?_
  refine runl_op (t_call call_26 rfl (dirnew_any (hash1 1) rfl _)) ?_
  rintro _ w3 ⟨db, rfl, at3⟩
  skip
  refine runl_ev (ev_assign rfl) ?_
  refine runl_nil ?_
  refine run_seq ?_
  refine run_region rfl ?_
  refine runl_ev (ev_move rfl) ?_
  refine runl_ev (ev_neqPn Tryz.underlying83 rfl rfl) ?_
  refine runl_ev (ev_move rfl) ?_
  refine runl_ev_g rfl rfl (rfl) (ev_move rfl) ?_
  refine runl_ev_g rfl rfl (rfl) (ev_build (out := tgtZ0.cells) ps_82 zero_82 rfl rfl (rfl)) ?_
  refine runl_op_g rfl rfl (rfl) (t_call call_29 rfl (assign_any at3 aB tgtZ0 tgtZ0_wf List.Pairwise.nil (by decide) List.Pairwise.nil (by decide) (fun _ h => by cases h))) ?_
  rintro _ w9 ⟨rfl, at9, -⟩
  replace at9 : DirAt (fun _ => False) w db [] (.new (hash1 1)) w9 := at9
  skip
  refine runl_ev_g rfl rfl (rfl) (ev_eqlI rfl rfl) ?_
  refine runl_ev (ev_pick rfl rfl rfl (if_pos (rfl))) ?_
  refine runl_ev (ev_move rfl) ?_
  refine runl_ev_g rfl rfl (rfl) (ev_move rfl) ?_
  refine runl_ev_g rfl rfl (rfl) (ev_build (out := hcells z32) ps_25 zero_25 rfl rfl (rfl)) ?_
  refine runl_op_g rfl rfl (rfl) (t_call call_28 rfl (enroll_any at9 aB hB z32 z32_len List.Pairwise.nil (by decide))) ?_
  rintro _ w15 ⟨rfl, at15⟩
  rw [known_enr] at at15 ⊢
  skip
  refine runl_ev_g rfl rfl (rfl) (ev_eqlI rfl rfl) ?_
  refine runl_ev (ev_pick rfl rfl rfl (if_pos (rfl))) ?_
  refine runl_ev (ev_move rfl) ?_
  refine runl_ev_g rfl rfl (rfl) (ev_move rfl) ?_
  refine runl_ev_g rfl rfl (rfl) (ev_build (out := xT.cells) ps_82 zero_82 rfl rfl (rfl)) ?_
  refine runl_op_g rfl rfl (rfl) (t_call call_29 rfl (assign_any at15 aB xT xT_wf known_srt (by decide) List.Pairwise.nil (by decide) (fun _ h => by cases h))) ?_
  rintro _ w21 ⟨rfl, at21, -⟩
  rw [show (asnF [⟨aB, hB, z32⟩] (RepoS.new (hash1 1)).l aB xT).2 = 0 from known_asn]
  skip
  refine runl_ev_g rfl rfl (rfl) (ev_eqlI rfl rfl) ?_
  refine runl_ev (ev_pick rfl rfl rfl (if_pos (rfl))) ?_
  refine runl_ev (ev_assign rfl) ?_
  refine runl_nil ?_
  refine run_ret_any Tryz.func32 (res1 Tryz.results32 rfl) ?_
  exact ⟨rfl, at21.e⟩
end Go.Proofs.YtlgkdnmklgbhbaaGreatDoor
/- The walk of the law on how many ECUs a Director has. -/
namespace Go.Proofs.YtlgkdnmklgbhbaaGreatDoor
open Go Go.Fw
set_option maxRecDepth 100000
def chB (j : Nat) : ByteArray := ⟨#[UInt8.ofNat (97 + j)]⟩
def mkL (k : Nat) : List Veh := (List.range (min k 4)).map fun j => ⟨chB j, hB, z32⟩
def h1B : ByteArray := ⟨#[104, 49]⟩
def upB : ByteArray := ⟨#[65]⟩
theorem mk_enr : ∀ k : Nat, k < 10 → enrF (mkL k) (chB k) hB z32 = (mkL (k + 1), if k < 4 then 0 else 12) := by decide +kernel
theorem mk_srt : ∀ k : Nat, k < 10 → SrtV (mkL k) := by unfold SrtV; decide +kernel
theorem mkl_len (k : Nat) : (mkL k).length ≤ 4 := by simp [mkL]; omega
def mkL2 (m : Nat) : List Veh := (mkL m).set 0 ⟨aB, h1B, hash1 1⟩
theorem mk_enr2 : ∀ m : Nat, m < 10 → 0 < m → enrF (mkL m) aB h1B (hash1 1) = (mkL2 m, 0) := by decide +kernel
theorem mk_srt2 : ∀ m : Nat, m < 10 → SrtV (mkL2 m) := by unfold SrtV; decide +kernel
theorem mkl_len2 (k : Nat) : (mkL2 k).length ≤ 4 := by unfold mkL2; rw [List.length_set]; exact mkl_len k
theorem enr_up (L : List Veh) : enrF L upB hB z32 = (L, 1) := by unfold enrF; rw [if_neg (by decide)]
theorem ch_raw : ∀ k : Nat, k < 10 → IntKind.u8.wrap ((97 + k : Nat) : Int) = ((UInt8.ofNat (97 + k)).toNat : Int) := by decide +kernel

theorem lawMany_any (n : Int) (w : World) : Ret Tryz.prog 7 [.int .i64 n] w fun r w' => r = .bool true ∧ Ext w w' := by
  have e := ExtB.refl (fun _ => False) w
  refine ret_of_run Tryz.func7 rfl Tryz.ntmps7 rfl ?_
  refine run_seq ?_
  refine run_region rfl ?_
  refine runl_ev (ev_assign rfl) ?_
  refine runl_nil ?_
  refine run_seq ?_
  refine run_seq ?_
  by_cases hneg : n < 0
  · refine run_region rfl ?_
    refine runl_ev (ev_move rfl) ?_
    refine runl_ev (ev_lss rfl rfl) ?_
    refine runl_ev (ev_move rfl) ?_
    refine runl_no_g rfl rfl (decide_eq_true hneg) ?_
    refine runl_no_g rfl rfl (decide_eq_true hneg) ?_
    refine runl_ev (ev_pick rfl rfl rfl (if_pos (decide_eq_true hneg))) ?_
    refine runl_nil ?_
    refine run_cond_true rfl (rfl) ?_
    refine run_seq ?_
    refine run_region rfl ?_
    refine runl_op (t_call call_32 rfl (known17_any _)) ?_
    rintro _ w12 ⟨rfl, e12⟩
    have z12 := e12.size
    replace e := e.trans e12
    refine runl_ev (ev_assign rfl) ?_
    refine runl_nil ?_
    refine run_ret_any Tryz.func7 (res1 Tryz.results7 rfl) ?_
    exact ⟨rfl, e⟩
  · refine run_region rfl ?_
    refine runl_ev (ev_move rfl) ?_
    refine runl_ev (ev_lss rfl rfl) ?_
    refine runl_ev (ev_move rfl) ?_
    refine runl_ev_g rfl rfl (decide_eq_false hneg) (ev_move rfl) ?_
    refine runl_ev_g rfl rfl (decide_eq_false hneg) (ev_gtr rfl rfl) ?_
    refine runl_ev (ev_pick rfl rfl rfl (if_neg (by simp [hneg]))) ?_
    refine runl_nil ?_
    refine run_dcond rfl (fun h1 => ?_) (fun h1 => ?_)
    · refine run_seq ?_
      refine run_region rfl ?_
      refine runl_op (t_call call_32 rfl (known17_any _)) ?_
      rintro _ w12x1 ⟨rfl, e12x1⟩
      have z12x1 := e12x1.size
      replace e := e.trans e12x1
      refine runl_ev (ev_assign rfl) ?_
      refine runl_nil ?_
      refine run_ret_any Tryz.func7 (res1 Tryz.results7 rfl) ?_
      exact ⟨rfl, e⟩
    · obtain ⟨m, rfl⟩ : ∃ m : Nat, n = m := ⟨n.toNat, by omega⟩
      have hm9 : m < 10 := by omega
      refine run_skip ?_
      refine run_seq ?_
      refine run_region rfl ?_
      refine runl_ev (ev_build (out := hcells (hash1 6)) ps_25 zero_25 rfl rfl (rfl)) ?_
      refine runl_op (t_call call_26 rfl (dirnew_any (hash1 6) rfl _)) ?_
      rintro _ w14 ⟨db, rfl, at14⟩
      skip
      refine runl_ev (ev_assign rfl) ?_
      refine runl_nil ?_
      refine run_seq ?_
      refine run_seq ?_
      refine run_region rfl ?_
      refine runl_ev (ev_move rfl) ?_
      refine runl_ev (ev_eqlPn Tryz.underlying83 rfl rfl) ?_
      refine runl_nil ?_
      refine run_cond_false rfl (rfl) ?_
      refine run_skip ?_
      refine run_seq ?_
      refine run_seq ?_
      refine run_region rfl ?_
      refine runl_ev (ev_assign rfl) ?_
      refine runl_nil ?_
      refine run_block ?_
      refine run_loop (ι := Nat) (fun k => [(0, .int .i64 (m : Int)), (3, .pointer (some ⟨db, 0, none⟩)), (4, .int .i64 (k : Int))]) (fun k w' => k ≤ m ∧ DirAt (fun _ => False) w db (mkL k) (.new (hash1 6)) w') (fun k => m - k) (0) ⟨rfl, rfl, rfl, trivial⟩ (⟨Nat.zero_le _, at14⟩) ?_
      clear at14
      intro k w1 ⟨hk, atk⟩ IH
      have hk9 : k < 10 := by omega
      have x := ExtB.refl (fun _ => False) w1
      refine run_seq ?_
      refine run_seq ?_
      refine run_region rfl ?_
      refine runl_ev (ev_move rfl) ?_
      refine runl_ev (ev_move rfl) ?_
      refine runl_ev (ev_lss rfl rfl) ?_
      refine runl_nil ?_
      refine run_dcond rfl (fun h2 => ?_) (fun h2 => ?_)
      · refine run_skip ?_
        refine run_seq ?_
        refine run_block ?_
        refine run_seq ?_
        refine run_region rfl ?_
        refine runl_ev (ev_move rfl) ?_
        refine runl_ev (ev_move rfl) ?_
        refine runl_ev (ev_addK (((97 + k : Nat) : Int)) rfl rfl (by rw [show (97 : Int) + (k : Int) = ((97 + k : Nat) : Int) by omega]; exact wrap_i64 (by omega) (by omega))) ?_
        refine runl_ev (ev_convI ((((UInt8.ofNat (97 + k)).toNat : Nat) : Int)) Tryz.underlying3 Tryz.underlying5 rfl (ch_raw k hk9)) ?_
        refine runl_op (t_buildSlice (out := [.int .u8 (((UInt8.ofNat (97 + k)).toNat : Nat) : Int)]) Tryz.underlying29 sz_5 zero_5 rfl rfl (by decide) (by decide) rfl (rfl)) ?_
        rintro _ w26 ⟨b26, rfl, hb26, e26, n26, l26⟩
        have z26 := e26.size
        replace x := x.trans e26
        refine runl_ev (ev_convB ([UInt8.ofNat (97 + k)]) Tryz.underlying29 Tryz.underlying5 Tryz.underlying9 rfl (eqw (sl_lit hb26 (pc rfl pn)))) ?_
        refine runl_ev (ev_build (out := hcells z32) ps_25 zero_25 rfl rfl (rfl)) ?_
        refine runl_op (t_call call_28 rfl (enroll_any (atk.ext x) (chB k) hB z32 z32_len (mk_srt k hk9) (mkl_len k))) ?_
        rintro _ w29 ⟨rfl, at29⟩
        rw [mk_enr k hk9] at at29 ⊢
        skip
        refine runl_ev (ev_assign rfl) ?_
        refine runl_nil ?_
        refine run_seq ?_
        by_cases hk4 : k < 4
        · have hc : (if k < 4 then (0 : Int) else 12) = 0 := if_pos hk4
          simp only [hc]
          refine run_region rfl ?_
          refine runl_ev (ev_move rfl) ?_
          refine runl_ev (ev_eqlI rfl rfl) ?_
          refine runl_ev (ev_move rfl) ?_
          refine runl_ev (ev_lss rfl rfl) ?_
          refine runl_ev (ev_neqB Tryz.underlying4 rfl rfl) ?_
          refine runl_ev (ev_move rfl) ?_
          refine runl_ev_g rfl rfl (by simp; omega) (ev_move rfl) ?_
          refine runl_ev_g rfl rfl (by simp; omega) (ev_neqI rfl rfl) ?_
          refine runl_ev_g rfl rfl (by simp; omega) (ev_move rfl) ?_
          refine runl_no_g rfl rfl (rfl) ?_
          refine runl_no_g rfl rfl (rfl) ?_
          refine runl_ev_g rfl rfl (by simp; omega) (ev_pick rfl rfl rfl (if_neg (by simp))) ?_
          refine runl_ev (ev_pick rfl rfl rfl (if_neg (by simp; omega))) ?_
          refine runl_nil ?_
          refine run_cond_false rfl (rfl) ?_
          refine run_skip ?_
          refine run_inBlock ?_
          refine run_region rfl ?_
          refine runl_ev (ev_move rfl) ?_
          refine runl_ev (ev_add rfl rfl (by omega) (by omega)) ?_
          refine runl_ev (ev_assign rfl) ?_
          refine runl_nil ?_
          exact IH (k + 1) _ _ (by omega) ⟨rfl, rfl, rfl, trivial⟩ ⟨by omega, at29⟩
        · have hc : (if k < 4 then (0 : Int) else 12) = 12 := if_neg hk4
          simp only [hc]
          refine run_region rfl ?_
          refine runl_ev (ev_move rfl) ?_
          refine runl_ev (ev_eqlI rfl rfl) ?_
          refine runl_ev (ev_move rfl) ?_
          refine runl_ev (ev_lss rfl rfl) ?_
          refine runl_ev (ev_neqB Tryz.underlying4 rfl rfl) ?_
          refine runl_ev (ev_move rfl) ?_
          refine runl_ev_g rfl rfl (by simp; omega) (ev_move rfl) ?_
          refine runl_ev_g rfl rfl (by simp; omega) (ev_neqI rfl rfl) ?_
          refine runl_ev_g rfl rfl (by simp; omega) (ev_move rfl) ?_
          refine runl_ev_g rfl rfl (rfl) (ev_move rfl) ?_
          refine runl_ev_g rfl rfl (rfl) (ev_neqI rfl rfl) ?_
          refine runl_ev_g rfl rfl (by simp; omega) (ev_pick rfl rfl rfl (if_pos (by simp))) ?_
          refine runl_ev (ev_pick rfl rfl rfl (if_neg (by simp; omega))) ?_
          refine runl_nil ?_
          refine run_cond_false rfl (rfl) ?_
          refine run_skip ?_
          refine run_inBlock ?_
          refine run_region rfl ?_
          refine runl_ev (ev_move rfl) ?_
          refine runl_ev (ev_add rfl rfl (by omega) (by omega)) ?_
          refine runl_ev (ev_assign rfl) ?_
          refine runl_nil ?_
          exact IH (k + 1) _ _ (by omega) ⟨rfl, rfl, rfl, trivial⟩ ⟨by omega, at29⟩
      · obtain rfl : k = m := by omega
        refine run_exit rfl ?_
        refine run_seq ?_
        by_cases hm0 : k = 0
        · refine run_region rfl ?_
          refine runl_ev (ev_move rfl) ?_
          refine runl_ev (ev_eqlI rfl rfl) ?_
          refine runl_ev (ev_move rfl) ?_
          refine runl_no_g rfl rfl (decide_eq_true (by omega)) ?_
          refine runl_no_g rfl rfl (decide_eq_true (by omega)) ?_
          refine runl_no_g rfl rfl (decide_eq_true (by omega)) ?_
          refine runl_no_g rfl rfl (decide_eq_true (by omega)) ?_
          refine runl_ev (ev_pick rfl rfl rfl (if_pos (decide_eq_true (by omega)))) ?_
          refine runl_ev (ev_move rfl) ?_
          refine runl_ev_g rfl rfl (rfl) (ev_move rfl) ?_
          refine runl_ev_g rfl rfl (rfl) (ev_build (out := hcells z32) ps_25 zero_25 rfl rfl (rfl)) ?_
          refine runl_op_g rfl rfl (rfl) (t_call call_28 rfl (enroll_any (atk.ext x) upB hB z32 z32_len (mk_srt k hk9) (mkl_len k))) ?_
          rintro _ w54 ⟨rfl, at54⟩
          rw [enr_up] at at54 ⊢
          have e := at54.e
          skip
          refine runl_ev_g rfl rfl (rfl) (ev_eqlI rfl rfl) ?_
          refine runl_ev (ev_pick rfl rfl rfl (if_pos (rfl))) ?_
          refine runl_ev (ev_move rfl) ?_
          refine runl_ev_g rfl rfl (rfl) (ev_move rfl) ?_
          refine runl_op_g rfl rfl (rfl) (t_call call_33 rfl (inv_any at54 (Nat.le_trans (mkl_len k) (by decide)))) ?_
          rintro _ w59 ⟨rfl, e59⟩
          replace e := e.trans e59
          refine runl_ev_g rfl rfl (rfl) (ev_lenL sl_92 rfl) ?_
          refine runl_ev_g rfl rfl (rfl) (ev_eqlI rfl rfl) ?_
          refine runl_ev (ev_pick rfl rfl rfl (if_pos (rfl))) ?_
          refine runl_ev (ev_move rfl) ?_
          refine runl_op_g rfl rfl (rfl) (t_call call_32 rfl (known17_any _)) ?_
          rintro _ w64 ⟨rfl, e64⟩
          replace e := e.trans e64
          refine runl_ev (ev_pick rfl rfl rfl (if_pos (rfl))) ?_
          refine runl_ev (ev_assign rfl) ?_
          refine runl_nil ?_
          refine run_ret_any Tryz.func7 (res1 Tryz.results7 rfl) ?_
          exact ⟨rfl, e⟩
        · refine run_region rfl ?_
          refine runl_ev (ev_move rfl) ?_
          refine runl_ev (ev_eqlI rfl rfl) ?_
          refine runl_ev (ev_move rfl) ?_
          refine runl_ev_g rfl rfl (decide_eq_false (by omega)) (ev_move rfl) ?_
          refine runl_ev_g rfl rfl (decide_eq_false (by omega)) (ev_build (out := hcells (hash1 1)) ps_25 zero_25 rfl rfl (rfl)) ?_
          refine runl_op_g rfl rfl (decide_eq_false (by omega)) (t_call call_28 rfl (enroll_any (atk.ext x) aB h1B (hash1 1) rfl (mk_srt k hk9) (mkl_len k))) ?_
          rintro _ w48 ⟨rfl, at48⟩
          rw [mk_enr2 k hk9 (by omega)] at at48 ⊢
          skip
          refine runl_ev_g rfl rfl (decide_eq_false (by omega)) (ev_eqlI rfl rfl) ?_
          refine runl_ev (ev_pick rfl rfl rfl (if_neg (by simp; omega))) ?_
          refine runl_ev (ev_move rfl) ?_
          refine runl_ev_g rfl rfl (rfl) (ev_move rfl) ?_
          refine runl_ev_g rfl rfl (rfl) (ev_build (out := hcells z32) ps_25 zero_25 rfl rfl (rfl)) ?_
          refine runl_op_g rfl rfl (rfl) (t_call call_28 rfl (enroll_any at48 upB hB z32 z32_len (mk_srt2 k hk9) (mkl_len2 k))) ?_
          rintro _ w54 ⟨rfl, at54⟩
          rw [enr_up] at at54 ⊢
          have e := at54.e
          skip
          refine runl_ev_g rfl rfl (rfl) (ev_eqlI rfl rfl) ?_
          refine runl_ev (ev_pick rfl rfl rfl (if_pos (rfl))) ?_
          refine runl_ev (ev_move rfl) ?_
          refine runl_ev_g rfl rfl (rfl) (ev_move rfl) ?_
          refine runl_op_g rfl rfl (rfl) (t_call call_33 rfl (inv_any at54 (Nat.le_trans (mkl_len2 k) (by decide)))) ?_
          rintro _ w59 ⟨rfl, e59⟩
          replace e := e.trans e59
          refine runl_ev_g rfl rfl (rfl) (ev_lenL sl_92 rfl) ?_
          refine runl_ev_g rfl rfl (rfl) (ev_eqlI rfl rfl) ?_
          refine runl_ev (ev_pick rfl rfl rfl (if_pos (rfl))) ?_
          refine runl_ev (ev_move rfl) ?_
          refine runl_op_g rfl rfl (rfl) (t_call call_32 rfl (known17_any _)) ?_
          rintro _ w64 ⟨rfl, e64⟩
          replace e := e.trans e64
          refine runl_ev (ev_pick rfl rfl rfl (if_pos (rfl))) ?_
          refine runl_ev (ev_assign rfl) ?_
          refine runl_nil ?_
          refine run_ret_any Tryz.func7 (res1 Tryz.results7 rfl) ?_
          exact ⟨rfl, e⟩
end Go.Proofs.YtlgkdnmklgbhbaaGreatDoor
/- The walk of the law on what an ECU is assigned. -/
namespace Go.Proofs.YtlgkdnmklgbhbaaGreatDoor
open Go Go.Fw
set_option maxRecDepth 100000
def h0B : ByteArray := ⟨#[104, 48]⟩
def LA : List Veh := [⟨aB, h0B, z32⟩]
theorem la_enr : enrF [] aB h0B z32 = (LA, 0) := by
  unfold enrF
  rw [if_pos (by decide)]
  rfl
theorem la_srt : SrtV LA := List.pairwise_singleton _ _
theorem la_fnd : fndV LA aB = true := by decide
theorem aB_ne : ¬ aB = ⟨#[]⟩ := by decide
theorem asg_nil (nm : ByteArray) : asgF [] nm = none := by
  unfold asgF
  split
  · rfl
  · rfl
theorem asg_one {u : Tgt} (h : u.ecu = aB) : asgF [u] aB = some u := by
  have h0 : idxOf (fun t : Tgt => decide (t.ecu = aB)) [u] = (0 : Nat) := idxOf_hit (k := 0) (by simp) (fun j x hj => absurd hj (Nat.not_lt_zero _)) (by simp [h])
  unfold asgF
  rw [if_neg aB_ne, h0, if_neg (by decide)]
  rfl
theorem put_nil {t : Tgt} (h : isTgsB [t] = true) : putF [] t = ([t], 0) := by
  unfold putF
  rw [if_pos h]
  rfl
theorem rem_one (u : Tgt) : (remF [u] (remT u.name u.ecu)).1 = [] := by
  have h0 : ordF u (remT u.name u.ecu) = 0 := (ordF_eq _ _).2 ⟨rfl, rfl⟩
  have hp : posF [u] (remT u.name u.ecu) = 0 := by unfold posF; simp [List.takeWhile, h0]
  have hf : fndF [u] (remT u.name u.ecu) = true := by rw [fnd_in hp (by simp)]; simp [h0]
  unfold remF
  rw [if_pos hf, hp]
  rfl
/-- What is assigned: nothing, or a target of that ECU and its hardware. -/
def AsO (o : Option Tgt) : Prop := ∀ u, o = some u → u.ecu = aB ∧ u.hw = h0B ∧ u.wf
theorem asg_opt {o : Option Tgt} (h : AsO o) : asgF o.toList aB = o := by
  cases o with
  | none => exact asg_nil _
  | some u => exact asg_one (h u rfl).1
theorem asn_yes {o : Option Tgt} (h : AsO o) {t : Tgt} (h1 : t.hw = h0B) (h2 : isTgsB [{ t with ecu := aB }] = true) : asnF LA o.toList aB t = ((some ({ t with ecu := aB } : Tgt)).toList, 0) := by
  rw [asn_in la_fnd, if_pos ⟨h1, h2⟩, asg_opt h]
  cases o with
  | none => exact put_nil h2
  | some u =>
    show putF (remF [u] (remT u.name u.ecu)).1 _ = _
    rw [rem_one]
    exact put_nil h2
theorem asn_no {o : Option Tgt} {t : Tgt} (h1 : ¬ (t.hw = h0B ∧ isTgsB [{ t with ecu := aB }] = true)) : asnF LA o.toList aB t = (o.toList, 1) := by
  rw [asn_in la_fnd]
  exact if_neg (show ¬ (t.hw = (LA[posV LA aB]'(fndV_lt la_fnd)).hw ∧ _) from h1)
theorem opt_srt (o : Option Tgt) : Srt o.toList := by
  cases o with
  | none => exact List.Pairwise.nil
  | some u => exact List.pairwise_singleton _ _
theorem opt_len (o : Option Tgt) : o.toList.length ≤ 1 := by cases o <;> simp
theorem opt_len16 (o : Option Tgt) : o.toList.length ≤ 16 := by cases o <;> simp
theorem opt_lenK (o : Option Tgt) : o.toList.length ≤ 1000 := by cases o <;> simp
theorem opt_lenM (o : Option Tgt) : o.toList.length ≤ 100000000 := by cases o <;> simp
theorem opt_wf {o : Option Tgt} (h : AsO o) : ∀ t ∈ o.toList, t.wf := by
  intro t ht
  cases o with
  | none => cases ht
  | some u =>
    simp only [Option.toList_some, List.mem_singleton] at ht
    subst ht
    exact (h t rfl).2.2
theorem DirAt.turn1 {b : Nat} {w0 w w2 : World} {db : Nat} {L : List Veh} {S : RepoS} (h : DirAt (fun k => k = b) w0 db L S w) (e : ExtB (fun k => k = b) w w2) (hb : w0.heap.size ≤ b) : DirAt (fun k => k = b) w0 db L S w2 := by
  obtain ⟨rb, F, lv, vg, r⟩ := h
  obtain ⟨k1, k2, k3, k4⟩ := r.kp b rfl
  have hz := e.size
  exact ⟨rb, F, lv, vg, ⟨e.at r.hb (fun h => k2 h.symm), r.ol.keep e (fun k hk h => by have h : k = b := h; omega), r.wf, r.rp.step e (fun k hF h => by have h : k = b := h; subst h; exact k1 hF), r.fd, r.fv, r.vd, by have := r.vl; omega, r.f0, r.d0, r.v0, r.e.new e (fun k hk => by have hk : k = b := hk; omega), fun k hk => by have hk : k = b := hk; subst hk; exact ⟨k1, k2, k3, by omega⟩⟩⟩
theorem opt_get {o : Option Tgt} (h : AsO o) : (o.getD tgtZ0).wf := by
  cases o with
  | none => exact tgtZ0_wf
  | some u => exact (h u rfl).2.2

theorem lawAssigns_any (ls : List Tgt) (a : Option Addr) (n c : Nat) (w : World) (hsl : SlAt 37 RTgt w (.slice a n c) ls) (hz : ∀ t ∈ ls, t.name.size ≤ 1099511627776 ∧ t.hw.size ≤ 1099511627776 ∧ t.ecu.size ≤ 1099511627776) : Ret Tryz.prog 6 [.slice a n c] w fun r w' => r = .bool true ∧ Ext w w' := by
  have e := ExtB.refl (fun _ => False) w
  have hsl0 := hsl
  obtain ⟨rfl, hat⟩ := hsl.at
  refine ret_of_run Tryz.func6 rfl Tryz.ntmps6 rfl ?_
  refine run_seq ?_
  refine run_region rfl ?_
  refine runl_ev (ev_assign rfl) ?_
  refine runl_nil ?_
  refine run_seq ?_
  refine run_seq ?_
  refine run_region rfl ?_
  refine runl_ev (ev_move rfl) ?_
  refine runl_ev (ev_lenL sl_45 rfl) ?_
  refine runl_ev (ev_gtr rfl rfl) ?_
  refine runl_nil ?_
  refine run_dcond rfl (fun h0 => ?_) (fun h0 => ?_)
  · refine run_seq ?_
    refine run_region rfl ?_
    refine runl_ev (ev_assign rfl) ?_
    refine runl_nil ?_
    refine run_ret_any Tryz.func6 (res1 Tryz.results6 rfl) ?_
    exact ⟨rfl, e⟩
  · refine run_skip ?_
    refine run_seq ?_
    refine run_seq ?_
    refine run_region rfl ?_
    refine runl_ev (ev_assign rfl) ?_
    refine runl_nil ?_
    refine run_block ?_
    refine run_loop (ι := Nat) (fun k => [(0, .slice a ls.length c), (3, .int .i64 (k : Int))]) (fun k w' => k ≤ ls.length ∧ Ext w w') (fun k => ls.length - k) (0) ⟨rfl, rfl, trivial⟩ (⟨Nat.zero_le _, e⟩) ?_
    clear e
    intro k w1 ⟨hk, e⟩ IH
    refine run_seq ?_
    refine run_seq ?_
    refine run_region rfl ?_
    refine runl_ev (ev_move rfl) ?_
    refine runl_ev (ev_move rfl) ?_
    refine runl_ev (ev_lenL sl_45 rfl) ?_
    refine runl_ev (ev_lss rfl rfl) ?_
    refine runl_nil ?_
    refine run_dcond rfl (fun h1 => ?_) (fun h1 => ?_)
    · have hk1 : k < ls.length := by omega
      obtain ⟨bb, bo, cs1, rfl, ⟨hw1, rfl⟩, hc1⟩ := hat k hk1
      obtain ⟨z1, z2, z3⟩ := hz ls[k] (List.getElem_mem hk1)
      refine run_skip ?_
      refine run_seq ?_
      refine run_block ?_
      refine run_seq ?_
      refine run_draw mo (fun w' => Ext w1 w') [] [(true, 0), (true, 1), (true, 2), (true, 3), (true, 4), (true, 5), (true, 6), (true, 7), (true, 8), (true, 9), (true, 10), (true, 11), (true, 12), (true, 13), (true, 14), (true, 15), (true, 16), (true, 17), (true, 18), (true, 19), (true, 20)] (by kernel_rfl) ?_
      intro wr6 er6
      have zr6 := er6.size
      have hsr6 := er6
      refine rund_ev hsr6 rfl (ev_move rfl) ?_
      refine rund_ev hsr6 rfl (ev_move rfl) ?_
      refine rund_ev hsr6 rfl (ev_indexAddr (k := k) el_45 rfl rfl (by omega)) ?_
      refine rund_ev hsr6 rfl (ev_fieldAddr fld_82_0 rfl) ?_
      refine rund_ev hsr6 rfl (ev_load1 cell_9 rfl (fun wz hz => (hc1.ext (e.trans hz)).pick 0 rfl (Tgt.c0 _))) ?_
      refine rund_ev hsr6 rfl (ev_lenS str_9 rfl) ?_
      refine rund_ev hsr6 rfl (ev_move rfl) ?_
      refine rund_ev hsr6 rfl (ev_move rfl) ?_
      refine rund_ev hsr6 rfl (ev_indexAddr (k := k) el_45 rfl rfl (by omega)) ?_
      refine rund_ev hsr6 rfl (ev_fieldAddr fld_82_3 rfl) ?_
      refine rund_ev hsr6 rfl (ev_load1 cell_9 rfl (fun wz hz => (hc1.ext (e.trans hz)).pick 34 rfl (Tgt.c34 hw1))) ?_
      refine rund_ev hsr6 rfl (ev_lenS str_9 rfl) ?_
      refine rund_ev hsr6 rfl (ev_add rfl rfl (by omega) (by omega)) ?_
      refine rund_ev hsr6 rfl (ev_move rfl) ?_
      refine rund_ev hsr6 rfl (ev_move rfl) ?_
      refine rund_ev hsr6 rfl (ev_indexAddr (k := k) el_45 rfl rfl (by omega)) ?_
      refine rund_ev hsr6 rfl (ev_fieldAddr fld_82_5 rfl) ?_
      refine rund_ev hsr6 rfl (ev_load1 cell_9 rfl (fun wz hz => (hc1.ext (e.trans hz)).pick 36 rfl (Tgt.c36 hw1))) ?_
      refine rund_ev hsr6 rfl (ev_lenS str_9 rfl) ?_
      refine rund_ev hsr6 rfl (ev_add rfl rfl (by omega) (by omega)) ?_
      refine rund_ev hsr6 rfl (ev_gtr rfl rfl) ?_
      refine rund_nil ?_
      replace e := e.trans er6
      refine run_dcond rfl (fun h2 => ?_) (fun h2 => ?_)
      · refine run_seq ?_
        refine run_region rfl ?_
        refine runl_ev (ev_assign rfl) ?_
        refine runl_nil ?_
        refine run_ret_any Tryz.func6 (res1 Tryz.results6 rfl) ?_
        exact ⟨rfl, e⟩
      · refine run_skip ?_
        refine run_inBlock ?_
        refine run_region rfl ?_
        refine runl_ev (ev_move rfl) ?_
        refine runl_ev (ev_add rfl rfl (by omega) (by omega)) ?_
        refine runl_ev (ev_assign rfl) ?_
        refine runl_nil ?_
        exact IH (k + 1) _ _ (by omega) ⟨rfl, rfl, trivial⟩ ⟨hk1, e⟩
    · refine run_exit rfl ?_
      refine run_seq ?_
      refine run_region rfl ?_
      refine runl_ev (ev_build (out := hcells (hash1 5)) ps_25 zero_25 rfl rfl (rfl)) ?_
      refine runl_op (t_call call_26 rfl (dirnew_any (hash1 5) rfl _)) ?_
      rintro _ w41 ⟨db, rfl, at41⟩
      have ew1 := e
      replace e := e.trans at41.e
      skip
      refine runl_ev (ev_assign rfl) ?_
      refine runl_nil ?_
      refine run_seq ?_
      refine run_seq ?_
      refine run_region rfl ?_
      refine runl_ev (ev_move rfl) ?_
      refine runl_ev (ev_eqlPn Tryz.underlying83 rfl rfl) ?_
      refine runl_ev (ev_move rfl) ?_
      refine runl_ev_g rfl rfl (rfl) (ev_move rfl) ?_
      refine runl_op_g rfl rfl (rfl) (t_call call_27 rfl (dirrepo_any at41)) ?_
      rintro _ w46 ⟨rb, F, rfl, -, e46⟩
      have at46 := at41.ext e46
      have z46 := e46.size
      replace e := e.trans e46
      refine runl_ev_g rfl rfl (rfl) (ev_eqlPn Tryz.underlying22 rfl rfl) ?_
      refine runl_ev (ev_pick rfl rfl rfl (if_neg (by simp))) ?_
      refine runl_ev (ev_move rfl) ?_
      refine runl_ev_g rfl rfl (rfl) (ev_move rfl) ?_
      refine runl_ev_g rfl rfl (rfl) (ev_build (out := hcells z32) ps_25 zero_25 rfl rfl (rfl)) ?_
      refine runl_op_g rfl rfl (rfl) (t_call call_28 rfl (enroll_any at46 aB h0B z32 z32_len List.Pairwise.nil (by decide))) ?_
      rintro _ w52 ⟨rfl, at52⟩
      rw [la_enr] at at52 ⊢
      replace e := ew1.trans at52.e
      skip
      refine runl_ev_g rfl rfl (rfl) (ev_neqI rfl rfl) ?_
      refine runl_ev (ev_pick rfl rfl rfl (if_neg (by simp))) ?_
      refine runl_nil ?_
      refine run_cond_false rfl (rfl) ?_
      refine run_skip ?_
      refine run_seq ?_
      refine run_region rfl ?_
      refine runl_op (t_alloc zero_82 rfl) ?_
      rintro _ w5 ⟨b5, rfl, hb5, e5, n5, l5⟩
      have z5 := e5.size
      replace e := e.trans e5
      have h1b5 : w1.heap.size ≤ b5 := by have := at52.e.size; omega
      have zb5 : w.heap.size ≤ b5 := by have := ew1.size; omega
      refine runl_nil ?_
      refine run_seq ?_
      refine run_region rfl ?_
      refine runl_ev (ev_assign rfl) ?_
      refine runl_nil ?_
      refine run_seq ?_
      refine run_seq ?_
      refine run_region rfl ?_
      refine runl_ev (ev_assign rfl) ?_
      refine runl_nil ?_
      refine run_block ?_
      refine run_loop (ι := Nat × Option Tgt) (fun x => [(0, .slice a ls.length c), (4, .pointer (some ⟨db, 0, none⟩)), (5, .pointer (some ⟨b5, 0, none⟩)), (6, .bool x.2.isSome), (7, .int .i64 (x.1 : Int))]) (fun x w' => x.1 ≤ ls.length ∧ DirAt (fun k => k = b5) w1 db LA { RepoS.new (hash1 5) with l := x.2.toList } w' ∧ AsO x.2 ∧ w'.heap[b5]? = some (.cells ⟨(x.2.getD tgtZ0).cells⟩ 82 (0, 0)) ∧ Ext w w') (fun x => ls.length - x.1) ((0, none)) ⟨rfl, rfl, rfl, rfl, rfl, trivial⟩ (⟨Nat.zero_le _, at52.watch e5 n5 l5, fun u h => (by cases h), hb5, e⟩) ?_
      clear hb5 e
      intro ⟨k, o⟩ w2 ⟨hk, at2, ho, hb5, e⟩ IH
      simp only at hk at2 ho hb5
      have x := ExtB.refl (fun _ => False) w2
      have lb5 := lt_of_at hb5
      refine run_seq ?_
      refine run_seq ?_
      refine run_region rfl ?_
      refine runl_ev (ev_move rfl) ?_
      refine runl_ev (ev_move rfl) ?_
      refine runl_ev (ev_lenL sl_45 rfl) ?_
      refine runl_ev (ev_lss rfl rfl) ?_
      refine runl_nil ?_
      refine run_dcond rfl (fun h4 => ?_) (fun h4 => ?_)
      · have hk1 : k < ls.length := by omega
        obtain ⟨bb, bo, cs1, rfl, ⟨hw1, rfl⟩, hc1⟩ := hat k hk1
        have ht2 : ({ ls[k] with ecu := aB } : Tgt).wf := hw1
        refine run_skip ?_
        refine run_seq ?_
        refine run_block ?_
        refine run_seq ?_
        refine run_seq ?_
        rcases (show (ls[k].hw = h0B ∧ isTgsB [{ ls[k] with ecu := aB }] = true) ∨ (¬ (ls[k].hw = h0B ∧ isTgsB [{ ls[k] with ecu := aB }] = true) ∧ o = none) ∨ ∃ u, ¬ (ls[k].hw = h0B ∧ isTgsB [{ ls[k] with ecu := aB }] = true) ∧ o = some u by by_cases h : (ls[k].hw = h0B ∧ isTgsB [{ ls[k] with ecu := aB }] = true) <;> cases o <;> simp [h]) with hc | ⟨hc, hoe⟩ | ⟨u, hc, hoe⟩
        · have has := asn_yes ho hc.1 hc.2
          have ho2 : AsO (some { ls[k] with ecu := aB }) := fun u hu => by cases hu; exact ⟨rfl, hc.1, ht2⟩
          refine run_region rfl ?_
          refine runl_ev (ev_move rfl) ?_
          refine runl_ev (ev_move rfl) ?_
          refine runl_ev (ev_move rfl) ?_
          refine runl_ev (ev_indexAddr (k := k) el_45 rfl rfl (by omega)) ?_
          refine runl_ev (ev_loadA agg_82 (Tgt.cells_length hw1) rfl (eqw (hc1.ext e))) ?_
          refine runl_op (t_call call_29 rfl (assign_any (at2.ext x) aB ls[k] hw1 la_srt (by decide) (opt_srt o) (opt_len16 o) (opt_wf ho))) ?_
          rintro _ w66 ⟨rfl, at66, kp66⟩
          dsimp only at at66 ⊢
          rw [has] at at66 ⊢
          dsimp only at at66 ⊢
          replace hb5 := kp66 _ _ rfl hb5
          replace e := ew1.trans at66.e
          skip
          refine runl_ev (ev_eqlI rfl rfl) ?_
          refine runl_nil ?_
          refine run_cond_true rfl (rfl) ?_
          refine run_seq ?_
          refine run_region rfl ?_
          refine runl_ev (ev_move rfl) ?_
          refine runl_ev (ev_move rfl) ?_
          refine runl_ev (ev_indexAddr (k := k) el_45 rfl rfl (by omega)) ?_
          refine runl_ev (ev_loadA agg_82 (Tgt.cells_length hw1) rfl (eqw (hc1.ext e))) ?_
          refine runl_do (t_storeW sz_82 rfl rfl (Tgt.cells_length hw1) (Tgt.cells_length (opt_get ho)) hb5 (Tgt.one _)) ?_
          rintro _ v17_4 ⟨hq17_4, e17_4, z17_4⟩
          replace e := e.new1 e17_4 (by omega)
          replace hb5 := hq17_4
          clear hq17_4
          refine runl_ev (ev_assign rfl) ?_
          refine runl_nil ?_
          refine run_region rfl ?_
          refine runl_ev (ev_fieldAddr fld_82_5 rfl) ?_
          refine runl_do (t_store1 sz_9 rfl rfl rfl rfl hb5 (by rw [Tgt.cells_length hw1]; decide)) ?_
          rintro _ v18_1 ⟨hq18_1, e18_1, z18_1⟩
          replace e := e.new1 e18_1 (by omega)
          replace hb5 := hq18_1
          clear hq18_1
          refine runl_nil ?_
          rw [show (0 + 36 : Nat) = 36 from rfl, tgt_set hw1] at hb5
          have at70 := (at66.turn1 e17_4 h1b5).turn1 e18_1 h1b5
          refine run_seq ?_
          refine run_region rfl ?_
          refine runl_ev (ev_move rfl) ?_
          refine runl_op (t_call call_30 rfl (assigned_any at70 aB (opt_lenK (some ({ ls[k] with ecu := aB } : Tgt))) (opt_wf ho2))) ?_
          rintro _ w75 ⟨rfl, e75⟩
          have at75 := at70.ext e75
          have y := ExtB.refl (fun _ => False) w75
          dsimp only
          rw [asg_opt ho2]
          unfold asgV
          have z75 := e75.size
          replace e := e.trans e75
          replace hb5 := e75.at hb5
          have ze75 := e.size
          have lb5b := lt_of_at hb5
          refine runl_ev (ev_move rfl) ?_
          refine runl_ev (ev_extract rfl rfl) ?_
          refine runl_ev (ev_extract rfl rfl) ?_
          refine runl_op (t_alloc zero_82 rfl) ?_
          rintro _ w8 ⟨b8, rfl, hb8, e8, n8, l8⟩
          have z8 := e8.size
          replace e := e.trans e8
          replace hb5 := e8.at hb5
          replace y := y.trans e8
          refine runl_do (t_storeW sz_82 rfl rfl (Tgt.cells_length (opt_get ho2)) (by decide) hb8 (Tgt.one _)) ?_
          rintro _ v19_6 ⟨hq19_6, e19_6, z19_6⟩
          replace e := e.new1 e19_6 (by omega)
          replace hb5 := e19_6.at1 hb5 (by first | assumption | omega)
          replace y := y.new1 e19_6 (by omega)
          replace hb8 := hq19_6
          clear hq19_6
          refine runl_ev (ev_assign rfl) ?_
          refine runl_nil ?_
          refine run_seq ?_
          refine run_region rfl ?_
          refine runl_ev (ev_move rfl) ?_
          refine runl_ev (ev_move rfl) ?_
          refine runl_ev (ev_neqB Tryz.underlying4 rfl rfl) ?_
          refine runl_ev (ev_move rfl) ?_
          refine runl_ev_g rfl rfl (rfl) (ev_loadA agg_82 (Tgt.cells_length (opt_get ho2)) rfl (eqw (cells_all hb8))) ?_
          refine runl_ev_g rfl rfl (rfl) (ev_loadA agg_82 (Tgt.cells_length (opt_get ho2)) rfl (eqw (cells_all hb5))) ?_
          refine runl_ev_g rfl rfl (rfl) (ev_neqA rfl rfl eg_82 (eqTgt _ _ (opt_get ho2) (opt_get ho2))) ?_
          refine runl_ev (ev_pick rfl rfl rfl (if_neg (by simp))) ?_
          refine runl_ev (ev_move rfl) ?_
          refine runl_ev_g rfl rfl (by simp) (ev_move rfl) ?_
          refine runl_op_g rfl rfl (by simp) (t_call call_27 rfl (dirrepo_any (at75.ext y))) ?_
          rintro _ w88 ⟨rb8, F8, rfl, at88, e88⟩
          have z88 := e88.size
          replace e := e.trans e88
          replace hb5 := e88.at hb5
          replace y := y.trans e88
          replace hb8 := e88.at hb8
          refine runl_op_g rfl rfl (by simp) (t_call call_31 rfl (targets_repo at88 (by simp))) ?_
          rintro v89 w89 o89
          obtain ⟨ta, tc, rfl, -, sl89⟩ := o89.sl
          have e89 := o89.ext
          have z89 := e89.size
          replace e := e.trans e89
          replace hb5 := e89.at hb5
          replace y := y.trans e89
          replace hb8 := e89.at hb8
          refine runl_ev_g rfl rfl (by simp) (ev_lenL sl_45 rfl) ?_
          refine runl_ev_g rfl rfl (by simp) (ev_gtr rfl rfl) ?_
          refine runl_ev (ev_pick rfl rfl rfl (if_neg (by simp))) ?_
          refine runl_ev (ev_move rfl) ?_
          refine runl_ev_g rfl rfl (by simp) (ev_move rfl) ?_
          refine runl_ev_g rfl rfl (by simp) (ev_move rfl) ?_
          refine runl_ev_g rfl rfl (rfl) (ev_fieldAddr fld_82_3 rfl) ?_
          refine runl_ev_g rfl rfl (rfl) (ev_load1 cell_9 rfl (eqw ((cells_all hb8).pick 34 rfl (Tgt.c34 (opt_get ho2))))) ?_
          refine runl_ev_g rfl rfl (rfl) (ev_neqS rfl rfl) ?_
          refine runl_ev_g rfl rfl (by simp) (ev_pick rfl rfl rfl (if_pos (rfl))) ?_
          refine runl_ev (ev_pick rfl rfl rfl (if_neg (by simp))) ?_
          refine runl_nil ?_
          refine run_cond_false rfl (by have h := (ho2 _ rfl).2.1; simpa [h0B] using h) ?_
          refine run_skip ?_
          refine run_inBlock ?_
          refine run_region rfl ?_
          refine runl_ev (ev_move rfl) ?_
          refine runl_ev (ev_add rfl rfl (by omega) (by omega)) ?_
          refine runl_ev (ev_assign rfl) ?_
          refine runl_nil ?_
          exact IH (k + 1, some ({ ls[k] with ecu := aB } : Tgt)) _ _ (by simp only; omega) ⟨rfl, rfl, rfl, rfl, rfl, trivial⟩ ⟨hk1, at75.ext y, ho2, hb5, e⟩
        · subst hoe
          have has := asn_no (o := none) hc
          have ho2 := ho
          refine run_region rfl ?_
          refine runl_ev (ev_move rfl) ?_
          refine runl_ev (ev_move rfl) ?_
          refine runl_ev (ev_move rfl) ?_
          refine runl_ev (ev_indexAddr (k := k) el_45 rfl rfl (by omega)) ?_
          refine runl_ev (ev_loadA agg_82 (Tgt.cells_length hw1) rfl (eqw (hc1.ext e))) ?_
          refine runl_op (t_call call_29 rfl (assign_any (at2.ext x) aB ls[k] hw1 la_srt (by decide) (opt_srt none) (opt_len16 none) (opt_wf ho))) ?_
          rintro _ w66 ⟨rfl, at66, kp66⟩
          dsimp only at at66 ⊢
          rw [has] at at66 ⊢
          dsimp only at at66 ⊢
          replace hb5 := kp66 _ _ rfl hb5
          replace e := ew1.trans at66.e
          skip
          have at70 := at66
          refine runl_ev (ev_eqlI rfl rfl) ?_
          refine runl_nil ?_
          refine run_cond_false rfl (rfl) ?_
          refine run_skip ?_
          refine run_seq ?_
          refine run_region rfl ?_
          refine runl_ev (ev_move rfl) ?_
          refine runl_op (t_call call_30 rfl (assigned_any at70 aB (opt_lenK (none)) (opt_wf ho2))) ?_
          rintro _ w75 ⟨rfl, e75⟩
          have at75 := at70.ext e75
          have y := ExtB.refl (fun _ => False) w75
          dsimp only
          rw [asg_opt ho2]
          unfold asgV
          have z75 := e75.size
          replace e := e.trans e75
          replace hb5 := e75.at hb5
          have ze75 := e.size
          have lb5b := lt_of_at hb5
          refine runl_ev (ev_move rfl) ?_
          refine runl_ev (ev_extract rfl rfl) ?_
          refine runl_ev (ev_extract rfl rfl) ?_
          refine runl_op (t_alloc zero_82 rfl) ?_
          rintro _ w8 ⟨b8, rfl, hb8, e8, n8, l8⟩
          have z8 := e8.size
          replace e := e.trans e8
          replace hb5 := e8.at hb5
          replace y := y.trans e8
          refine runl_do (t_storeW sz_82 rfl rfl (Tgt.cells_length (opt_get ho2)) (by decide) hb8 (Tgt.one _)) ?_
          rintro _ v19_6 ⟨hq19_6, e19_6, z19_6⟩
          replace e := e.new1 e19_6 (by omega)
          replace hb5 := e19_6.at1 hb5 (by first | assumption | omega)
          replace y := y.new1 e19_6 (by omega)
          replace hb8 := hq19_6
          clear hq19_6
          refine runl_ev (ev_assign rfl) ?_
          refine runl_nil ?_
          refine run_seq ?_
          refine run_region rfl ?_
          refine runl_ev (ev_move rfl) ?_
          refine runl_ev (ev_move rfl) ?_
          refine runl_ev (ev_neqB Tryz.underlying4 rfl rfl) ?_
          refine runl_ev (ev_move rfl) ?_
          refine runl_ev_g rfl rfl (rfl) (ev_loadA agg_82 (Tgt.cells_length (opt_get ho2)) rfl (eqw (cells_all hb8))) ?_
          refine runl_ev_g rfl rfl (rfl) (ev_loadA agg_82 (Tgt.cells_length (opt_get ho2)) rfl (eqw (cells_all hb5))) ?_
          refine runl_ev_g rfl rfl (rfl) (ev_neqA rfl rfl eg_82 (eqTgt _ _ (opt_get ho2) (opt_get ho2))) ?_
          refine runl_ev (ev_pick rfl rfl rfl (if_neg (by simp))) ?_
          refine runl_ev (ev_move rfl) ?_
          refine runl_ev_g rfl rfl (by simp) (ev_move rfl) ?_
          refine runl_op_g rfl rfl (by simp) (t_call call_27 rfl (dirrepo_any (at75.ext y))) ?_
          rintro _ w88 ⟨rb8, F8, rfl, at88, e88⟩
          have z88 := e88.size
          replace e := e.trans e88
          replace hb5 := e88.at hb5
          replace y := y.trans e88
          replace hb8 := e88.at hb8
          refine runl_op_g rfl rfl (by simp) (t_call call_31 rfl (targets_repo at88 (by simp))) ?_
          rintro v89 w89 o89
          obtain ⟨ta, tc, rfl, -, sl89⟩ := o89.sl
          have e89 := o89.ext
          have z89 := e89.size
          replace e := e.trans e89
          replace hb5 := e89.at hb5
          replace y := y.trans e89
          replace hb8 := e89.at hb8
          refine runl_ev_g rfl rfl (by simp) (ev_lenL sl_45 rfl) ?_
          refine runl_ev_g rfl rfl (by simp) (ev_gtr rfl rfl) ?_
          refine runl_ev (ev_pick rfl rfl rfl (if_neg (by simp))) ?_
          refine runl_ev (ev_move rfl) ?_
          refine runl_ev_g rfl rfl (by simp) (ev_move rfl) ?_
          refine runl_ev_g rfl rfl (by simp) (ev_move rfl) ?_
          refine runl_no_g rfl rfl (rfl) ?_
          refine runl_no_g rfl rfl (rfl) ?_
          refine runl_no_g rfl rfl (rfl) ?_
          refine runl_ev_g rfl rfl (by simp) (ev_pick rfl rfl rfl (if_neg (by simp))) ?_
          refine runl_ev (ev_pick rfl rfl rfl (if_neg (by simp))) ?_
          refine runl_nil ?_
          refine run_cond_false rfl (rfl) ?_
          refine run_skip ?_
          refine run_inBlock ?_
          refine run_region rfl ?_
          refine runl_ev (ev_move rfl) ?_
          refine runl_ev (ev_add rfl rfl (by omega) (by omega)) ?_
          refine runl_ev (ev_assign rfl) ?_
          refine runl_nil ?_
          exact IH (k + 1, none) _ _ (by simp only; omega) ⟨rfl, rfl, rfl, rfl, rfl, trivial⟩ ⟨hk1, at75.ext y, ho2, hb5, e⟩
        · subst hoe
          have has := asn_no (o := some u) hc
          have ho2 := ho
          refine run_region rfl ?_
          refine runl_ev (ev_move rfl) ?_
          refine runl_ev (ev_move rfl) ?_
          refine runl_ev (ev_move rfl) ?_
          refine runl_ev (ev_indexAddr (k := k) el_45 rfl rfl (by omega)) ?_
          refine runl_ev (ev_loadA agg_82 (Tgt.cells_length hw1) rfl (eqw (hc1.ext e))) ?_
          refine runl_op (t_call call_29 rfl (assign_any (at2.ext x) aB ls[k] hw1 la_srt (by decide) (opt_srt (some u)) (opt_len16 (some u)) (opt_wf ho))) ?_
          rintro _ w66 ⟨rfl, at66, kp66⟩
          dsimp only at at66 ⊢
          rw [has] at at66 ⊢
          dsimp only at at66 ⊢
          replace hb5 := kp66 _ _ rfl hb5
          replace e := ew1.trans at66.e
          skip
          have at70 := at66
          refine runl_ev (ev_eqlI rfl rfl) ?_
          refine runl_nil ?_
          refine run_cond_false rfl (rfl) ?_
          refine run_skip ?_
          refine run_seq ?_
          refine run_region rfl ?_
          refine runl_ev (ev_move rfl) ?_
          refine runl_op (t_call call_30 rfl (assigned_any at70 aB (opt_lenK (some u)) (opt_wf ho2))) ?_
          rintro _ w75 ⟨rfl, e75⟩
          have at75 := at70.ext e75
          have y := ExtB.refl (fun _ => False) w75
          dsimp only
          rw [asg_opt ho2]
          unfold asgV
          have z75 := e75.size
          replace e := e.trans e75
          replace hb5 := e75.at hb5
          have ze75 := e.size
          have lb5b := lt_of_at hb5
          refine runl_ev (ev_move rfl) ?_
          refine runl_ev (ev_extract rfl rfl) ?_
          refine runl_ev (ev_extract rfl rfl) ?_
          refine runl_op (t_alloc zero_82 rfl) ?_
          rintro _ w8 ⟨b8, rfl, hb8, e8, n8, l8⟩
          have z8 := e8.size
          replace e := e.trans e8
          replace hb5 := e8.at hb5
          replace y := y.trans e8
          refine runl_do (t_storeW sz_82 rfl rfl (Tgt.cells_length (opt_get ho2)) (by decide) hb8 (Tgt.one _)) ?_
          rintro _ v19_6 ⟨hq19_6, e19_6, z19_6⟩
          replace e := e.new1 e19_6 (by omega)
          replace hb5 := e19_6.at1 hb5 (by first | assumption | omega)
          replace y := y.new1 e19_6 (by omega)
          replace hb8 := hq19_6
          clear hq19_6
          refine runl_ev (ev_assign rfl) ?_
          refine runl_nil ?_
          refine run_seq ?_
          refine run_region rfl ?_
          refine runl_ev (ev_move rfl) ?_
          refine runl_ev (ev_move rfl) ?_
          refine runl_ev (ev_neqB Tryz.underlying4 rfl rfl) ?_
          refine runl_ev (ev_move rfl) ?_
          refine runl_ev_g rfl rfl (rfl) (ev_loadA agg_82 (Tgt.cells_length (opt_get ho2)) rfl (eqw (cells_all hb8))) ?_
          refine runl_ev_g rfl rfl (rfl) (ev_loadA agg_82 (Tgt.cells_length (opt_get ho2)) rfl (eqw (cells_all hb5))) ?_
          refine runl_ev_g rfl rfl (rfl) (ev_neqA rfl rfl eg_82 (eqTgt _ _ (opt_get ho2) (opt_get ho2))) ?_
          refine runl_ev (ev_pick rfl rfl rfl (if_neg (by simp))) ?_
          refine runl_ev (ev_move rfl) ?_
          refine runl_ev_g rfl rfl (by simp) (ev_move rfl) ?_
          refine runl_op_g rfl rfl (by simp) (t_call call_27 rfl (dirrepo_any (at75.ext y))) ?_
          rintro _ w88 ⟨rb8, F8, rfl, at88, e88⟩
          have z88 := e88.size
          replace e := e.trans e88
          replace hb5 := e88.at hb5
          replace y := y.trans e88
          replace hb8 := e88.at hb8
          refine runl_op_g rfl rfl (by simp) (t_call call_31 rfl (targets_repo at88 (by simp))) ?_
          rintro v89 w89 o89
          obtain ⟨ta, tc, rfl, -, sl89⟩ := o89.sl
          have e89 := o89.ext
          have z89 := e89.size
          replace e := e.trans e89
          replace hb5 := e89.at hb5
          replace y := y.trans e89
          replace hb8 := e89.at hb8
          refine runl_ev_g rfl rfl (by simp) (ev_lenL sl_45 rfl) ?_
          refine runl_ev_g rfl rfl (by simp) (ev_gtr rfl rfl) ?_
          refine runl_ev (ev_pick rfl rfl rfl (if_neg (by simp))) ?_
          refine runl_ev (ev_move rfl) ?_
          refine runl_ev_g rfl rfl (by simp) (ev_move rfl) ?_
          refine runl_ev_g rfl rfl (by simp) (ev_move rfl) ?_
          refine runl_ev_g rfl rfl (rfl) (ev_fieldAddr fld_82_3 rfl) ?_
          refine runl_ev_g rfl rfl (rfl) (ev_load1 cell_9 rfl (eqw ((cells_all hb8).pick 34 rfl (Tgt.c34 (opt_get ho2))))) ?_
          refine runl_ev_g rfl rfl (rfl) (ev_neqS rfl rfl) ?_
          refine runl_ev_g rfl rfl (by simp) (ev_pick rfl rfl rfl (if_pos (rfl))) ?_
          refine runl_ev (ev_pick rfl rfl rfl (if_neg (by simp))) ?_
          refine runl_nil ?_
          refine run_cond_false rfl (by have h := (ho2 _ rfl).2.1; simpa [h0B] using h) ?_
          refine run_skip ?_
          refine run_inBlock ?_
          refine run_region rfl ?_
          refine runl_ev (ev_move rfl) ?_
          refine runl_ev (ev_add rfl rfl (by omega) (by omega)) ?_
          refine runl_ev (ev_assign rfl) ?_
          refine runl_nil ?_
          exact IH (k + 1, some u) _ _ (by simp only; omega) ⟨rfl, rfl, rfl, rfl, rfl, trivial⟩ ⟨hk1, at75.ext y, ho2, hb5, e⟩
      · refine run_exit rfl ?_
        refine run_seq ?_
        refine run_region rfl ?_
        refine runl_op (t_call call_32 rfl (known17_any _)) ?_
        rintro _ w101 ⟨rfl, e101⟩
        have z101 := e101.size
        replace e := e.trans e101
        replace x := x.trans e101
        replace hb5 := e101.at hb5
        refine runl_ev (ev_assign rfl) ?_
        refine runl_nil ?_
        refine run_ret_any Tryz.func6 (res1 Tryz.results6 rfl) ?_
        exact ⟨rfl, e⟩
end Go.Proofs.YtlgkdnmklgbhbaaGreatDoor
