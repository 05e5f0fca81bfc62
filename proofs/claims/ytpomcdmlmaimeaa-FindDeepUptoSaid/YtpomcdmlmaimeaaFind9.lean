/- The walk of law FindDeep on what find's calls come to. -/
import Derived.Test.YtpomcdmlmaimeaaFind4
import Derived.Test.YtpomcdmlmaimeaaFind9M
namespace Go.Proofs.Ytpomcdmlmaimeaa
open Go Go.Fw
set_option maxRecDepth 100000

theorem lawDeep_any (n : Int) (w : World) : Ret Try.prog 5 [.int .i64 n] w fun r w' => r = .bool true ∧ Ext w w' := by
  have e := ExtB.refl (fun _ => False) w
  refine ret_of_run Try.func5 rfl Try.ntmps5 rfl ?_
  refine run_seq ?_
  refine run_region rfl ?_
  refine runl_ev (ev_assign rfl) ?_
  refine runl_nil ?_
  refine run_seq ?_
  refine run_seq ?_
  have hcs : n < 1 ∨ 9 < n ∨ (1 ≤ n ∧ n ≤ 9) := by omega
  rcases hcs with hn | hn | ⟨hn1, hn9⟩
  · refine run_region rfl ?_
    refine runl_ev (ev_move rfl) ?_
    refine runl_ev (ev_lss rfl rfl) ?_
    refine runl_ev (ev_move rfl) ?_
    refine runl_no_g rfl rfl (decide_eq_true hn) ?_
    refine runl_no_g rfl rfl (decide_eq_true hn) ?_
    refine runl_ev (ev_pick rfl rfl rfl (if_pos (by simp; omega))) ?_
    refine runl_nil ?_
    refine run_cond_true rfl (rfl) ?_
    refine run_seq ?_
    refine run_region rfl ?_
    refine runl_op (t_call call_13 rfl (known_any _)) ?_
    rintro _ w15 ⟨rfl, e15⟩
    have z15 := e15.size
    replace e := e.trans e15
    refine runl_ev (ev_assign rfl) ?_
    refine runl_nil ?_
    refine run_ret_any Try.func5 (res1 Try.results5 rfl) ?_
    exact ⟨rfl, e⟩
  · refine run_region rfl ?_
    refine runl_ev (ev_move rfl) ?_
    refine runl_ev (ev_lss rfl rfl) ?_
    refine runl_ev (ev_move rfl) ?_
    refine runl_ev_g rfl rfl (decide_eq_false (by omega)) (ev_move rfl) ?_
    refine runl_ev_g rfl rfl (decide_eq_false (by omega)) (ev_gtr rfl rfl) ?_
    refine runl_ev (ev_pick rfl rfl rfl (if_neg (by simp; omega))) ?_
    refine runl_nil ?_
    refine run_cond_true rfl (decide_eq_true hn) ?_
    refine run_seq ?_
    refine run_region rfl ?_
    refine runl_op (t_call call_13 rfl (known_any _)) ?_
    rintro _ w15x1 ⟨rfl, e15x1⟩
    have z15x1 := e15x1.size
    replace e := e.trans e15x1
    refine runl_ev (ev_assign rfl) ?_
    refine runl_nil ?_
    refine run_ret_any Try.func5 (res1 Try.results5 rfl) ?_
    exact ⟨rfl, e⟩
  · obtain ⟨m, rfl⟩ := Int.eq_ofNat_of_zero_le (by omega : 0 ≤ n)
    refine run_region rfl ?_
    refine runl_ev (ev_move rfl) ?_
    refine runl_ev (ev_lss rfl rfl) ?_
    refine runl_ev (ev_move rfl) ?_
    refine runl_ev_g rfl rfl (decide_eq_false (by omega)) (ev_move rfl) ?_
    refine runl_ev_g rfl rfl (decide_eq_false (by omega)) (ev_gtr rfl rfl) ?_
    refine runl_ev (ev_pick rfl rfl rfl (if_neg (by simp; omega))) ?_
    refine runl_nil ?_
    refine run_cond_false rfl (decide_eq_false (by omega)) ?_
    refine run_skip ?_
    refine run_seq ?_
    refine run_region rfl ?_
    refine runl_ev (ev_assign rfl) ?_
    refine runl_nil ?_
    refine run_seq ?_
    refine run_seq ?_
    refine run_region rfl ?_
    refine runl_ev (ev_assign rfl) ?_
    refine runl_nil ?_
    refine run_block ?_
    refine run_loop (ι := Nat × Value × List Value × Int) (fun x => [(0, .int .i64 (m : Int)), (3, x.2.1), (4, .int .i64 (x.1 : Int))]) (fun x w' => x.1 ≤ m ∧ Own w' 33 5 x.2.1 x.1 x.2.2.1 x.2.2.2 ∧ Parts 5 (DRow x.2.2.2 m) w' (List.range x.1) x.2.2.1 ∧ x.2.2.2 < w'.heap.size ∧ (x.2.2.2 = -1 ∨ (w.heap.size : Int) ≤ x.2.2.2) ∧ Ext w w') (fun x => m - x.1) ((0, .slice none 0 0, [], -1)) ⟨rfl, rfl, rfl, trivial⟩ (⟨Nat.zero_le _, own_nil _ _ _ _, trivial, (by show (-1 : Int) < _; omega), .inl rfl, e⟩) ?_
    clear e
    intro ⟨i, v, xs, g⟩ w1 ⟨hi, own, hdp, hgl, hg0, e⟩ IH
    simp only at hi own hdp hgl hg0
    obtain ⟨va, vc, rfl⟩ := own.shape
    have e1 := ExtB.refl (fun _ => False) w1
    have z1 := e.size
    refine run_seq ?_
    refine run_seq ?_
    refine run_region rfl ?_
    refine runl_ev (ev_move rfl) ?_
    refine runl_ev (ev_move rfl) ?_
    refine runl_ev (ev_lss rfl rfl) ?_
    refine runl_nil ?_
    refine run_dcond rfl (fun h1 => ?_) (fun h1 => ?_)
    · refine run_skip ?_
      refine run_seq ?_
      refine run_block ?_
      refine run_seq ?_
      refine run_region rfl ?_
      refine runl_ev (ev_move rfl) ?_
      refine runl_ev (ev_add rfl rfl (by omega) (by omega)) ?_
      refine runl_ev (ev_convI ((UInt8.ofNat (97 + i)).toNat : Int) Try.underlying3 Try.underlying5 rfl (by have := u8_wrap (97 + i) (by omega); simpa using this)) ?_
      refine runl_op (t_buildSlice (out := [.int .u8 ((UInt8.ofNat (97 + i)).toNat : Int)]) Try.underlying41 sz_5 zero_5 rfl rfl (by decide) (by decide) rfl (rfl)) ?_
      rintro _ w24 ⟨b24, rfl, hb24, e24, n24, l24⟩
      have z24 := e24.size
      replace e := e.trans e24
      replace e1 := e1.trans e24
      replace own := own.ext e24
      refine runl_ev (ev_convBS [UInt8.ofNat (97 + i)] Try.underlying41 Try.underlying5 Try.underlying9 rfl (eqw (cells_all hb24))) ?_
      refine runl_ev (ev_build (out := [.string ⟨#[UInt8.ofNat (97 + i)]⟩, .int .i64 0, .int .i64 0, .slice none 0 0, .slice none 0 0]) ps_33 zero_33 rfl rfl (rfl)) ?_
      refine runl_op (t_alloc zero_33 rfl) ?_
      rintro _ w5 ⟨b5, rfl, hb5, e5, n5, l5⟩
      have z5 := e5.size
      replace e := e.trans e5
      replace e1 := e1.trans e5
      replace own := own.ext e5
      replace hb24 := e5.at hb24
      refine runl_do (t_storeW sz_33 rfl rfl rfl rfl hb5 (by simp)) ?_
      rintro _ v7_7 ⟨hq7_7, e7_7, z7_7⟩
      replace e := e.new1 e7_7 (by omega)
      replace e1 := e1.new1 e7_7 (by omega)
      replace own := own.ext1 e7_7 (by omega)
      replace hb24 := e7_7.at1 hb24 (by omega)
      replace hb5 := hq7_7
      clear hq7_7
      refine runl_nil ?_
      refine run_seq ?_
      refine run_seq ?_
      by_cases hlast : i + 1 < m
      · refine run_region rfl ?_
        refine runl_ev (ev_move rfl) ?_
        refine runl_ev (ev_add rfl rfl (by omega) (by omega)) ?_
        refine runl_ev (ev_move rfl) ?_
        refine runl_ev (ev_lss rfl rfl) ?_
        refine runl_nil ?_
        refine run_cond_true rfl (decide_eq_true (by omega)) ?_
        refine run_region rfl ?_
        refine runl_ev (ev_move rfl) ?_
        refine runl_ev (ev_add rfl rfl (by omega) (by omega)) ?_
        refine runl_ev (ev_add rfl rfl (by omega) (by omega)) ?_
        refine runl_ev (ev_convI ((UInt8.ofNat (97 + (i + 1))).toNat : Int) Try.underlying3 Try.underlying5 rfl (by have := u8_wrap (97 + (i + 1)) (by omega); simpa [Int.add_assoc] using this)) ?_
        refine runl_op (t_buildSlice (out := [.int .u8 ((UInt8.ofNat (97 + (i + 1))).toNat : Int)]) Try.underlying41 sz_5 zero_5 rfl rfl (by decide) (by decide) rfl (rfl)) ?_
        rintro _ w35 ⟨b35, rfl, hb35, e35, n35, l35⟩
        have z35 := e35.size
        replace e := e.trans e35
        replace e1 := e1.trans e35
        replace own := own.ext e35
        replace hb24 := e35.at hb24
        replace hb5 := e35.at hb5
        refine runl_ev (ev_convBS [UInt8.ofNat (97 + (i + 1))] Try.underlying41 Try.underlying5 Try.underlying9 rfl (eqw (cells_all hb35))) ?_
        refine runl_ev (ev_build (out := [.string ⟨#[UInt8.ofNat (97 + (i + 1))]⟩, .slice none 0 0, .int .i64 0, .string ⟨#[]⟩, .bool false]) ps_40 zero_40 rfl rfl (rfl)) ?_
        refine runl_op (t_buildSlice (out := [.string ⟨#[UInt8.ofNat (97 + (i + 1))]⟩, .slice none 0 0, .int .i64 0, .string ⟨#[]⟩, .bool false]) Try.underlying31 sz_40 zero_40 rfl rfl (by decide) (by decide) rfl (rfl)) ?_
        rintro _ w38 ⟨b38, rfl, hb38, e38, n38, l38⟩
        have z38 := e38.size
        replace e := e.trans e38
        replace e1 := e1.trans e38
        replace own := own.ext e38
        replace hb24 := e38.at hb24
        replace hb5 := e38.at hb5
        replace hb35 := e38.at hb35
        refine runl_ev (ev_fieldAddr fld_33_4 rfl) ?_
        refine runl_do (t_store1 sz_31 rfl rfl rfl rfl hb5 (by simp)) ?_
        rintro _ v9_9 ⟨hq9_9, e9_9, z9_9⟩
        replace e := e.new1 e9_9 (by omega)
        replace e1 := e1.new1 e9_9 (by omega)
        replace own := own.ext1 e9_9 (by omega)
        replace hb24 := e9_9.at1 hb24 (by omega)
        replace hb35 := e9_9.at1 hb35 (by omega)
        replace hb38 := e9_9.at1 hb38 (by omega)
        replace hb5 := hq9_9
        clear hq9_9
        refine runl_nil ?_
        refine run_region rfl ?_
        refine runl_ev (ev_move rfl) ?_
        refine runl_ev (ev_loadA agg_33 rfl rfl (eqw (cells_all hb5))) ?_
        refine runl_op (t_buildSlice (out := [.string ⟨#[UInt8.ofNat (97 + i)]⟩, .int .i64 0, .int .i64 0, .slice none 0 0, .slice (some ⟨b38, 0, none⟩) 1 1]) Try.underlying22 sz_33 zero_33 rfl rfl (by decide) (by decide) rfl (rfl)) ?_
        rintro _ w45 ⟨b45, rfl, hb45, e45, n45, l45⟩
        have z45 := e45.size
        replace e := e.trans e45
        replace e1 := e1.trans e45
        replace own := own.ext e45
        replace hb24 := e45.at hb24
        replace hb5 := e45.at hb5
        replace hb35 := e45.at hb35
        replace hb38 := e45.at hb38
        refine runl_op (t_append (news := [.string ⟨#[UInt8.ofNat (97 + i)]⟩, .int .i64 0, .int .i64 0, .slice none 0 0, .slice (some ⟨b38, 0, none⟩) 1 1]) ef_22 rfl rfl own rfl (cells_all hb45) (by simp) (by unfold maxLen; omega) (by omega)) ?_
        have hrow : Parts 5 (DRow g m) w45 (List.range i ++ [i]) (xs ++ [.string ⟨#[UInt8.ofNat (97 + i)]⟩, .int .i64 0, .int .i64 0, .slice none 0 0, .slice (some ⟨b38, 0, none⟩) 1 1]) := Parts.app (Parts.mono (fun _ _ _ h => h.ext e1) hdp) (by rw [List.length_range]; exact own.len) (pc (.inl ⟨hlast, b38, _, by omega, hb38, rfl⟩) pn)
        rintro v46 w46 ⟨g46, ap46⟩
        obtain ⟨a46, c46, rfl⟩ := ap46.own.shape
        have hn46 := ap46.new
        clear e1
        replace hrow : Parts 5 (DRow g46 m) w46 (List.range i ++ [i]) _ := Parts.mono (fun _ _ _ h => h.step ap46.ext (by omega)) hrow
        rw [← List.range_succ] at hrow
        have hg46 : g46 < w46.heap.size := by have := ap46.size; omega
        have z46 := ap46.ext.size
        replace e := e.newG ap46.ext (by omega)
        replace hb24 := ap46.ext.atG hb24 (by omega)
        replace hb5 := ap46.ext.atG hb5 (by omega)
        replace hb35 := ap46.ext.atG hb35 (by omega)
        replace hb38 := ap46.ext.atG hb38 (by omega)
        replace hb45 := ap46.ext.atG hb45 (by omega)
        replace own := ap46.own
        refine runl_ev (ev_assign rfl) ?_
        refine runl_nil ?_
        refine run_inBlock ?_
        refine run_region rfl ?_
        refine runl_ev (ev_move rfl) ?_
        refine runl_ev (ev_add rfl rfl (by omega) (by omega)) ?_
        refine runl_ev (ev_assign rfl) ?_
        refine runl_nil ?_
        exact IH (i + 1, _, _, g46) _ _ (by simp only; omega) ⟨rfl, rfl, rfl, trivial⟩ ⟨(by show i + 1 ≤ _; omega), own, hrow, hg46, (by show g46 = -1 ∨ _ ≤ g46; omega), e⟩
      · refine run_region rfl ?_
        refine runl_ev (ev_move rfl) ?_
        refine runl_ev (ev_add rfl rfl (by omega) (by omega)) ?_
        refine runl_ev (ev_move rfl) ?_
        refine runl_ev (ev_lss rfl rfl) ?_
        refine runl_nil ?_
        refine run_cond_false rfl (decide_eq_false (by omega)) ?_
        refine run_region rfl ?_
        refine runl_ev (ev_build (out := knT.cells) ps_27 zero_27 rfl rfl (rfl)) ?_
        refine runl_op (t_buildSlice (out := knT.cells) Try.underlying30 sz_27 zero_27 rfl rfl (by decide) (by decide) rfl (rfl)) ?_
        rintro _ w41 ⟨b41, rfl, hb41, e41, n41, l41⟩
        have z41 := e41.size
        replace e := e.trans e41
        replace e1 := e1.trans e41
        replace own := own.ext e41
        replace hb24 := e41.at hb24
        replace hb5 := e41.at hb5
        refine runl_ev (ev_fieldAddr fld_33_3 rfl) ?_
        refine runl_do (t_store1 sz_30 rfl rfl rfl rfl hb5 (by simp)) ?_
        rintro _ v10_3 ⟨hq10_3, e10_3, z10_3⟩
        replace e := e.new1 e10_3 (by omega)
        replace e1 := e1.new1 e10_3 (by omega)
        replace own := own.ext1 e10_3 (by omega)
        replace hb24 := e10_3.at1 hb24 (by omega)
        replace hb41 := e10_3.at1 hb41 (by omega)
        replace hb5 := hq10_3
        clear hq10_3
        refine runl_nil ?_
        refine run_region rfl ?_
        refine runl_ev (ev_move rfl) ?_
        refine runl_ev (ev_loadA agg_33 rfl rfl (eqw (cells_all hb5))) ?_
        refine runl_op (t_buildSlice (out := [.string ⟨#[UInt8.ofNat (97 + i)]⟩, .int .i64 0, .int .i64 0, .slice (some ⟨b41, 0, none⟩) 1 1, .slice none 0 0]) Try.underlying22 sz_33 zero_33 rfl rfl (by decide) (by decide) rfl (rfl)) ?_
        rintro _ w45x1 ⟨b45x1, rfl, hb45x1, e45x1, n45x1, l45x1⟩
        have z45x1 := e45x1.size
        replace e := e.trans e45x1
        replace e1 := e1.trans e45x1
        replace own := own.ext e45x1
        replace hb24 := e45x1.at hb24
        replace hb5 := e45x1.at hb5
        replace hb41 := e45x1.at hb41
        refine runl_op (t_append (news := [.string ⟨#[UInt8.ofNat (97 + i)]⟩, .int .i64 0, .int .i64 0, .slice (some ⟨b41, 0, none⟩) 1 1, .slice none 0 0]) ef_22 rfl rfl own rfl (cells_all hb45x1) (by simp) (by unfold maxLen; omega) (by omega)) ?_
        have hrow : Parts 5 (DRow g m) w45x1 (List.range i ++ [i]) (xs ++ [.string ⟨#[UInt8.ofNat (97 + i)]⟩, .int .i64 0, .int .i64 0, .slice (some ⟨b41, 0, none⟩) 1 1, .slice none 0 0]) := Parts.app (Parts.mono (fun _ _ _ h => h.ext e1) hdp) (by rw [List.length_range]; exact own.len) (pc (.inr ⟨hlast, b41, _, by omega, hb41, rfl⟩) pn)
        rintro v46 w46 ⟨g46, ap46⟩
        obtain ⟨a46, c46, rfl⟩ := ap46.own.shape
        have hn46 := ap46.new
        clear e1
        replace hrow : Parts 5 (DRow g46 m) w46 (List.range i ++ [i]) _ := Parts.mono (fun _ _ _ h => h.step ap46.ext (by omega)) hrow
        rw [← List.range_succ] at hrow
        have hg46 : g46 < w46.heap.size := by have := ap46.size; omega
        have z46x1 := ap46.ext.size
        replace e := e.newG ap46.ext (by omega)
        replace hb24 := ap46.ext.atG hb24 (by omega)
        replace hb5 := ap46.ext.atG hb5 (by omega)
        replace hb41 := ap46.ext.atG hb41 (by omega)
        replace hb45x1 := ap46.ext.atG hb45x1 (by omega)
        replace own := ap46.own
        refine runl_ev (ev_assign rfl) ?_
        refine runl_nil ?_
        refine run_inBlock ?_
        refine run_region rfl ?_
        refine runl_ev (ev_move rfl) ?_
        refine runl_ev (ev_add rfl rfl (by omega) (by omega)) ?_
        refine runl_ev (ev_assign rfl) ?_
        refine runl_nil ?_
        exact IH (i + 1, _, _, g46) _ _ (by simp only; omega) ⟨rfl, rfl, rfl, trivial⟩ ⟨(by show i + 1 ≤ _; omega), own, hrow, hg46, (by show g46 = -1 ∨ _ ≤ g46; omega), e⟩
    · obtain rfl : i = m := by omega
      obtain ⟨vb, hsl⟩ : ∃ vb : Nat, SlAt 5 RTgs w1 (.slice va i vc) (deepL i) := by
        rcases own.cells with ⟨_, h0, _⟩ | ⟨cap, b, hbg, hv, hc, _⟩
        · omega
        · cases hv
          have := sl_cells (cap := vc) hc (deep_parts hdp)
          rw [deepL_len] at this
          exact ⟨b, this⟩
      have hfs := deep_find i (by omega) (by omega)
      refine run_exit rfl ?_
      refine run_seq ?_
      refine run_region rfl ?_
      refine runl_ev (ev_move rfl) ?_
      refine runl_op (t_call call_12 rfl (find_any (deepL i) _ _ _ _ hsl (deep_bnd i (by omega)) ⟨#[120]⟩ (by decide))) ?_
      rintro _ w49 ⟨rfl, hwf, e49⟩
      generalize hans : findF (deepL i) ⟨#[120]⟩ = ans at hwf hfs ⊢
      have z49 := e49.size
      replace e := e.trans e49
      replace e1 := e1.trans e49
      replace own := own.ext e49
      refine runl_ev (ev_move rfl) ?_
      refine runl_ev (ev_extract rfl rfl) ?_
      refine runl_ev (ev_extract rfl rfl) ?_
      refine runl_ev (ev_extract rfl rfl) ?_
      refine runl_op (t_alloc zero_27 rfl) ?_
      rintro _ w6 ⟨b6, rfl, hb6, e6, n6, l6⟩
      have z6 := e6.size
      replace e := e.trans e6
      replace e1 := e1.trans e6
      replace own := own.ext e6
      refine runl_do (t_storeW sz_27 rfl rfl (Tgt.cells_length hwf) rfl hb6 (Tgt.one _)) ?_
      rintro _ v12_7 ⟨hq12_7, e12_7, z12_7⟩
      replace e := e.new1 e12_7 (by omega)
      replace e1 := e1.new1 e12_7 (by omega)
      replace own := own.ext1 e12_7 (by omega)
      replace hb6 := hq12_7
      clear hq12_7
      refine runl_ev (ev_assign rfl) ?_
      refine runl_ev (ev_assign rfl) ?_
      refine runl_nil ?_
      refine run_seq ?_
      refine run_region rfl ?_
      refine runl_ev (ev_move rfl) ?_
      refine runl_ev (ev_move rfl) ?_
      refine runl_ev (ev_leq rfl rfl) ?_
      refine runl_ev (ev_eqlB Try.underlying4 rfl rfl) ?_
      refine runl_ev (ev_move rfl) ?_
      refine runl_op_g rfl rfl (by rw [hfs]; simp; omega) (t_call call_13 rfl (known_any _)) ?_
      rintro _ w58 ⟨rfl, e58⟩
      have z58 := e58.size
      replace e := e.trans e58
      replace e1 := e1.trans e58
      replace own := own.ext e58
      replace hb6 := e58.at hb6
      refine runl_ev (ev_pick rfl rfl rfl (if_pos (by rw [hfs]; simp; omega))) ?_
      refine runl_ev (ev_assign rfl) ?_
      refine runl_nil ?_
      refine run_ret_any Try.func5 (res1 Try.results5 rfl) ?_
      exact ⟨rfl, e⟩
end Go.Proofs.Ytpomcdmlmaimeaa
