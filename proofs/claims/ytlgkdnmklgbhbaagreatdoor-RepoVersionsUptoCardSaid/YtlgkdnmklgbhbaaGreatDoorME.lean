/- The walks of digest: SHA-256, by value. -/
import Derived.Test.YtlgkdnmklgbhbaaGreatDoorMA
import Derived.Test.YtlgkdnmklgbhbaaGreatDoorMB
namespace Go.Proofs.YtlgkdnmklgbhbaaGreatDoor
open Go Go.Fw
set_option maxRecDepth 100000

theorem turn_any (x : Int) (n : Nat) (hn : n ≤ 32) (w : World) : Ret Tryz.prog 206 [.int .u32 x, .int .u64 (n : Int)] w fun r w' => r = .int .u32 (turnF x n) ∧ Ext w w' := by
  have e := ExtB.refl (fun _ => False) w
  refine ret_of_run Tryz.func206 rfl Tryz.ntmps206 rfl ?_
  refine run_seq ?_
  refine run_region rfl ?_
  refine runl_ev (ev_assign rfl) ?_
  refine runl_nil ?_
  refine run_seq ?_
  refine run_region rfl ?_
  refine runl_ev (ev_move rfl) ?_
  refine runl_ev (ev_move rfl) ?_
  refine runl_ev (ev_shr (_) rfl rfl (by omega) (rfl)) ?_
  refine runl_ev (ev_move rfl) ?_
  refine runl_ev (ev_move rfl) ?_
  refine runl_ev (ev_subK (((32 - n : Nat) : Int)) rfl rfl (by rw [show (32 : Int) - n = ((32 - n : Nat) : Int) by omega]; exact wrap_u64 (by omega))) ?_
  refine runl_ev (ev_shl (_) rfl rfl (by omega) (rfl)) ?_
  refine runl_ev (ev_or (_) rfl rfl (rfl)) ?_
  refine runl_ev (ev_assign rfl) ?_
  refine runl_nil ?_
  refine run_ret_any Tryz.func206 (res1 Tryz.results206 rfl) ?_
  exact ⟨rfl, e⟩
theorem ds0_any (x : Int) (w : World) : Ret Tryz.prog 165 [.int .u32 x] w fun r w' => r = .int .u32 (ds0F x) ∧ Ext w w' := by
  have e := ExtB.refl (fun _ => False) w
  refine ret_of_run Tryz.func165 rfl Tryz.ntmps165 rfl ?_
  refine run_seq ?_
  refine run_region rfl ?_
  refine runl_ev (ev_assign rfl) ?_
  refine runl_nil ?_
  refine run_seq ?_
  refine run_region rfl ?_
  refine runl_ev (ev_move rfl) ?_
  refine runl_op (t_call call_206 rfl (turn_any _ 7 (by decide) _)) ?_
  rintro _ w4 ⟨rfl, e4⟩
  have z4 := e4.size
  replace e := e.trans e4
  refine runl_ev (ev_move rfl) ?_
  refine runl_op (t_call call_206 rfl (turn_any _ 18 (by decide) _)) ?_
  rintro _ w6 ⟨rfl, e6⟩
  have z6 := e6.size
  replace e := e.trans e6
  refine runl_ev (ev_xor (_) rfl rfl (rfl)) ?_
  refine runl_ev (ev_move rfl) ?_
  refine runl_ev (ev_shr (_) rfl rfl (by omega) (rfl)) ?_
  refine runl_ev (ev_xor (_) rfl rfl (rfl)) ?_
  refine runl_ev (ev_assign rfl) ?_
  refine runl_nil ?_
  refine run_ret_any Tryz.func165 (res1 Tryz.results165 rfl) ?_
  exact ⟨rfl, e⟩
theorem ds1_any (x : Int) (w : World) : Ret Tryz.prog 166 [.int .u32 x] w fun r w' => r = .int .u32 (ds1F x) ∧ Ext w w' := by
  have e := ExtB.refl (fun _ => False) w
  refine ret_of_run Tryz.func166 rfl Tryz.ntmps166 rfl ?_
  refine run_seq ?_
  refine run_region rfl ?_
  refine runl_ev (ev_assign rfl) ?_
  refine runl_nil ?_
  refine run_seq ?_
  refine run_region rfl ?_
  refine runl_ev (ev_move rfl) ?_
  refine runl_op (t_call call_206 rfl (turn_any _ 17 (by decide) _)) ?_
  rintro _ w4 ⟨rfl, e4⟩
  have z4 := e4.size
  replace e := e.trans e4
  refine runl_ev (ev_move rfl) ?_
  refine runl_op (t_call call_206 rfl (turn_any _ 19 (by decide) _)) ?_
  rintro _ w6 ⟨rfl, e6⟩
  have z6 := e6.size
  replace e := e.trans e6
  refine runl_ev (ev_xor (_) rfl rfl (rfl)) ?_
  refine runl_ev (ev_move rfl) ?_
  refine runl_ev (ev_shr (_) rfl rfl (by omega) (rfl)) ?_
  refine runl_ev (ev_xor (_) rfl rfl (rfl)) ?_
  refine runl_ev (ev_assign rfl) ?_
  refine runl_nil ?_
  refine run_ret_any Tryz.func166 (res1 Tryz.results166 rfl) ?_
  exact ⟨rfl, e⟩
theorem db0_any (x : Int) (w : World) : Ret Tryz.prog 169 [.int .u32 x] w fun r w' => r = .int .u32 (db0F x) ∧ Ext w w' := by
  have e := ExtB.refl (fun _ => False) w
  refine ret_of_run Tryz.func169 rfl Tryz.ntmps169 rfl ?_
  refine run_seq ?_
  refine run_region rfl ?_
  refine runl_ev (ev_assign rfl) ?_
  refine runl_nil ?_
  refine run_seq ?_
  refine run_region rfl ?_
  refine runl_ev (ev_move rfl) ?_
  refine runl_op (t_call call_206 rfl (turn_any _ 2 (by decide) _)) ?_
  rintro _ w4 ⟨rfl, e4⟩
  have z4 := e4.size
  replace e := e.trans e4
  refine runl_ev (ev_move rfl) ?_
  refine runl_op (t_call call_206 rfl (turn_any _ 13 (by decide) _)) ?_
  rintro _ w6 ⟨rfl, e6⟩
  have z6 := e6.size
  replace e := e.trans e6
  refine runl_ev (ev_xor (_) rfl rfl (rfl)) ?_
  refine runl_ev (ev_move rfl) ?_
  refine runl_op (t_call call_206 rfl (turn_any _ 22 (by decide) _)) ?_
  rintro _ w9 ⟨rfl, e9⟩
  have z9 := e9.size
  replace e := e.trans e9
  refine runl_ev (ev_xor (_) rfl rfl (rfl)) ?_
  refine runl_ev (ev_assign rfl) ?_
  refine runl_nil ?_
  refine run_ret_any Tryz.func169 (res1 Tryz.results169 rfl) ?_
  exact ⟨rfl, e⟩
theorem db1_any (x : Int) (w : World) : Ret Tryz.prog 167 [.int .u32 x] w fun r w' => r = .int .u32 (db1F x) ∧ Ext w w' := by
  have e := ExtB.refl (fun _ => False) w
  refine ret_of_run Tryz.func167 rfl Tryz.ntmps167 rfl ?_
  refine run_seq ?_
  refine run_region rfl ?_
  refine runl_ev (ev_assign rfl) ?_
  refine runl_nil ?_
  refine run_seq ?_
  refine run_region rfl ?_
  refine runl_ev (ev_move rfl) ?_
  refine runl_op (t_call call_206 rfl (turn_any _ 6 (by decide) _)) ?_
  rintro _ w4 ⟨rfl, e4⟩
  have z4 := e4.size
  replace e := e.trans e4
  refine runl_ev (ev_move rfl) ?_
  refine runl_op (t_call call_206 rfl (turn_any _ 11 (by decide) _)) ?_
  rintro _ w6 ⟨rfl, e6⟩
  have z6 := e6.size
  replace e := e.trans e6
  refine runl_ev (ev_xor (_) rfl rfl (rfl)) ?_
  refine runl_ev (ev_move rfl) ?_
  refine runl_op (t_call call_206 rfl (turn_any _ 25 (by decide) _)) ?_
  rintro _ w9 ⟨rfl, e9⟩
  have z9 := e9.size
  replace e := e.trans e9
  refine runl_ev (ev_xor (_) rfl rfl (rfl)) ?_
  refine runl_ev (ev_assign rfl) ?_
  refine runl_nil ?_
  refine run_ret_any Tryz.func167 (res1 Tryz.results167 rfl) ?_
  exact ⟨rfl, e⟩
theorem dch_any (x y z : Int) (w : World) : Ret Tryz.prog 168 [.int .u32 x, .int .u32 y, .int .u32 z] w fun r w' => r = .int .u32 (dchF x y z) ∧ Ext w w' := by
  have e := ExtB.refl (fun _ => False) w
  refine ret_of_run Tryz.func168 rfl Tryz.ntmps168 rfl ?_
  refine run_seq ?_
  refine run_region rfl ?_
  refine runl_ev (ev_assign rfl) ?_
  refine runl_nil ?_
  refine run_seq ?_
  refine run_region rfl ?_
  refine runl_ev (ev_move rfl) ?_
  refine runl_ev (ev_move rfl) ?_
  refine runl_ev (ev_and (_) rfl rfl (rfl)) ?_
  refine runl_ev (ev_move rfl) ?_
  refine runl_ev (ev_com _ rfl rfl) ?_
  refine runl_ev (ev_move rfl) ?_
  refine runl_ev (ev_and (_) rfl rfl (rfl)) ?_
  refine runl_ev (ev_xor (_) rfl rfl (rfl)) ?_
  refine runl_ev (ev_assign rfl) ?_
  refine runl_nil ?_
  refine run_ret_any Tryz.func168 (res1 Tryz.results168 rfl) ?_
  exact ⟨rfl, e⟩
theorem dmo_any (x y z : Int) (w : World) : Ret Tryz.prog 170 [.int .u32 x, .int .u32 y, .int .u32 z] w fun r w' => r = .int .u32 (dmoF x y z) ∧ Ext w w' := by
  have e := ExtB.refl (fun _ => False) w
  refine ret_of_run Tryz.func170 rfl Tryz.ntmps170 rfl ?_
  refine run_seq ?_
  refine run_region rfl ?_
  refine runl_ev (ev_assign rfl) ?_
  refine runl_nil ?_
  refine run_seq ?_
  refine run_region rfl ?_
  refine runl_ev (ev_move rfl) ?_
  refine runl_ev (ev_move rfl) ?_
  refine runl_ev (ev_and (_) rfl rfl (rfl)) ?_
  refine runl_ev (ev_move rfl) ?_
  refine runl_ev (ev_move rfl) ?_
  refine runl_ev (ev_and (_) rfl rfl (rfl)) ?_
  refine runl_ev (ev_xor (_) rfl rfl (rfl)) ?_
  refine runl_ev (ev_move rfl) ?_
  refine runl_ev (ev_move rfl) ?_
  refine runl_ev (ev_and (_) rfl rfl (rfl)) ?_
  refine runl_ev (ev_xor (_) rfl rfl (rfl)) ?_
  refine runl_ev (ev_assign rfl) ?_
  refine runl_nil ?_
  refine run_ret_any Tryz.func170 (res1 Tryz.results170 rfl) ?_
  exact ⟨rfl, e⟩
theorem dtake_any (sb kb : Nat) (l : List UInt8) (a : Option Addr) (n c : Nat) (xs ks : List Int) (w : World) (hs : w.heap[sb]? = some (.cells ⟨u32s xs⟩ 191 (0, 0))) (hxl : xs.length = 8) (hk : w.heap[kb]? = some (.cells ⟨u32s ks⟩ 192 (0, 0))) (hkl : ks.length = 64) (hl : SlAt 1 RByte w (.slice a n c) l) (h64 : 64 ≤ l.length) (hln : l.length ≤ 1099511627776) :
    Ret Tryz.prog 105 [.pointer (some ⟨sb, 0, none⟩), .slice a n c, .pointer (some ⟨kb, 0, none⟩)] w fun r w' => r = .tuple #[] ∧ w'.heap[sb]? = some (.cells ⟨u32s (cmpF ks xs l)⟩ 191 (0, 0)) ∧ ExtB (fun k => k = sb) w w' := by
  have e := ExtB.refl (fun _ => False) w
  obtain ⟨rfl, -⟩ := hl.at
  have hs0 := hs
  have hk0 := hk
  have lsb := lt_of_at hs
  have lkb := lt_of_at hk
  refine ret_of_run Tryz.func105 rfl Tryz.ntmps105 rfl ?_
  refine run_seq ?_
  refine run_region rfl ?_
  refine runl_op (t_alloc zero_192 rfl) ?_
  rintro _ w6 ⟨b6, rfl, hb6, e6, n6, l6⟩
  have z6 := e6.size
  replace e := e.trans e6
  replace hs := e6.at hs
  replace hk := e6.at hk
  refine runl_nil ?_
  refine run_seq ?_
  refine run_seq ?_
  refine run_region rfl ?_
  refine runl_ev (ev_move rfl) ?_
  refine runl_nil ?_
  refine run_block ?_
  refine run_loop (ι := Nat × List Int) (fun x => [(0, .pointer (some ⟨sb, 0, none⟩)), (1, .slice a l.length c), (2, .pointer (some ⟨kb, 0, none⟩)), (6, .pointer (some ⟨b6, 0, none⟩)), (14, .int .i64 (x.1 : Int))]) (fun x w' => x.1 ≤ 16 ∧ x.2.length = 64 ∧ w'.heap[b6]? = some (.cells ⟨u32s x.2⟩ 192 (0, 0)) ∧ Ext w w' ∧ loadL l x.1 (16 - x.1) x.2 = loadL l 0 16 (List.replicate 64 0)) (fun x => 16 - x.1) ((0, List.replicate 64 0)) ⟨rfl, rfl, rfl, rfl, rfl, trivial⟩ (⟨Nat.zero_le _, by simp, by rw [u32s_zero]; exact hb6, e, rfl⟩) ?_
  clear e hb6 hs hk
  intro ⟨k, wb⟩ w1 ⟨hk16, hwl, hb6, e, hinv⟩ IH
  simp only at hk16 hwl hb6 hinv
  have lb6 := lt_of_at hb6
  have ze := e.size
  refine run_seq ?_
  refine run_region rfl ?_
  refine runl_ev (ev_lss rfl rfl) ?_
  refine runl_nil ?_
  refine run_seq ?_
  refine run_dcond rfl (fun h0 => ?_) (fun h0 => ?_)
  · obtain ⟨bA, oA, cA, rfl, rfl, hcA⟩ := hl.at.2 (4 * k) (by omega)
    obtain ⟨bX1, oX1, cX1, he1, hr1, hc1⟩ := hl.at.2 (4 * k + 1) (by omega)
    cases he1
    obtain rfl := hr1
    obtain ⟨bX2, oX2, cX2, he2, hr2, hc2⟩ := hl.at.2 (4 * k + 2) (by omega)
    cases he2
    obtain rfl := hr2
    obtain ⟨bX3, oX3, cX3, he3, hr3, hc3⟩ := hl.at.2 (4 * k + 3) (by omega)
    cases he3
    obtain rfl := hr3
    have hk1 : k < 16 := by omega
    rw [loadL_step l wb hk1] at hinv
    refine run_skip ?_
    refine run_seq ?_
    refine run_block ?_
    refine run_seq ?_
    refine run_region rfl ?_
    refine runl_ev (ev_move rfl) ?_
    refine runl_ev (ev_assign rfl) ?_
    refine runl_nil ?_
    refine run_draw mo (fun w' => Ext w1 w') [35] [(true, 0), (true, 1), (true, 2), (true, 3), (true, 4), (true, 5), (true, 6), (true, 7), (true, 8), (true, 9), (true, 10), (true, 11), (true, 12), (true, 13), (true, 14), (true, 15), (true, 16), (true, 17), (true, 18), (true, 19), (true, 20), (true, 21), (true, 22), (true, 23), (true, 24), (true, 25), (true, 26), (true, 27), (true, 28), (true, 29), (true, 30), (true, 31), (true, 32), (true, 33), (true, 34), (false, 35)] (by kernel_rfl) ?_
    intro wr4 er4
    have zr4 := er4.size
    have hsr4 := er4
    have ep := e.trans er4
    have hb6p := er4.at hb6
    refine rund_ev hsr4 rfl (ev_move rfl) ?_
    refine rund_ev hsr4 rfl (ev_move rfl) ?_
    refine rund_ev hsr4 rfl (ev_move rfl) ?_
    refine rund_ev hsr4 rfl (ev_mulK (((4 * k : Nat) : Int)) rfl rfl (by rw [show (4 : Int) * (k : Int) = ((4 * k : Nat) : Int) by omega]; exact wrap_i64 (by omega) (by omega))) ?_
    refine rund_ev hsr4 rfl (ev_indexAddr (k := 4 * k) el_29 rfl rfl (by omega)) ?_
    refine rund_ev hsr4 rfl (ev_load1 cell_5 rfl (fun wz hz => hcA.ext (e.trans hz))) ?_
    refine rund_ev hsr4 rfl (ev_convI (_) Tryz.underlying5 Tryz.underlying189 rfl (rfl)) ?_
    refine rund_ev hsr4 rfl (ev_shl (_) rfl rfl (by omega) (rfl)) ?_
    refine rund_absE (fun t24 h24 => ?_)
    refine rund_ev hsr4 rfl (ev_move rfl) ?_
    refine rund_ev hsr4 rfl (ev_move rfl) ?_
    refine rund_ev hsr4 rfl (ev_mulK (((4 * k : Nat) : Int)) rfl rfl (by rw [show (4 : Int) * (k : Int) = ((4 * k : Nat) : Int) by omega]; exact wrap_i64 (by omega) (by omega))) ?_
    refine rund_ev hsr4 rfl (ev_addK (((4 * k + 1 : Nat) : Int)) rfl rfl (by rw [show ((4 * k : Nat) : Int) + 1 = ((4 * k + 1 : Nat) : Int) by omega]; exact wrap_i64 (by omega) (by omega))) ?_
    refine rund_ev hsr4 rfl (ev_indexAddr (k := 4 * k + 1) el_29 rfl rfl (by omega)) ?_
    refine rund_ev hsr4 rfl (ev_load1 cell_5 rfl (fun wz hz => hc1.ext (e.trans hz))) ?_
    refine rund_ev hsr4 rfl (ev_convI (_) Tryz.underlying5 Tryz.underlying189 rfl (rfl)) ?_
    refine rund_ev hsr4 rfl (ev_shl (_) rfl rfl (by omega) (rfl)) ?_
    refine rund_absE (fun t32 h32 => ?_)
    refine rund_ev hsr4 rfl (ev_or (_) rfl rfl (rfl)) ?_
    refine rund_ev hsr4 rfl (ev_move rfl) ?_
    refine rund_ev hsr4 rfl (ev_move rfl) ?_
    refine rund_ev hsr4 rfl (ev_mulK (((4 * k : Nat) : Int)) rfl rfl (by rw [show (4 : Int) * (k : Int) = ((4 * k : Nat) : Int) by omega]; exact wrap_i64 (by omega) (by omega))) ?_
    refine rund_ev hsr4 rfl (ev_addK (((4 * k + 2 : Nat) : Int)) rfl rfl (by rw [show ((4 * k : Nat) : Int) + 2 = ((4 * k + 2 : Nat) : Int) by omega]; exact wrap_i64 (by omega) (by omega))) ?_
    refine rund_ev hsr4 rfl (ev_indexAddr (k := 4 * k + 2) el_29 rfl rfl (by omega)) ?_
    refine rund_ev hsr4 rfl (ev_load1 cell_5 rfl (fun wz hz => hc2.ext (e.trans hz))) ?_
    refine rund_ev hsr4 rfl (ev_convI (_) Tryz.underlying5 Tryz.underlying189 rfl (rfl)) ?_
    refine rund_ev hsr4 rfl (ev_shl (_) rfl rfl (by omega) (rfl)) ?_
    refine rund_absE (fun t41 h41 => ?_)
    refine rund_ev hsr4 rfl (ev_or (_) rfl rfl (rfl)) ?_
    refine rund_ev hsr4 rfl (ev_move rfl) ?_
    refine rund_ev hsr4 rfl (ev_move rfl) ?_
    refine rund_ev hsr4 rfl (ev_mulK (((4 * k : Nat) : Int)) rfl rfl (by rw [show (4 : Int) * (k : Int) = ((4 * k : Nat) : Int) by omega]; exact wrap_i64 (by omega) (by omega))) ?_
    refine rund_ev hsr4 rfl (ev_addK (((4 * k + 3 : Nat) : Int)) rfl rfl (by rw [show ((4 * k : Nat) : Int) + 3 = ((4 * k + 3 : Nat) : Int) by omega]; exact wrap_i64 (by omega) (by omega))) ?_
    refine rund_ev hsr4 rfl (ev_indexAddr (k := 4 * k + 3) el_29 rfl rfl (by omega)) ?_
    refine rund_ev hsr4 rfl (ev_load1 cell_5 rfl (fun wz hz => hc3.ext (e.trans hz))) ?_
    refine rund_ev hsr4 rfl (ev_convI (_) Tryz.underlying5 Tryz.underlying189 rfl (rfl)) ?_
    refine rund_ev hsr4 rfl (ev_or (_) rfl rfl (rfl)) ?_
    refine rund_absE (fun t50 h50 => ?_)
    refine rund_ev hsr4 rfl (ev_indexAddrA (k := k) arr_192 rfl rfl (by omega)) ?_
    refine rund_doT rfl rfl (t_store1 sz_189 rfl rfl rfl rfl hb6p (by rw [u32s_len]; omega)) ?_
    rintro _ v4_35 ⟨hq4_35, e4_35, z4_35⟩
    replace ep := ep.new1 e4_35 (by omega)
    replace hb6p := hq4_35
    clear hq4_35
    refine rund_nil ?_
    replace e := ep
    clear ep
    replace hb6 := hb6p
    clear hb6p
    replace hb6 : _ = some (Obj.cells ⟨(u32s wb).set (0 + k * 1) _⟩ _ _) := hb6
    rw [Nat.zero_add, Nat.mul_one, u32s_set] at hb6
    refine run_inBlock ?_
    refine run_region rfl ?_
    refine runl_ev (ev_add rfl rfl (by omega) (by omega)) ?_
    refine runl_ev (ev_move rfl) ?_
    refine runl_nil ?_
    exact IH (k + 1, _) _ _ (by simp only; omega) ⟨rfl, rfl, rfl, rfl, rfl, trivial⟩ ⟨by show k + 1 ≤ 16; omega, by simp only [List.length_set]; exact hwl, hb6, e, (congrArg (fun v => loadL l (k + 1) (16 - (k + 1)) (wb.set k v)) (by subst h50 h41 h32 h24; rw [ldF, gb_get (by omega : 4 * k < l.length), gb_get (by omega : 4 * k + 1 < l.length), gb_get (by omega : 4 * k + 2 < l.length), gb_get (by omega : 4 * k + 3 < l.length)]; rfl)).trans hinv⟩
  · obtain rfl : k = 16 := by omega
    have hW0 : schL 16 (64 - 16) wb = wF l := congrArg (schL 16 48) hinv
    refine run_exit rfl ?_
    refine run_seq ?_
    refine run_seq ?_
    refine run_region rfl ?_
    refine runl_ev (ev_assign rfl) ?_
    refine runl_nil ?_
    refine run_block ?_
    refine run_loop (ι := Nat × List Int) (fun x => [(0, .pointer (some ⟨sb, 0, none⟩)), (2, .pointer (some ⟨kb, 0, none⟩)), (6, .pointer (some ⟨b6, 0, none⟩)), (8, .int .i64 (x.1 : Int))]) (fun x w' => 16 ≤ x.1 ∧ x.1 ≤ 64 ∧ x.2.length = 64 ∧ w'.heap[b6]? = some (.cells ⟨u32s x.2⟩ 192 (0, 0)) ∧ Ext w w' ∧ schL x.1 (64 - x.1) x.2 = wF l) (fun x => 64 - x.1) ((16, wb)) ⟨rfl, rfl, rfl, rfl, trivial⟩ (⟨Nat.le_refl _, (by show 16 ≤ 64; decide), hwl, hb6, e, hW0⟩) ?_
    clear e hb6
    intro ⟨k, wb⟩ w2 ⟨hk16, hk64, hwl, hb6, e, hinv⟩ IH
    simp only at hk16 hk64 hwl hb6 hinv
    have lb6 := lt_of_at hb6
    have ze := e.size
    refine run_seq ?_
    refine run_seq ?_
    refine run_region rfl ?_
    refine runl_ev (ev_move rfl) ?_
    refine runl_ev (ev_lss rfl rfl) ?_
    refine runl_nil ?_
    refine run_dcond rfl (fun h1 => ?_) (fun h1 => ?_)
    · have hk1 : k < 64 := by omega
      rw [schL_step wb hk1] at hinv
      refine run_skip ?_
      refine run_seq ?_
      refine run_block ?_
      refine run_draw mo (fun w' => Ext w2 w') [23] [(true, 0), (true, 1), (true, 2), (true, 3), (true, 4), (true, 5), (true, 6), (true, 7), (true, 8), (true, 11), (true, 12), (true, 13), (true, 14), (true, 16), (true, 17), (true, 18), (true, 19), (false, 9), (true, 10), (true, 15), (false, 20), (true, 21), (true, 22), (false, 23)] (by kernel_rfl) ?_
      intro wr9 er9
      have zr9 := er9.size
      have hsr9 := er9
      have ep := e.trans er9
      have hb6p := er9.at hb6
      refine rund_ev hsr9 rfl (ev_move rfl) ?_
      refine rund_ev hsr9 rfl (ev_move rfl) ?_
      refine rund_ev hsr9 rfl (ev_subK (((k - 16 : Nat) : Int)) rfl rfl (by rw [show (k : Int) - 16 = ((k - 16 : Nat) : Int) by omega]; exact wrap_i64 (by omega) (by omega))) ?_
      refine rund_ev hsr9 rfl (ev_indexAddrA (k := k - 16) arr_192 rfl rfl (by omega)) ?_
      refine rund_ev hsr9 rfl (ev_load1 cell_189 rfl (fun wz hz => (cells_all (hz.at hb6)).pick (k - 16) (by omega) (u32s_get (xs := wb) (i := k - 16) (by omega)))) ?_
      refine rund_ev hsr9 rfl (ev_move rfl) ?_
      refine rund_ev hsr9 rfl (ev_subK (((k - 15 : Nat) : Int)) rfl rfl (by rw [show (k : Int) - 15 = ((k - 15 : Nat) : Int) by omega]; exact wrap_i64 (by omega) (by omega))) ?_
      refine rund_ev hsr9 rfl (ev_indexAddrA (k := k - 15) arr_192 rfl rfl (by omega)) ?_
      refine rund_ev hsr9 rfl (ev_load1 cell_189 rfl (fun wz hz => (cells_all (hz.at hb6)).pick (k - 15) (by omega) (u32s_get (xs := wb) (i := k - 15) (by omega)))) ?_
      refine rund_ev hsr9 rfl (ev_move rfl) ?_
      refine rund_ev hsr9 rfl (ev_subK (((k - 7 : Nat) : Int)) rfl rfl (by rw [show (k : Int) - 7 = ((k - 7 : Nat) : Int) by omega]; exact wrap_i64 (by omega) (by omega))) ?_
      refine rund_ev hsr9 rfl (ev_indexAddrA (k := k - 7) arr_192 rfl rfl (by omega)) ?_
      refine rund_ev hsr9 rfl (ev_load1 cell_189 rfl (fun wz hz => (cells_all (hz.at hb6)).pick (k - 7) (by omega) (u32s_get (xs := wb) (i := k - 7) (by omega)))) ?_
      refine rund_ev hsr9 rfl (ev_move rfl) ?_
      refine rund_ev hsr9 rfl (ev_subK (((k - 2 : Nat) : Int)) rfl rfl (by rw [show (k : Int) - 2 = ((k - 2 : Nat) : Int) by omega]; exact wrap_i64 (by omega) (by omega))) ?_
      refine rund_ev hsr9 rfl (ev_indexAddrA (k := k - 2) arr_192 rfl rfl (by omega)) ?_
      refine rund_ev hsr9 rfl (ev_load1 cell_189 rfl (fun wz hz => (cells_all (hz.at hb6)).pick (k - 2) (by omega) (u32s_get (xs := wb) (i := k - 2) (by omega)))) ?_
      refine rund_op rfl (t_call call_165 rfl (ds0_any _ _)) ?_
      rintro _ w66 ⟨rfl, e66⟩
      have z66 := e66.size
      replace ep := ep.trans e66
      replace hb6p := e66.at hb6p
      have hs66 := hsr9.trans e66
      refine ⟨hs66, ?_⟩
      refine rund_ev hs66 rfl (ev_addK (_) rfl rfl (rfl)) ?_
      refine rund_absE (fun t67 h67 => ?_)
      refine rund_ev hs66 rfl (ev_addK (_) rfl rfl (rfl)) ?_
      refine rund_absE (fun t72 h72 => ?_)
      refine rund_op rfl (t_call call_166 rfl (ds1_any _ _)) ?_
      rintro _ w77 ⟨rfl, e77⟩
      have z77 := e77.size
      replace ep := ep.trans e77
      replace hb6p := e77.at hb6p
      have hs77 := hs66.trans e77
      refine ⟨hs77, ?_⟩
      refine rund_ev hs77 rfl (ev_addK (_) rfl rfl (rfl)) ?_
      refine rund_absE (fun t78 h78 => ?_)
      refine rund_ev hs77 rfl (ev_indexAddrA (k := k) arr_192 rfl rfl (by omega)) ?_
      refine rund_doT rfl rfl (t_store1 sz_189 rfl rfl rfl rfl hb6p (by rw [u32s_len]; omega)) ?_
      rintro _ v9_23 ⟨hq9_23, e9_23, z9_23⟩
      replace ep := ep.new1 e9_23 (by omega)
      replace hb6p := hq9_23
      clear hq9_23
      refine rund_nil ?_
      replace e := ep
      clear ep
      replace hb6 := hb6p
      clear hb6p
      replace hb6 : _ = some (Obj.cells ⟨(u32s wb).set (0 + k * 1) _⟩ _ _) := hb6
      rw [Nat.zero_add, Nat.mul_one, u32s_set] at hb6
      refine run_inBlock ?_
      refine run_region rfl ?_
      refine runl_ev (ev_move rfl) ?_
      refine runl_ev (ev_add rfl rfl (by omega) (by omega)) ?_
      refine runl_ev (ev_assign rfl) ?_
      refine runl_nil ?_
      exact IH (k + 1, _) _ _ (by simp only; omega) ⟨rfl, rfl, rfl, rfl, trivial⟩ ⟨by show 16 ≤ k + 1; omega, by show k + 1 ≤ 64; omega, by simp only [List.length_set]; exact hwl, hb6, e, (congrArg (fun v => schL (k + 1) (64 - (k + 1)) (wb.set k v)) (by subst h78 h72 h67; rw [nextW, gi_get (by omega : k - 16 < wb.length), gi_get (by omega : k - 15 < wb.length), gi_get (by omega : k - 7 < wb.length), gi_get (by omega : k - 2 < wb.length)]; rfl)).trans hinv⟩
    · obtain rfl : k = 64 := by omega
      have hW : wb = wF l := hinv
      have hs := e.at hs0
      have hk := e.at hk0
      refine run_exit rfl ?_
      refine run_seq ?_
      refine run_region rfl ?_
      refine runl_ev (ev_move rfl) ?_
      refine runl_ev (ev_nilCheck rfl) ?_
      refine runl_ev (ev_loadA agg_191 (by rw [u32s_len]; exact hxl) rfl (eqw (cells_all hs))) ?_
      refine runl_op (t_alloc zero_191 rfl) ?_
      rintro _ w9 ⟨b9, rfl, hb9, e9, n9, l9⟩
      have z9 := e9.size
      replace e := e.trans e9
      replace hb6 := e9.at hb6
      refine runl_do (t_storeW sz_191 rfl rfl (by rw [u32s_len]; exact hxl) rfl hb9 ((u32s_one _))) ?_
      rintro _ v10_4 ⟨hq10_4, e10_4, z10_4⟩
      replace e := e.new1 e10_4 (by omega)
      replace hb6 := e10_4.at1 hb6 (by omega)
      replace hb9 := hq10_4
      clear hq10_4
      refine runl_nil ?_
      refine run_seq ?_
      refine run_seq ?_
      refine run_region rfl ?_
      refine runl_ev (ev_move rfl) ?_
      refine runl_nil ?_
      refine run_block ?_
      refine run_loop (ι := Nat × List Int) (fun x => [(0, .pointer (some ⟨sb, 0, none⟩)), (2, .pointer (some ⟨kb, 0, none⟩)), (6, .pointer (some ⟨b6, 0, none⟩)), (9, .pointer (some ⟨b9, 0, none⟩)), (83, .int .i64 (x.1 : Int))]) (fun x w' => x.1 ≤ 64 ∧ x.2.length = 8 ∧ w'.heap[b9]? = some (.cells ⟨u32s x.2⟩ 191 (0, 0)) ∧ w'.heap[b6]? = some (.cells ⟨u32s wb⟩ 192 (0, 0)) ∧ Ext w w' ∧ rndL ks wb x.1 (64 - x.1) x.2 = rndL ks wb 0 64 xs) (fun x => 64 - x.1) ((0, xs)) ⟨rfl, rfl, rfl, rfl, rfl, trivial⟩ (⟨Nat.zero_le _, hxl, hb9, hb6, e, rfl⟩) ?_
      clear e hb6 hb9 hs hk
      intro ⟨k, vs⟩ w3 ⟨hk64, hvl, hb9, hb6, e, hinv⟩ IH
      simp only at hk64 hvl hb9 hinv
      have lb9 := lt_of_at hb9
      have ze := e.size
      have hk := e.at hk0
      refine run_seq ?_
      refine run_region rfl ?_
      refine runl_ev (ev_lss rfl rfl) ?_
      refine runl_nil ?_
      refine run_seq ?_
      refine run_dcond rfl (fun h2 => ?_) (fun h2 => ?_)
      · have hk1 : k < 64 := by omega
        rw [rndL_step ks wb vs hk1] at hinv
        refine run_skip ?_
        refine run_seq ?_
        refine run_block ?_
        refine run_seq ?_
        refine run_region rfl ?_
        refine runl_ev (ev_move rfl) ?_
        refine runl_ev (ev_assign rfl) ?_
        refine runl_nil ?_
        refine run_seq ?_
        refine run_draw mo (fun w' => Ext w3 w') [] [(true, 0), (true, 1), (true, 2), (true, 3), (true, 6), (true, 7), (true, 8), (true, 9), (true, 10), (true, 11), (true, 14), (true, 15), (true, 16), (true, 17), (true, 18), (true, 20), (true, 21), (true, 22), (false, 4), (true, 5), (false, 12), (true, 13), (true, 19), (true, 23), (true, 24)] (by kernel_rfl) ?_
        intro wr14 er14
        have zr14 := er14.size
        have hsr14 := er14
        have ep := e.trans er14
        have hb6p := er14.at hb6
        have hb9p := er14.at hb9
        have hkp := er14.at hk
        refine rund_ev hsr14 rfl (ev_indexAddrA (k := 7) arr_191 rfl rfl (by omega)) ?_
        refine rund_ev hsr14 rfl (ev_load1 cell_189 rfl (fun wz hz => (cells_all (hz.at hb9)).pick 7 rfl (u32s_get (xs := vs) (i := 7) (by omega)))) ?_
        refine rund_ev hsr14 rfl (ev_indexAddrA (k := 4) arr_191 rfl rfl (by omega)) ?_
        refine rund_ev hsr14 rfl (ev_load1 cell_189 rfl (fun wz hz => (cells_all (hz.at hb9)).pick 4 rfl (u32s_get (xs := vs) (i := 4) (by omega)))) ?_
        refine rund_ev hsr14 rfl (ev_indexAddrA (k := 4) arr_191 rfl rfl (by omega)) ?_
        refine rund_ev hsr14 rfl (ev_load1 cell_189 rfl (fun wz hz => (cells_all (hz.at hb9)).pick 4 rfl (u32s_get (xs := vs) (i := 4) (by omega)))) ?_
        refine rund_ev hsr14 rfl (ev_indexAddrA (k := 5) arr_191 rfl rfl (by omega)) ?_
        refine rund_ev hsr14 rfl (ev_load1 cell_189 rfl (fun wz hz => (cells_all (hz.at hb9)).pick 5 rfl (u32s_get (xs := vs) (i := 5) (by omega)))) ?_
        refine rund_ev hsr14 rfl (ev_indexAddrA (k := 6) arr_191 rfl rfl (by omega)) ?_
        refine rund_ev hsr14 rfl (ev_load1 cell_189 rfl (fun wz hz => (cells_all (hz.at hb9)).pick 6 rfl (u32s_get (xs := vs) (i := 6) (by omega)))) ?_
        refine rund_ev hsr14 rfl (ev_move rfl) ?_
        refine rund_ev hsr14 rfl (ev_move rfl) ?_
        refine rund_ev hsr14 rfl (ev_nilCheck rfl) ?_
        refine rund_ev hsr14 rfl (ev_indexAddrA (k := k) arr_192 rfl rfl (by omega)) ?_
        refine rund_ev hsr14 rfl (ev_load1 cell_189 rfl (fun wz hz => (cells_all (hz.at hk)).pick k (by omega) (u32s_get (xs := ks) (i := k) (by omega)))) ?_
        refine rund_ev hsr14 rfl (ev_move rfl) ?_
        refine rund_ev hsr14 rfl (ev_indexAddrA (k := k) arr_192 rfl rfl (by omega)) ?_
        refine rund_ev hsr14 rfl (ev_load1 cell_189 rfl (fun wz hz => (cells_all (hz.at hb6)).pick k (by omega) (u32s_get (xs := wb) (i := k) (by omega)))) ?_
        refine rund_op rfl (t_call call_167 rfl (db1_any _ _)) ?_
        rintro _ w90 ⟨rfl, e90⟩
        have z90 := e90.size
        replace ep := ep.trans e90
        replace hb6p := e90.at hb6p
        replace hb9p := e90.at hb9p
        replace hkp := e90.at hkp
        have hs90 := hsr14.trans e90
        refine ⟨hs90, ?_⟩
        refine rund_ev hs90 rfl (ev_addK (_) rfl rfl (rfl)) ?_
        refine rund_absE (fun t91 h91 => ?_)
        refine rund_op rfl (t_call call_168 rfl (dch_any _ _ _ _)) ?_
        rintro _ w98 ⟨rfl, e98⟩
        have z98 := e98.size
        replace ep := ep.trans e98
        replace hb6p := e98.at hb6p
        replace hb9p := e98.at hb9p
        replace hkp := e98.at hkp
        have hs98 := hs90.trans e98
        refine ⟨hs98, ?_⟩
        refine rund_ev hs98 rfl (ev_addK (_) rfl rfl (rfl)) ?_
        refine rund_absE (fun t99 h99 => ?_)
        refine rund_ev hs98 rfl (ev_addK (_) rfl rfl (rfl)) ?_
        refine rund_absE (fun t105 h105 => ?_)
        refine rund_ev hs98 rfl (ev_addK (_) rfl rfl (rfl)) ?_
        refine rund_absE (fun t109 h109 => ?_)
        refine rund_ev hs98 rfl (ev_assign rfl) ?_
        refine rund_nil ?_
        replace e := ep
        clear ep
        replace hb6 := hb6p
        clear hb6p
        replace hb9 := hb9p
        clear hb9p
        replace hk := hkp
        clear hkp
        refine run_seq ?_
        refine run_draw mo (fun w' => Ext w98 w') [] [(true, 0), (true, 1), (true, 3), (true, 4), (true, 5), (true, 6), (true, 7), (true, 8), (false, 2), (false, 9), (true, 10), (true, 11)] (by kernel_rfl) ?_
        intro wr15 er15
        have zr15 := er15.size
        have hsr15 := er15
        have ep := e.trans er15
        have hb6p := er15.at hb6
        have hb9p := er15.at hb9
        have hkp := er15.at hk
        refine rund_ev hsr15 rfl (ev_indexAddrA (k := 0) arr_191 rfl rfl (by omega)) ?_
        refine rund_ev hsr15 rfl (ev_load1 cell_189 rfl (fun wz hz => (cells_all (hz.at hb9)).pick 0 rfl (u32s_get (xs := vs) (i := 0) (by omega)))) ?_
        refine rund_ev hsr15 rfl (ev_indexAddrA (k := 0) arr_191 rfl rfl (by omega)) ?_
        refine rund_ev hsr15 rfl (ev_load1 cell_189 rfl (fun wz hz => (cells_all (hz.at hb9)).pick 0 rfl (u32s_get (xs := vs) (i := 0) (by omega)))) ?_
        refine rund_ev hsr15 rfl (ev_indexAddrA (k := 1) arr_191 rfl rfl (by omega)) ?_
        refine rund_ev hsr15 rfl (ev_load1 cell_189 rfl (fun wz hz => (cells_all (hz.at hb9)).pick 1 rfl (u32s_get (xs := vs) (i := 1) (by omega)))) ?_
        refine rund_ev hsr15 rfl (ev_indexAddrA (k := 2) arr_191 rfl rfl (by omega)) ?_
        refine rund_ev hsr15 rfl (ev_load1 cell_189 rfl (fun wz hz => (cells_all (hz.at hb9)).pick 2 rfl (u32s_get (xs := vs) (i := 2) (by omega)))) ?_
        refine rund_op rfl (t_call call_169 rfl (db0_any _ _)) ?_
        rintro _ w112 ⟨rfl, e112⟩
        have z112 := e112.size
        replace ep := ep.trans e112
        replace hb6p := e112.at hb6p
        replace hb9p := e112.at hb9p
        replace hkp := e112.at hkp
        have hs112 := hsr15.trans e112
        refine ⟨hs112, ?_⟩
        refine rund_op rfl (t_call call_170 rfl (dmo_any _ _ _ _)) ?_
        rintro _ w119 ⟨rfl, e119⟩
        have z119 := e119.size
        replace ep := ep.trans e119
        replace hb6p := e119.at hb6p
        replace hb9p := e119.at hb9p
        replace hkp := e119.at hkp
        have hs119 := hs112.trans e119
        refine ⟨hs119, ?_⟩
        refine rund_ev hs119 rfl (ev_addK (_) rfl rfl (rfl)) ?_
        refine rund_absE (fun t120 h120 => ?_)
        refine rund_ev hs119 rfl (ev_assign rfl) ?_
        refine rund_nil ?_
        replace e := ep
        clear ep
        replace hb6 := hb6p
        clear hb6p
        replace hb9 := hb9p
        clear hb9p
        replace hk := hkp
        clear hkp
        refine run_region rfl ?_
        refine runl_ev (ev_move rfl) ?_
        refine runl_ev (ev_move rfl) ?_
        refine runl_ev (ev_addK (_) rfl rfl (rfl)) ?_
        refine runl_absE (fun t123 h123 => ?_)
        refine runl_ev (ev_indexAddrA (k := 0) arr_191 rfl rfl (by omega)) ?_
        refine runl_ev (ev_load1 cell_189 rfl (eqw ((cells_all hb9).pick 0 rfl (u32s_get (xs := vs) (i := 0) (by omega))))) ?_
        refine runl_ev (ev_indexAddrA (k := 1) arr_191 rfl rfl (by omega)) ?_
        refine runl_ev (ev_load1 cell_189 rfl (eqw ((cells_all hb9).pick 1 rfl (u32s_get (xs := vs) (i := 1) (by omega))))) ?_
        refine runl_ev (ev_indexAddrA (k := 2) arr_191 rfl rfl (by omega)) ?_
        refine runl_ev (ev_load1 cell_189 rfl (eqw ((cells_all hb9).pick 2 rfl (u32s_get (xs := vs) (i := 2) (by omega))))) ?_
        refine runl_ev (ev_indexAddrA (k := 3) arr_191 rfl rfl (by omega)) ?_
        refine runl_ev (ev_load1 cell_189 rfl (eqw ((cells_all hb9).pick 3 rfl (u32s_get (xs := vs) (i := 3) (by omega))))) ?_
        refine runl_ev (ev_move rfl) ?_
        refine runl_ev (ev_addK (_) rfl rfl (rfl)) ?_
        refine runl_absE (fun t133 h133 => ?_)
        refine runl_ev (ev_indexAddrA (k := 4) arr_191 rfl rfl (by omega)) ?_
        refine runl_ev (ev_load1 cell_189 rfl (eqw ((cells_all hb9).pick 4 rfl (u32s_get (xs := vs) (i := 4) (by omega))))) ?_
        refine runl_ev (ev_indexAddrA (k := 5) arr_191 rfl rfl (by omega)) ?_
        refine runl_ev (ev_load1 cell_189 rfl (eqw ((cells_all hb9).pick 5 rfl (u32s_get (xs := vs) (i := 5) (by omega))))) ?_
        refine runl_ev (ev_indexAddrA (k := 6) arr_191 rfl rfl (by omega)) ?_
        refine runl_ev (ev_load1 cell_189 rfl (eqw ((cells_all hb9).pick 6 rfl (u32s_get (xs := vs) (i := 6) (by omega))))) ?_
        refine runl_ev (ev_build (out := [.int .u32 t123, .int .u32 vs[0], .int .u32 vs[1], .int .u32 vs[2], .int .u32 t133, .int .u32 vs[4], .int .u32 vs[5], .int .u32 vs[6]]) ps_191 zero_191 rfl rfl (fill8 _ _ _ _ _ _ _ _ _)) ?_
        refine runl_do (t_storeW sz_191 rfl rfl rfl (by rw [u32s_len]; exact hvl) hb9 ((by simp))) ?_
        rintro _ v16_20 ⟨hq16_20, e16_20, z16_20⟩
        replace e := e.new1 e16_20 (by omega)
        replace hb6 := e16_20.at1 hb6 (by omega)
        replace hk := e16_20.at1 hk (by omega)
        replace hb9 := hq16_20
        clear hq16_20
        refine runl_nil ?_
        refine run_inBlock ?_
        refine run_region rfl ?_
        refine runl_ev (ev_add rfl rfl (by omega) (by omega)) ?_
        refine runl_ev (ev_move rfl) ?_
        refine runl_nil ?_
        exact IH (k + 1, [t123, vs[0], vs[1], vs[2], t133, vs[4], vs[5], vs[6]]) _ _ (by simp only; omega) ⟨rfl, rfl, rfl, rfl, rfl, trivial⟩ ⟨by show k + 1 ≤ 64; omega, rfl, hb9, hb6, e, (congrArg (rndL ks wb (k + 1) (64 - (k + 1))) (by subst h133 h123 h120 h109 h105 h99 h91; simp only [stepF, t1F, t2F]; rw [gi_get (by omega : 0 < vs.length), gi_get (by omega : 1 < vs.length), gi_get (by omega : 2 < vs.length), gi_get (by omega : 3 < vs.length), gi_get (by omega : 4 < vs.length), gi_get (by omega : 5 < vs.length), gi_get (by omega : 6 < vs.length), gi_get (by omega : 7 < vs.length), gi_get (by omega : k < ks.length), gi_get (by omega : k < wb.length)]; rfl)).trans hinv⟩
      · obtain rfl : k = 64 := by omega
        have hV : vs = rndL ks wb 0 64 xs := hinv
        refine run_exit rfl ?_
        refine run_seq ?_
        refine run_region rfl ?_
        refine runl_ev (ev_move rfl) ?_
        refine runl_nil ?_
        refine run_block ?_
        refine run_loop (ι := Nat × List Int) (fun x => [(0, .pointer (some ⟨sb, 0, none⟩)), (9, .pointer (some ⟨b9, 0, none⟩)), (142, .int .i64 (x.1 : Int))]) (fun x w' => x.1 ≤ 8 ∧ x.2.length = 8 ∧ w'.heap[sb]? = some (.cells ⟨u32s x.2⟩ 191 (0, 0)) ∧ w'.heap[b9]? = some (.cells ⟨u32s vs⟩ 191 (0, 0)) ∧ ExtB (fun k => k = sb) w w' ∧ addL vs x.1 (8 - x.1) x.2 = addL vs 0 8 xs) (fun x => 8 - x.1) ((0, xs)) ⟨rfl, rfl, rfl, trivial⟩ (⟨Nat.zero_le _, hxl, e.at hs0, hb9, e.toB, rfl⟩) ?_
        clear e hb6 hb9 hk
        have lw0 := ze
        intro ⟨k, ys⟩ w4 ⟨hk8, hyl, hs, hb9, eb, hinv⟩ IH
        simp only at hk8 hyl hs hinv
        have ls := lt_of_at hs
        have lb9x := lt_of_at hb9
        have ze := eb.size
        refine run_seq ?_
        refine run_region rfl ?_
        refine runl_ev (ev_lss rfl rfl) ?_
        refine runl_nil ?_
        refine run_seq ?_
        refine run_dcond rfl (fun h3 => ?_) (fun h3 => ?_)
        · have hk1 : k < 8 := by omega
          rw [addL_step vs ys hk1] at hinv
          refine run_skip ?_
          refine run_seq ?_
          refine run_block ?_
          refine run_seq ?_
          refine run_region rfl ?_
          refine runl_ev (ev_move rfl) ?_
          refine runl_ev (ev_assign rfl) ?_
          refine runl_nil ?_
          refine run_draw mo (fun w' => Ext w4 w') [11] [(true, 0), (true, 1), (true, 2), (true, 3), (true, 4), (true, 5), (true, 6), (true, 7), (true, 8), (true, 9), (true, 10), (false, 11)] (by kernel_rfl) ?_
          intro wr21 er21
          have zr21 := er21.size
          have hsr21 := er21
          have hsp := er21.at hs
          have hb9p := er21.at hb9
          have ebp := eb.trans er21.toB
          refine rund_ev hsr21 rfl (ev_move rfl) ?_
          refine rund_ev hsr21 rfl (ev_move rfl) ?_
          refine rund_ev hsr21 rfl (ev_nilCheck rfl) ?_
          refine rund_ev hsr21 rfl (ev_indexAddrA (k := k) arr_191 rfl rfl (by omega)) ?_
          refine rund_ev hsr21 rfl (ev_load1 cell_189 rfl (fun wz hz => (cells_all (hz.at hs)).pick k (by omega) (u32s_get (xs := ys) (i := k) (by omega)))) ?_
          refine rund_ev hsr21 rfl (ev_move rfl) ?_
          refine rund_ev hsr21 rfl (ev_indexAddrA (k := k) arr_191 rfl rfl (by omega)) ?_
          refine rund_ev hsr21 rfl (ev_load1 cell_189 rfl (fun wz hz => (cells_all (hz.at hb9)).pick k (by omega) (u32s_get (xs := vs) (i := k) (by omega)))) ?_
          refine rund_ev hsr21 rfl (ev_addK (_) rfl rfl (rfl)) ?_
          refine rund_absE (fun t153 h153 => ?_)
          refine rund_ev hsr21 rfl (ev_nilCheck rfl) ?_
          refine rund_ev hsr21 rfl (ev_indexAddrA (k := k) arr_191 rfl rfl (by omega)) ?_
          refine rund_doT rfl rfl (t_store1 sz_189 rfl rfl rfl rfl hsp (by rw [u32s_len]; omega)) ?_
          rintro _ v21_11 ⟨hq21_11, e21_11, z21_11⟩
          replace hb9p := e21_11.at1 hb9p (by omega)
          replace ebp := ebp.newB1 e21_11 (by first | exact .inl (by omega) | exact .inr rfl | exact .inr (.inl rfl) | exact .inr (.inr (by omega)))
          replace hsp := hq21_11
          clear hq21_11
          refine rund_nil ?_
          replace hs := hsp
          clear hsp
          replace hb9 := hb9p
          clear hb9p
          replace eb := ebp
          clear ebp
          replace hs : _ = some (Obj.cells ⟨(u32s ys).set (0 + k * 1) _⟩ _ _) := hs
          rw [Nat.zero_add, Nat.mul_one, u32s_set] at hs
          refine run_inBlock ?_
          refine run_region rfl ?_
          refine runl_ev (ev_add rfl rfl (by omega) (by omega)) ?_
          refine runl_ev (ev_move rfl) ?_
          refine runl_nil ?_
          exact IH (k + 1, _) _ _ (by simp only; omega) ⟨rfl, rfl, rfl, trivial⟩ ⟨by show k + 1 ≤ 8; omega, by simp only [List.length_set]; exact hyl, hs, hb9, eb, (congrArg (fun v => addL vs (k + 1) (8 - (k + 1)) (ys.set k v)) (by subst h153; rw [gi_get (by omega : k < ys.length), gi_get (by omega : k < vs.length)]; rfl)).trans hinv⟩
        · obtain rfl : k = 8 := by omega
          have hY : ys = cmpF ks xs l := by rw [show ys = addL vs 0 8 xs from hinv, hV, hW]; rfl
          refine run_exit rfl ?_
          refine run_end_any Tryz.func105 (res0 Tryz.results105) ?_
          rw [← hY]
          exact ⟨rfl, hs, eb⟩
end Go.Proofs.YtlgkdnmklgbhbaaGreatDoor
/- The walk of digest.Sum, by value. -/
namespace Go.Proofs.YtlgkdnmklgbhbaaGreatDoor
open Go Go.Fw
set_option maxRecDepth 100000

def kNums : List Int := [1116352408, 1899447441, 3049323471, 3921009573, 961987163, 1508970993, 2453635748, 2870763221, 3624381080, 310598401, 607225278, 1426881987, 1925078388, 2162078206, 2614888103, 3248222580, 3835390401, 4022224774, 264347078, 604807628, 770255983, 1249150122, 1555081692, 1996064986, 2554220882, 2821834349, 2952996808, 3210313671, 3336571891, 3584528711, 113926993, 338241895, 666307205, 773529912, 1294757372, 1396182291, 1695183700, 1986661051, 2177026350, 2456956037, 2730485921, 2820302411, 3259730800, 3345764771, 3516065817, 3600352804, 4094571909, 275423344, 430227734, 506948616, 659060556, 883997877, 958139571, 1322822218, 1537002063, 1747873779, 1955562222, 2024104815, 2227730452, 2361852424, 2428436474, 2756734187, 3204031479, 3329325298]
def st0 : List Int := [1779033703, 3144134277, 1013904242, 2773480762, 1359893119, 2600822924, 528734635, 1541459225]
def shaF (l : List UInt8) : List UInt8 := shaOf kNums st0 l
theorem shaF_len (l : List UInt8) : (shaF l).length = 32 := shaOf_len _ _ _
theorem kNums_len : kNums.length = 64 := rfl
theorem hcells_zero (n : Nat) : hcells (List.replicate n 0) = List.replicate n (.int .u8 0) := by simp [hcells]
theorem bytes_of_cells {w : World} {b : Nat} {T : TypeId} {fr : Nat × Nat} (bs : List UInt8) (k : Nat) (c : Nat) (h : w.heap[b]? = some (.cells ⟨hcells bs⟩ T fr)) (hk : k ≤ bs.length) : SlAt 1 RByte w (.slice (some ⟨b, 0 + k * 1, none⟩) (bs.length - k) c) (bs.drop k) := by
  have h1 : Cells w b (0 + k * 1) (hcells (bs.drop k)) := (cells_all h).seg (hcells (bs.drop k)) k (by omega) (by unfold hcells; rw [List.length_map, ← List.map_drop, List.take_of_length_le (by simp)])
  have := sl_cells (cap := c) h1 (parts_bytes (bs.drop k))
  rwa [List.length_drop] at this
theorem copied (bs : List UInt8) (n : Nat) (h : bs.length ≤ n) : splice (List.replicate n (.int .u8 0)) 0 (hcells bs) = hcells (bs ++ List.replicate (n - bs.length) 0) := by
  unfold splice
  rw [List.take_zero, hcells_length, Nat.zero_add, List.nil_append, List.drop_replicate, hcells_app, hcells_zero]

theorem numbers_any (w : World) : Ret Tryz.prog 104 [] w fun r w' => r = .agg ⟨u32s kNums⟩ ∧ Ext w w' := by
  have e := ExtB.refl (fun _ => False) w
  refine ret_of_run Tryz.func104 rfl Tryz.ntmps104 rfl ?_
  refine run_seq ?_
  refine run_region rfl ?_
  refine runl_op (t_alloc zero_192 rfl) ?_
  rintro _ w0 ⟨b0, rfl, hb0, e0, n0, l0⟩
  have z0 := e0.size
  replace e := e.trans e0
  refine runl_nil ?_
  refine run_seq ?_
  refine run_region rfl ?_
  refine runl_ev (ev_build (out := u32s kNums) ps_192 zero_192 rfl rfl (fill_row (u32s kNums) [] (List.replicate 64 (.int .u32 0)) (fun v hv => by simp only [u32s, List.mem_map] at hv; obtain ⟨x, _, rfl⟩ := hv; rfl) (fun i hi => by have h64 : i < 64 := hi; rw [List.getElem?_map, List.getElem?_range h64]; rfl) rfl)) ?_
  refine runl_do (t_storeW sz_192 rfl rfl rfl rfl hb0 ((u32s_one _))) ?_
  rintro _ v1_1 ⟨hq1_1, e1_1, z1_1⟩
  replace e := e.new1 e1_1 (by omega)
  replace hb0 := hq1_1
  clear hq1_1
  refine runl_nil ?_
  refine run_ret_any Tryz.func104 (resC Tryz.results104 rfl (loadVar_agg agg_192 rfl (cells_all hb0))) ?_
  exact ⟨rfl, e⟩
theorem sum_any (l : List UInt8) (a : Option Addr) (n c : Nat) (w : World) (hl : SlAt 1 RByte w (.slice a n c) l) (hc : l.length ≤ c) (hln : l.length ≤ 1099511627776) : Ret Tryz.prog 47 [.slice a n c] w fun r w' => r = .agg ⟨hcells (shaF l)⟩ ∧ Ext w w' := by
  have e := ExtB.refl (fun _ => False) w
  obtain ⟨rfl, -⟩ := hl.at
  refine ret_of_run Tryz.func47 rfl Tryz.ntmps47 rfl ?_
  refine run_seq ?_
  refine run_region rfl ?_
  refine runl_op (t_alloc zero_25 rfl) ?_
  rintro _ w2 ⟨b2, rfl, hb2, e2, n2, l2⟩
  have z2 := e2.size
  replace e := e.trans e2
  refine runl_nil ?_
  refine run_seq ?_
  refine run_region rfl ?_
  refine runl_ev (ev_build (out := [.int .u32 1779033703, .int .u32 3144134277, .int .u32 1013904242, .int .u32 2773480762, .int .u32 1359893119, .int .u32 2600822924, .int .u32 528734635, .int .u32 1541459225]) ps_191 zero_191 rfl rfl (fill8 _ _ _ _ _ _ _ _ _)) ?_
  refine runl_op (t_alloc zero_191 rfl) ?_
  rintro _ w3 ⟨b3, rfl, hb3, e3, n3, l3⟩
  have z3 := e3.size
  replace e := e.trans e3
  replace hb2 := e3.at hb2
  refine runl_do (t_storeW sz_191 rfl rfl rfl rfl hb3 ((by simp))) ?_
  rintro _ v1_2 ⟨hq1_2, e1_2, z1_2⟩
  replace e := e.new1 e1_2 (by omega)
  replace hb2 := e1_2.at1 hb2 (by omega)
  replace hb3 := hq1_2
  clear hq1_2
  refine runl_nil ?_
  refine run_seq ?_
  refine run_region rfl ?_
  refine runl_op (t_call call_104 rfl (numbers_any _)) ?_
  rintro _ w15 ⟨rfl, e15⟩
  have z15 := e15.size
  replace e := e.trans e15
  replace hb2 := e15.at hb2
  replace hb3 := e15.at hb3
  refine runl_op (t_alloc zero_192 rfl) ?_
  rintro _ w4 ⟨b4, rfl, hb4, e4, n4, l4⟩
  have z4 := e4.size
  replace e := e.trans e4
  replace hb2 := e4.at hb2
  replace hb3 := e4.at hb3
  refine runl_do (t_storeW sz_192 rfl rfl rfl rfl hb4 ((u32s_one _))) ?_
  rintro _ v2_2 ⟨hq2_2, e2_2, z2_2⟩
  replace e := e.new1 e2_2 (by omega)
  replace hb2 := e2_2.at1 hb2 (by omega)
  replace hb3 := e2_2.at1 hb3 (by omega)
  replace hb4 := hq2_2
  clear hq2_2
  refine runl_nil ?_
  refine run_seq ?_
  refine run_region rfl ?_
  refine runl_ev (ev_move rfl) ?_
  refine runl_ev (ev_assign rfl) ?_
  refine runl_nil ?_
  refine run_seq ?_
  refine run_block ?_
  refine run_loop (ι := Nat × List Int × Option Addr × Nat) (fun x => [(0, .slice a l.length c), (2, .pointer (some ⟨b2, 0, none⟩)), (3, .pointer (some ⟨b3, 0, none⟩)), (4, .pointer (some ⟨b4, 0, none⟩)), (5, .slice x.2.2.1 (l.length - x.1) x.2.2.2)]) (fun x w' => x.1 ≤ l.length ∧ SlAt 1 RByte w (.slice x.2.2.1 (l.length - x.1) x.2.2.2) (l.drop x.1) ∧ (l.drop x.1).length ≤ x.2.2.2 ∧ x.2.1.length = 8 ∧ w'.heap[b3]? = some (.cells ⟨u32s x.2.1⟩ 191 (0, 0)) ∧ w'.heap[b4]? = some (.cells ⟨u32s kNums⟩ 192 (0, 0)) ∧ w'.heap[b2]? = some (.cells ⟨hcells (List.replicate 32 0)⟩ 25 (0, 0)) ∧ Ext w w' ∧ blkP kNums x.2.1 (l.drop x.1) = blkP kNums st0 l) (fun x => l.length - x.1) ((0, [1779033703, 3144134277, 1013904242, 2773480762, 1359893119, 2600822924, 528734635, 1541459225], a, c)) ⟨rfl, rfl, rfl, rfl, rfl, trivial⟩ (⟨Nat.zero_le _, hl, hc, rfl, hb3, hb4, hb2, e, rfl⟩) ?_
  clear e hb2 hb3 hb4
  intro ⟨j, xs, a1, c1⟩ w1 ⟨hj, hsl, hsc, hxl, hb3, hb4, hb2, e, hinv⟩ IH
  simp only at hj hsl hsc hxl hb3 hinv
  rw [List.length_drop] at hsc
  have lb2 := lt_of_at hb2
  have lb3 := lt_of_at hb3
  have lb4 := lt_of_at hb4
  have ze := e.size
  refine run_seq ?_
  refine run_seq ?_
  refine run_region rfl ?_
  refine runl_ev (ev_move rfl) ?_
  refine runl_ev (ev_lenL sl_29 rfl) ?_
  refine runl_ev (ev_geq rfl rfl) ?_
  refine runl_nil ?_
  refine run_dcond rfl (fun h0 => ?_) (fun h0 => ?_)
  · rw [blkP_more (ks := kNums) (xs := xs) (l := l.drop j) (by rw [List.length_drop]; omega), List.drop_drop] at hinv
    refine run_skip ?_
    refine run_seq ?_
    refine run_block ?_
    refine run_region rfl ?_
    refine runl_ev (ev_move rfl) ?_
    refine runl_op (t_call call_105 rfl (dtake_any b3 b4 (l.drop j) a1 _ c1 xs kNums _ hb3 hxl hb4 kNums_len (hsl.ext RByte.stable e) (by rw [List.length_drop]; omega) (by rw [List.length_drop]; omega))) ?_
    rintro _ w23 ⟨rfl, hb3y, e23⟩
    have hyl : (cmpF kNums xs (l.drop j)).length = 8 := by rw [cmpF_len]; exact hxl
    have z23 := e23.size
    replace e := e.new1 e23 (by omega)
    replace hb2 := e23.at1 hb2 (by omega)
    replace hb4 := e23.at1 hb4 (by omega)
    refine runl_nil ?_
    refine run_inBlock ?_
    refine run_region rfl ?_
    refine runl_ev (ev_move rfl) ?_
    refine runl_ev (ev_sliceL_lo (n := 64) el_29 rfl rfl (by omega)) ?_
    refine runl_ev (ev_assign rfl) ?_
    refine runl_nil ?_
    refine IH (j + 64, _, (if c1 = 64 then a1 else a1.map (·.add (64 * 1))), c1 - 64) _ _ (by simp only; omega) ⟨rfl, rfl, rfl, rfl, ?_, trivial⟩ ⟨by show j + 64 ≤ l.length; omega, ?_, ?_, hyl, hb3y, hb4, hb2, e, hinv⟩
    · show some (Value.slice _ (l.length - j - 64) _) = some (Value.slice _ (l.length - (j + 64)) _)
      rw [Nat.sub_sub]
    · have := bytes_drop hsl (k := 64) (by rw [List.length_drop]; omega) (by rw [List.length_drop]; omega)
      rw [List.drop_drop, Nat.sub_sub] at this
      exact this
    · show (l.drop (j + 64)).length ≤ c1 - 64
      rw [List.length_drop]
      omega
  · rw [blkP_end (ks := kNums) (xs := xs) (l := l.drop j) (by rw [List.length_drop]; omega)] at hinv
    have hP := hinv.symm
    refine run_exit rfl ?_
    refine run_seq ?_
    refine run_region rfl ?_
    refine runl_op (t_alloc zero_196 rfl) ?_
    rintro _ w6 ⟨b6, rfl, hb6, e6, n6, l6⟩
    have z6 := e6.size
    replace e := e.trans e6
    replace hb2 := e6.at hb2
    replace hb3 := e6.at hb3
    replace hb4 := e6.at hb4
    refine runl_nil ?_
    refine run_seq ?_
    refine run_region rfl ?_
    refine runl_ev (ev_sliceA arr_196 rfl) ?_
    refine runl_ev (ev_move rfl) ?_
    refine runl_op (t_copyB Tryz.underlying29 sz_5 rfl rfl hb6 (l := l.drop j) (by rw [List.length_drop]; omega) (hsl.ext RByte.stable e) (by rw [List.length_drop]; simp; omega)) ?_
    rintro _ w26 ⟨rfl, hb6c, e26, z26⟩
    replace hb6c := (copied (l.drop j) 128 (by rw [List.length_drop]; omega)) ▸ hb6c
    have hb128 : (l.drop j ++ List.replicate (128 - (l.drop j).length) (0 : UInt8)).length = 128 := by rw [List.length_append, List.length_replicate, List.length_drop]; omega
    obtain ⟨bs, hbs⟩ : ∃ b, b = l.drop j ++ List.replicate (128 - (l.drop j).length) (0 : UInt8) := ⟨_, rfl⟩
    rw [← hbs] at hb6c hb128
    obtain ⟨q, hq⟩ : ∃ q, q = (l.drop j).length := ⟨_, rfl⟩
    rw [← hq]
    have hq0 := hq
    rw [List.length_drop] at hq
    have z26 := e26.size
    replace e := e.new1 e26 (by omega)
    replace hb2 := e26.at1 hb2 (by omega)
    replace hb3 := e26.at1 hb3 (by omega)
    replace hb4 := e26.at1 hb4 (by omega)
    refine runl_ev (ev_assign rfl) ?_
    refine runl_nil ?_
    refine run_seq ?_
    refine run_region rfl ?_
    refine runl_ev (ev_move rfl) ?_
    refine runl_ev (ev_indexAddrA (k := q) arr_196 rfl rfl (by omega)) ?_
    refine runl_do (t_store1 sz_5 rfl rfl rfl rfl hb6c (by rw [hcells_length]; omega)) ?_
    rintro _ v9_2 ⟨hq9_2, e9_2, z9_2⟩
    replace e := e.new1 e9_2 (by omega)
    replace hb2 := e9_2.at1 hb2 (by omega)
    replace hb3 := e9_2.at1 hb3 (by omega)
    replace hb4 := e9_2.at1 hb4 (by omega)
    replace hb6c := hq9_2
    clear hq9_2
    refine runl_nil ?_
    replace hb6c : _ = some (Obj.cells ⟨(hcells bs).set (0 + q * 1) (.int .u8 128)⟩ _ _) := hb6c
    rw [Nat.zero_add, Nat.mul_one, hset _ _ _ (by decide) (by decide)] at hb6c
    have hb128b : (bs.set q (UInt8.ofNat (128 : Int).toNat)).length = 128 := by rw [List.length_set]; exact hb128
    obtain ⟨bs2, hbs2⟩ : ∃ b, b = bs.set q (UInt8.ofNat (128 : Int).toNat) := ⟨_, rfl⟩
    rw [← hbs2] at hb6c hb128b
    have hlast : bs2 = lastF (l.drop j) := by rw [hbs2, hbs, hq0]; rfl
    refine run_seq ?_
    refine run_region rfl ?_
    refine runl_ev (ev_assign rfl) ?_
    refine runl_nil ?_
    refine run_seq ?_
    refine run_seq ?_
    by_cases h56 : 56 ≤ q
    · have hm : endM (l.drop j).length = 2 := by unfold endM; rw [← hq0]; exact if_pos h56
      refine run_region rfl ?_
      refine runl_ev (ev_move rfl) ?_
      refine runl_ev (ev_geq rfl rfl) ?_
      refine runl_nil ?_
      refine run_cond_true rfl (decide_eq_true (by omega)) ?_
      refine run_region rfl ?_
      refine runl_ev (ev_assign rfl) ?_
      refine runl_nil ?_
      refine run_seq ?_
      refine run_region rfl ?_
      refine runl_ev (ev_move rfl) ?_
      refine runl_ev (ev_lenL sl_29 rfl) ?_
      refine runl_ev (ev_convI (_) Tryz.underlying3 Tryz.underlying197 rfl (rfl)) ?_
      refine runl_ev (ev_shl (_) rfl rfl (by omega) (rfl)) ?_
      refine runl_absE (fun t34 h34 => ?_)
      have hdg : t34 = dgF l.length := h34
      refine runl_ev (ev_assign rfl) ?_
      refine runl_nil ?_
      refine run_seq ?_
      refine run_seq ?_
      refine run_region rfl ?_
      refine runl_ev (ev_move rfl) ?_
      refine runl_nil ?_
      refine run_block ?_
      refine run_loop (ι := Nat × List UInt8) (fun x => [(2, .pointer (some ⟨b2, 0, none⟩)), (3, .pointer (some ⟨b3, 0, none⟩)), (4, .pointer (some ⟨b4, 0, none⟩)), (6, .pointer (some ⟨b6, 0, none⟩)), (8, .int .i64 ((64 * 2 : Nat) : Int)), (9, .int .u64 t34), (35, .int .i64 (x.1 : Int))]) (fun x w' => x.1 ≤ 8 ∧ x.2.length = 128 ∧ w'.heap[b6]? = some (.cells ⟨hcells x.2⟩ 196 (0, 0)) ∧ w'.heap[b3]? = some (.cells ⟨u32s xs⟩ 191 (0, 0)) ∧ w'.heap[b4]? = some (.cells ⟨u32s kNums⟩ 192 (0, 0)) ∧ w'.heap[b2]? = some (.cells ⟨hcells (List.replicate 32 0)⟩ 25 (0, 0)) ∧ Ext w w' ∧ lenL t34 (64 * 2) x.1 (8 - x.1) x.2 = lenL t34 (64 * 2) 0 8 bs2) (fun x => 8 - x.1) ((0, bs2)) ⟨rfl, rfl, rfl, rfl, rfl, rfl, rfl, trivial⟩ (⟨Nat.zero_le _, hb128b, hb6c, hb3, hb4, hb2, e, rfl⟩) ?_
      clear e hb2 hb3 hb4 hb6c
      intro ⟨k, bs⟩ w3 ⟨hk8, hbl, hb6, hb3, hb4, hb2, e, hinv1⟩ IH
      simp only at hk8 hbl hb6 hinv1
      have lb6 := lt_of_at hb6
      have lb2 := lt_of_at hb2
      have lb3 := lt_of_at hb3
      have lb4 := lt_of_at hb4
      have ze := e.size
      refine run_seq ?_
      refine run_region rfl ?_
      refine runl_ev (ev_lss rfl rfl) ?_
      refine runl_nil ?_
      refine run_seq ?_
      refine run_dcond rfl (fun h2 => ?_) (fun h2 => ?_)
      · have hk1 : k < 8 := by omega
        rw [lenL_step _ _ bs hk1] at hinv1
        refine run_skip ?_
        refine run_seq ?_
        refine run_block ?_
        refine run_seq ?_
        refine run_region rfl ?_
        refine runl_ev (ev_move rfl) ?_
        refine runl_ev (ev_assign rfl) ?_
        refine runl_nil ?_
        refine run_region rfl ?_
        refine runl_ev (ev_move rfl) ?_
        refine runl_ev (ev_subK (((64 * 2 - 1 : Nat) : Int)) rfl rfl (by rw [show ((64 * 2 : Nat) : Int) - 1 = ((64 * 2 - 1 : Nat) : Int) by omega]; exact wrap_i64 (by omega) (by omega))) ?_
        refine runl_ev (ev_move rfl) ?_
        refine runl_ev (ev_subK (((64 * 2 - 1 - k : Nat) : Int)) rfl rfl (by rw [show ((64 * 2 - 1 : Nat) : Int) - (k : Int) = ((64 * 2 - 1 - k : Nat) : Int) by omega]; exact wrap_i64 (by omega) (by omega))) ?_
        refine runl_ev (ev_move rfl) ?_
        refine runl_ev (ev_move rfl) ?_
        refine runl_ev (ev_mulK (((8 * k : Nat) : Int)) rfl rfl (by rw [show (8 : Int) * (k : Int) = ((8 * k : Nat) : Int) by omega]; exact wrap_i64 (by omega) (by omega))) ?_
        refine runl_ev (ev_shr (_) rfl rfl (by omega) (rfl)) ?_
        refine runl_ev (ev_convI (_) Tryz.underlying197 Tryz.underlying5 rfl (rfl)) ?_
        refine runl_ev (ev_indexAddrA (k := 64 * 2 - 1 - k) arr_196 rfl rfl (by omega)) ?_
        refine runl_do (t_store1 sz_5 rfl rfl rfl rfl hb6 (by rw [hcells_length]; omega)) ?_
        rintro _ v17_10 ⟨hq17_10, e17_10, z17_10⟩
        replace e := e.new1 e17_10 (by omega)
        replace hb2 := e17_10.at1 hb2 (by omega)
        replace hb3 := e17_10.at1 hb3 (by omega)
        replace hb4 := e17_10.at1 hb4 (by omega)
        replace hb6 := hq17_10
        clear hq17_10
        refine runl_nil ?_
        replace hb6 : _ = some (Obj.cells ⟨(hcells bs).set (0 + (64 * 2 - 1 - k) * 1) (.int .u8 (IntKind.u8.wrap _))⟩ _ _) := hb6
        rw [Nat.zero_add, Nat.mul_one, hset _ _ _ (wrap_u8 _).1 (wrap_u8 _).2] at hb6
        refine run_inBlock ?_
        refine run_region rfl ?_
        refine runl_ev (ev_add rfl rfl (by omega) (by omega)) ?_
        refine runl_ev (ev_move rfl) ?_
        refine runl_nil ?_
        exact IH (k + 1, _) _ _ (by simp only; omega) ⟨rfl, rfl, rfl, rfl, rfl, rfl, rfl, trivial⟩ ⟨by show k + 1 ≤ 8; omega, by simp only [List.length_set]; exact hbl, hb6, hb3, hb4, hb2, e, hinv1⟩
      · obtain rfl : k = 8 := by omega
        have hB : bs = lenL t34 (64 * endM (l.drop j).length) 0 8 bs2 := by rw [hm]; exact hinv1
        refine run_exit rfl ?_
        refine run_seq ?_
        refine run_seq ?_
        refine run_region rfl ?_
        refine runl_ev (ev_assign rfl) ?_
        refine runl_nil ?_
        refine run_block ?_
        refine run_loop (ι := Nat × List Int) (fun x => [(2, .pointer (some ⟨b2, 0, none⟩)), (3, .pointer (some ⟨b3, 0, none⟩)), (4, .pointer (some ⟨b4, 0, none⟩)), (6, .pointer (some ⟨b6, 0, none⟩)), (8, .int .i64 ((64 * 2 : Nat) : Int)), (11, .int .i64 ((64 * x.1 : Nat) : Int))]) (fun x w' => x.1 ≤ 2 ∧ x.2.length = 8 ∧ w'.heap[b3]? = some (.cells ⟨u32s x.2⟩ 191 (0, 0)) ∧ w'.heap[b6]? = some (.cells ⟨hcells bs⟩ 196 (0, 0)) ∧ w'.heap[b4]? = some (.cells ⟨u32s kNums⟩ 192 (0, 0)) ∧ w'.heap[b2]? = some (.cells ⟨hcells (List.replicate 32 0)⟩ 25 (0, 0)) ∧ Ext w w' ∧ finL kNums bs x.1 (2 - x.1) x.2 = finL kNums bs 0 2 xs) (fun x => 2 - x.1) ((0, xs)) ⟨rfl, rfl, rfl, rfl, rfl, rfl, trivial⟩ (⟨Nat.zero_le _, hxl, hb3, hb6, hb4, hb2, e, rfl⟩) ?_
        clear e hb2 hb3 hb4 hb6
        intro ⟨k2, xs2⟩ w4 ⟨hkm, hxl2, hb3, hb6, hb4, hb2, e, hinv2⟩ IH
        simp only at hkm hxl2 hb3 hinv2
        have lb6 := lt_of_at hb6
        have lb2 := lt_of_at hb2
        have lb3 := lt_of_at hb3
        have lb4 := lt_of_at hb4
        have ze := e.size
        refine run_seq ?_
        refine run_seq ?_
        refine run_region rfl ?_
        refine runl_ev (ev_move rfl) ?_
        refine runl_ev (ev_move rfl) ?_
        refine runl_ev (ev_lss rfl rfl) ?_
        refine runl_nil ?_
        refine run_dcond rfl (fun h3 => ?_) (fun h3 => ?_)
        · have hk1 : k2 < 2 := by omega
          rw [finL_step kNums bs xs2 hk1] at hinv2
          refine run_skip ?_
          refine run_seq ?_
          refine run_block ?_
          refine run_region rfl ?_
          refine runl_ev (ev_move rfl) ?_
          refine runl_ev (ev_sliceA_lo (l := 64 * k2) arr_196 rfl rfl (by omega)) ?_
          refine runl_op (t_call call_105 rfl (dtake_any b3 b4 (bs.drop (64 * k2)) _ _ _ xs2 kNums _ hb3 hxl2 hb4 kNums_len (by have := bytes_of_cells bs (64 * k2) (128 - 64 * k2) hb6 (by omega); rw [hbl] at this; exact this) (by rw [List.length_drop]; omega) (by rw [List.length_drop]; omega))) ?_
          rintro _ w56 ⟨rfl, hb3y, e56⟩
          have hyl : (cmpF kNums xs2 (bs.drop (64 * k2))).length = 8 := by rw [cmpF_len]; exact hxl2
          have z56 := e56.size
          replace e := e.new1 e56 (by omega)
          replace hb2 := e56.at1 hb2 (by omega)
          replace hb4 := e56.at1 hb4 (by omega)
          replace hb6 := e56.at1 hb6 (by omega)
          refine runl_nil ?_
          refine run_inBlock ?_
          refine run_region rfl ?_
          refine runl_ev (ev_move rfl) ?_
          refine runl_ev (ev_addK (((64 * (k2 + 1) : Nat) : Int)) rfl rfl (by rw [show ((64 * k2 : Nat) : Int) + 64 = ((64 * (k2 + 1) : Nat) : Int) by omega]; exact wrap_i64 (by omega) (by omega))) ?_
          refine runl_ev (ev_assign rfl) ?_
          refine runl_nil ?_
          exact IH (k2 + 1, _) _ _ (by simp only; omega) ⟨rfl, rfl, rfl, rfl, rfl, rfl, trivial⟩ ⟨by show k2 + 1 ≤ 2; omega, hyl, hb3y, hb6, hb4, hb2, e, hinv2⟩
        · obtain rfl : k2 = 2 := by omega
          have hF : xs2 = finL kNums bs 0 (endM (l.drop j).length) xs := by rw [hm]; exact hinv2
          refine run_exit rfl ?_
          refine run_seq ?_
          refine run_seq ?_
          refine run_region rfl ?_
          refine runl_ev (ev_loadA agg_191 (by rw [u32s_len]; exact hxl2) rfl (eqw (cells_all hb3))) ?_
          refine runl_ev (ev_move rfl) ?_
          refine runl_nil ?_
          refine run_block ?_
          refine run_loop (ι := Nat × List UInt8) (fun x => [(2, .pointer (some ⟨b2, 0, none⟩)), (57, .agg ⟨u32s xs2⟩), (58, .int .i64 (x.1 : Int))]) (fun x w' => x.1 ≤ 8 ∧ x.2.length = 32 ∧ w'.heap[b2]? = some (.cells ⟨hcells x.2⟩ 25 (0, 0)) ∧ Ext w w' ∧ outL xs2 x.1 (8 - x.1) x.2 = outL xs2 0 8 (List.replicate 32 0)) (fun x => 8 - x.1) ((0, List.replicate 32 0)) ⟨rfl, rfl, rfl, trivial⟩ (⟨Nat.zero_le _, rfl, hb2, e, rfl⟩) ?_
          clear e hb2 hb3 hb4 hb6
          intro ⟨k3, hs⟩ w5 ⟨hk3, hhl, hb2, e, hinv3⟩ IH
          simp only at hk3 hhl hb2 hinv3
          have lb2 := lt_of_at hb2
          have ze := e.size
          refine run_seq ?_
          refine run_region rfl ?_
          refine runl_ev (ev_lss rfl rfl) ?_
          refine runl_nil ?_
          refine run_seq ?_
          refine run_dcond rfl (fun h4 => ?_) (fun h4 => ?_)
          · have hk1 : k3 < 8 := by omega
            rw [outL_step xs2 hs hk1, gi_get (by omega : k3 < xs2.length)] at hinv3
            refine run_skip ?_
            refine run_seq ?_
            refine run_block ?_
            refine run_seq ?_
            refine run_region rfl ?_
            refine runl_ev (ev_move rfl) ?_
            refine runl_ev (ev_indexA1 (k := k3) arr_191 cell_189 rfl rfl (by omega) (u32s_get (xs := xs2) (i := k3) (by omega))) ?_
            refine runl_ev (ev_assign rfl) ?_
            refine runl_ev (ev_assign rfl) ?_
            refine runl_nil ?_
            refine run_region rfl ?_
            refine runl_ev (ev_move rfl) ?_
            refine runl_ev (ev_mulK (((4 * k3 : Nat) : Int)) rfl rfl (by rw [show (4 : Int) * (k3 : Int) = ((4 * k3 : Nat) : Int) by omega]; exact wrap_i64 (by omega) (by omega))) ?_
            refine runl_ev (ev_move rfl) ?_
            refine runl_ev (ev_mulK (((4 * k3 : Nat) : Int)) rfl rfl (by rw [show (4 : Int) * (k3 : Int) = ((4 * k3 : Nat) : Int) by omega]; exact wrap_i64 (by omega) (by omega))) ?_
            refine runl_ev (ev_addK (((4 * k3 + 1 : Nat) : Int)) rfl rfl (by rw [show ((4 * k3 : Nat) : Int) + 1 = ((4 * k3 + 1 : Nat) : Int) by omega]; exact wrap_i64 (by omega) (by omega))) ?_
            refine runl_ev (ev_move rfl) ?_
            refine runl_ev (ev_mulK (((4 * k3 : Nat) : Int)) rfl rfl (by rw [show (4 : Int) * (k3 : Int) = ((4 * k3 : Nat) : Int) by omega]; exact wrap_i64 (by omega) (by omega))) ?_
            refine runl_ev (ev_addK (((4 * k3 + 2 : Nat) : Int)) rfl rfl (by rw [show ((4 * k3 : Nat) : Int) + 2 = ((4 * k3 + 2 : Nat) : Int) by omega]; exact wrap_i64 (by omega) (by omega))) ?_
            refine runl_ev (ev_move rfl) ?_
            refine runl_ev (ev_mulK (((4 * k3 : Nat) : Int)) rfl rfl (by rw [show (4 : Int) * (k3 : Int) = ((4 * k3 : Nat) : Int) by omega]; exact wrap_i64 (by omega) (by omega))) ?_
            refine runl_ev (ev_addK (((4 * k3 + 3 : Nat) : Int)) rfl rfl (by rw [show ((4 * k3 : Nat) : Int) + 3 = ((4 * k3 + 3 : Nat) : Int) by omega]; exact wrap_i64 (by omega) (by omega))) ?_
            refine runl_ev (ev_move rfl) ?_
            refine runl_ev (ev_shr (_) rfl rfl (by omega) (rfl)) ?_
            refine runl_ev (ev_convI (_) Tryz.underlying189 Tryz.underlying5 rfl (rfl)) ?_
            refine runl_ev (ev_move rfl) ?_
            refine runl_ev (ev_shr (_) rfl rfl (by omega) (rfl)) ?_
            refine runl_ev (ev_convI (_) Tryz.underlying189 Tryz.underlying5 rfl (rfl)) ?_
            refine runl_ev (ev_move rfl) ?_
            refine runl_ev (ev_shr (_) rfl rfl (by omega) (rfl)) ?_
            refine runl_ev (ev_convI (_) Tryz.underlying189 Tryz.underlying5 rfl (rfl)) ?_
            refine runl_ev (ev_move rfl) ?_
            refine runl_ev (ev_convI (_) Tryz.underlying189 Tryz.underlying5 rfl (rfl)) ?_
            refine runl_ev (ev_indexAddrA (k := 4 * k3) arr_25 rfl rfl (by omega)) ?_
            refine runl_do (t_store1 sz_5 rfl rfl rfl rfl hb2 (by simp only [List.length_set, hcells_length]; omega)) ?_
            rintro _ v26_23 ⟨hq26_23, e26_23, z26_23⟩
            replace e := e.new1 e26_23 (by omega)
            replace hb2 := hq26_23
            clear hq26_23
            refine runl_ev (ev_indexAddrA (k := 4 * k3 + 1) arr_25 rfl rfl (by omega)) ?_
            refine runl_do (t_store1 sz_5 rfl rfl rfl rfl hb2 (by simp only [List.length_set, hcells_length]; omega)) ?_
            rintro _ v26_25 ⟨hq26_25, e26_25, z26_25⟩
            replace e := e.new1 e26_25 (by omega)
            replace hb2 := hq26_25
            clear hq26_25
            refine runl_ev (ev_indexAddrA (k := 4 * k3 + 2) arr_25 rfl rfl (by omega)) ?_
            refine runl_do (t_store1 sz_5 rfl rfl rfl rfl hb2 (by simp only [List.length_set, hcells_length]; omega)) ?_
            rintro _ v26_27 ⟨hq26_27, e26_27, z26_27⟩
            replace e := e.new1 e26_27 (by omega)
            replace hb2 := hq26_27
            clear hq26_27
            refine runl_ev (ev_indexAddrA (k := 4 * k3 + 3) arr_25 rfl rfl (by omega)) ?_
            refine runl_do (t_store1 sz_5 rfl rfl rfl rfl hb2 (by simp only [List.length_set, hcells_length]; omega)) ?_
            rintro _ v26_29 ⟨hq26_29, e26_29, z26_29⟩
            replace e := e.new1 e26_29 (by omega)
            replace hb2 := hq26_29
            clear hq26_29
            refine runl_nil ?_
            replace hb2 : _ = some (Obj.cells ⟨((((hcells hs).set (0 + 4 * k3 * 1) (.int .u8 (IntKind.u8.wrap _))).set (0 + (4 * k3 + 1) * 1) (.int .u8 (IntKind.u8.wrap _))).set (0 + (4 * k3 + 2) * 1) (.int .u8 (IntKind.u8.wrap _))).set (0 + (4 * k3 + 3) * 1) (.int .u8 (IntKind.u8.wrap _))⟩ _ _) := hb2
            rw [hset _ _ _ (wrap_u8 _).1 (wrap_u8 _).2, hset _ _ _ (wrap_u8 _).1 (wrap_u8 _).2, hset _ _ _ (wrap_u8 _).1 (wrap_u8 _).2, hset _ _ _ (wrap_u8 _).1 (wrap_u8 _).2] at hb2
            simp only [Nat.zero_add, Nat.mul_one] at hb2
            refine run_inBlock ?_
            refine run_region rfl ?_
            refine runl_ev (ev_add rfl rfl (by omega) (by omega)) ?_
            refine runl_ev (ev_move rfl) ?_
            refine runl_nil ?_
            exact IH (k3 + 1, _) _ _ (by simp only; omega) ⟨rfl, rfl, rfl, trivial⟩ ⟨by show k3 + 1 ≤ 8; omega, by simp only [List.length_set]; exact hhl, hb2, e, hinv3⟩
          · obtain rfl : k3 = 8 := by omega
            have hO : hs = outL xs2 0 8 (List.replicate 32 0) := hinv3
            have hfin : hs = shaF l := by
              rw [hO, hF, hB, hdg, hlast]
              unfold shaF shaOf
              rw [hP]
            refine run_exit rfl ?_
            refine run_seq ?_
            refine run_region rfl ?_
            refine runl_ev (ev_loadA agg_25 (by rw [hcells_length]; exact hhl) rfl (eqw (cells_all hb2))) ?_
            refine runl_do (t_storeW sz_25 rfl rfl (by rw [hcells_length]; exact hhl) (by rw [hcells_length]; exact hhl) hb2 (hcells_one _)) ?_
            rintro _ v28_1 ⟨hq28_1, e28_1, z28_1⟩
            replace e := e.new1 e28_1 (by omega)
            replace hb2 := hq28_1
            clear hq28_1
            refine runl_nil ?_
            refine run_ret_any Tryz.func47 (resC Tryz.results47 rfl (loadVar_agg agg_25 (by rw [hcells_length]; exact hhl) (cells_all hb2))) ?_
            exact ⟨by rw [← hfin], e⟩
    · have hm : endM (l.drop j).length = 1 := by unfold endM; rw [← hq0]; exact if_neg h56
      refine run_region rfl ?_
      refine runl_ev (ev_move rfl) ?_
      refine runl_ev (ev_geq rfl rfl) ?_
      refine runl_nil ?_
      refine run_cond_false rfl (decide_eq_false (by omega)) ?_
      refine run_skip ?_
      refine run_seq ?_
      refine run_region rfl ?_
      refine runl_ev (ev_move rfl) ?_
      refine runl_ev (ev_lenL sl_29 rfl) ?_
      refine runl_ev (ev_convI (_) Tryz.underlying3 Tryz.underlying197 rfl (rfl)) ?_
      refine runl_ev (ev_shl (_) rfl rfl (by omega) (rfl)) ?_
      refine runl_absE (fun t34 h34 => ?_)
      have hdg : t34 = dgF l.length := h34
      refine runl_ev (ev_assign rfl) ?_
      refine runl_nil ?_
      refine run_seq ?_
      refine run_seq ?_
      refine run_region rfl ?_
      refine runl_ev (ev_move rfl) ?_
      refine runl_nil ?_
      refine run_block ?_
      refine run_loop (ι := Nat × List UInt8) (fun x => [(2, .pointer (some ⟨b2, 0, none⟩)), (3, .pointer (some ⟨b3, 0, none⟩)), (4, .pointer (some ⟨b4, 0, none⟩)), (6, .pointer (some ⟨b6, 0, none⟩)), (8, .int .i64 ((64 * 1 : Nat) : Int)), (9, .int .u64 t34), (35, .int .i64 (x.1 : Int))]) (fun x w' => x.1 ≤ 8 ∧ x.2.length = 128 ∧ w'.heap[b6]? = some (.cells ⟨hcells x.2⟩ 196 (0, 0)) ∧ w'.heap[b3]? = some (.cells ⟨u32s xs⟩ 191 (0, 0)) ∧ w'.heap[b4]? = some (.cells ⟨u32s kNums⟩ 192 (0, 0)) ∧ w'.heap[b2]? = some (.cells ⟨hcells (List.replicate 32 0)⟩ 25 (0, 0)) ∧ Ext w w' ∧ lenL t34 (64 * 1) x.1 (8 - x.1) x.2 = lenL t34 (64 * 1) 0 8 bs2) (fun x => 8 - x.1) ((0, bs2)) ⟨rfl, rfl, rfl, rfl, rfl, rfl, rfl, trivial⟩ (⟨Nat.zero_le _, hb128b, hb6c, hb3, hb4, hb2, e, rfl⟩) ?_
      clear e hb2 hb3 hb4 hb6c
      intro ⟨k, bs⟩ w3 ⟨hk8, hbl, hb6, hb3, hb4, hb2, e, hinv1⟩ IH
      simp only at hk8 hbl hb6 hinv1
      have lb6 := lt_of_at hb6
      have lb2 := lt_of_at hb2
      have lb3 := lt_of_at hb3
      have lb4 := lt_of_at hb4
      have ze := e.size
      refine run_seq ?_
      refine run_region rfl ?_
      refine runl_ev (ev_lss rfl rfl) ?_
      refine runl_nil ?_
      refine run_seq ?_
      refine run_dcond rfl (fun h2 => ?_) (fun h2 => ?_)
      · have hk1 : k < 8 := by omega
        rw [lenL_step _ _ bs hk1] at hinv1
        refine run_skip ?_
        refine run_seq ?_
        refine run_block ?_
        refine run_seq ?_
        refine run_region rfl ?_
        refine runl_ev (ev_move rfl) ?_
        refine runl_ev (ev_assign rfl) ?_
        refine runl_nil ?_
        refine run_region rfl ?_
        refine runl_ev (ev_move rfl) ?_
        refine runl_ev (ev_subK (((64 * 1 - 1 : Nat) : Int)) rfl rfl (by rw [show ((64 * 1 : Nat) : Int) - 1 = ((64 * 1 - 1 : Nat) : Int) by omega]; exact wrap_i64 (by omega) (by omega))) ?_
        refine runl_ev (ev_move rfl) ?_
        refine runl_ev (ev_subK (((64 * 1 - 1 - k : Nat) : Int)) rfl rfl (by rw [show ((64 * 1 - 1 : Nat) : Int) - (k : Int) = ((64 * 1 - 1 - k : Nat) : Int) by omega]; exact wrap_i64 (by omega) (by omega))) ?_
        refine runl_ev (ev_move rfl) ?_
        refine runl_ev (ev_move rfl) ?_
        refine runl_ev (ev_mulK (((8 * k : Nat) : Int)) rfl rfl (by rw [show (8 : Int) * (k : Int) = ((8 * k : Nat) : Int) by omega]; exact wrap_i64 (by omega) (by omega))) ?_
        refine runl_ev (ev_shr (_) rfl rfl (by omega) (rfl)) ?_
        refine runl_ev (ev_convI (_) Tryz.underlying197 Tryz.underlying5 rfl (rfl)) ?_
        refine runl_ev (ev_indexAddrA (k := 64 * 1 - 1 - k) arr_196 rfl rfl (by omega)) ?_
        refine runl_do (t_store1 sz_5 rfl rfl rfl rfl hb6 (by rw [hcells_length]; omega)) ?_
        rintro _ v17_10 ⟨hq17_10, e17_10, z17_10⟩
        replace e := e.new1 e17_10 (by omega)
        replace hb2 := e17_10.at1 hb2 (by omega)
        replace hb3 := e17_10.at1 hb3 (by omega)
        replace hb4 := e17_10.at1 hb4 (by omega)
        replace hb6 := hq17_10
        clear hq17_10
        refine runl_nil ?_
        replace hb6 : _ = some (Obj.cells ⟨(hcells bs).set (0 + (64 * 1 - 1 - k) * 1) (.int .u8 (IntKind.u8.wrap _))⟩ _ _) := hb6
        rw [Nat.zero_add, Nat.mul_one, hset _ _ _ (wrap_u8 _).1 (wrap_u8 _).2] at hb6
        refine run_inBlock ?_
        refine run_region rfl ?_
        refine runl_ev (ev_add rfl rfl (by omega) (by omega)) ?_
        refine runl_ev (ev_move rfl) ?_
        refine runl_nil ?_
        exact IH (k + 1, _) _ _ (by simp only; omega) ⟨rfl, rfl, rfl, rfl, rfl, rfl, rfl, trivial⟩ ⟨by show k + 1 ≤ 8; omega, by simp only [List.length_set]; exact hbl, hb6, hb3, hb4, hb2, e, hinv1⟩
      · obtain rfl : k = 8 := by omega
        have hB : bs = lenL t34 (64 * endM (l.drop j).length) 0 8 bs2 := by rw [hm]; exact hinv1
        refine run_exit rfl ?_
        refine run_seq ?_
        refine run_seq ?_
        refine run_region rfl ?_
        refine runl_ev (ev_assign rfl) ?_
        refine runl_nil ?_
        refine run_block ?_
        refine run_loop (ι := Nat × List Int) (fun x => [(2, .pointer (some ⟨b2, 0, none⟩)), (3, .pointer (some ⟨b3, 0, none⟩)), (4, .pointer (some ⟨b4, 0, none⟩)), (6, .pointer (some ⟨b6, 0, none⟩)), (8, .int .i64 ((64 * 1 : Nat) : Int)), (11, .int .i64 ((64 * x.1 : Nat) : Int))]) (fun x w' => x.1 ≤ 1 ∧ x.2.length = 8 ∧ w'.heap[b3]? = some (.cells ⟨u32s x.2⟩ 191 (0, 0)) ∧ w'.heap[b6]? = some (.cells ⟨hcells bs⟩ 196 (0, 0)) ∧ w'.heap[b4]? = some (.cells ⟨u32s kNums⟩ 192 (0, 0)) ∧ w'.heap[b2]? = some (.cells ⟨hcells (List.replicate 32 0)⟩ 25 (0, 0)) ∧ Ext w w' ∧ finL kNums bs x.1 (1 - x.1) x.2 = finL kNums bs 0 1 xs) (fun x => 1 - x.1) ((0, xs)) ⟨rfl, rfl, rfl, rfl, rfl, rfl, trivial⟩ (⟨Nat.zero_le _, hxl, hb3, hb6, hb4, hb2, e, rfl⟩) ?_
        clear e hb2 hb3 hb4 hb6
        intro ⟨k2, xs2⟩ w4 ⟨hkm, hxl2, hb3, hb6, hb4, hb2, e, hinv2⟩ IH
        simp only at hkm hxl2 hb3 hinv2
        have lb6 := lt_of_at hb6
        have lb2 := lt_of_at hb2
        have lb3 := lt_of_at hb3
        have lb4 := lt_of_at hb4
        have ze := e.size
        refine run_seq ?_
        refine run_seq ?_
        refine run_region rfl ?_
        refine runl_ev (ev_move rfl) ?_
        refine runl_ev (ev_move rfl) ?_
        refine runl_ev (ev_lss rfl rfl) ?_
        refine runl_nil ?_
        refine run_dcond rfl (fun h3 => ?_) (fun h3 => ?_)
        · have hk1 : k2 < 1 := by omega
          rw [finL_step kNums bs xs2 hk1] at hinv2
          refine run_skip ?_
          refine run_seq ?_
          refine run_block ?_
          refine run_region rfl ?_
          refine runl_ev (ev_move rfl) ?_
          refine runl_ev (ev_sliceA_lo (l := 64 * k2) arr_196 rfl rfl (by omega)) ?_
          refine runl_op (t_call call_105 rfl (dtake_any b3 b4 (bs.drop (64 * k2)) _ _ _ xs2 kNums _ hb3 hxl2 hb4 kNums_len (by have := bytes_of_cells bs (64 * k2) (128 - 64 * k2) hb6 (by omega); rw [hbl] at this; exact this) (by rw [List.length_drop]; omega) (by rw [List.length_drop]; omega))) ?_
          rintro _ w56 ⟨rfl, hb3y, e56⟩
          have hyl : (cmpF kNums xs2 (bs.drop (64 * k2))).length = 8 := by rw [cmpF_len]; exact hxl2
          have z56 := e56.size
          replace e := e.new1 e56 (by omega)
          replace hb2 := e56.at1 hb2 (by omega)
          replace hb4 := e56.at1 hb4 (by omega)
          replace hb6 := e56.at1 hb6 (by omega)
          refine runl_nil ?_
          refine run_inBlock ?_
          refine run_region rfl ?_
          refine runl_ev (ev_move rfl) ?_
          refine runl_ev (ev_addK (((64 * (k2 + 1) : Nat) : Int)) rfl rfl (by rw [show ((64 * k2 : Nat) : Int) + 64 = ((64 * (k2 + 1) : Nat) : Int) by omega]; exact wrap_i64 (by omega) (by omega))) ?_
          refine runl_ev (ev_assign rfl) ?_
          refine runl_nil ?_
          exact IH (k2 + 1, _) _ _ (by simp only; omega) ⟨rfl, rfl, rfl, rfl, rfl, rfl, trivial⟩ ⟨by show k2 + 1 ≤ 1; omega, hyl, hb3y, hb6, hb4, hb2, e, hinv2⟩
        · obtain rfl : k2 = 1 := by omega
          have hF : xs2 = finL kNums bs 0 (endM (l.drop j).length) xs := by rw [hm]; exact hinv2
          refine run_exit rfl ?_
          refine run_seq ?_
          refine run_seq ?_
          refine run_region rfl ?_
          refine runl_ev (ev_loadA agg_191 (by rw [u32s_len]; exact hxl2) rfl (eqw (cells_all hb3))) ?_
          refine runl_ev (ev_move rfl) ?_
          refine runl_nil ?_
          refine run_block ?_
          refine run_loop (ι := Nat × List UInt8) (fun x => [(2, .pointer (some ⟨b2, 0, none⟩)), (57, .agg ⟨u32s xs2⟩), (58, .int .i64 (x.1 : Int))]) (fun x w' => x.1 ≤ 8 ∧ x.2.length = 32 ∧ w'.heap[b2]? = some (.cells ⟨hcells x.2⟩ 25 (0, 0)) ∧ Ext w w' ∧ outL xs2 x.1 (8 - x.1) x.2 = outL xs2 0 8 (List.replicate 32 0)) (fun x => 8 - x.1) ((0, List.replicate 32 0)) ⟨rfl, rfl, rfl, trivial⟩ (⟨Nat.zero_le _, rfl, hb2, e, rfl⟩) ?_
          clear e hb2 hb3 hb4 hb6
          intro ⟨k3, hs⟩ w5 ⟨hk3, hhl, hb2, e, hinv3⟩ IH
          simp only at hk3 hhl hb2 hinv3
          have lb2 := lt_of_at hb2
          have ze := e.size
          refine run_seq ?_
          refine run_region rfl ?_
          refine runl_ev (ev_lss rfl rfl) ?_
          refine runl_nil ?_
          refine run_seq ?_
          refine run_dcond rfl (fun h4 => ?_) (fun h4 => ?_)
          · have hk1 : k3 < 8 := by omega
            rw [outL_step xs2 hs hk1, gi_get (by omega : k3 < xs2.length)] at hinv3
            refine run_skip ?_
            refine run_seq ?_
            refine run_block ?_
            refine run_seq ?_
            refine run_region rfl ?_
            refine runl_ev (ev_move rfl) ?_
            refine runl_ev (ev_indexA1 (k := k3) arr_191 cell_189 rfl rfl (by omega) (u32s_get (xs := xs2) (i := k3) (by omega))) ?_
            refine runl_ev (ev_assign rfl) ?_
            refine runl_ev (ev_assign rfl) ?_
            refine runl_nil ?_
            refine run_region rfl ?_
            refine runl_ev (ev_move rfl) ?_
            refine runl_ev (ev_mulK (((4 * k3 : Nat) : Int)) rfl rfl (by rw [show (4 : Int) * (k3 : Int) = ((4 * k3 : Nat) : Int) by omega]; exact wrap_i64 (by omega) (by omega))) ?_
            refine runl_ev (ev_move rfl) ?_
            refine runl_ev (ev_mulK (((4 * k3 : Nat) : Int)) rfl rfl (by rw [show (4 : Int) * (k3 : Int) = ((4 * k3 : Nat) : Int) by omega]; exact wrap_i64 (by omega) (by omega))) ?_
            refine runl_ev (ev_addK (((4 * k3 + 1 : Nat) : Int)) rfl rfl (by rw [show ((4 * k3 : Nat) : Int) + 1 = ((4 * k3 + 1 : Nat) : Int) by omega]; exact wrap_i64 (by omega) (by omega))) ?_
            refine runl_ev (ev_move rfl) ?_
            refine runl_ev (ev_mulK (((4 * k3 : Nat) : Int)) rfl rfl (by rw [show (4 : Int) * (k3 : Int) = ((4 * k3 : Nat) : Int) by omega]; exact wrap_i64 (by omega) (by omega))) ?_
            refine runl_ev (ev_addK (((4 * k3 + 2 : Nat) : Int)) rfl rfl (by rw [show ((4 * k3 : Nat) : Int) + 2 = ((4 * k3 + 2 : Nat) : Int) by omega]; exact wrap_i64 (by omega) (by omega))) ?_
            refine runl_ev (ev_move rfl) ?_
            refine runl_ev (ev_mulK (((4 * k3 : Nat) : Int)) rfl rfl (by rw [show (4 : Int) * (k3 : Int) = ((4 * k3 : Nat) : Int) by omega]; exact wrap_i64 (by omega) (by omega))) ?_
            refine runl_ev (ev_addK (((4 * k3 + 3 : Nat) : Int)) rfl rfl (by rw [show ((4 * k3 : Nat) : Int) + 3 = ((4 * k3 + 3 : Nat) : Int) by omega]; exact wrap_i64 (by omega) (by omega))) ?_
            refine runl_ev (ev_move rfl) ?_
            refine runl_ev (ev_shr (_) rfl rfl (by omega) (rfl)) ?_
            refine runl_ev (ev_convI (_) Tryz.underlying189 Tryz.underlying5 rfl (rfl)) ?_
            refine runl_ev (ev_move rfl) ?_
            refine runl_ev (ev_shr (_) rfl rfl (by omega) (rfl)) ?_
            refine runl_ev (ev_convI (_) Tryz.underlying189 Tryz.underlying5 rfl (rfl)) ?_
            refine runl_ev (ev_move rfl) ?_
            refine runl_ev (ev_shr (_) rfl rfl (by omega) (rfl)) ?_
            refine runl_ev (ev_convI (_) Tryz.underlying189 Tryz.underlying5 rfl (rfl)) ?_
            refine runl_ev (ev_move rfl) ?_
            refine runl_ev (ev_convI (_) Tryz.underlying189 Tryz.underlying5 rfl (rfl)) ?_
            refine runl_ev (ev_indexAddrA (k := 4 * k3) arr_25 rfl rfl (by omega)) ?_
            refine runl_do (t_store1 sz_5 rfl rfl rfl rfl hb2 (by simp only [List.length_set, hcells_length]; omega)) ?_
            rintro _ v26_23 ⟨hq26_23, e26_23, z26_23⟩
            replace e := e.new1 e26_23 (by omega)
            replace hb2 := hq26_23
            clear hq26_23
            refine runl_ev (ev_indexAddrA (k := 4 * k3 + 1) arr_25 rfl rfl (by omega)) ?_
            refine runl_do (t_store1 sz_5 rfl rfl rfl rfl hb2 (by simp only [List.length_set, hcells_length]; omega)) ?_
            rintro _ v26_25 ⟨hq26_25, e26_25, z26_25⟩
            replace e := e.new1 e26_25 (by omega)
            replace hb2 := hq26_25
            clear hq26_25
            refine runl_ev (ev_indexAddrA (k := 4 * k3 + 2) arr_25 rfl rfl (by omega)) ?_
            refine runl_do (t_store1 sz_5 rfl rfl rfl rfl hb2 (by simp only [List.length_set, hcells_length]; omega)) ?_
            rintro _ v26_27 ⟨hq26_27, e26_27, z26_27⟩
            replace e := e.new1 e26_27 (by omega)
            replace hb2 := hq26_27
            clear hq26_27
            refine runl_ev (ev_indexAddrA (k := 4 * k3 + 3) arr_25 rfl rfl (by omega)) ?_
            refine runl_do (t_store1 sz_5 rfl rfl rfl rfl hb2 (by simp only [List.length_set, hcells_length]; omega)) ?_
            rintro _ v26_29 ⟨hq26_29, e26_29, z26_29⟩
            replace e := e.new1 e26_29 (by omega)
            replace hb2 := hq26_29
            clear hq26_29
            refine runl_nil ?_
            replace hb2 : _ = some (Obj.cells ⟨((((hcells hs).set (0 + 4 * k3 * 1) (.int .u8 (IntKind.u8.wrap _))).set (0 + (4 * k3 + 1) * 1) (.int .u8 (IntKind.u8.wrap _))).set (0 + (4 * k3 + 2) * 1) (.int .u8 (IntKind.u8.wrap _))).set (0 + (4 * k3 + 3) * 1) (.int .u8 (IntKind.u8.wrap _))⟩ _ _) := hb2
            rw [hset _ _ _ (wrap_u8 _).1 (wrap_u8 _).2, hset _ _ _ (wrap_u8 _).1 (wrap_u8 _).2, hset _ _ _ (wrap_u8 _).1 (wrap_u8 _).2, hset _ _ _ (wrap_u8 _).1 (wrap_u8 _).2] at hb2
            simp only [Nat.zero_add, Nat.mul_one] at hb2
            refine run_inBlock ?_
            refine run_region rfl ?_
            refine runl_ev (ev_add rfl rfl (by omega) (by omega)) ?_
            refine runl_ev (ev_move rfl) ?_
            refine runl_nil ?_
            exact IH (k3 + 1, _) _ _ (by simp only; omega) ⟨rfl, rfl, rfl, trivial⟩ ⟨by show k3 + 1 ≤ 8; omega, by simp only [List.length_set]; exact hhl, hb2, e, hinv3⟩
          · obtain rfl : k3 = 8 := by omega
            have hO : hs = outL xs2 0 8 (List.replicate 32 0) := hinv3
            have hfin : hs = shaF l := by
              rw [hO, hF, hB, hdg, hlast]
              unfold shaF shaOf
              rw [hP]
            refine run_exit rfl ?_
            refine run_seq ?_
            refine run_region rfl ?_
            refine runl_ev (ev_loadA agg_25 (by rw [hcells_length]; exact hhl) rfl (eqw (cells_all hb2))) ?_
            refine runl_do (t_storeW sz_25 rfl rfl (by rw [hcells_length]; exact hhl) (by rw [hcells_length]; exact hhl) hb2 (hcells_one _)) ?_
            rintro _ v28_1 ⟨hq28_1, e28_1, z28_1⟩
            replace e := e.new1 e28_1 (by omega)
            replace hb2 := hq28_1
            clear hq28_1
            refine runl_nil ?_
            refine run_ret_any Tryz.func47 (resC Tryz.results47 rfl (loadVar_agg agg_25 (by rw [hcells_length]; exact hhl) (cells_all hb2))) ?_
            exact ⟨by rw [← hfin], e⟩
attribute [irreducible] shaF
end Go.Proofs.YtlgkdnmklgbhbaaGreatDoor
/- The walks of ots: chains, by value. -/
namespace Go.Proofs.YtlgkdnmklgbhbaaGreatDoor
open Go Go.Fw
set_option maxRecDepth 100000
def walkF (ch : Int) : Nat → Nat → List UInt8 → List UInt8
  | _, 0, h => h
  | k, n + 1, h => walkF ch (k + 1) n (shaF ([1, u8F ch, u8F (k : Int)] ++ h))
theorem walkF_len (ch : Int) : ∀ (n k : Nat) (h : List UInt8), h.length = 32 → (walkF ch k n h).length = 32
  | 0, _, _, h => h
  | n + 1, k, h, _ => walkF_len ch n _ _ (shaF_len _)
theorem walkF_step (ch : Int) {t k : Nat} (hs : List UInt8) (h : k < t) : walkF ch k (t - k) hs = walkF ch (k + 1) (t - (k + 1)) (shaF ([1, u8F ch, u8F (k : Int)] ++ hs)) := by rw [step_of h]; rfl
def secretF (sd : List UInt8) (lf ch : Int) : List UInt8 := shaF ([0] ++ sd ++ [u8F lf, u8F ch])
theorem secretF_len (sd : List UInt8) (lf ch : Int) : (secretF sd lf ch).length = 32 := shaF_len _
theorem u8cell (v : Int) : Value.int .u8 (IntKind.u8.wrap v) = .int .u8 ((u8F v).toNat : Int) := by
  unfold u8F
  have h := wrap_u8 v
  congr 1
  have : (UInt8.ofNat (IntKind.u8.wrap v).toNat).toNat = (IntKind.u8.wrap v).toNat := by simp; omega
  rw [this]
  omega
/-- A digest's cells, as a slice of all of them. -/
theorem sl_hash {w : World} {b : Nat} {T : TypeId} {fr : Nat × Nat} {hs : List UInt8} (h : w.heap[b]? = some (.cells ⟨hcells hs⟩ T fr)) (hl : hs.length = 32) : SlAt 1 RByte w (.slice (some ⟨b, 0, none⟩) 32 32) hs := by
  have := bytes_of_cells hs 0 32 h (by omega)
  rw [hl] at this
  simpa using this

theorem walk_any (hs : List UInt8) (hl : hs.length = 32) (ch : Int) (f t : Nat) (hf : f ≤ t) (ht : t ≤ 3) (w : World) : Ret Tryz.prog 174 [.agg ⟨hcells hs⟩, .int .i64 ch, .int .i64 (f : Int), .int .i64 (t : Int)] w fun r w' => r = .agg ⟨hcells (walkF ch f (t - f) hs)⟩ ∧ Ext w w' := by
  have e := ExtB.refl (fun _ => False) w
  refine ret_of_run Tryz.func174 rfl Tryz.ntmps174 rfl ?_
  refine run_seq ?_
  refine run_region rfl ?_
  refine runl_op (t_boxA rfl) ?_
  rintro _ w4 ⟨b4, rfl, hb4, e4, n4, l4⟩
  have z4 := e4.size
  replace e := e.trans e4
  refine runl_op (t_alloc zero_25 rfl) ?_
  rintro _ w8 ⟨b8, rfl, hb8, e8, n8, l8⟩
  have z8 := e8.size
  replace e := e.trans e8
  replace hb4 := e8.at hb4
  refine runl_nil ?_
  refine run_seq ?_
  refine run_seq ?_
  refine run_region rfl ?_
  refine runl_ev (ev_move rfl) ?_
  refine runl_ev (ev_max rfl rfl) ?_
  refine runl_ev (ev_assign rfl) ?_
  refine runl_nil ?_
  refine run_block ?_
  refine run_loop (ι := Nat × List UInt8) (fun x => [(1, .int .i64 ch), (3, .int .i64 (t : Int)), (4, .pointer (some ⟨b4, 0, none⟩)), (8, .pointer (some ⟨b8, 0, none⟩)), (9, .int .i64 (x.1 : Int))]) (fun x w' => x.1 ≤ t ∧ x.2.length = 32 ∧ w'.heap[b4]? = some (.cells ⟨hcells x.2⟩ 25 (0, 0)) ∧ w'.heap[b8]? = some (.cells ⟨hcells (List.replicate 32 0)⟩ 25 (0, 0)) ∧ Ext w w' ∧ walkF ch x.1 (t - x.1) x.2 = walkF ch f (t - f) hs) (fun x => 3 - x.1) ((f, hs)) ⟨rfl, rfl, rfl, rfl, by show some (Value.int .i64 (if (0 : Int) > (f : Int) then 0 else (f : Int))) = some (Value.int .i64 (f : Int)); rw [if_neg (by omega)], trivial⟩ (⟨hf, hl, hb4, hb8, e, rfl⟩) ?_
  clear e hb4 hb8
  intro ⟨k, hx⟩ w1 ⟨hk3, hl, hb4, hb8, e, hinv⟩ IH
  simp only at hk3 hl hb4 hinv
  have lb4 := lt_of_at hb4
  have lb8 := lt_of_at hb8
  have ze := e.size
  refine run_seq ?_
  refine run_seq ?_
  refine run_region rfl ?_
  refine runl_ev (ev_move rfl) ?_
  refine runl_ev (ev_move rfl) ?_
  refine runl_ev (ev_min rfl rfl) ?_
  refine runl_ev (ev_lss rfl rfl) ?_
  refine runl_nil ?_
  refine run_dcond rfl (fun h0 => ?_) (fun h0 => ?_)
  · have hkt : k < t := by split at h0 <;> omega
    have hk : k < 3 := by omega
    rw [walkF_step ch hx hkt] at hinv
    refine run_skip ?_
    refine run_seq ?_
    refine run_block ?_
    refine run_region rfl ?_
    refine runl_ev (ev_move rfl) ?_
    refine runl_ev (ev_convI (_) Tryz.underlying3 Tryz.underlying5 rfl (rfl)) ?_
    refine runl_ev (ev_move rfl) ?_
    refine runl_ev (ev_convI (_) Tryz.underlying3 Tryz.underlying5 rfl (rfl)) ?_
    refine runl_op (t_buildSlice (out := [.int .u8 1, .int .u8 (IntKind.u8.wrap ch), .int .u8 (IntKind.u8.wrap (k : Int))]) Tryz.underlying29 sz_5 zero_5 rfl rfl (by decide) (by decide) rfl (rfl)) ?_
    rintro _ w22 ⟨b22, rfl, hb22, e22, n22, l22⟩
    have z22 := e22.size
    replace e := e.trans e22
    replace hb4 := e22.at hb4
    replace hb8 := e22.at hb8
    rw [u8cell ch, u8cell (k : Int)] at hb22
    replace hb22 : _ = some (Obj.cells ⟨hcells [1, u8F ch, u8F (k : Int)]⟩ _ _) := hb22
    refine runl_ev (ev_sliceA arr_25 rfl) ?_
    refine runl_op (t_appendL (l := hx) (R := RByte) ef_29 rfl rfl (own_lit (n := 3) hb22 (by unfold maxLen; omega) rfl) (sl_hash hb4 hl) rbyte_len (fun x cs h => rbyte_one x cs h) (by unfold maxLen; omega) (by omega)) ?_
    rintro v24 w24 ⟨n24, g24, hnl24, hnp24, ap24⟩
    have ow24 := OwnG.app flat_byte (l := [1, u8F ch, u8F (k : Int)]) (w := w) (by omega) (.inr (by omega)) (by omega) (parts_bytes _) rfl hnp24 ap24 rfl hl
    obtain ⟨a24, c24, rfl, hc24, sl24, -⟩ := ow24.sl
    have z24 := ap24.ext.size
    replace e := e.newG ap24.ext (by omega)
    replace hb4 := ap24.ext.atG hb4 (by omega)
    replace hb8 := ap24.ext.atG hb8 (by omega)
    refine runl_op (t_call call_47 rfl (sum_any _ a24 _ c24 _ sl24 hc24 (by simp only [List.length_append, List.length_cons, List.length_nil]; omega))) ?_
    rintro _ w25 ⟨rfl, e25⟩
    have hl25 := shaF_len ([1, u8F ch, u8F (k : Int)] ++ hx)
    generalize shaF ([1, u8F ch, u8F (k : Int)] ++ hx) = h25 at hl25 hinv ⊢
    have z25 := e25.size
    replace e := e.trans e25
    replace hb4 := e25.at hb4
    replace hb8 := e25.at hb8
    refine runl_do (t_storeW sz_25 rfl rfl (by rw [hcells_length]; exact hl25) (by rw [hcells_length]; exact hl) hb4 (hcells_one _)) ?_
    rintro _ v4_8 ⟨hq4_8, e4_8, z4_8⟩
    replace e := e.new1 e4_8 (by omega)
    replace hb8 := e4_8.at1 hb8 (by omega)
    replace hb4 := hq4_8
    clear hq4_8
    refine runl_nil ?_
    refine run_inBlock ?_
    refine run_region rfl ?_
    refine runl_ev (ev_move rfl) ?_
    refine runl_ev (ev_add rfl rfl (by omega) (by omega)) ?_
    refine runl_ev (ev_assign rfl) ?_
    refine runl_nil ?_
    exact IH (k + 1, h25) _ _ (by simp only; omega) ⟨rfl, rfl, rfl, rfl, rfl, trivial⟩ ⟨by show k + 1 ≤ t; omega, hl25, hb4, hb8, e, hinv⟩
  · obtain rfl : k = t := by split at h0 <;> omega
    rw [Nat.sub_self] at hinv
    replace hinv : hx = walkF ch f (k - f) hs := hinv
    refine run_exit rfl ?_
    refine run_seq ?_
    refine run_region rfl ?_
    refine runl_ev (ev_loadA agg_25 (by rw [hcells_length]; exact hl) rfl (eqw (cells_all hb4))) ?_
    refine runl_do (t_storeW sz_25 rfl rfl (by rw [hcells_length]; exact hl) (by rw [hcells_length]; rfl) hb8 (hcells_one _)) ?_
    rintro _ v5_1 ⟨hq5_1, e5_1, z5_1⟩
    replace e := e.new1 e5_1 (by omega)
    replace hb4 := e5_1.at1 hb4 (by omega)
    replace hb8 := hq5_1
    clear hq5_1
    refine runl_nil ?_
    refine run_ret_any Tryz.func174 (resC Tryz.results174 rfl (loadVar_agg agg_25 (by rw [hcells_length]; exact hl) (cells_all hb8))) ?_
    exact ⟨by rw [← hinv], e⟩
theorem secret_any (hs : List UInt8) (hl : hs.length = 32) (lf ch : Int) (w : World) : Ret Tryz.prog 175 [.agg ⟨hcells hs⟩, .int .i64 lf, .int .i64 ch] w fun r w' => r = .agg ⟨hcells (secretF hs lf ch)⟩ ∧ Ext w w' := by
  have e := ExtB.refl (fun _ => False) w
  refine ret_of_run Tryz.func175 rfl Tryz.ntmps175 rfl ?_
  refine run_seq ?_
  refine run_region rfl ?_
  refine runl_op (t_boxA rfl) ?_
  rintro _ w3 ⟨b3, rfl, hb3, e3, n3, l3⟩
  have z3 := e3.size
  replace e := e.trans e3
  refine runl_op (t_alloc zero_25 rfl) ?_
  rintro _ w6 ⟨b6, rfl, hb6, e6, n6, l6⟩
  have z6 := e6.size
  replace e := e.trans e6
  replace hb3 := e6.at hb3
  refine runl_nil ?_
  refine run_seq ?_
  refine run_region rfl ?_
  refine runl_op (t_buildSlice (out := [.int .u8 0]) Tryz.underlying29 sz_5 zero_5 rfl rfl (by decide) (by decide) rfl (rfl)) ?_
  rintro _ w7 ⟨b7, rfl, hb7, e7, n7, l7⟩
  have z7 := e7.size
  replace e := e.trans e7
  replace hb3 := e7.at hb3
  replace hb6 := e7.at hb6
  replace hb7 : _ = some (Obj.cells ⟨hcells [0]⟩ _ _) := hb7
  refine runl_ev (ev_sliceA arr_25 rfl) ?_
  refine runl_op (t_appendL (l := hs) (R := RByte) ef_29 rfl rfl (own_lit (n := 1) hb7 (by unfold maxLen; omega) rfl) (sl_hash hb3 hl) rbyte_len (fun x cs h => rbyte_one x cs h) (by unfold maxLen; omega) (by omega)) ?_
  rintro v9 w9 ⟨n9, g9, hnl9, hnp9, ap9⟩
  have ow9 := OwnG.app flat_byte (l := [0]) (w := w6) (by omega) (.inr (by omega)) (by omega) (parts_bytes _) rfl hnp9 ap9 rfl hl
  obtain ⟨xs9, q9, own9, hpp9, hxl9, hg9, hgl9⟩ := ow9.open
  have hn9 : ([0] ++ hs).length = 33 := by simp [hl]
  have z9 := ap9.ext.size
  replace e := e.newG ap9.ext (by omega)
  replace hb3 := ap9.ext.atG hb3 (by omega)
  replace hb6 := ap9.ext.atG hb6 (by omega)
  refine runl_ev (ev_move rfl) ?_
  refine runl_ev (ev_convI (_) Tryz.underlying3 Tryz.underlying5 rfl (rfl)) ?_
  refine runl_ev (ev_move rfl) ?_
  refine runl_ev (ev_convI (_) Tryz.underlying3 Tryz.underlying5 rfl (rfl)) ?_
  refine runl_op (t_buildSlice (out := [.int .u8 (IntKind.u8.wrap lf), .int .u8 (IntKind.u8.wrap ch)]) Tryz.underlying29 sz_5 zero_5 rfl rfl (by decide) (by decide) rfl (rfl)) ?_
  rintro _ w14 ⟨b14, rfl, hb14, e14, n14, l14⟩
  have z14 := e14.size
  replace e := e.trans e14
  replace hb3 := e14.at hb3
  replace hb6 := e14.at hb6
  replace own9 := own9.ext e14
  rw [u8cell lf, u8cell ch] at hb14
  replace hb14 : _ = some (Obj.cells ⟨hcells [u8F lf, u8F ch]⟩ _ _) := hb14
  have sl14 : SlAt 1 RByte w14 (.slice (some ⟨b14, 0, none⟩) 2 2) [u8F lf, u8F ch] := by
    have := bytes_of_cells [u8F lf, u8F ch] 0 2 hb14 (by simp)
    simpa using this
  refine runl_op (t_appendL (l := [u8F lf, u8F ch]) (R := RByte) ef_29 rfl rfl own9 sl14 rbyte_len (fun x cs h => rbyte_one x cs h) (by unfold maxLen; omega) (by omega)) ?_
  rintro v15 w15 ⟨n15, g15, hnl15, hnp15, ap15⟩
  have ow15 := OwnG.app flat_byte (w := w6) (by omega) hg9 (by omega) (hpp9.mono fun _ _ _ hr => flat_byte _ _ _ _ hr) hxl9 hnp15 ap15 rfl rfl
  obtain ⟨a15, c15, rfl, hc15, sl15, -⟩ := ow15.sl
  have z15 := ap15.ext.size
  replace e := e.newG ap15.ext (by omega)
  replace hb3 := ap15.ext.atG hb3 (by omega)
  replace hb6 := ap15.ext.atG hb6 (by omega)
  replace hb14 := ap15.ext.atG hb14 (by omega)
  refine runl_op (t_call call_47 rfl (sum_any _ a15 _ c15 _ sl15 hc15 (by rw [List.length_append, hn9]; simp))) ?_
  rintro _ w16 ⟨rfl, e16⟩
  have hl16 := shaF_len ([0] ++ hs ++ [u8F lf, u8F ch])
  have z16 := e16.size
  replace e := e.trans e16
  replace hb3 := e16.at hb3
  replace hb6 := e16.at hb6
  replace hb14 := e16.at hb14
  refine runl_do (t_storeW sz_25 rfl rfl (by rw [hcells_length]; exact hl16) rfl hb6 (hcells_one _)) ?_
  rintro _ v1_10 ⟨hq1_10, e1_10, z1_10⟩
  replace e := e.new1 e1_10 (by omega)
  replace hb3 := e1_10.at1 hb3 (by omega)
  replace hb14 := e1_10.at1 hb14 (by omega)
  replace hb6 := hq1_10
  clear hq1_10
  refine runl_nil ?_
  refine run_ret_any Tryz.func175 (resC Tryz.results175 rfl (loadVar_agg agg_25 (by rw [hcells_length]; exact hl16) (cells_all hb6))) ?_
  exact ⟨rfl, e⟩
attribute [irreducible] secretF walkF
end Go.Proofs.YtlgkdnmklgbhbaaGreatDoor
/- The walks of ots, by value: numbers of a digest, a signature's chains. -/
namespace Go.Proofs.YtlgkdnmklgbhbaaGreatDoor
open Go Go.Fw
set_option maxRecDepth 100000
def i64s (xs : List Int) : List Value := xs.map (.int .i64)
theorem i64s_len (xs : List Int) : (i64s xs).length = xs.length := by simp [i64s]
theorem i64s_get {xs : List Int} {i : Nat} {v : Int} (h : xs[i]? = some v) : (i64s xs)[i]? = some (.int .i64 v) := by simp [i64s, h]
theorem i64s_set (xs : List Int) (i : Nat) (v : Int) : (i64s xs).set i (.int .i64 v) = i64s (xs.set i v) := by simp [i64s, List.map_set]
theorem i64s_one (xs : List Int) : ∀ v ∈ i64s xs, v.oneCell' = true := by
  intro v hv
  simp only [i64s, List.mem_map] at hv
  obtain ⟨x, _, rfl⟩ := hv
  rfl
theorem i64s_zero (n : Nat) : i64s (List.replicate n 0) = List.replicate n (.int .i64 0) := by simp [i64s]
/-- A number out of a digest. -/
def dgt (h : List UInt8) (k : Nat) : Nat := (gb h (k / 4)).toNat / 2 ^ (6 - 2 * (k % 4)) % 4
def lackN (h : List UInt8) : Nat → Nat
  | 0 => 0
  | k + 1 => lackN h k + (3 - dgt h k)
def digF (h : List UInt8) (j : Nat) : Nat := if j < 32 then dgt h j else lackN h 32 / 4 ^ (j - 32) % 4
theorem dgt_lt (h : List UInt8) (k : Nat) : dgt h k < 4 := Nat.mod_lt _ (by decide)
theorem digF_le (h : List UInt8) (j : Nat) : digF h j ≤ 3 := by
  unfold digF
  split
  · have := dgt_lt h j; omega
  · omega
theorem lackN_le (h : List UInt8) : ∀ k, lackN h k ≤ 3 * k
  | 0 => Nat.le_refl _
  | k + 1 => by have := lackN_le h k; rw [lackN]; omega
theorem dgt_raw : ∀ c : Nat, c < 256 → ∀ s : Nat, s < 7 → IntKind.i64.wrap ((BitVec.ofInt IntKind.i64.bits (IntKind.i64.wrap ((c : Int).fdiv (2 ^ (min ((s : Nat) : Int).toNat IntKind.u8.bits)))) &&& BitVec.ofInt IntKind.i64.bits 3).toNat : Int) = ((c / 2 ^ s % 4 : Nat) : Int) := by decide +kernel
theorem and3_raw : ∀ n : Nat, n < 97 → IntKind.i64.wrap ((BitVec.ofInt IntKind.i64.bits (n : Int) &&& BitVec.ofInt IntKind.i64.bits 3).toNat : Int) = ((n % 4 : Nat) : Int) := by decide +kernel
theorem shr2_raw : ∀ n : Nat, n < 97 → (n : Int).fdiv (2 ^ (min (2 : Int).toNat IntKind.i64.bits)) = ((n / 4 : Nat) : Int) := by decide +kernel
theorem lk_lt (h : List UInt8) (j : Nat) : lackN h 32 / 4 ^ j < 97 := by
  have h1 := lackN_le h 32
  have h2 := Nat.div_le_self (lackN h 32) (4 ^ j)
  omega
theorem lk_succ (h : List UInt8) {k : Nat} (hk : 32 ≤ k) : lackN h 32 / 4 ^ (k - 32) / 4 = lackN h 32 / 4 ^ (k + 1 - 32) := by
  rw [Nat.div_div_eq_div_mul, show k + 1 - 32 = (k - 32) + 1 by omega, Nat.pow_succ]
def sigAt (sd : List UInt8) (lf : Int) (h : List UInt8) (k : Nat) : List UInt8 := walkF (k : Int) 0 (digF h k) (secretF sd lf (k : Int))
def signP (sd : List UInt8) (lf : Int) (h : List UInt8) (k : Nat) : List (List UInt8) := (List.range k).map (sigAt sd lf h)
theorem signP_len (sd : List UInt8) (lf : Int) (h : List UInt8) (k : Nat) : (signP sd lf h k).length = k := by simp [signP]
theorem signP_succ (sd : List UInt8) (lf : Int) (h : List UInt8) (k : Nat) : signP sd lf h (k + 1) = signP sd lf h k ++ [sigAt sd lf h k] := by simp [signP, List.range_succ]
def signF (sd : List UInt8) (lf : Int) (m : List UInt8) : List (List UInt8) := signP sd lf (shaF m) 36

theorem digits_any (l : List UInt8) (a : Option Addr) (n c : Nat) (w : World) (hl : SlAt 1 RByte w (.slice a n c) l) (hc : l.length ≤ c) (hln : l.length ≤ 1099511627776) : Ret Tryz.prog 173 [.slice a n c] w fun r w' => (∃ ds : List Int, ds.length = 36 ∧ (∀ j, j < 36 → ds[j]? = some ((digF (shaF l) j : Nat) : Int)) ∧ r = .agg ⟨i64s ds⟩) ∧ Ext w w' := by
  have e := ExtB.refl (fun _ => False) w
  obtain ⟨h9, hh9⟩ : ∃ h, h = shaF l := ⟨_, rfl⟩
  have hl9 : h9.length = 32 := by rw [hh9]; exact shaF_len _
  refine ret_of_run Tryz.func173 rfl Tryz.ntmps173 rfl ?_
  refine run_seq ?_
  refine run_region rfl ?_
  refine runl_op (t_alloc zero_255 rfl) ?_
  rintro _ w2 ⟨b2, rfl, hb2, e2, n2, l2⟩
  have z2 := e2.size
  replace e := e.trans e2
  refine runl_nil ?_
  refine run_seq ?_
  refine run_region rfl ?_
  refine runl_op (t_alloc zero_255 rfl) ?_
  rintro _ w3 ⟨b3, rfl, hb3, e3, n3, l3⟩
  have z3 := e3.size
  replace e := e.trans e3
  replace hb2 := e3.at hb2
  refine runl_nil ?_
  refine run_seq ?_
  refine run_region rfl ?_
  refine runl_ev (ev_move rfl) ?_
  refine runl_op (t_call call_47 rfl (sum_any l a n c _ (hl.ext RByte.stable e) hc hln)) ?_
  rintro _ w9 ⟨rfl, e9⟩
  rw [← hh9]
  have z9 := e9.size
  replace e := e.trans e9
  replace hb2 := e9.at hb2
  replace hb3 := e9.at hb3
  refine runl_op (t_alloc zero_25 rfl) ?_
  rintro _ w4 ⟨b4, rfl, hb4, e4, n4, l4⟩
  have z4 := e4.size
  replace e := e.trans e4
  replace hb2 := e4.at hb2
  replace hb3 := e4.at hb3
  refine runl_do (t_storeW sz_25 rfl rfl (by rw [hcells_length]; exact hl9) rfl hb4 (hcells_one _)) ?_
  rintro _ v2_3 ⟨hq2_3, e2_3, z2_3⟩
  replace e := e.new1 e2_3 (by omega)
  replace hb2 := e2_3.at1 hb2 (by omega)
  replace hb3 := e2_3.at1 hb3 (by omega)
  replace hb4 := hq2_3
  clear hq2_3
  refine runl_nil ?_
  refine run_seq ?_
  refine run_region rfl ?_
  refine runl_ev (ev_assign rfl) ?_
  refine runl_nil ?_
  refine run_seq ?_
  refine run_seq ?_
  refine run_region rfl ?_
  refine runl_ev (ev_move rfl) ?_
  refine runl_nil ?_
  refine run_block ?_
  refine run_loop (ι := Nat × List Int) (fun x => [(2, .pointer (some ⟨b2, 0, none⟩)), (3, .pointer (some ⟨b3, 0, none⟩)), (4, .pointer (some ⟨b4, 0, none⟩)), (5, .int .i64 ((lackN h9 x.1 : Nat) : Int)), (10, .int .i64 (x.1 : Int))]) (fun x w' => x.1 ≤ 32 ∧ x.2.length = 36 ∧ w'.heap[b3]? = some (.cells ⟨i64s x.2⟩ 255 (0, 0)) ∧ w'.heap[b2]? = some (.cells ⟨List.replicate 36 (.int .i64 0)⟩ 255 (0, 0)) ∧ w'.heap[b4]? = some (.cells ⟨hcells h9⟩ 25 (0, 0)) ∧ Ext w w' ∧ ∀ j, j < x.1 → x.2[j]? = some ((digF h9 j : Nat) : Int)) (fun x => 32 - x.1) ((0, List.replicate 36 0)) ⟨rfl, rfl, rfl, rfl, rfl, trivial⟩ (⟨Nat.zero_le _, rfl, hb3, hb2, hb4, e, fun j hj => absurd hj (Nat.not_lt_zero _)⟩) ?_
  clear e hb2 hb3 hb4
  intro ⟨k, ds⟩ w1 ⟨hk32, hdl, hb3, hb2, hb4, e, hv⟩ IH
  simp only at hk32 hdl hb3 hv
  have lb2 := lt_of_at hb2
  have lb3 := lt_of_at hb3
  have lb4 := lt_of_at hb4
  have ze := e.size
  refine run_seq ?_
  refine run_region rfl ?_
  refine runl_ev (ev_lss rfl rfl) ?_
  refine runl_nil ?_
  refine run_seq ?_
  refine run_dcond rfl (fun h0 => ?_) (fun h0 => ?_)
  · have hk : k < 32 := by omega
    have hby : (hcells h9)[k / 4]? = some (Value.int .u8 ((gb h9 (k / 4)).toNat : Int)) := by rw [gb_get (by omega)]; unfold hcells; rw [List.getElem?_map, List.getElem?_eq_getElem (by omega : k / 4 < h9.length)]; rfl
    have hd4 := dgt_lt h9 k
    have hdf : digF h9 k = dgt h9 k := if_pos hk
    refine run_skip ?_
    refine run_seq ?_
    refine run_block ?_
    refine run_seq ?_
    refine run_region rfl ?_
    refine runl_ev (ev_move rfl) ?_
    refine runl_ev (ev_assign rfl) ?_
    refine runl_nil ?_
    refine run_seq ?_
    refine run_region rfl ?_
    refine runl_ev (ev_move rfl) ?_
    refine runl_ev (ev_move rfl) ?_
    refine runl_ev (ev_quo (((k / 4 : Nat) : Int)) rfl rfl (by omega) (by rw [Int.tdiv_eq_ediv_of_nonneg (by omega), show (k : Int) / 4 = ((k / 4 : Nat) : Int) by omega]; exact wrap_i64 (by omega) (by omega))) ?_
    refine runl_ev (ev_indexAddrA (k := k / 4) arr_25 rfl rfl (by omega)) ?_
    refine runl_ev (ev_load1 cell_5 rfl (eqw ((cells_all hb4).pick (k / 4) (by omega) hby))) ?_
    refine runl_ev (ev_move rfl) ?_
    refine runl_ev (ev_rem (((k % 4 : Nat) : Int)) rfl rfl (by omega) (by rw [Int.tmod_eq_emod_of_nonneg (by omega)]; omega)) ?_
    refine runl_ev (ev_mulK (((2 * (k % 4) : Nat) : Int)) rfl rfl (by rw [show (2 : Int) * ((k % 4 : Nat) : Int) = ((2 * (k % 4) : Nat) : Int) by omega]; exact wrap_i64 (by omega) (by omega))) ?_
    refine runl_ev (ev_subK (((6 - 2 * (k % 4) : Nat) : Int)) rfl rfl (by rw [show (6 : Int) - ((2 * (k % 4) : Nat) : Int) = ((6 - 2 * (k % 4) : Nat) : Int) by omega]; exact wrap_i64 (by omega) (by omega))) ?_
    refine runl_ev (ev_shr (_) rfl rfl (by omega) (rfl)) ?_
    refine runl_ev (ev_convI (_) Tryz.underlying5 Tryz.underlying3 rfl (rfl)) ?_
    refine runl_ev (ev_and (((dgt h9 k : Nat) : Int)) rfl rfl (dgt_raw _ (UInt8.toNat_lt _) _ (by omega))) ?_
    refine runl_ev (ev_indexAddrA (k := k) arr_255 rfl rfl (by omega)) ?_
    refine runl_do (t_store1 sz_3 rfl rfl rfl rfl hb3 (by rw [i64s_len]; omega)) ?_
    rintro _ v7_13 ⟨hq7_13, e7_13, z7_13⟩
    replace e := e.new1 e7_13 (by omega)
    replace hb2 := e7_13.at1 hb2 (by omega)
    replace hb4 := e7_13.at1 hb4 (by omega)
    replace hb3 := hq7_13
    clear hq7_13
    refine runl_nil ?_
    replace hb3 : _ = some (Obj.cells ⟨(i64s ds).set (0 + k * 1) _⟩ _ _) := hb3
    rw [Nat.zero_add, Nat.mul_one, i64s_set] at hb3
    refine run_region rfl ?_
    refine runl_ev (ev_move rfl) ?_
    refine runl_ev (ev_move rfl) ?_
    refine runl_ev (ev_indexAddrA (k := k) arr_255 rfl rfl (by omega)) ?_
    refine runl_ev (ev_load1 cell_3 rfl (eqw ((cells_all hb3).pick k (by omega) (i64s_get (List.getElem?_set_self (by omega)))))) ?_
    refine runl_ev (ev_subK (((3 - dgt h9 k : Nat) : Int)) rfl rfl (by rw [show (3 : Int) - ((dgt h9 k : Nat) : Int) = ((3 - dgt h9 k : Nat) : Int) by omega]; exact wrap_i64 (by omega) (by omega))) ?_
    refine runl_ev (ev_addK (((lackN h9 (k + 1) : Nat) : Int)) rfl rfl (by have h1 := lackN_le h9 (k + 1); rw [show ((lackN h9 k : Nat) : Int) + ((3 - dgt h9 k : Nat) : Int) = ((lackN h9 (k + 1) : Nat) : Int) by rw [lackN]; omega]; exact wrap_i64 (by omega) (by omega))) ?_
    refine runl_ev (ev_assign rfl) ?_
    refine runl_nil ?_
    refine run_inBlock ?_
    refine run_region rfl ?_
    refine runl_ev (ev_add rfl rfl (by omega) (by omega)) ?_
    refine runl_ev (ev_move rfl) ?_
    refine runl_nil ?_
    exact IH (k + 1, ds.set k ((dgt h9 k : Nat) : Int)) _ _ (by simp only; omega) ⟨rfl, rfl, rfl, rfl, rfl, trivial⟩ ⟨by show k + 1 ≤ 32; omega, by simp only [List.length_set]; exact hdl, hb3, hb2, hb4, e, fun j hj => by
      simp only at hj ⊢
      by_cases hjk : j = k
      · subst hjk; rw [List.getElem?_set_self (by omega), hdf]
      · rw [List.getElem?_set_ne (fun h => hjk h.symm)]; exact hv j (by omega)⟩
  · obtain rfl : k = 32 := by omega
    refine run_exit rfl ?_
    refine run_seq ?_
    refine run_seq ?_
    refine run_region rfl ?_
    refine runl_ev (ev_assign rfl) ?_
    refine runl_nil ?_
    refine run_block ?_
    refine run_loop (ι := Nat × List Int) (fun x => [(2, .pointer (some ⟨b2, 0, none⟩)), (3, .pointer (some ⟨b3, 0, none⟩)), (5, .int .i64 ((lackN h9 32 / 4 ^ (x.1 - 32) : Nat) : Int)), (7, .int .i64 (x.1 : Int))]) (fun x w' => 32 ≤ x.1 ∧ x.1 ≤ 36 ∧ x.2.length = 36 ∧ w'.heap[b3]? = some (.cells ⟨i64s x.2⟩ 255 (0, 0)) ∧ w'.heap[b2]? = some (.cells ⟨List.replicate 36 (.int .i64 0)⟩ 255 (0, 0)) ∧ Ext w w' ∧ ∀ j, j < x.1 → x.2[j]? = some ((digF h9 j : Nat) : Int)) (fun x => 36 - x.1) ((32, ds)) ⟨rfl, rfl, by show some (Value.int .i64 ((lackN h9 32 : Nat) : Int)) = some (Value.int .i64 ((lackN h9 32 / 4 ^ (32 - 32) : Nat) : Int)); rw [Nat.sub_self, Nat.pow_zero, Nat.div_one], rfl, trivial⟩ (⟨Nat.le_refl _, (by show 32 ≤ 36; decide), hdl, hb3, hb2, e, hv⟩) ?_
    clear e hb2 hb3 hb4 hv
    intro ⟨k2, ds2⟩ w2 ⟨hk32x, hk36, hdl2, hb3, hb2, e, hv⟩ IH
    simp only at hk32x hk36 hdl2 hb3 hv
    have lb2 := lt_of_at hb2
    have lb3 := lt_of_at hb3
    have ze := e.size
    have hlk := lk_lt h9 (k2 - 32)
    refine run_seq ?_
    refine run_seq ?_
    refine run_region rfl ?_
    refine runl_ev (ev_move rfl) ?_
    refine runl_ev (ev_lss rfl rfl) ?_
    refine runl_nil ?_
    refine run_dcond rfl (fun h1 => ?_) (fun h1 => ?_)
    · refine run_skip ?_
      refine run_seq ?_
      refine run_block ?_
      refine run_seq ?_
      refine run_region rfl ?_
      refine runl_ev (ev_move rfl) ?_
      refine runl_ev (ev_move rfl) ?_
      refine runl_ev (ev_and (((lackN h9 32 / 4 ^ (k2 - 32) % 4 : Nat) : Int)) rfl rfl (and3_raw _ hlk)) ?_
      refine runl_ev (ev_indexAddrA (k := k2) arr_255 rfl rfl (by omega)) ?_
      refine runl_do (t_store1 sz_3 rfl rfl rfl rfl hb3 (by rw [i64s_len]; omega)) ?_
      rintro _ v13_4 ⟨hq13_4, e13_4, z13_4⟩
      replace e := e.new1 e13_4 (by omega)
      replace hb2 := e13_4.at1 hb2 (by omega)
      replace hb3 := hq13_4
      clear hq13_4
      refine runl_nil ?_
      replace hb3 : _ = some (Obj.cells ⟨(i64s ds2).set (0 + k2 * 1) _⟩ _ _) := hb3
      rw [Nat.zero_add, Nat.mul_one, i64s_set] at hb3
      refine run_region rfl ?_
      refine runl_ev (ev_move rfl) ?_
      refine runl_ev (ev_shr (((lackN h9 32 / 4 ^ (k2 + 1 - 32) : Nat) : Int)) rfl rfl (by omega) (by rw [← lk_succ h9 hk32x]; exact shr2_raw _ hlk)) ?_
      refine runl_ev (ev_assign rfl) ?_
      refine runl_nil ?_
      refine run_inBlock ?_
      refine run_region rfl ?_
      refine runl_ev (ev_move rfl) ?_
      refine runl_ev (ev_add rfl rfl (by omega) (by omega)) ?_
      refine runl_ev (ev_assign rfl) ?_
      refine runl_nil ?_
      exact IH (k2 + 1, ds2.set k2 ((lackN h9 32 / 4 ^ (k2 - 32) % 4 : Nat) : Int)) _ _ (by simp only; omega) ⟨rfl, rfl, rfl, rfl, trivial⟩ ⟨by show 32 ≤ k2 + 1; omega, by show k2 + 1 ≤ 36; omega, by simp only [List.length_set]; exact hdl2, hb3, hb2, e, fun j hj => by
        simp only at hj ⊢
        by_cases hjk : j = k2
        · subst hjk; rw [List.getElem?_set_self (by omega), digF, if_neg (by omega)]
        · rw [List.getElem?_set_ne (fun h => hjk h.symm)]; exact hv j (by omega)⟩
    · obtain rfl : k2 = 36 := by omega
      refine run_exit rfl ?_
      refine run_seq ?_
      refine run_region rfl ?_
      refine runl_ev (ev_loadA agg_255 (by rw [i64s_len]; exact hdl2) rfl (eqw (cells_all hb3))) ?_
      refine runl_do (t_storeW sz_255 rfl rfl (by rw [i64s_len]; exact hdl2) rfl hb2 ((i64s_one _))) ?_
      rintro _ v15_1 ⟨hq15_1, e15_1, z15_1⟩
      replace e := e.new1 e15_1 (by omega)
      replace hb3 := e15_1.at1 hb3 (by omega)
      replace hb2 := hq15_1
      clear hq15_1
      refine runl_nil ?_
      refine run_ret_any Tryz.func173 (resC Tryz.results173 rfl (loadVar_agg agg_255 (by rw [i64s_len]; exact hdl2) (cells_all hb2))) ?_
      exact ⟨⟨ds2, hdl2, hv, rfl⟩, e⟩
theorem otssign_any (sd : List UInt8) (hsd : sd.length = 32) (lf : Int) (l : List UInt8) (a : Option Addr) (n c : Nat) (w : World) (hl : SlAt 1 RByte w (.slice a n c) l) (hc : l.length ≤ c) (hln : l.length ≤ 1099511627776) : Ret Tryz.prog 108 [.agg ⟨hcells sd⟩, .int .i64 lf, .slice a n c] w fun r w' => OwnG 25 32 RHash w (signF sd lf l) r w' ∧ Ext w w' := by
  have e := ExtB.refl (fun _ => False) w
  refine ret_of_run Tryz.func108 rfl Tryz.ntmps108 rfl ?_
  refine run_seq ?_
  refine run_region rfl ?_
  refine runl_op (t_boxA rfl) ?_
  rintro _ w3 ⟨b3, rfl, hb3, e3, n3, l3⟩
  have z3 := e3.size
  replace e := e.trans e3
  refine runl_ev (ev_assign rfl) ?_
  refine runl_nil ?_
  refine run_seq ?_
  refine run_region rfl ?_
  refine runl_ev (ev_assign rfl) ?_
  refine runl_nil ?_
  refine run_seq ?_
  refine run_seq ?_
  refine run_region rfl ?_
  refine runl_ev (ev_move rfl) ?_
  refine runl_op (t_call call_173 rfl (digits_any l a n c _ (hl.ext RByte.stable e) hc hln)) ?_
  rintro _ w11 ⟨⟨ds, hdl, hdv, rfl⟩, e11⟩
  have z11 := e11.size
  replace e := e.trans e11
  replace hb3 := e11.at hb3
  refine runl_ev (ev_move rfl) ?_
  refine runl_nil ?_
  refine run_block ?_
  refine run_loop (ι := Nat × Value) (fun x => [(1, .int .i64 lf), (3, .pointer (some ⟨b3, 0, none⟩)), (7, x.2), (11, .agg ⟨i64s ds⟩), (12, .int .i64 (x.1 : Int))]) (fun x w' => x.1 ≤ 36 ∧ OwnG 25 32 RHash w3 (signP sd lf (shaF l) x.1) x.2 w' ∧ w'.heap[b3]? = some (.cells ⟨hcells sd⟩ 25 (0, 0)) ∧ Ext w w' ∧ w3.heap.size ≤ w'.heap.size) (fun x => 36 - x.1) ((0, .slice none 0 0)) ⟨rfl, rfl, rfl, rfl, rfl, trivial⟩ (⟨Nat.zero_le _, OwnG.nil _ _, hb3, e, by omega⟩) ?_
  clear e hb3
  intro ⟨k, v⟩ w1 ⟨hk36, ow, hb3, e, hz3⟩ IH
  simp only at hk36 ow
  have lb3 := lt_of_at hb3
  have ze := e.size
  have hhl := signP_len sd lf (shaF l) k
  obtain ⟨xs, g, own, hpp, hxl, hg, hgl⟩ := ow.open
  refine run_seq ?_
  refine run_region rfl ?_
  refine runl_ev (ev_lss rfl rfl) ?_
  refine runl_nil ?_
  refine run_seq ?_
  refine run_dcond rfl (fun h0 => ?_) (fun h0 => ?_)
  · have hk : k < 36 := by omega
    have hdl3 := digF_le (shaF l) k
    have hl20 := secretF_len sd lf (k : Int)
    have hl23 := walkF_len (k : Int) (digF (shaF l) k - 0) 0 _ hl20
    refine run_skip ?_
    refine run_seq ?_
    refine run_block ?_
    refine run_seq ?_
    refine run_region rfl ?_
    refine runl_ev (ev_move rfl) ?_
    refine runl_ev (ev_indexA1 (k := k) arr_255 cell_3 rfl rfl (by omega) (i64s_get (hdv k hk))) ?_
    refine runl_ev (ev_assign rfl) ?_
    refine runl_ev (ev_assign rfl) ?_
    refine runl_nil ?_
    refine run_region rfl ?_
    refine runl_ev (ev_move rfl) ?_
    refine runl_ev (ev_loadA agg_25 (by rw [hcells_length]; exact hsd) rfl (eqw (cells_all hb3))) ?_
    refine runl_ev (ev_move rfl) ?_
    refine runl_ev (ev_move rfl) ?_
    refine runl_op (t_call call_175 rfl (secret_any sd hsd lf (k : Int) _)) ?_
    rintro _ w20 ⟨rfl, e20⟩
    have z20 := e20.size
    replace e := e.trans e20
    replace hb3 := e20.at hb3
    replace own := own.ext e20
    refine runl_ev (ev_move rfl) ?_
    refine runl_ev (ev_move rfl) ?_
    refine runl_op (t_call call_174 rfl (walk_any _ hl20 (k : Int) 0 (digF (shaF l) k) (by omega) hdl3 _)) ?_
    rintro _ w23 ⟨rfl, e23⟩
    have z23 := e23.size
    replace e := e.trans e23
    replace hb3 := e23.at hb3
    replace own := own.ext e23
    refine runl_op (t_buildSlice (out := hcells (sigAt sd lf (shaF l) k)) Tryz.underlying60 sz_25 zero_25 rfl rfl (by decide) (by decide) rfl (fill_one rfl (by rw [hcells_length]; exact hl23) rfl)) ?_
    rintro _ w24 ⟨b24, rfl, hb24, e24, n24, l24⟩
    have z24 := e24.size
    replace e := e.trans e24
    replace hb3 := e24.at hb3
    replace own := own.ext e24
    refine runl_op (t_append (news := hcells (sigAt sd lf (shaF l) k)) ef_60 rfl rfl own (by rw [hcells_length]; exact hl23) (cells_all hb24) (hcells_one _) (by unfold maxLen; omega) (by omega)) ?_
    rintro v25 w25 ⟨g25, ap25⟩
    have z25 := ap25.ext.size
    replace e := e.newG ap25.ext (by omega)
    replace hb3 := ap25.ext.atG hb3 (by omega)
    have ow25 := OwnG.app flat_hash (l' := [sigAt sd lf (shaF l) k]) (w := w3) (by omega) hg (by omega) (hpp.mono fun _ _ _ hr => flat_hash _ _ _ _ hr) hxl (pc (w := w24) ⟨hl23, by rw [List.take_of_length_le (Nat.le_of_eq (by rw [hcells_length]; exact hl23))]⟩ pn) ap25 rfl rfl
    rw [← signP_succ] at ow25
    refine runl_ev (ev_assign rfl) ?_
    refine runl_nil ?_
    refine run_inBlock ?_
    refine run_region rfl ?_
    refine runl_ev (ev_add rfl rfl (by omega) (by omega)) ?_
    refine runl_ev (ev_move rfl) ?_
    refine runl_nil ?_
    exact IH (k + 1, v25) _ _ (by simp only; omega) ⟨rfl, rfl, rfl, rfl, rfl, trivial⟩ ⟨by show k + 1 ≤ 36; omega, ow25, hb3, e, by omega⟩
  · obtain rfl : k = 36 := by omega
    refine run_exit rfl ?_
    refine run_seq ?_
    refine run_region rfl ?_
    refine runl_ev (ev_move rfl) ?_
    refine runl_ev (ev_assign rfl) ?_
    refine runl_nil ?_
    refine run_ret_any Tryz.func108 (res1 Tryz.results108 rfl) ?_
    exact ⟨ow.from (by omega), e⟩
end Go.Proofs.YtlgkdnmklgbhbaaGreatDoor
/- The walks of ots, by value: a leaf's public digest. -/
namespace Go.Proofs.YtlgkdnmklgbhbaaGreatDoor
open Go Go.Fw
set_option maxRecDepth 100000
def endsP (E : Nat → List UInt8) (k : Nat) : List UInt8 := [2] ++ (List.range k).flatMap E
theorem endsP_succ (E : Nat → List UInt8) (k : Nat) : endsP E (k + 1) = endsP E k ++ E k := by simp [endsP, List.range_succ]
theorem endsP_len {E : Nat → List UInt8} (hE : ∀ k, (E k).length = 32) : ∀ k, (endsP E k).length = 1 + 32 * k
  | 0 => rfl
  | k + 1 => by rw [endsP_succ, List.length_append, endsP_len hE k, hE]; omega
def endAt (sd : List UInt8) (lf : Int) (k : Nat) : List UInt8 := walkF (k : Int) 0 3 (secretF sd lf (k : Int))
theorem endAt_len (sd : List UInt8) (lf : Int) (k : Nat) : (endAt sd lf k).length = 32 := walkF_len _ _ _ _ (secretF_len _ _ _)
def leafF (sd : List UInt8) (lf : Int) : List UInt8 := shaF (endsP (endAt sd lf) 36)
theorem leafF_len (sd : List UInt8) (lf : Int) : (leafF sd lf).length = 32 := shaF_len _
theorem fill_ab {ps : List (Nat × Nat)} {n : Nat} {cs z : List Value} {k : IntKind} {v : Int} (hp : ps[0]? = some (0, n)) (hq : ps[1]? = some (n, 1)) (hc : cs.length = n) (hz : z.length = n + 1) : fillL ps [(0, .agg ⟨cs⟩), (1, .int k v)] z = some (cs ++ [.int k v]) := by
  unfold fillL
  rw [hp]
  have h1 : (Value.agg ⟨cs⟩).cells.size = n ∧ 0 + n ≤ z.length := ⟨hc, by omega⟩
  simp only [h1, and_self, if_true]
  have h3 : List.take 0 z ++ cs ++ z.drop (0 + n) = cs ++ z.drop n := by simp
  have h4 : (cs ++ z.drop n).length = n + 1 := by rw [List.length_append, List.length_drop]; omega
  show fillL ps [(1, .int k v)] (List.take 0 z ++ cs ++ z.drop (0 + n)) = _
  rw [h3]
  unfold fillL
  rw [hq]
  have h2 : (Value.int k v).cells.size = 1 ∧ n + 1 ≤ (cs ++ z.drop n).length := ⟨rfl, by omega⟩
  simp only [h2, and_self, if_true]
  unfold fillL
  have h5 : (cs ++ z.drop n).drop (n + 1) = [] := List.drop_eq_nil_of_le (by omega)
  have h6 : (cs ++ z.drop n).take n = cs := by rw [← hc]; exact List.take_left
  show some (List.take n (cs ++ z.drop n) ++ [Value.int k v] ++ List.drop (n + 1) (cs ++ z.drop n)) = _
  rw [h5, h6, List.append_nil]
def leafC (sd : List UInt8) (lf : Int) : List Value := hcells sd ++ [.int .i64 lf]
theorem leafC_len {sd : List UInt8} (h : sd.length = 32) (lf : Int) : (leafC sd lf).length = 33 := by unfold leafC; rw [List.length_append, hcells_length, h]; rfl
theorem leafC_hash {sd : List UInt8} (lf : Int) : hcells sd = ((leafC sd lf).drop 0).take (hcells sd).length := by unfold leafC; rw [List.drop_zero]; exact List.take_left.symm
theorem leafC_int {sd : List UInt8} (h : sd.length = 32) (lf : Int) : (leafC sd lf)[32]? = some (.int .i64 lf) := by
  unfold leafC
  rw [List.getElem?_append_right (by rw [hcells_length]; omega), hcells_length, h]
  rfl

theorem leafend_any (sd : List UInt8) (hsd : sd.length = 32) (lf : Int) (ch : Nat) (w : World) : Ret Tryz.prog 154 [.agg ⟨leafC sd lf⟩, .int .i64 (ch : Int)] w fun r w' => r = .agg ⟨hcells (endAt sd lf ch)⟩ ∧ Ext w w' := by
  have e := ExtB.refl (fun _ => False) w
  have hl10 := secretF_len sd lf (ch : Int)
  have hl12 := endAt_len sd lf ch
  refine ret_of_run Tryz.func154 rfl Tryz.ntmps154 rfl ?_
  refine run_seq ?_
  refine run_region rfl ?_
  refine runl_op (t_boxA rfl) ?_
  rintro _ w2 ⟨b2, rfl, hb2, e2, n2, l2⟩
  have z2 := e2.size
  replace e := e.trans e2
  refine runl_op (t_alloc zero_25 rfl) ?_
  rintro _ w4 ⟨b4, rfl, hb4, e4, n4, l4⟩
  have z4 := e4.size
  replace e := e.trans e4
  replace hb2 := e4.at hb2
  refine runl_nil ?_
  refine run_seq ?_
  refine run_region rfl ?_
  refine runl_ev (ev_fieldAddr fld_243_0 rfl) ?_
  refine runl_ev (ev_loadA agg_25 (by rw [hcells_length]; exact hsd) rfl (eqw ((cells_all hb2).seg (hcells sd) 0 rfl (leafC_hash lf)))) ?_
  refine runl_ev (ev_fieldAddr fld_243_1 rfl) ?_
  refine runl_ev (ev_load1 cell_3 rfl (eqw ((cells_all hb2).pick 32 rfl (leafC_int hsd lf)))) ?_
  refine runl_ev (ev_move rfl) ?_
  refine runl_op (t_call call_175 rfl (secret_any sd hsd lf (ch : Int) _)) ?_
  rintro _ w10 ⟨rfl, e10⟩
  have z10 := e10.size
  replace e := e.trans e10
  replace hb2 := e10.at hb2
  replace hb4 := e10.at hb4
  refine runl_ev (ev_move rfl) ?_
  refine runl_op (t_call call_174 rfl (walk_any _ hl10 (ch : Int) 0 3 (by decide) (by decide) _)) ?_
  rintro _ w12 ⟨rfl, e12⟩
  have z12 := e12.size
  replace e := e.trans e12
  replace hb2 := e12.at hb2
  replace hb4 := e12.at hb4
  refine runl_do (t_storeW sz_25 rfl rfl (by rw [hcells_length]; exact hl12) rfl hb4 (hcells_one _)) ?_
  rintro _ v1_8 ⟨hq1_8, e1_8, z1_8⟩
  replace e := e.new1 e1_8 (by omega)
  replace hb2 := e1_8.at1 hb2 (by omega)
  replace hb4 := hq1_8
  clear hq1_8
  refine runl_nil ?_
  refine run_ret_any Tryz.func154 (resC Tryz.results154 rfl (loadVar_agg agg_25 (by rw [hcells_length]; exact hl12) (cells_all hb4))) ?_
  exact ⟨rfl, e⟩
theorem ends_any (g : FuncId) (fs cs : List Value) (hg : callable Tryz.prog g = true) (E : Nat → List UInt8) (hE : ∀ k, (E k).length = 32) (hend : ∀ (k : Nat) (w1 : World), k < 36 → Ret Tryz.prog g (fs ++ [.int .i64 (k : Int)] ++ cs) w1 fun r w' => r = .agg ⟨hcells (E k)⟩ ∧ Ext w1 w') (w : World) : Ret Tryz.prog 153 [.func (.func g) ⟨fs⟩ ⟨cs⟩] w fun r w' => r = .agg ⟨hcells (shaF (endsP E 36))⟩ ∧ Ext w w' := by
  have e := ExtB.refl (fun _ => False) w
  have hl18 := shaF_len (endsP E 36)
  refine ret_of_run Tryz.func153 rfl Tryz.ntmps153 rfl ?_
  refine run_seq ?_
  refine run_region rfl ?_
  refine runl_op (t_alloc zero_25 rfl) ?_
  rintro _ w2 ⟨b2, rfl, hb2, e2, n2, l2⟩
  have z2 := e2.size
  replace e := e.trans e2
  refine runl_nil ?_
  refine run_seq ?_
  refine run_region rfl ?_
  refine runl_op (t_buildSlice (out := [.int .u8 2]) Tryz.underlying29 sz_5 zero_5 rfl rfl (by decide) (by decide) rfl (rfl)) ?_
  rintro _ w6 ⟨b6, rfl, hb6, e6, n6, l6⟩
  have z6 := e6.size
  replace e := e.trans e6
  replace hb2 := e6.at hb2
  replace hb6 : _ = some (Obj.cells ⟨hcells [2]⟩ _ _) := hb6
  have ow6 : OwnG 5 1 RByte w2 [2] (.slice (some ⟨b6, 0, none⟩) 1 1) w6 := ⟨_, _, own_lit (n := 1) hb6 (by unfold maxLen; omega) rfl, parts_bytes _, .inr (by omega), by omega⟩
  refine runl_ev (ev_assign rfl) ?_
  refine runl_nil ?_
  refine run_seq ?_
  refine run_seq ?_
  refine run_region rfl ?_
  refine runl_ev (ev_move rfl) ?_
  refine runl_nil ?_
  refine run_block ?_
  refine run_loop (ι := Nat × Value) (fun x => [(0, .func (.func g) ⟨fs⟩ ⟨cs⟩), (2, .pointer (some ⟨b2, 0, none⟩)), (3, x.2), (7, .int .i64 (x.1 : Int))]) (fun x w' => x.1 ≤ 36 ∧ OwnG 5 1 RByte w2 (endsP E x.1) x.2 w' ∧ w'.heap[b2]? = some (.cells ⟨List.replicate 32 (.int .u8 0)⟩ 25 (0, 0)) ∧ Ext w w' ∧ w2.heap.size ≤ w'.heap.size) (fun x => 36 - x.1) ((0, .slice (some ⟨b6, 0, none⟩) 1 1)) ⟨rfl, rfl, rfl, rfl, trivial⟩ (⟨Nat.zero_le _, ow6, hb2, e, by omega⟩) ?_
  clear e hb2 hb6 ow6
  intro ⟨k, v⟩ w1 ⟨hk36, ow, hb2, e, hz2⟩ IH
  simp only at hk36 ow
  have hbl := endsP_len hE k
  have hl12 := hE k
  have lb2 := lt_of_at hb2
  have ze := e.size
  obtain ⟨xs, gg, own, hpp, hxl, hgg, hggl⟩ := ow.open
  refine run_seq ?_
  refine run_region rfl ?_
  refine runl_ev (ev_lss rfl rfl) ?_
  refine runl_nil ?_
  refine run_seq ?_
  refine run_dcond rfl (fun h0 => ?_) (fun h0 => ?_)
  · refine run_skip ?_
    refine run_seq ?_
    refine run_block ?_
    refine run_seq ?_
    refine run_region rfl ?_
    refine runl_ev (ev_move rfl) ?_
    refine runl_ev (ev_assign rfl) ?_
    refine runl_nil ?_
    refine run_seq ?_
    refine run_region rfl ?_
    refine runl_ev (ev_move rfl) ?_
    refine runl_ev (ev_move rfl) ?_
    refine runl_op (t_callv hg rfl rfl (hend k _ (by omega))) ?_
    rintro _ w12 ⟨rfl, e12⟩
    have z12 := e12.size
    replace e := e.trans e12
    replace hb2 := e12.at hb2
    replace own := own.ext e12
    refine runl_op (t_alloc zero_25 rfl) ?_
    rintro _ w5 ⟨b5, rfl, hb5, e5, n5, l5⟩
    have z5 := e5.size
    replace e := e.trans e5
    replace hb2 := e5.at hb2
    replace own := own.ext e5
    refine runl_do (t_storeW sz_25 rfl rfl (by rw [hcells_length]; exact hl12) rfl hb5 (hcells_one _)) ?_
    rintro _ v5_4 ⟨hq5_4, e5_4, z5_4⟩
    replace e := e.new1 e5_4 (by omega)
    replace hb2 := e5_4.at1 hb2 (by omega)
    replace own := own.ext1 e5_4 (by omega)
    replace hb5 := hq5_4
    clear hq5_4
    refine runl_nil ?_
    refine run_region rfl ?_
    refine runl_ev (ev_move rfl) ?_
    refine runl_ev (ev_sliceA arr_25 rfl) ?_
    refine runl_op (t_appendL (l := E k) (R := RByte) ef_29 rfl rfl own (sl_hash hb5 hl12) rbyte_len (fun x cs h => rbyte_one x cs h) (by unfold maxLen; omega) (by omega)) ?_
    rintro v15 w15 ⟨n15, g15, hnl15, hnp15, ap15⟩
    have ow15 := OwnG.app flat_byte (w := w2) (by omega) hgg (by omega) (hpp.mono fun _ _ _ hr => flat_byte _ _ _ _ hr) hxl hnp15 ap15 rfl hl12
    rw [← endsP_succ] at ow15
    have z15 := ap15.ext.size
    replace e := e.newG ap15.ext (by omega)
    replace hb2 := ap15.ext.atG hb2 (by omega)
    refine runl_ev (ev_assign rfl) ?_
    refine runl_nil ?_
    refine run_inBlock ?_
    refine run_region rfl ?_
    refine runl_ev (ev_add rfl rfl (by omega) (by omega)) ?_
    refine runl_ev (ev_move rfl) ?_
    refine runl_nil ?_
    exact IH (k + 1, v15) _ _ (by simp only; omega) ⟨rfl, rfl, rfl, rfl, trivial⟩ ⟨by show k + 1 ≤ 36; omega, ow15, hb2, e, by omega⟩
  · obtain rfl : k = 36 := by omega
    obtain ⟨a1, c1, rfl, hc1, sl1, -⟩ := ow.sl
    refine run_exit rfl ?_
    refine run_seq ?_
    refine run_region rfl ?_
    refine runl_ev (ev_move rfl) ?_
    refine runl_op (t_call call_47 rfl (sum_any _ a1 _ c1 _ (sl1) hc1 (by omega))) ?_
    rintro _ w18 ⟨rfl, e18⟩
    have z18 := e18.size
    replace e := e.trans e18
    replace hb2 := e18.at hb2
    replace own := own.ext e18
    refine runl_do (t_storeW sz_25 rfl rfl (by rw [hcells_length]; exact hl18) rfl hb2 (hcells_one _)) ?_
    rintro _ v8_2 ⟨hq8_2, e8_2, z8_2⟩
    replace e := e.new1 e8_2 (by omega)
    replace own := own.ext1 e8_2 (by omega)
    replace hb2 := hq8_2
    clear hq8_2
    refine runl_nil ?_
    refine run_ret_any Tryz.func153 (resC Tryz.results153 rfl (loadVar_agg agg_25 (by rw [hcells_length]; exact hl18) (cells_all hb2))) ?_
    exact ⟨rfl, e⟩
theorem public_any (sd : List UInt8) (hsd : sd.length = 32) (lf : Int) (w : World) : Ret Tryz.prog 87 [.agg ⟨hcells sd⟩, .int .i64 lf] w fun r w' => r = .agg ⟨hcells (leafF sd lf)⟩ ∧ Ext w w' := by
  have e := ExtB.refl (fun _ => False) w
  have hl9 := leafF_len sd lf
  refine ret_of_run Tryz.func87 rfl Tryz.ntmps87 rfl ?_
  refine run_seq ?_
  refine run_region rfl ?_
  refine runl_op (t_boxA rfl) ?_
  rintro _ w2 ⟨b2, rfl, hb2, e2, n2, l2⟩
  have z2 := e2.size
  replace e := e.trans e2
  refine runl_op (t_alloc zero_25 rfl) ?_
  rintro _ w4 ⟨b4, rfl, hb4, e4, n4, l4⟩
  have z4 := e4.size
  replace e := e.trans e4
  replace hb2 := e4.at hb2
  refine runl_nil ?_
  refine run_seq ?_
  refine run_region rfl ?_
  refine runl_ev (ev_loadA agg_25 (by rw [hcells_length]; exact hsd) rfl (eqw (cells_all hb2))) ?_
  refine runl_ev (ev_move rfl) ?_
  refine runl_ev (ev_build (out := leafC sd lf) ps_243 zero_243 rfl rfl (fill_ab (n := 32) rfl rfl (by rw [hcells_length]; exact hsd) rfl)) ?_
  refine runl_ev (ev_makeFunc rfl rfl) ?_
  refine runl_op (t_call call_153 rfl (ends_any 154 [.agg ⟨leafC sd lf⟩] [] call_154 (endAt sd lf) (endAt_len sd lf) (fun k w1 _ => leafend_any sd hsd lf k w1) _)) ?_
  rintro _ w9 ⟨rfl, e9⟩
  have z9 := e9.size
  replace e := e.trans e9
  replace hb2 := e9.at hb2
  replace hb4 := e9.at hb4
  refine runl_do (t_storeW sz_25 rfl rfl (by rw [hcells_length]; exact hl9) rfl hb4 (hcells_one _)) ?_
  rintro _ v1_5 ⟨hq1_5, e1_5, z1_5⟩
  replace e := e.new1 e1_5 (by omega)
  replace hb2 := e1_5.at1 hb2 (by omega)
  replace hb4 := hq1_5
  clear hq1_5
  refine runl_nil ?_
  refine run_ret_any Tryz.func87 (resC Tryz.results87 rfl (loadVar_agg agg_25 (by rw [hcells_length]; exact hl9) (cells_all hb4))) ?_
  exact ⟨rfl, e⟩
attribute [irreducible] leafF endsP
end Go.Proofs.YtlgkdnmklgbhbaaGreatDoor
/- The walks of merkle: nodes. -/
namespace Go.Proofs.YtlgkdnmklgbhbaaGreatDoor
open Go Go.Fw
set_option maxRecDepth 100000
def nodeF (a b : List UInt8) : List UInt8 := shaF ([3] ++ a ++ b)
theorem nodeF_len (a b : List UInt8) : (nodeF a b).length = 32 := shaF_len _

theorem node_any (ha hb : List UInt8) (la : ha.length = 32) (lb : hb.length = 32) (w : World) : Ret Tryz.prog 172 [.agg ⟨hcells ha⟩, .agg ⟨hcells hb⟩] w fun r w' => r = .agg ⟨hcells (nodeF ha hb)⟩ ∧ Ext w w' := by
  have e := ExtB.refl (fun _ => False) w
  have hl10 := nodeF_len ha hb
  refine ret_of_run Tryz.func172 rfl Tryz.ntmps172 rfl ?_
  refine run_seq ?_
  refine run_region rfl ?_
  refine runl_op (t_boxA rfl) ?_
  rintro _ w2 ⟨b2, rfl, hb2, e2, n2, l2⟩
  have z2 := e2.size
  replace e := e.trans e2
  refine runl_op (t_boxA rfl) ?_
  rintro _ w3 ⟨b3, rfl, hb3, e3, n3, l3⟩
  have z3 := e3.size
  replace e := e.trans e3
  replace hb2 := e3.at hb2
  refine runl_op (t_alloc zero_25 rfl) ?_
  rintro _ w4 ⟨b4, rfl, hb4, e4, n4, l4⟩
  have z4 := e4.size
  replace e := e.trans e4
  replace hb2 := e4.at hb2
  replace hb3 := e4.at hb3
  refine runl_nil ?_
  refine run_seq ?_
  refine run_draw mo (fun w' => Ext w4 w') [6] [(true, 1), (true, 3), (false, 0), (false, 2), (false, 4), (false, 5), (false, 6)] (by kernel_rfl) ?_
  intro wr1 er1
  have zr1 := er1.size
  have hsr1 := er1
  have ep := e.trans er1
  have hb2p := er1.at hb2
  have hb3p := er1.at hb3
  have hb4p := er1.at hb4
  refine rund_ev hsr1 rfl (ev_sliceA arr_25 rfl) ?_
  refine rund_ev hsr1 rfl (ev_sliceA arr_25 rfl) ?_
  refine rund_op rfl (t_buildSlice (out := [.int .u8 3]) Tryz.underlying29 sz_5 zero_5 rfl rfl (by decide) (by decide) rfl (rfl)) ?_
  rintro _ w5 ⟨b5, rfl, hb5, e5, n5, l5⟩
  have z5 := e5.size
  replace ep := ep.trans e5
  replace hb2p := e5.at hb2p
  replace hb3p := e5.at hb3p
  replace hb4p := e5.at hb4p
  have hs5 := hsr1.trans e5
  refine ⟨hs5, ?_⟩
  have hb5p := hb5
  have ow5 : OwnG 5 1 RByte w4 [3] (.slice (some ⟨b5, 0, none⟩) 1 1) w5 := ⟨hcells [3], _, own_lit (n := 1) (cs := hcells [3]) hb5p (by unfold maxLen; omega) rfl, parts_bytes _, .inr (by omega), by omega⟩
  obtain ⟨xs5, q5, own5, hpp5, hxl5, hg5, hgl5⟩ := ow5.open
  refine rund_op rfl (t_appendL (l := ha) (R := RByte) ef_29 rfl rfl own5 (sl_hash hb2p la) rbyte_len (fun x cs h => rbyte_one x cs h) (by unfold maxLen; simp) (by simp)) ?_
  rintro v7 w7 ⟨n7, g7, hnl7, hnp7, ap7⟩
  have ow7 := OwnG.app flat_byte (w := w4) (by omega) hg5 (by omega) (hpp5.mono fun _ _ _ hr => flat_byte _ _ _ _ hr) hxl5 hnp7 ap7 rfl la
  obtain ⟨xs7, q7, own7, hpp7, hxl7, hg7, hgl7⟩ := ow7.open
  have hn7 : ([3] ++ ha).length = 33 := by simp [la]
  have z7 := ap7.ext.size
  replace ep := ep.newG ap7.ext (by omega)
  replace hb2p := ap7.ext.atG hb2p (by omega)
  replace hb3p := ap7.ext.atG hb3p (by omega)
  replace hb4p := ap7.ext.atG hb4p (by omega)
  have hsp7_ext := hs5.newBG ap7.ext (fun k hk => by first | exact .inr hk | exact .inr (.inr hk) | exact .inl (by omega))
  refine ⟨hsp7_ext, ?_⟩
  have own7p := own7
  refine rund_op rfl (t_appendL (l := hb) (R := RByte) ef_29 rfl rfl own7p (sl_hash hb3p lb) rbyte_len (fun x cs h => rbyte_one x cs h) (by unfold maxLen; omega) (by omega)) ?_
  rintro v9 w9 ⟨n9, g9, hnl9, hnp9, ap9⟩
  have ow9 := OwnG.app flat_byte (w := w4) (by omega) hg7 (by omega) (hpp7.mono fun _ _ _ hr => flat_byte _ _ _ _ hr) hxl7 hnp9 ap9 rfl lb
  obtain ⟨a9, c9, rfl, hc9, sl9, -⟩ := ow9.sl
  have z9 := ap9.ext.size
  replace ep := ep.newG ap9.ext (by omega)
  replace hb2p := ap9.ext.atG hb2p (by omega)
  replace hb3p := ap9.ext.atG hb3p (by omega)
  replace hb4p := ap9.ext.atG hb4p (by omega)
  have hsp9_ext := hsp7_ext.newBG ap9.ext (fun k hk => by first | exact .inr hk | exact .inr (.inr hk) | exact .inl (by omega))
  refine ⟨hsp9_ext, ?_⟩
  refine rund_op rfl (t_call call_47 rfl (sum_any _ a9 _ c9 _ sl9 hc9 (by rw [List.length_append, hn7, lb]; decide))) ?_
  rintro _ w10 ⟨rfl, e10⟩
  have z10 := e10.size
  replace ep := ep.trans e10
  replace hb2p := e10.at hb2p
  replace hb3p := e10.at hb3p
  replace hb4p := e10.at hb4p
  have hs10 := hsp9_ext.trans e10
  refine ⟨hs10, ?_⟩
  refine rund_doT rfl rfl (t_storeW sz_25 rfl rfl (by rw [hcells_length]; exact hl10) rfl hb4p (hcells_one _)) ?_
  rintro _ v1_6 ⟨hq1_6, e1_6, z1_6⟩
  replace ep := ep.new1 e1_6 (by omega)
  replace hb2p := e1_6.at1 hb2p (by omega)
  replace hb3p := e1_6.at1 hb3p (by omega)
  replace hb4p := hq1_6
  clear hq1_6
  refine rund_nil ?_
  replace e := ep
  clear ep
  replace hb2 := hb2p
  clear hb2p
  replace hb3 := hb3p
  clear hb3p
  replace hb4 := hb4p
  clear hb4p
  refine run_ret_any Tryz.func172 (resC Tryz.results172 rfl (loadVar_agg agg_25 (by rw [hcells_length]; exact hl10) (cells_all hb4))) ?_
  exact ⟨rfl, e⟩
theorem len64_any (x v : Nat) (h : (x = 1 ∧ v = 1) ∨ (x = 3 ∧ v = 2) ∨ (x = 7 ∧ v = 3) ∨ (x = 15 ∧ v = 4)) (w : World) : Ret Tryz.prog 220 [.int .u64 (x : Int)] w fun r w' => r = .int .i64 (v : Int) ∧ Ext w w' := by
  have e := ExtB.refl (fun _ => False) w
  refine ret_of_run Tryz.func220 rfl Tryz.ntmps220 rfl ?_
  refine run_seq ?_
  refine run_region rfl ?_
  refine runl_ev (ev_assign rfl) ?_
  refine runl_nil ?_
  refine run_seq ?_
  refine run_seq ?_
  refine run_region rfl ?_
  refine runl_ev (ev_move rfl) ?_
  refine runl_ev (ev_geq rfl rfl) ?_
  refine runl_nil ?_
  refine run_cond_false rfl (decide_eq_false (by omega)) ?_
  refine run_skip ?_
  refine run_seq ?_
  refine run_seq ?_
  refine run_region rfl ?_
  refine runl_ev (ev_move rfl) ?_
  refine runl_ev (ev_geq rfl rfl) ?_
  refine runl_nil ?_
  refine run_cond_false rfl (decide_eq_false (by omega)) ?_
  refine run_skip ?_
  refine run_seq ?_
  refine run_seq ?_
  refine run_region rfl ?_
  refine runl_ev (ev_move rfl) ?_
  refine runl_ev (ev_geq rfl rfl) ?_
  refine runl_nil ?_
  refine run_cond_false rfl (decide_eq_false (by omega)) ?_
  refine run_skip ?_
  refine run_seq ?_
  rcases h with ⟨rfl, rfl⟩ | ⟨rfl, rfl⟩ | ⟨rfl, rfl⟩ | ⟨rfl, rfl⟩
  · refine run_region rfl ?_
    refine runl_ev (ev_move rfl) ?_
    refine runl_ev (ev_move rfl) ?_
    refine runl_ev (ev_convI (((1 : Nat) : Int)) Tryz.underlying197 Tryz.underlying5 rfl (by decide)) ?_
    refine runl_ev (ev_indexSK (k := 1) Tryz.underlying9 rfl rfl (by decide)) ?_
    refine runl_ev (ev_convI ((1 : Int)) Tryz.underlying5 Tryz.underlying3 rfl (by decide)) ?_
    refine runl_ev (ev_add rfl rfl (by omega) (by omega)) ?_
    refine runl_ev (ev_assign rfl) ?_
    refine runl_nil ?_
    refine run_ret_any Tryz.func220 (res1 Tryz.results220 rfl) ?_
    exact ⟨rfl, e⟩
  · refine run_region rfl ?_
    refine runl_ev (ev_move rfl) ?_
    refine runl_ev (ev_move rfl) ?_
    refine runl_ev (ev_convI (((3 : Nat) : Int)) Tryz.underlying197 Tryz.underlying5 rfl (by decide)) ?_
    refine runl_ev (ev_indexSK (k := 3) Tryz.underlying9 rfl rfl (by decide)) ?_
    refine runl_ev (ev_convI ((2 : Int)) Tryz.underlying5 Tryz.underlying3 rfl (by decide)) ?_
    refine runl_ev (ev_add rfl rfl (by omega) (by omega)) ?_
    refine runl_ev (ev_assign rfl) ?_
    refine runl_nil ?_
    refine run_ret_any Tryz.func220 (res1 Tryz.results220 rfl) ?_
    exact ⟨rfl, e⟩
  · refine run_region rfl ?_
    refine runl_ev (ev_move rfl) ?_
    refine runl_ev (ev_move rfl) ?_
    refine runl_ev (ev_convI (((7 : Nat) : Int)) Tryz.underlying197 Tryz.underlying5 rfl (by decide)) ?_
    refine runl_ev (ev_indexSK (k := 7) Tryz.underlying9 rfl rfl (by decide)) ?_
    refine runl_ev (ev_convI ((3 : Int)) Tryz.underlying5 Tryz.underlying3 rfl (by decide)) ?_
    refine runl_ev (ev_add rfl rfl (by omega) (by omega)) ?_
    refine runl_ev (ev_assign rfl) ?_
    refine runl_nil ?_
    refine run_ret_any Tryz.func220 (res1 Tryz.results220 rfl) ?_
    exact ⟨rfl, e⟩
  · refine run_region rfl ?_
    refine runl_ev (ev_move rfl) ?_
    refine runl_ev (ev_move rfl) ?_
    refine runl_ev (ev_convI (((15 : Nat) : Int)) Tryz.underlying197 Tryz.underlying5 rfl (by decide)) ?_
    refine runl_ev (ev_indexSK (k := 15) Tryz.underlying9 rfl rfl (by decide)) ?_
    refine runl_ev (ev_convI ((4 : Int)) Tryz.underlying5 Tryz.underlying3 rfl (by decide)) ?_
    refine runl_ev (ev_add rfl rfl (by omega) (by omega)) ?_
    refine runl_ev (ev_assign rfl) ?_
    refine runl_nil ?_
    refine run_ret_any Tryz.func220 (res1 Tryz.results220 rfl) ?_
    exact ⟨rfl, e⟩
theorem len_any (x v : Nat) (h : (x = 1 ∧ v = 1) ∨ (x = 3 ∧ v = 2) ∨ (x = 7 ∧ v = 3) ∨ (x = 15 ∧ v = 4)) (w : World) : Ret Tryz.prog 207 [.int .u64 (x : Int)] w fun r w' => r = .int .i64 (v : Int) ∧ Ext w w' := by
  have e := ExtB.refl (fun _ => False) w
  refine ret_of_run Tryz.func207 rfl Tryz.ntmps207 rfl ?_
  refine run_seq ?_
  refine run_region rfl ?_
  refine runl_ev (ev_assign rfl) ?_
  refine runl_nil ?_
  refine run_seq ?_
  refine run_cond_false rfl (rfl) ?_
  refine run_skip ?_
  refine run_seq ?_
  refine run_region rfl ?_
  refine runl_ev (ev_move rfl) ?_
  refine runl_op (t_call call_220 rfl (len64_any x v h _)) ?_
  rintro _ w7 ⟨rfl, e7⟩
  have z7 := e7.size
  replace e := e.trans e7
  refine runl_ev (ev_assign rfl) ?_
  refine runl_nil ?_
  refine run_ret_any Tryz.func207 (res1 Tryz.results207 rfl) ?_
  exact ⟨rfl, e⟩
theorem half_any (n k : Nat) (h : (n = 2 ∧ k = 1) ∨ (n = 4 ∧ k = 2) ∨ (n = 8 ∧ k = 4) ∨ (n = 16 ∧ k = 8)) (w : World) : Ret Tryz.prog 171 [.int .i64 (n : Int)] w fun r w' => r = .int .i64 (k : Int) ∧ Ext w w' := by
  have e := ExtB.refl (fun _ => False) w
  refine ret_of_run Tryz.func171 rfl Tryz.ntmps171 rfl ?_
  refine run_seq ?_
  refine run_region rfl ?_
  refine runl_ev (ev_assign rfl) ?_
  refine runl_nil ?_
  refine run_seq ?_
  rcases h with ⟨rfl, rfl⟩ | ⟨rfl, rfl⟩ | ⟨rfl, rfl⟩ | ⟨rfl, rfl⟩
  · refine run_region rfl ?_
    refine runl_ev (ev_move rfl) ?_
    refine runl_ev (ev_subK (((1 : Nat) : Int)) rfl rfl (by decide)) ?_
    refine runl_ev (ev_convI (((1 : Nat) : Int)) Tryz.underlying3 Tryz.underlying198 rfl (by decide)) ?_
    refine runl_op (t_call call_207 rfl (len_any 1 1 (by decide) _)) ?_
    rintro _ w6 ⟨rfl, e6⟩
    have z6 := e6.size
    replace e := e.trans e6
    refine runl_ev (ev_subK (((0 : Nat) : Int)) rfl rfl (by decide)) ?_
    refine runl_ev (ev_shl (((1 : Nat) : Int)) rfl rfl (by omega) (by decide)) ?_
    refine runl_ev (ev_assign rfl) ?_
    refine runl_nil ?_
    refine run_ret_any Tryz.func171 (res1 Tryz.results171 rfl) ?_
    exact ⟨rfl, e⟩
  · refine run_region rfl ?_
    refine runl_ev (ev_move rfl) ?_
    refine runl_ev (ev_subK (((3 : Nat) : Int)) rfl rfl (by decide)) ?_
    refine runl_ev (ev_convI (((3 : Nat) : Int)) Tryz.underlying3 Tryz.underlying198 rfl (by decide)) ?_
    refine runl_op (t_call call_207 rfl (len_any 3 2 (by decide) _)) ?_
    rintro _ w6 ⟨rfl, e6⟩
    have z6 := e6.size
    replace e := e.trans e6
    refine runl_ev (ev_subK (((1 : Nat) : Int)) rfl rfl (by decide)) ?_
    refine runl_ev (ev_shl (((2 : Nat) : Int)) rfl rfl (by omega) (by decide)) ?_
    refine runl_ev (ev_assign rfl) ?_
    refine runl_nil ?_
    refine run_ret_any Tryz.func171 (res1 Tryz.results171 rfl) ?_
    exact ⟨rfl, e⟩
  · refine run_region rfl ?_
    refine runl_ev (ev_move rfl) ?_
    refine runl_ev (ev_subK (((7 : Nat) : Int)) rfl rfl (by decide)) ?_
    refine runl_ev (ev_convI (((7 : Nat) : Int)) Tryz.underlying3 Tryz.underlying198 rfl (by decide)) ?_
    refine runl_op (t_call call_207 rfl (len_any 7 3 (by decide) _)) ?_
    rintro _ w6 ⟨rfl, e6⟩
    have z6 := e6.size
    replace e := e.trans e6
    refine runl_ev (ev_subK (((2 : Nat) : Int)) rfl rfl (by decide)) ?_
    refine runl_ev (ev_shl (((4 : Nat) : Int)) rfl rfl (by omega) (by decide)) ?_
    refine runl_ev (ev_assign rfl) ?_
    refine runl_nil ?_
    refine run_ret_any Tryz.func171 (res1 Tryz.results171 rfl) ?_
    exact ⟨rfl, e⟩
  · refine run_region rfl ?_
    refine runl_ev (ev_move rfl) ?_
    refine runl_ev (ev_subK (((15 : Nat) : Int)) rfl rfl (by decide)) ?_
    refine runl_ev (ev_convI (((15 : Nat) : Int)) Tryz.underlying3 Tryz.underlying198 rfl (by decide)) ?_
    refine runl_op (t_call call_207 rfl (len_any 15 4 (by decide) _)) ?_
    rintro _ w6 ⟨rfl, e6⟩
    have z6 := e6.size
    replace e := e.trans e6
    refine runl_ev (ev_subK (((3 : Nat) : Int)) rfl rfl (by decide)) ?_
    refine runl_ev (ev_shl (((8 : Nat) : Int)) rfl rfl (by omega) (by decide)) ?_
    refine runl_ev (ev_assign rfl) ?_
    refine runl_nil ?_
    refine run_ret_any Tryz.func171 (res1 Tryz.results171 rfl) ?_
    exact ⟨rfl, e⟩
end Go.Proofs.YtlgkdnmklgbhbaaGreatDoor
/- The walks of merkle, by value: roots and paths of 1, 2, 4, 8, 16 leaves. -/
namespace Go.Proofs.YtlgkdnmklgbhbaaGreatDoor
open Go Go.Fw
set_option maxRecDepth 100000
def rootF : Nat → List (List UInt8) → List UInt8
  | 0, ls => ls.headD []
  | j + 1, ls => nodeF (rootF j (ls.take (2 ^ j))) (rootF j (ls.drop (2 ^ j)))
def pathF : Nat → List (List UInt8) → Nat → List (List UInt8)
  | 0, _, _ => []
  | j + 1, ls, i => if i < 2 ^ j then pathF j (ls.take (2 ^ j)) i ++ [rootF j (ls.drop (2 ^ j))] else pathF j (ls.drop (2 ^ j)) (i - 2 ^ j) ++ [rootF j (ls.take (2 ^ j))]
theorem rootF_len : ∀ (j : Nat) (ls : List (List UInt8)), ls.length = 2 ^ j → (∀ x ∈ ls, x.length = 32) → (rootF j ls).length = 32
  | 0, ls, h, hx => by
    match ls, h with
    | [x], _ => exact hx x (by simp)
  | _ + 1, _, _, _ => nodeF_len _ _
theorem pathF_len : ∀ (j : Nat) (ls : List (List UInt8)) (i : Nat), (pathF j ls i).length = j
  | 0, _, _ => rfl
  | j + 1, ls, i => by
    rw [pathF]
    split <;> rw [List.length_append, pathF_len j] <;> rfl
theorem sl_drop {α : Type} {sz : Nat} {R : World → α → List Value → Prop} {w : World} {a : Option Addr} {len cap k : Nat} {l : List α} (h : SlAt sz R w (.slice a len cap) l) (hk : k ≤ l.length) (hcap : l.length ≤ cap) :
    SlAt sz R w (.slice (if cap = k then a else a.map (·.add (k * sz))) (len - k) (cap - k)) (l.drop k) := by
  obtain ⟨rfl, -⟩ := h.at
  obtain ⟨a', cap', hv, h⟩ := h
  cases hv
  refine ⟨_, _, by rw [List.length_drop], fun i x hi => ?_⟩
  have hlt : k + i < l.length := by
    rw [List.getElem?_drop] at hi
    exact (List.getElem?_eq_some_iff.1 hi).1
  rw [List.getElem?_drop] at hi
  obtain ⟨b, o, cs, ha, hr, hc⟩ := h _ _ hi
  subst ha
  rw [if_neg (by omega)]
  refine ⟨b, o + k * sz, cs, by simp [Addr.add_mid], hr, ?_⟩
  rwa [show o + k * sz + i * sz = o + (k + i) * sz by rw [Nat.add_mul]; omega]

theorem root1_any (ls : List (List UInt8)) (hll : ls.length = 1) (a : Option Addr) (c : Nat) (w : World) (hl : SlAt 32 RHash w (.slice a 1 c) ls) : Ret Tryz.prog 107 [.slice a 1 c] w fun r w' => r = .agg ⟨hcells (ls.headD [])⟩ ∧ Ext w w' := by
  have e := ExtB.refl (fun _ => False) w
  obtain ⟨x, rfl⟩ : ∃ x, ls = [x] := by
    match ls, hll with
    | [x], _ => exact ⟨x, rfl⟩
  obtain ⟨bA, oA, cA, rfl, ⟨hxl, rfl⟩, hcA⟩ := hl.at.2 0 (by simp)
  have hxl2 : x.length = 32 := hxl
  refine ret_of_run Tryz.func107 rfl Tryz.ntmps107 rfl ?_
  refine run_seq ?_
  refine run_region rfl ?_
  refine runl_op (t_alloc zero_25 rfl) ?_
  rintro _ w2 ⟨b2, rfl, hb2, e2, n2, l2⟩
  have z2 := e2.size
  replace e := e.trans e2
  refine runl_nil ?_
  refine run_seq ?_
  refine run_seq ?_
  refine run_region rfl ?_
  refine runl_ev (ev_move rfl) ?_
  refine runl_ev (ev_lenL sl_60 rfl) ?_
  refine runl_nil ?_
  refine run_block ?_
  refine run_seq ?_
  refine run_region rfl ?_
  refine runl_ev (ev_eqlI rfl rfl) ?_
  refine runl_ev (ev_assign rfl) ?_
  refine runl_nil ?_
  refine run_cond_false rfl (by decide) ?_
  refine run_seq ?_
  refine run_region rfl ?_
  refine runl_ev (ev_eqlI rfl rfl) ?_
  refine runl_ev (ev_assign rfl) ?_
  refine runl_nil ?_
  refine run_cond_true rfl (by decide) ?_
  refine run_seq ?_
  refine run_region rfl ?_
  refine runl_ev (ev_move rfl) ?_
  refine runl_ev (ev_indexAddr (k := 0) el_60 rfl rfl (by omega)) ?_
  refine runl_ev (ev_loadA agg_25 (by rw [hcells_length]; exact hxl) rfl (eqw (hcA.ext e))) ?_
  refine runl_do (t_storeW sz_25 rfl rfl (by rw [hcells_length]; exact hxl) rfl hb2 (hcells_one _)) ?_
  rintro _ v5_3 ⟨hq5_3, e5_3, z5_3⟩
  replace e := e.new1 e5_3 (by omega)
  replace hb2 := hq5_3
  clear hq5_3
  refine runl_nil ?_
  refine run_ret_any Tryz.func107 (resC Tryz.results107 rfl (loadVar_agg agg_25 (by rw [hcells_length]; exact hxl) (cells_all hb2))) ?_
  exact ⟨rfl, e⟩
theorem root2_any (m : Nat) (hm : m = 1 ∨ m = 2 ∨ m = 4 ∨ m = 8) (F : List (List UInt8) → List UInt8) (hF : ∀ ls : List (List UInt8), ls.length = m → (∀ x ∈ ls, x.length = 32) → (F ls).length = 32) (IH : ∀ (ls : List (List UInt8)) (a : Option Addr) (c : Nat) (w : World), ls.length = m → SlAt 32 RHash w (.slice a m c) ls → m ≤ c → Ret Tryz.prog 107 [.slice a m c] w fun r w' => r = .agg ⟨hcells (F ls)⟩ ∧ Ext w w') (ls : List (List UInt8)) (hll : ls.length = 2 * m) (a : Option Addr) (c : Nat) (w : World) (hl : SlAt 32 RHash w (.slice a (2 * m) c) ls) (hc : 2 * m ≤ c) : Ret Tryz.prog 107 [.slice a (2 * m) c] w fun r w' => r = .agg ⟨hcells (nodeF (F (ls.take m)) (F (ls.drop m)))⟩ ∧ Ext w w' := by
  have e := ExtB.refl (fun _ => False) w
  have hls := sl_hashes hl
  have hT : (ls.take m).length = m := by rw [List.length_take]; omega
  have hD : (ls.drop m).length = m := by rw [List.length_drop]; omega
  have hTx : ∀ x ∈ ls.take m, x.length = 32 := fun x hx => hls x (List.mem_of_mem_take hx)
  have hDx : ∀ x ∈ ls.drop m, x.length = 32 := fun x hx => hls x (List.mem_of_mem_drop hx)
  have h2 : ((2 * m : Nat) : Int) ≠ 0 := by omega
  have h3 : ((2 * m : Nat) : Int) ≠ 1 := by omega
  have hl25 := nodeF_len (F (ls.take m)) (F (ls.drop m))
  refine ret_of_run Tryz.func107 rfl Tryz.ntmps107 rfl ?_
  refine run_seq ?_
  refine run_region rfl ?_
  refine runl_op (t_alloc zero_25 rfl) ?_
  rintro _ w2 ⟨b2, rfl, hb2, e2, n2, l2⟩
  have z2 := e2.size
  replace e := e.trans e2
  refine runl_nil ?_
  refine run_seq ?_
  refine run_seq ?_
  refine run_region rfl ?_
  refine runl_ev (ev_move rfl) ?_
  refine runl_ev (ev_lenL sl_60 rfl) ?_
  refine runl_nil ?_
  refine run_block ?_
  refine run_seq ?_
  refine run_region rfl ?_
  refine runl_ev (ev_eqlI rfl rfl) ?_
  refine runl_ev (ev_assign rfl) ?_
  refine runl_nil ?_
  refine run_cond_false rfl (decide_eq_false h2) ?_
  refine run_seq ?_
  refine run_region rfl ?_
  refine runl_ev (ev_eqlI rfl rfl) ?_
  refine runl_ev (ev_assign rfl) ?_
  refine runl_nil ?_
  refine run_cond_false rfl (decide_eq_false h3) ?_
  refine run_skip ?_
  refine run_inBlock ?_
  refine run_seq ?_
  refine run_region rfl ?_
  refine runl_ev (ev_move rfl) ?_
  refine runl_ev (ev_lenL sl_60 rfl) ?_
  refine runl_op (t_call call_171 rfl (half_any (2 * m) m (by omega) _)) ?_
  rintro _ w16 ⟨rfl, e16⟩
  have z16 := e16.size
  replace e := e.trans e16
  replace hb2 := e16.at hb2
  refine runl_ev (ev_assign rfl) ?_
  refine runl_nil ?_
  refine run_seq ?_
  refine run_draw mo (fun w' => Ext w16 w') [9] [(true, 0), (true, 1), (true, 2), (true, 4), (true, 5), (true, 6), (false, 3), (false, 7), (false, 8), (false, 9)] (by kernel_rfl) ?_
  intro wr7 er7
  have zr7 := er7.size
  have hsr7 := er7
  have ep := e.trans er7
  have hb2p := er7.at hb2
  refine rund_ev hsr7 rfl (ev_move rfl) ?_
  refine rund_ev hsr7 rfl (ev_move rfl) ?_
  refine rund_ev hsr7 rfl (ev_sliceL_hi (n := m) el_60 rfl rfl (by omega)) ?_
  refine rund_ev hsr7 rfl (ev_move rfl) ?_
  refine rund_ev hsr7 rfl (ev_move rfl) ?_
  refine rund_ev hsr7 rfl (ev_sliceL_lo (n := m) el_60 rfl rfl (by omega)) ?_
  rw [show 2 * m - m = m by omega]
  refine rund_op rfl (t_call call_107 rfl (IH (ls.take m) _ _ _ hT (by have := sl_take (hl.ext RHash.stable ep) (by omega : m ≤ ls.length) c; exact this) (by omega))) ?_
  rintro _ w20 ⟨rfl, e20⟩
  have z20 := e20.size
  replace ep := ep.trans e20
  replace hb2p := e20.at hb2p
  have hs20 := hsr7.trans e20
  refine ⟨hs20, ?_⟩
  refine rund_op rfl (t_call call_107 rfl (IH (ls.drop m) _ _ _ hD (by have := sl_drop (hl.ext RHash.stable ep) (by omega : m ≤ ls.length) (by omega); rw [show 2 * m - m = m by omega] at this; exact this) (by omega))) ?_
  rintro _ w24 ⟨rfl, e24⟩
  have z24 := e24.size
  replace ep := ep.trans e24
  replace hb2p := e24.at hb2p
  have hs24 := hs20.trans e24
  refine ⟨hs24, ?_⟩
  refine rund_op rfl (t_call call_172 rfl (node_any _ _ (hF _ hT hTx) (hF _ hD hDx) _)) ?_
  rintro _ w25 ⟨rfl, e25⟩
  have z25 := e25.size
  replace ep := ep.trans e25
  replace hb2p := e25.at hb2p
  have hs25 := hs24.trans e25
  refine ⟨hs25, ?_⟩
  refine rund_doT rfl rfl (t_storeW sz_25 rfl rfl (by rw [hcells_length]; exact hl25) rfl hb2p (hcells_one _)) ?_
  rintro _ v7_9 ⟨hq7_9, e7_9, z7_9⟩
  replace ep := ep.new1 e7_9 (by omega)
  replace hb2p := hq7_9
  clear hq7_9
  refine rund_nil ?_
  replace e := ep
  clear ep
  replace hb2 := hb2p
  clear hb2p
  refine run_ret_any Tryz.func107 (resC Tryz.results107 rfl (loadVar_agg agg_25 (by rw [hcells_length]; exact hl25) (cells_all hb2))) ?_
  exact ⟨rfl, e⟩
theorem root_any : ∀ (j : Nat), j ≤ 4 → ∀ (ls : List (List UInt8)) (a : Option Addr) (c : Nat) (w : World), ls.length = 2 ^ j → SlAt 32 RHash w (.slice a (2 ^ j) c) ls → 2 ^ j ≤ c → Ret Tryz.prog 107 [.slice a (2 ^ j) c] w fun r w' => r = .agg ⟨hcells (rootF j ls)⟩ ∧ Ext w w'
  | 0, _, ls, a, c, w, hll, hl, _ => root1_any ls hll a c w hl
  | j + 1, hj, ls, a, c, w, hll, hl, hc => by
    have hp : 2 ^ (j + 1) = 2 * 2 ^ j := by rw [Nat.pow_succ, Nat.mul_comm]
    rw [hp] at hll hl hc ⊢
    exact root2_any (2 ^ j) (by match j, hj with | 0, _ => simp | 1, _ => simp | 2, _ => simp | 3, _ => simp) (rootF j) (fun ls h hx => rootF_len j ls h hx) (fun ls a c w h1 h2 h3 => root_any j (by omega) ls a c w h1 h2 h3) ls hll a c w hl hc

theorem path1_any (ls : List (List UInt8)) (hll : ls.length = 1) (a : Option Addr) (c : Nat) (w : World) : Ret Tryz.prog 109 [.slice a 1 c, .int .i64 ((0 : Nat) : Int)] w fun r w' => OwnG 25 32 RHash w [] r w' ∧ Ext w w' := by
  have e := ExtB.refl (fun _ => False) w
  refine ret_of_run Tryz.func109 rfl Tryz.ntmps109 rfl ?_
  refine run_seq ?_
  refine run_region rfl ?_
  refine runl_ev (ev_assign rfl) ?_
  refine runl_nil ?_
  refine run_seq ?_
  refine run_seq ?_
  refine run_region rfl ?_
  refine runl_ev (ev_move rfl) ?_
  refine runl_ev (ev_lss rfl rfl) ?_
  refine runl_ev (ev_move rfl) ?_
  refine runl_ev_g rfl rfl (by decide) (ev_move rfl) ?_
  refine runl_ev_g rfl rfl (by decide) (ev_move rfl) ?_
  refine runl_ev_g rfl rfl (by decide) (ev_lenL sl_60 rfl) ?_
  refine runl_ev_g rfl rfl (by decide) (ev_geq rfl rfl) ?_
  refine runl_ev (ev_pick rfl rfl rfl (if_neg (by decide))) ?_
  refine runl_ev (ev_move rfl) ?_
  refine runl_ev_g rfl rfl (by decide) (ev_move rfl) ?_
  refine runl_ev_g rfl rfl (by decide) (ev_lenL sl_60 rfl) ?_
  refine runl_ev_g rfl rfl (by decide) (ev_eqlI rfl rfl) ?_
  refine runl_ev (ev_pick rfl rfl rfl (if_neg (by decide))) ?_
  refine runl_nil ?_
  refine run_cond_true rfl (by decide) ?_
  refine run_seq ?_
  refine run_region rfl ?_
  refine runl_ev (ev_assign rfl) ?_
  refine runl_nil ?_
  refine run_ret_any Tryz.func109 (res1 Tryz.results109 rfl) ?_
  exact ⟨OwnG.nil _ _, e⟩
theorem path2_any (m : Nat) (hm : m = 1 ∨ m = 2 ∨ m = 4 ∨ m = 8) (F : List (List UInt8) → List UInt8) (hF : ∀ ls : List (List UInt8), ls.length = m → (∀ x ∈ ls, x.length = 32) → (F ls).length = 32) (IH : ∀ (ls : List (List UInt8)) (a : Option Addr) (c : Nat) (w : World), ls.length = m → SlAt 32 RHash w (.slice a m c) ls → m ≤ c → Ret Tryz.prog 107 [.slice a m c] w fun r w' => r = .agg ⟨hcells (F ls)⟩ ∧ Ext w w') (G : List (List UInt8) → Nat → List (List UInt8)) (PH : ∀ (ls : List (List UInt8)) (i : Nat) (a : Option Addr) (c : Nat) (w : World), i < m → ls.length = m → SlAt 32 RHash w (.slice a m c) ls → m ≤ c → Ret Tryz.prog 109 [.slice a m c, .int .i64 (i : Int)] w fun r w' => OwnG 25 32 RHash w (G ls i) r w' ∧ Ext w w') (hG : ∀ ls i, (G ls i).length ≤ 4) (ls : List (List UInt8)) (i : Nat) (hi : i < 2 * m) (hll : ls.length = 2 * m) (a : Option Addr) (c : Nat) (w : World) (hl : SlAt 32 RHash w (.slice a (2 * m) c) ls) (hc : 2 * m ≤ c) : Ret Tryz.prog 109 [.slice a (2 * m) c, .int .i64 (i : Int)] w fun r w' => OwnG 25 32 RHash w (if i < m then G (ls.take m) i ++ [F (ls.drop m)] else G (ls.drop m) (i - m) ++ [F (ls.take m)]) r w' ∧ Ext w w' := by
  have e := ExtB.refl (fun _ => False) w
  have hls := sl_hashes hl
  have hT : (ls.take m).length = m := by rw [List.length_take]; omega
  have hD : (ls.drop m).length = m := by rw [List.length_drop]; omega
  have hTx : ∀ x ∈ ls.take m, x.length = 32 := fun x hx => hls x (List.mem_of_mem_take hx)
  have hDx : ∀ x ∈ ls.drop m, x.length = 32 := fun x hx => hls x (List.mem_of_mem_drop hx)
  have h2 : ((2 * m : Nat) : Int) ≠ 0 := by omega
  have h3 : ((2 * m : Nat) : Int) ≠ 1 := by omega
  refine ret_of_run Tryz.func109 rfl Tryz.ntmps109 rfl ?_
  refine run_seq ?_
  refine run_region rfl ?_
  refine runl_ev (ev_assign rfl) ?_
  refine runl_nil ?_
  refine run_seq ?_
  refine run_seq ?_
  refine run_region rfl ?_
  refine runl_ev (ev_move rfl) ?_
  refine runl_ev (ev_lss rfl rfl) ?_
  refine runl_ev (ev_move rfl) ?_
  refine runl_ev_g rfl rfl (decide_eq_false (by omega)) (ev_move rfl) ?_
  refine runl_ev_g rfl rfl (decide_eq_false (by omega)) (ev_move rfl) ?_
  refine runl_ev_g rfl rfl (decide_eq_false (by omega)) (ev_lenL sl_60 rfl) ?_
  refine runl_ev_g rfl rfl (decide_eq_false (by omega)) (ev_geq rfl rfl) ?_
  refine runl_ev (ev_pick rfl rfl rfl (if_neg (by simp <;> omega))) ?_
  refine runl_ev (ev_move rfl) ?_
  refine runl_ev_g rfl rfl (decide_eq_false (by omega)) (ev_move rfl) ?_
  refine runl_ev_g rfl rfl (decide_eq_false (by omega)) (ev_lenL sl_60 rfl) ?_
  refine runl_ev_g rfl rfl (decide_eq_false (by omega)) (ev_eqlI rfl rfl) ?_
  refine runl_ev (ev_pick rfl rfl rfl (if_neg (by simp <;> omega))) ?_
  refine runl_nil ?_
  refine run_cond_false rfl (decide_eq_false h3) ?_
  refine run_skip ?_
  refine run_seq ?_
  refine run_region rfl ?_
  refine runl_ev (ev_move rfl) ?_
  refine runl_ev (ev_lenL sl_60 rfl) ?_
  refine runl_op (t_call call_171 rfl (half_any (2 * m) m (by omega) _)) ?_
  rintro _ w21 ⟨rfl, e21⟩
  have z21 := e21.size
  replace e := e.trans e21
  refine runl_ev (ev_assign rfl) ?_
  refine runl_nil ?_
  refine run_seq ?_
  refine run_seq ?_
  refine run_region rfl ?_
  refine runl_ev (ev_move rfl) ?_
  refine runl_ev (ev_move rfl) ?_
  refine runl_ev (ev_lss rfl rfl) ?_
  refine runl_nil ?_
  refine run_dcond rfl (fun h1 => ?_) (fun h1 => ?_)
  · have him : i < m := by omega
    rw [if_pos him]
    have hl35 := hF _ hD hDx
    have hG4 := hG (ls.take m) i
    refine run_seq ?_
    refine run_draw mo (fun w' => Ext w21 w') [10, 11] [(true, 0), (true, 1), (true, 2), (true, 3), (true, 5), (true, 6), (true, 7), (false, 4), (false, 8), (false, 9), (false, 10), (false, 11)] (by kernel_rfl) ?_
    intro wr5 er5
    have zr5 := er5.size
    have hsr5 := er5
    have ep := e.trans er5
    refine rund_ev hsr5 rfl (ev_move rfl) ?_
    refine rund_ev hsr5 rfl (ev_move rfl) ?_
    refine rund_ev hsr5 rfl (ev_sliceL_hi (n := m) el_60 rfl rfl (by omega)) ?_
    refine rund_ev hsr5 rfl (ev_move rfl) ?_
    refine rund_ev hsr5 rfl (ev_move rfl) ?_
    refine rund_ev hsr5 rfl (ev_move rfl) ?_
    refine rund_ev hsr5 rfl (ev_sliceL_lo (n := m) el_60 rfl rfl (by omega)) ?_
    rw [show 2 * m - m = m by omega]
    refine rund_op rfl (t_call call_109 rfl (PH (ls.take m) i _ _ _ him hT (by have := sl_take (hl.ext RHash.stable ep) (by omega : m ≤ ls.length) c; exact this) (by omega))) ?_
    rintro v29 w29 ⟨ow29, e29⟩
    replace ow29 := ow29.from (show w.heap.size ≤ _ by omega)
    obtain ⟨xs29, g29, own29, hpp29, hxl29, hg29, hgl29⟩ := ow29.open
    have z29 := e29.size
    replace ep := ep.trans e29
    have hs29 := hsr5.trans e29
    refine ⟨hs29, ?_⟩
    have own29p := own29
    refine rund_op rfl (t_call call_107 rfl (IH (ls.drop m) _ _ _ hD (by have := sl_drop (hl.ext RHash.stable ep) (by omega : m ≤ ls.length) (by omega); rw [show 2 * m - m = m by omega] at this; exact this) (by omega))) ?_
    rintro _ w33 ⟨rfl, e33⟩
    have z33 := e33.size
    replace ep := ep.trans e33
    replace own29p := own29p.ext e33
    have hs33 := hs29.trans e33
    refine ⟨hs33, ?_⟩
    refine rund_op rfl (t_buildSlice (out := hcells (F (ls.drop m))) Tryz.underlying60 sz_25 zero_25 rfl rfl (by decide) (by decide) rfl (fill_one rfl (by rw [hcells_length]; exact hl35) rfl)) ?_
    rintro _ w34 ⟨b34, rfl, hb34, e34, n34, l34⟩
    have z34 := e34.size
    replace ep := ep.trans e34
    replace own29p := own29p.ext e34
    have hs34 := hs33.trans e34
    refine ⟨hs34, ?_⟩
    have hb34p := hb34
    refine rund_opT rfl rfl (t_append (news := hcells (F (ls.drop m))) ef_60 rfl rfl own29p (by rw [hcells_length]; exact hl35) (cells_all hb34p) (hcells_one _) (by unfold maxLen; omega) (by omega)) ?_
    rintro v35 w35 ⟨g35, ap35⟩
    have z35 := ap35.ext.size
    replace ep := ep.newG ap35.ext (by omega)
    have ow35 := OwnG.app flat_hash (l' := [F (ls.drop m)]) (w := w) (by omega) hg29 (by omega) (hpp29.mono fun _ _ _ hr => flat_hash _ _ _ _ hr) hxl29 (pc (w := w34) ⟨hl35, by rw [List.take_of_length_le (Nat.le_of_eq (by rw [hcells_length]; exact hl35))]⟩ pn) ap35 rfl rfl
    refine rund_opT rfl rfl (opT_ev (ev_assign rfl)) ?_
    rintro _ _ ⟨rfl, rfl⟩
    refine rund_nil ?_
    replace e := ep
    clear ep
    refine run_ret_any Tryz.func109 (res1 Tryz.results109 rfl) ?_
    exact ⟨ow35, e⟩
  · have him : ¬ i < m := by omega
    rw [if_neg him]
    have hl48 := hF _ hT hTx
    have hG4 := hG (ls.drop m) (i - m)
    refine run_skip ?_
    refine run_seq ?_
    refine run_draw mo (fun w' => Ext w21 w') [12, 13] [(true, 0), (true, 1), (true, 2), (true, 3), (true, 4), (true, 5), (true, 7), (true, 8), (true, 9), (false, 6), (false, 10), (false, 11), (false, 12), (false, 13)] (by kernel_rfl) ?_
    intro wr6 er6
    have zr6 := er6.size
    have hsr6 := er6
    have ep := e.trans er6
    refine rund_ev hsr6 rfl (ev_move rfl) ?_
    refine rund_ev hsr6 rfl (ev_move rfl) ?_
    refine rund_ev hsr6 rfl (ev_sliceL_lo (n := m) el_60 rfl rfl (by omega)) ?_
    rw [show 2 * m - m = m by omega]
    refine rund_ev hsr6 rfl (ev_move rfl) ?_
    refine rund_ev hsr6 rfl (ev_move rfl) ?_
    refine rund_ev hsr6 rfl (ev_subK (((i - m : Nat) : Int)) rfl rfl (by rw [show (i : Int) - (m : Int) = ((i - m : Nat) : Int) by omega]; exact wrap_i64 (by omega) (by omega))) ?_
    refine rund_ev hsr6 rfl (ev_move rfl) ?_
    refine rund_ev hsr6 rfl (ev_move rfl) ?_
    refine rund_ev hsr6 rfl (ev_sliceL_hi (n := m) el_60 rfl rfl (by omega)) ?_
    refine rund_op rfl (t_call call_109 rfl (PH (ls.drop m) (i - m) _ _ _ (by omega) hD (by have := sl_drop (hl.ext RHash.stable ep) (by omega : m ≤ ls.length) (by omega); rw [show 2 * m - m = m by omega] at this; exact this) (by omega))) ?_
    rintro v42 w42 ⟨ow42, e42⟩
    replace ow42 := ow42.from (show w.heap.size ≤ _ by omega)
    obtain ⟨xs42, g42, own42, hpp42, hxl42, hg42, hgl42⟩ := ow42.open
    have z42 := e42.size
    replace ep := ep.trans e42
    have hs42 := hsr6.trans e42
    refine ⟨hs42, ?_⟩
    have own42p := own42
    refine rund_op rfl (t_call call_107 rfl (IH (ls.take m) _ _ _ hT (by have := sl_take (hl.ext RHash.stable ep) (by omega : m ≤ ls.length) c; exact this) (by omega))) ?_
    rintro _ w46 ⟨rfl, e46⟩
    have z46 := e46.size
    replace ep := ep.trans e46
    replace own42p := own42p.ext e46
    have hs46 := hs42.trans e46
    refine ⟨hs46, ?_⟩
    refine rund_op rfl (t_buildSlice (out := hcells (F (ls.take m))) Tryz.underlying60 sz_25 zero_25 rfl rfl (by decide) (by decide) rfl (fill_one rfl (by rw [hcells_length]; exact hl48) rfl)) ?_
    rintro _ w47 ⟨b47, rfl, hb47, e47, n47, l47⟩
    have z47 := e47.size
    replace ep := ep.trans e47
    replace own42p := own42p.ext e47
    have hs47 := hs46.trans e47
    refine ⟨hs47, ?_⟩
    have hb47p := hb47
    refine rund_opT rfl rfl (t_append (news := hcells (F (ls.take m))) ef_60 rfl rfl own42p (by rw [hcells_length]; exact hl48) (cells_all hb47p) (hcells_one _) (by unfold maxLen; omega) (by omega)) ?_
    rintro v48 w48 ⟨g48, ap48⟩
    have z48 := ap48.ext.size
    replace ep := ep.newG ap48.ext (by omega)
    have ow48 := OwnG.app flat_hash (l' := [F (ls.take m)]) (w := w) (by omega) hg42 (by omega) (hpp42.mono fun _ _ _ hr => flat_hash _ _ _ _ hr) hxl42 (pc (w := w47) ⟨hl48, by rw [List.take_of_length_le (Nat.le_of_eq (by rw [hcells_length]; exact hl48))]⟩ pn) ap48 rfl rfl
    refine rund_opT rfl rfl (opT_ev (ev_assign rfl)) ?_
    rintro _ _ ⟨rfl, rfl⟩
    refine rund_nil ?_
    replace e := ep
    clear ep
    refine run_ret_any Tryz.func109 (res1 Tryz.results109 rfl) ?_
    exact ⟨ow48, e⟩
theorem path_any : ∀ (j : Nat), j ≤ 4 → ∀ (ls : List (List UInt8)) (i : Nat) (a : Option Addr) (c : Nat) (w : World), i < 2 ^ j → ls.length = 2 ^ j → SlAt 32 RHash w (.slice a (2 ^ j) c) ls → 2 ^ j ≤ c → Ret Tryz.prog 109 [.slice a (2 ^ j) c, .int .i64 (i : Int)] w fun r w' => OwnG 25 32 RHash w (pathF j ls i) r w' ∧ Ext w w'
  | 0, _, ls, i, a, c, w, hi, hll, _, _ => by
    obtain rfl : i = 0 := by simpa using hi
    exact path1_any ls hll a c w
  | j + 1, hj, ls, i, a, c, w, hi, hll, hl, hc => by
    have hp : 2 ^ (j + 1) = 2 * 2 ^ j := by rw [Nat.pow_succ, Nat.mul_comm]
    rw [hp] at hi hll hl hc ⊢
    have := path2_any (2 ^ j) (by match j, hj with | 0, _ => simp | 1, _ => simp | 2, _ => simp | 3, _ => simp) (rootF j) (fun ls h hx => rootF_len j ls h hx) (fun ls a c w h1 h2 h3 => root_any j (by omega) ls a c w h1 h2 h3) (pathF j) (fun ls i a c w h0 h1 h2 h3 => path_any j (by omega) ls i a c w h0 h1 h2 h3) (fun ls i => by rw [pathF_len]; omega) ls i hi hll a c w hl hc
    exact this

attribute [irreducible] rootF pathF
end Go.Proofs.YtlgkdnmklgbhbaaGreatDoor
/- The walks of key, by value. -/
namespace Go.Proofs.YtlgkdnmklgbhbaaGreatDoor
open Go Go.Fw
set_option maxRecDepth 100000
def leavesP (sd : List UInt8) (k : Nat) : List (List UInt8) := (List.range k).map fun i : Nat => leafF sd (i : Int)
theorem leavesP_succ (sd : List UInt8) (k : Nat) : leavesP sd (k + 1) = leavesP sd k ++ [leafF sd (k : Int)] := by simp [leavesP, List.range_succ]
theorem leavesP_len (sd : List UInt8) (k : Nat) : (leavesP sd k).length = k := by simp [leavesP]
def leavesF (sd : List UInt8) : List (List UInt8) := leavesP sd 16
def namedF (h : List UInt8) : List UInt8 := shaF ([4] ++ h)
def pubF (sd : List UInt8) : List UInt8 := namedF (rootF 4 (leavesF sd))
theorem pubF_len (sd : List UInt8) : (pubF sd).length = 32 := shaF_len _
theorem leavesF_32 (sd : List UInt8) : ∀ x ∈ leavesF sd, x.length = 32 := by
  intro x hx
  simp only [leavesF, leavesP, List.mem_map] at hx
  obtain ⟨i, _, rfl⟩ := hx
  exact leafF_len _ _
theorem rootF4_len (sd : List UInt8) : (rootF 4 (leavesF sd)).length = 32 := rootF_len 4 _ (leavesP_len sd 16) (leavesF_32 sd)
def keyC (sd : List UInt8) (row : Value) (used : Int) : List Value := hcells sd ++ [row, .int .i64 used]
theorem keyC_len {sd : List UInt8} (h : sd.length = 32) (row : Value) (u : Int) : (keyC sd row u).length = 34 := by unfold keyC; rw [List.length_append, hcells_length, h]; rfl
theorem keyC_seed (sd : List UInt8) (row : Value) (u : Int) : hcells sd = ((keyC sd row u).drop 0).take (hcells sd).length := by unfold keyC; rw [List.drop_zero]; exact List.take_left.symm
theorem keyC_row {sd : List UInt8} (h : sd.length = 32) (row : Value) (u : Int) : (keyC sd row u)[32]? = some row := by
  unfold keyC
  rw [List.getElem?_append_right (by rw [hcells_length]; omega), hcells_length, h]
  rfl
theorem keyC_used {sd : List UInt8} (h : sd.length = 32) (row : Value) (u : Int) : (keyC sd row u)[33]? = some (.int .i64 u) := by
  unfold keyC
  rw [List.getElem?_append_right (by rw [hcells_length]; omega), hcells_length, h]
  rfl
theorem keyC_setRow {sd : List UInt8} (h : sd.length = 32) (row row' : Value) (u : Int) : (keyC sd row u).set 32 row' = keyC sd row' u := by
  unfold keyC
  rw [List.set_append_right _ _ (by rw [hcells_length]; omega), hcells_length, h]
  rfl
theorem keyC_setUsed {sd : List UInt8} (h : sd.length = 32) (row : Value) (u u' : Int) : (keyC sd row u).set 33 (.int .i64 u') = keyC sd row u' := by
  unfold keyC
  rw [List.set_append_right _ _ (by rw [hcells_length]; omega), hcells_length, h]
  rfl
theorem keyC_one {sd : List UInt8} {a : Option Addr} {n c : Nat} (u : Int) : ∀ v ∈ keyC sd (.slice a n c) u, v.oneCell' = true := by
  intro v hv
  rcases List.mem_append.1 hv with h | h
  · exact hcells_one _ v h
  · simp only [List.mem_cons, List.not_mem_nil, or_false] at h
    rcases h with rfl | rfl <;> rfl
theorem fill_key {ps : List (Nat × Nat)} {cs z : List Value} {a b v : Value} (hp : ps[0]? = some (0, 32)) (hq : ps[2]? = some (33, 1)) (hc : cs.length = 32) (hz : z.length = 34) (hd : z.drop 32 = [a, b]) (hv : v.cells = #[v]) : fillL ps [(0, .agg ⟨cs⟩), (2, v)] z = some (cs ++ [a, v]) := by
  unfold fillL
  rw [hp]
  have h1 : (Value.agg ⟨cs⟩).cells.size = 32 ∧ 0 + 32 ≤ z.length := ⟨hc, by omega⟩
  simp only [h1, and_self, if_true]
  have h3 : List.take 0 z ++ cs ++ z.drop (0 + 32) = cs ++ [a, b] := by simp [hd]
  show fillL ps [(2, v)] (List.take 0 z ++ cs ++ z.drop (0 + 32)) = _
  rw [h3]
  unfold fillL
  rw [hq]
  have h2 : v.cells.size = 1 ∧ 33 + 1 ≤ (cs ++ [a, b]).length := ⟨by rw [hv]; rfl, by simp [hc]⟩
  simp only [h2, and_self, if_true]
  unfold fillL
  rw [hv]
  have h5 : (cs ++ [a, b]).drop (33 + 1) = [] := List.drop_eq_nil_of_le (by simp [hc])
  have h6 : (cs ++ [a, b]).take 33 = cs ++ [a] := by rw [List.take_append, hc, List.take_of_length_le (by omega)]; rfl
  rw [h5, h6]
  simp
/-- A key in memory: its leaves lie in what is not turned any more. -/
def KeyAt (Mut : Nat → Prop) (kb : Nat) (sd : List UInt8) (used : Nat) (w : World) : Prop :=
  sd.length = 32 ∧ ∃ a c, w.heap[kb]? = some (.cells ⟨keyC sd (.slice a 16 c) (used : Int)⟩ 166 (0, 0)) ∧ 16 ≤ c ∧ Fz Mut (fun w => SlAt 32 RHash w (.slice a 16 c) (leavesF sd)) w
theorem KeyAt.lt {Mut : Nat → Prop} {kb used : Nat} {sd : List UInt8} {w : World} (h : KeyAt Mut kb sd used w) : kb < w.heap.size := by
  obtain ⟨_, _, _, h, _⟩ := h
  exact lt_of_at h
theorem KeyAt.step {Mut M : Nat → Prop} {kb used : Nat} {sd : List UInt8} {w w' : World} (h : KeyAt Mut kb sd used w) (e : ExtB M w w') (hk : ¬ M kb) (hm : ∀ k, k < w.heap.size → M k → Mut k) : KeyAt Mut kb sd used w' := by
  obtain ⟨h0, a, c, h1, h2, h3⟩ := h
  exact ⟨h0, a, c, e.at h1 hk, h2, h3.step e hm⟩
theorem KeyAt.ext {Mut : Nat → Prop} {kb used : Nat} {sd : List UInt8} {w w' : World} (h : KeyAt Mut kb sd used w) (e : Ext w w') : KeyAt Mut kb sd used w' := h.step e (fun x => x) (fun _ _ x => x.elim)
theorem KeyAt.turn {Mut Mut' : Nat → Prop} {kb used : Nat} {sd : List UInt8} {w : World} (h : KeyAt Mut kb sd used w) (hm : ∀ k, Mut' k → Mut k ∨ w.heap.size ≤ k) : KeyAt Mut' kb sd used w := by
  obtain ⟨h0, a, c, h1, h2, h3⟩ := h
  exact ⟨h0, a, c, h1, h2, h3.turn (ExtB.refl _ _) hm⟩
theorem root16_any (ls : List (List UInt8)) (a : Option Addr) (c : Nat) (w : World) (hll : ls.length = 16) (hl : SlAt 32 RHash w (.slice a 16 c) ls) (hc : 16 ≤ c) : Ret Tryz.prog 107 [.slice a 16 c] w fun r w' => r = .agg ⟨hcells (rootF 4 ls)⟩ ∧ Ext w w' := root_any 4 (by decide) ls a c w hll hl hc
theorem path16_any (ls : List (List UInt8)) (i : Nat) (hi : i < 16) (a : Option Addr) (c : Nat) (w : World) (hll : ls.length = 16) (hl : SlAt 32 RHash w (.slice a 16 c) ls) (hc : 16 ≤ c) : Ret Tryz.prog 109 [.slice a 16 c, .int .i64 (i : Int)] w fun r w' => OwnG 25 32 RHash w (pathF 4 ls i) r w' ∧ Ext w w' := path_any 4 (by decide) ls i a c w hi hll hl hc

theorem keynew_any (sd : List UInt8) (hsd : sd.length = 32) (w : World) : Ret Tryz.prog 40 [.agg ⟨hcells sd⟩, .int .i64 0] w fun r w' => ∃ kb, r = .pointer (some ⟨kb, 0, none⟩) ∧ w.heap.size ≤ kb ∧ kb < w'.heap.size ∧ KeyAt (fun k => k < w.heap.size ∨ k = kb ∨ w'.heap.size ≤ k) kb sd 0 w' ∧ Ext w w' := by
  have e := ExtB.refl (fun _ => False) w
  refine ret_of_run Tryz.func40 rfl Tryz.ntmps40 rfl ?_
  refine run_seq ?_
  refine run_region rfl ?_
  refine runl_op (t_boxA rfl) ?_
  rintro _ w2 ⟨b2, rfl, hb2, e2, n2, l2⟩
  have z2 := e2.size
  replace e := e.trans e2
  refine runl_ev (ev_assign rfl) ?_
  refine runl_nil ?_
  refine run_seq ?_
  refine run_region rfl ?_
  refine runl_ev (ev_loadA agg_25 (by rw [hcells_length]; exact hsd) rfl (eqw (cells_all hb2))) ?_
  refine runl_ev (ev_move rfl) ?_
  refine runl_ev (ev_max rfl rfl) ?_
  refine runl_ev (ev_min rfl rfl) ?_
  refine runl_ev (ev_build (out := keyC sd (.slice none 0 0) 0) ps_166 zero_166 rfl rfl (fill_key rfl rfl (by rw [hcells_length]; exact hsd) rfl rfl rfl)) ?_
  refine runl_op (t_boxA rfl) ?_
  rintro _ w12 ⟨b12, rfl, hb12, e12, n12, l12⟩
  have z12 := e12.size
  replace e := e.trans e12
  replace hb2 := e12.at hb2
  refine runl_ev (ev_assign rfl) ?_
  refine runl_nil ?_
  refine run_seq ?_
  refine run_seq ?_
  refine run_region rfl ?_
  refine runl_ev (ev_move rfl) ?_
  refine runl_nil ?_
  refine run_block ?_
  refine run_loop (ι := Nat × Value) (fun x => [(2, .pointer (some ⟨b2, 0, none⟩)), (5, .pointer (some ⟨b12, 0, none⟩)), (13, .int .i64 (x.1 : Int))]) (fun x w' => x.1 ≤ 16 ∧ OwnG 25 32 RHash w12 (leavesP sd x.1) x.2 w' ∧ w'.heap[b12]? = some (.cells ⟨keyC sd (x.2) 0⟩ 166 (0, 0)) ∧ w'.heap[b2]? = some (.cells ⟨hcells sd⟩ 25 (0, 0)) ∧ Ext w w' ∧ w12.heap.size ≤ w'.heap.size) (fun x => 16 - x.1) ((0, .slice none 0 0)) ⟨rfl, rfl, rfl, trivial⟩ (⟨Nat.zero_le _, OwnG.nil _ _, hb12, hb2, e, by omega⟩) ?_
  clear e hb2 hb12
  intro ⟨k, v⟩ w1 ⟨hk16, ow, hb12, hb2, e, hz12⟩ IH
  simp only at hk16 ow hb12
  have lb2 := lt_of_at hb2
  have lb12 := lt_of_at hb12
  have ze := e.size
  have hlp := leavesP_len sd k
  have hll := leafF_len sd (k : Int)
  obtain ⟨xs, g, own, hpp, hxl, hg, hgl⟩ := ow.open
  refine run_seq ?_
  refine run_region rfl ?_
  refine runl_ev (ev_lss rfl rfl) ?_
  refine runl_nil ?_
  refine run_seq ?_
  refine run_dcond rfl (fun h0 => ?_) (fun h0 => ?_)
  · have hk : k < 16 := by omega
    refine run_skip ?_
    refine run_seq ?_
    refine run_block ?_
    refine run_seq ?_
    refine run_region rfl ?_
    refine runl_ev (ev_move rfl) ?_
    refine runl_ev (ev_assign rfl) ?_
    refine runl_nil ?_
    refine run_draw mo (fun w' => Ext w1 w') [9, 10, 11, 12] [(true, 0), (true, 1), (true, 2), (true, 3), (true, 4), (true, 5), (true, 6), (false, 7), (false, 8), (false, 9), (false, 10), (false, 11), (false, 12)] (by kernel_rfl) ?_
    intro wr5 er5
    have zr5 := er5.size
    have hsr5 := er5
    have ep := e.trans er5
    have hb2p := er5.at hb2
    have hb12p := er5.at hb12
    have ownp := own.ext er5
    refine rund_ev hsr5 rfl (ev_move rfl) ?_
    refine rund_ev hsr5 rfl (ev_move rfl) ?_
    refine rund_ev hsr5 rfl (ev_nilCheck rfl) ?_
    refine rund_ev hsr5 rfl (ev_fieldAddr fld_166_1 rfl) ?_
    refine rund_ev hsr5 rfl (ev_load1 cell_60 rfl (fun wz hz => (cells_all (hz.at hb12)).pick 32 rfl (keyC_row hsd _ _))) ?_
    refine rund_ev hsr5 rfl (ev_loadA agg_25 (by rw [hcells_length]; exact hsd) rfl (fun wz hz => cells_all (hz.at hb2))) ?_
    refine rund_ev hsr5 rfl (ev_move rfl) ?_
    refine rund_op rfl (t_call call_87 rfl (public_any sd hsd (k : Int) _)) ?_
    rintro _ w23 ⟨rfl, e23⟩
    have z23 := e23.size
    replace ep := ep.trans e23
    replace hb2p := e23.at hb2p
    replace hb12p := e23.at hb12p
    replace ownp := ownp.ext e23
    have hs23 := hsr5.trans e23
    refine ⟨hs23, ?_⟩
    refine rund_op rfl (t_buildSlice (out := hcells (leafF sd (k : Int))) Tryz.underlying60 sz_25 zero_25 rfl rfl (by decide) (by decide) rfl (fill_one rfl (by rw [hcells_length]; exact hll) rfl)) ?_
    rintro _ w24 ⟨b24, rfl, hb24, e24, n24, l24⟩
    have z24 := e24.size
    replace ep := ep.trans e24
    replace hb2p := e24.at hb2p
    replace hb12p := e24.at hb12p
    replace ownp := ownp.ext e24
    have hs24 := hs23.trans e24
    refine ⟨hs24, ?_⟩
    have hb24p := hb24
    refine rund_opT rfl rfl (t_append (news := hcells (leafF sd (k : Int))) ef_60 rfl rfl ownp (by rw [hcells_length]; exact hll) (cells_all hb24p) (hcells_one _) (by unfold maxLen; omega) (by omega)) ?_
    rintro v25 w25 ⟨g25, ap25⟩
    have ow25 := OwnG.app flat_hash (l' := [leafF sd (k : Int)]) (w := w12) (by omega) hg (by omega) (hpp.mono fun _ _ _ hr => flat_hash _ _ _ _ hr) hxl (pc (w := w24) ⟨hll, by rw [List.take_of_length_le (Nat.le_of_eq (by rw [hcells_length]; exact hll))]⟩ pn) ap25 rfl rfl
    rw [← leavesP_succ] at ow25
    obtain ⟨a25, c25, rfl, -⟩ := ow25.sl
    have z25 := ap25.ext.size
    replace ep := ep.newG ap25.ext (by omega)
    replace hb2p := ap25.ext.atG hb2p (by omega)
    replace hb12p := ap25.ext.atG hb12p (by omega)
    have ow25p := ow25
    refine rund_opT rfl rfl (opT_ev (ev_nilCheck rfl)) ?_
    rintro _ _ ⟨rfl, rfl⟩
    refine rund_opT rfl rfl (opT_ev (ev_fieldAddr fld_166_1 rfl)) ?_
    rintro _ _ ⟨rfl, rfl⟩
    refine rund_doT rfl rfl (t_store1 sz_60 rfl rfl rfl rfl hb12p (by rw [keyC_len hsd]; decide)) ?_
    rintro _ v5_12 ⟨hq5_12, e5_12, z5_12⟩
    replace ep := ep.new1 e5_12 (by omega)
    replace hb2p := e5_12.at1 hb2p (by omega)
    replace ow25p := ow25p.keep flat_hash e5_12 (fun k hk => by first | exact .inl (by omega) | exact .inr (by omega))
    replace hb12p := hq5_12
    clear hq5_12
    refine rund_nil ?_
    replace e := ep
    clear ep
    replace hb2 := hb2p
    clear hb2p
    replace hb12 := hb12p
    clear hb12p
    replace ow25 := ow25p
    clear ow25p
    rw [show (0 + 32 : Nat) = 32 from rfl, keyC_setRow hsd] at hb12
    refine run_inBlock ?_
    refine run_region rfl ?_
    refine runl_ev (ev_add rfl rfl (by omega) (by omega)) ?_
    refine runl_ev (ev_move rfl) ?_
    refine runl_nil ?_
    exact IH (k + 1, _) _ _ (by simp only; omega) ⟨rfl, rfl, rfl, trivial⟩ ⟨by show k + 1 ≤ 16; omega, ow25, hb12, hb2, e, by omega⟩
  · obtain rfl : k = 16 := by omega
    obtain ⟨a, c, rfl, sl, hc, hlo⟩ := slN_of ow
    have hlp16 : (leavesP sd 16).length = 16 := leavesP_len sd 16
    have sl' : SlAt 32 RHash w1 (.slice a 16 c) (leavesF sd) := by rw [hlp16] at sl; exact sl
    rw [hlp16] at hb12 hc
    refine run_exit rfl ?_
    refine run_seq ?_
    refine run_region rfl ?_
    refine runl_ev (ev_move rfl) ?_
    refine runl_ev (ev_assign rfl) ?_
    refine runl_nil ?_
    refine run_ret_any Tryz.func40 (res1 Tryz.results40 rfl) ?_
    exact ⟨b12, rfl, by omega, by omega, ⟨hsd, a, c, hb12, hc, fun w' e' => sl'.keep flat_hash e' (fun b o ha hm => by have h1 := hlo b o ha; omega)⟩, e⟩
theorem named_any (h : List UInt8) (hl : h.length = 32) (w : World) : Ret Tryz.prog 106 [.agg ⟨hcells h⟩] w fun r w' => r = .agg ⟨hcells (namedF h)⟩ ∧ Ext w w' := by
  have e := ExtB.refl (fun _ => False) w
  have hl6 : (namedF h).length = 32 := shaF_len _
  refine ret_of_run Tryz.func106 rfl Tryz.ntmps106 rfl ?_
  refine run_seq ?_
  refine run_region rfl ?_
  refine runl_op (t_boxA rfl) ?_
  rintro _ w1 ⟨b1, rfl, hb1, e1, n1, l1⟩
  have z1 := e1.size
  replace e := e.trans e1
  refine runl_op (t_alloc zero_25 rfl) ?_
  rintro _ w2 ⟨b2, rfl, hb2, e2, n2, l2⟩
  have z2 := e2.size
  replace e := e.trans e2
  replace hb1 := e2.at hb1
  refine runl_nil ?_
  refine run_seq ?_
  refine run_region rfl ?_
  refine runl_op (t_buildSlice (out := [.int .u8 4]) Tryz.underlying29 sz_5 zero_5 rfl rfl (by decide) (by decide) rfl (rfl)) ?_
  rintro _ w3 ⟨b3, rfl, hb3, e3, n3, l3⟩
  have z3 := e3.size
  replace e := e.trans e3
  replace hb1 := e3.at hb1
  replace hb2 := e3.at hb2
  have ow3 : OwnG 5 1 RByte w2 [4] (.slice (some ⟨b3, 0, none⟩) 1 1) w3 := ⟨hcells [4], _, own_lit (n := 1) (cs := hcells [4]) hb3 (by unfold maxLen; omega) rfl, parts_bytes _, .inr (by omega), by omega⟩
  obtain ⟨xs3, q3, own3, hpp3, hxl3, hg3, hgl3⟩ := ow3.open
  refine runl_ev (ev_sliceA arr_25 rfl) ?_
  refine runl_op (t_appendL (l := h) (R := RByte) ef_29 rfl rfl own3 (sl_hash hb1 hl) rbyte_len (fun x cs h => rbyte_one x cs h) (by unfold maxLen; simp) (by simp)) ?_
  rintro v5 w5 ⟨n5, g5, hnl5, hnp5, ap5⟩
  have ow5 := OwnG.app flat_byte (w := w2) (by omega) hg3 (by omega) (hpp3.mono fun _ _ _ hr => flat_byte _ _ _ _ hr) hxl3 hnp5 ap5 rfl hl
  obtain ⟨a5, c5, rfl, hc5, sl5, -⟩ := ow5.sl
  have z5 := ap5.ext.size
  replace e := e.newG ap5.ext (by omega)
  replace hb1 := ap5.ext.atG hb1 (by omega)
  replace hb2 := ap5.ext.atG hb2 (by omega)
  refine runl_op (t_call call_47 rfl (sum_any _ a5 _ c5 _ sl5 hc5 (by rw [List.length_append, hl]; decide))) ?_
  rintro _ w6 ⟨rfl, e6⟩
  have z6 := e6.size
  replace e := e.trans e6
  replace hb1 := e6.at hb1
  replace hb2 := e6.at hb2
  refine runl_do (t_storeW sz_25 rfl rfl (by rw [hcells_length]; exact hl6) rfl hb2 (hcells_one _)) ?_
  rintro _ v1_4 ⟨hq1_4, e1_4, z1_4⟩
  replace e := e.new1 e1_4 (by omega)
  replace hb1 := e1_4.at1 hb1 (by omega)
  replace hb2 := hq1_4
  clear hq1_4
  refine runl_nil ?_
  refine run_ret_any Tryz.func106 (resC Tryz.results106 rfl (loadVar_agg agg_25 (by rw [hcells_length]; exact hl6) (cells_all hb2))) ?_
  exact ⟨rfl, e⟩
theorem public_key {Mut : Nat → Prop} {kb used : Nat} {sd : List UInt8} {w : World} (h : KeyAt Mut kb sd used w) : Ret Tryz.prog 49 [.pointer (some ⟨kb, 0, none⟩)] w fun r w' => r = .agg ⟨hcells (pubF sd)⟩ ∧ Ext w w' := by
  have e := ExtB.refl (fun _ => False) w
  obtain ⟨hsd, a, c, hk, hc, hz⟩ := h
  have sl := hz.here
  have lk := lt_of_at hk
  have hpl := pubF_len sd
  refine ret_of_run Tryz.func49 rfl Tryz.ntmps49 rfl ?_
  refine run_seq ?_
  refine run_region rfl ?_
  refine runl_op (t_alloc zero_25 rfl) ?_
  rintro _ w2 ⟨b2, rfl, hb2, e2, n2, l2⟩
  have z2 := e2.size
  replace e := e.trans e2
  replace hk := e2.at hk
  refine runl_nil ?_
  refine run_seq ?_
  refine run_seq ?_
  refine run_region rfl ?_
  refine runl_ev (ev_move rfl) ?_
  refine runl_ev (ev_eqlPn Tryz.underlying105 rfl rfl) ?_
  refine runl_nil ?_
  refine run_cond_false rfl (rfl) ?_
  refine run_skip ?_
  refine run_seq ?_
  refine run_region rfl ?_
  refine runl_ev (ev_move rfl) ?_
  refine runl_ev (ev_nilCheck rfl) ?_
  refine runl_ev (ev_fieldAddr fld_166_1 rfl) ?_
  refine runl_ev (ev_load1 cell_60 rfl (eqw ((cells_all hk).pick 32 rfl (keyC_row hsd _ _)))) ?_
  refine runl_op (t_call call_107 rfl (root16_any (leavesF sd) a c _ (leavesP_len sd 16) (sl.ext RHash.stable e) hc)) ?_
  rintro _ w10 ⟨rfl, e10⟩
  have z10 := e10.size
  replace e := e.trans e10
  replace hk := e10.at hk
  replace hb2 := e10.at hb2
  refine runl_op (t_call call_106 rfl (named_any _ (rootF4_len sd) _)) ?_
  rintro _ w11 ⟨rfl, e11⟩
  have z11 := e11.size
  replace e := e.trans e11
  replace hk := e11.at hk
  replace hb2 := e11.at hb2
  refine runl_do (t_storeW sz_25 rfl rfl (by rw [hcells_length]; exact hpl) rfl hb2 (hcells_one _)) ?_
  rintro _ v3_6 ⟨hq3_6, e3_6, z3_6⟩
  replace e := e.new1 e3_6 (by omega)
  replace hk := e3_6.at1 hk (by omega)
  replace hb2 := hq3_6
  clear hq3_6
  refine runl_nil ?_
  refine run_ret_any Tryz.func49 (resC Tryz.results49 rfl (loadVar_agg agg_25 (by rw [hcells_length]; exact hpl) (cells_all hb2))) ?_
  exact ⟨rfl, e⟩
theorem used_key {Mut : Nat → Prop} {kb used : Nat} {sd : List UInt8} {w : World} (h : KeyAt Mut kb sd used w) : Ret Tryz.prog 43 [.pointer (some ⟨kb, 0, none⟩)] w fun r w' => r = .int .i64 (used : Int) ∧ Ext w w' := by
  have e := ExtB.refl (fun _ => False) w
  obtain ⟨hsd, a, c, hk, hc, hz⟩ := h
  refine ret_of_run Tryz.func43 rfl Tryz.ntmps43 rfl ?_
  refine run_seq ?_
  refine run_region rfl ?_
  refine runl_ev (ev_assign rfl) ?_
  refine runl_nil ?_
  refine run_seq ?_
  refine run_seq ?_
  refine run_region rfl ?_
  refine runl_ev (ev_move rfl) ?_
  refine runl_ev (ev_eqlPn Tryz.underlying105 rfl rfl) ?_
  refine runl_nil ?_
  refine run_cond_false rfl (rfl) ?_
  refine run_skip ?_
  refine run_seq ?_
  refine run_region rfl ?_
  refine runl_ev (ev_move rfl) ?_
  refine runl_ev (ev_nilCheck rfl) ?_
  refine runl_ev (ev_fieldAddr fld_166_2 rfl) ?_
  refine runl_ev (ev_load1 cell_3 rfl (eqw ((cells_all hk).pick 33 rfl (keyC_used hsd _ _)))) ?_
  refine runl_ev (ev_assign rfl) ?_
  refine runl_nil ?_
  refine run_ret_any Tryz.func43 (res1 Tryz.results43 rfl) ?_
  exact ⟨rfl, e⟩
theorem sign_key {Mut : Nat → Prop} {kb used : Nat} {sd : List UInt8} {w : World} (h : KeyAt Mut kb sd used w) (hM : Mut kb) (hu : used < 16) (l : List UInt8) (am : Option Addr) (n cm : Nat) (hl : SlAt 1 RByte w (.slice am n cm) l) (hcm : l.length ≤ cm) (hln : l.length ≤ 1099511627776) (hmk : ∀ b o, am = some ⟨b, o, none⟩ → b ≠ kb) :
    Ret Tryz.prog 50 [.pointer (some ⟨kb, 0, none⟩), .slice am n cm] w fun r w' => ∃ cs, r = .tuple #[.agg ⟨cs⟩, .int .i64 0] ∧ RSigG w.heap.size (-1) w' ⟨(used : Int), signF sd (used : Int) l, pathF 4 (leavesF sd) used⟩ cs ∧ KeyAt Mut kb sd (used + 1) w' ∧ ExtB (fun k => k = kb) w w' := by
  have eb := ExtB.refl (fun k => k = kb) w
  obtain ⟨hsd, a, c, hk, hc, hz⟩ := h
  have lk := lt_of_at hk
  have hz0 := hz
  refine ret_of_run Tryz.func50 rfl Tryz.ntmps50 rfl ?_
  refine run_seq ?_
  refine run_region rfl ?_
  refine runl_op (t_alloc zero_200 rfl) ?_
  rintro _ w4 ⟨b4, rfl, hb4, e4, n4, l4⟩
  have z4 := e4.size
  replace hk := e4.at hk
  replace eb := eb.trans e4.toB
  refine runl_ev (ev_assign rfl) ?_
  refine runl_nil ?_
  refine run_seq ?_
  refine run_block ?_
  refine run_seq ?_
  refine run_region rfl ?_
  refine runl_ev (ev_move rfl) ?_
  refine runl_ev (ev_eqlPn Tryz.underlying105 rfl rfl) ?_
  refine runl_ev (ev_assign rfl) ?_
  refine runl_nil ?_
  refine run_cond_false rfl (rfl) ?_
  refine run_seq ?_
  refine run_region rfl ?_
  refine runl_ev (ev_move rfl) ?_
  refine runl_ev (ev_nilCheck rfl) ?_
  refine runl_ev (ev_fieldAddr fld_166_2 rfl) ?_
  refine runl_ev (ev_load1 cell_3 rfl (eqw ((cells_all hk).pick 33 rfl (keyC_used hsd _ _)))) ?_
  refine runl_ev (ev_geq rfl rfl) ?_
  refine runl_ev (ev_assign rfl) ?_
  refine runl_nil ?_
  refine run_cond_false rfl (decide_eq_false (by omega)) ?_
  refine run_skip ?_
  refine run_inBlock ?_
  refine run_seq ?_
  refine run_region rfl ?_
  refine runl_ev (ev_move rfl) ?_
  refine runl_ev (ev_nilCheck rfl) ?_
  refine runl_ev (ev_fieldAddr fld_166_2 rfl) ?_
  refine runl_ev (ev_load1 cell_3 rfl (eqw ((cells_all hk).pick 33 rfl (keyC_used hsd _ _)))) ?_
  refine runl_ev (ev_assign rfl) ?_
  refine runl_nil ?_
  refine run_seq ?_
  refine run_region rfl ?_
  refine runl_ev (ev_move rfl) ?_
  refine runl_ev (ev_nilCheck rfl) ?_
  refine runl_ev (ev_fieldAddr fld_166_2 rfl) ?_
  refine runl_ev (ev_load1 cell_3 rfl (eqw ((cells_all hk).pick 33 rfl (keyC_used hsd _ _)))) ?_
  refine runl_ev (ev_addK (((used + 1 : Nat) : Int)) rfl rfl (by rw [show (used : Int) + 1 = ((used + 1 : Nat) : Int) by omega]; exact wrap_i64 (by omega) (by omega))) ?_
  refine runl_ev (ev_nilCheck rfl) ?_
  refine runl_ev (ev_fieldAddr fld_166_2 rfl) ?_
  refine runl_do (t_store1 sz_3 rfl rfl rfl rfl hk (by rw [keyC_len hsd]; decide)) ?_
  rintro _ v6_7 ⟨hq6_7, e6_7, z6_7⟩
  replace eb := eb.newB1 e6_7 (by first | exact .inl (by omega) | exact .inr rfl | exact .inr (.inl rfl) | exact .inr (.inr (by omega)))
  replace hb4 := e6_7.at1 hb4 (by omega)
  replace hk := hq6_7
  clear hq6_7
  refine runl_nil ?_
  rw [show (0 + 33 : Nat) = 33 from rfl, keyC_setUsed hsd] at hk
  refine run_seq ?_
  refine run_draw mo (fun w' => Ext v6_7 w') [15, 16] [(true, 0), (true, 1), (true, 2), (true, 3), (true, 4), (true, 5), (true, 6), (true, 8), (true, 9), (true, 10), (true, 11), (true, 12), (false, 7), (false, 13), (true, 14), (false, 15), (false, 16)] (by kernel_rfl) ?_
  intro wr7 er7
  have zr7 := er7.size
  have hsr7 := er7
  have hkp := er7.at hk
  have ebp := eb.trans er7.toB
  have hb4p := er7.at hb4
  refine rund_ev hsr7 rfl (ev_move rfl) ?_
  refine rund_ev hsr7 rfl (ev_move rfl) ?_
  refine rund_ev hsr7 rfl (ev_nilCheck rfl) ?_
  refine rund_ev hsr7 rfl (ev_fieldAddr fld_166_0 rfl) ?_
  refine rund_ev hsr7 rfl (ev_loadA agg_25 (by rw [hcells_length]; exact hsd) rfl (fun wz hz => (cells_all (hz.at hk)).seg (hcells sd) 0 rfl (keyC_seed sd _ _))) ?_
  refine rund_ev hsr7 rfl (ev_move rfl) ?_
  refine rund_ev hsr7 rfl (ev_move rfl) ?_
  refine rund_ev hsr7 rfl (ev_move rfl) ?_
  refine rund_ev hsr7 rfl (ev_nilCheck rfl) ?_
  refine rund_ev hsr7 rfl (ev_fieldAddr fld_166_1 rfl) ?_
  refine rund_ev hsr7 rfl (ev_load1 cell_60 rfl (fun wz hz => (cells_all (hz.at hk)).pick 32 rfl (keyC_row hsd _ _))) ?_
  refine rund_ev hsr7 rfl (ev_move rfl) ?_
  refine rund_op rfl (t_call call_108 rfl (otssign_any sd hsd (used : Int) l am n cm _ (hl.keep rbyte_any ebp (fun b o ha hm => hmk b o ha hm)) hcm hln)) ?_
  rintro v36 w36 ⟨ow36, e36⟩
  have lo36 : w.heap.size ≤ wr7.heap.size := by omega
  have hw36 := ow36
  obtain ⟨a36, c36, rfl, -⟩ := hw36.sl
  have z36 := e36.size
  replace hkp := e36.at hkp
  replace ebp := ebp.trans e36.toB
  replace hb4p := e36.at hb4p
  have hs36 := hsr7.trans e36
  refine ⟨hs36, ?_⟩
  have ow36p := ow36
  refine rund_op rfl (t_call call_109 rfl (path16_any (leavesF sd) used hu a c _ (leavesP_len sd 16) (hz0 _ (ebp.mono (fun k _ hk => by subst hk; exact hM))) hc)) ?_
  rintro v42 w42 ⟨ow42, e42⟩
  have hw42 := ow42
  obtain ⟨a42, c42, rfl, -⟩ := hw42.sl
  have z42 := e42.size
  replace hkp := e42.at hkp
  replace ebp := ebp.trans e42.toB
  replace hb4p := e42.at hb4p
  replace ow36p := ow36p.up (flat_hash).stable e42
  have hs42 := hs36.trans e42
  refine ⟨hs42, ?_⟩
  have ow42p := ow42
  refine rund_ev hs42 rfl (ev_build (out := [.int .i64 (used : Int), .slice a36 _ c36, .slice a42 _ c42]) ps_200 zero_200 rfl rfl (rfl)) ?_
  refine rund_doT rfl rfl (t_storeW sz_200 rfl rfl rfl rfl hb4p (by simp)) ?_
  rintro _ v7_15 ⟨hq7_15, e7_15, z7_15⟩
  replace hkp := e7_15.at1 hkp (by omega)
  replace ebp := ebp.newB1 e7_15 (by first | exact .inl (by omega) | exact .inr rfl | exact .inr (.inl rfl) | exact .inr (.inr (by omega)))
  replace ow36p := ow36p.keep flat_hash e7_15 (fun k hk => by first | exact .inl (by omega) | exact .inr (by omega))
  replace ow42p := ow42p.keep flat_hash e7_15 (fun k hk => by first | exact .inl (by omega) | exact .inr (by omega))
  replace hb4p := hq7_15
  clear hq7_15
  refine rund_opT rfl rfl (opT_ev (ev_assign rfl)) ?_
  rintro _ _ ⟨rfl, rfl⟩
  refine rund_nil ?_
  replace hk := hkp
  clear hkp
  replace eb := ebp
  clear ebp
  replace hb4 := hb4p
  clear hb4p
  replace ow36 := ow36p
  clear ow36p
  replace ow42 := ow42p
  clear ow42p
  refine run_ret_any Tryz.func50 (resCT Tryz.results50 rfl (loadVar_agg agg_200 rfl (cells_all hb4)) rfl) ?_
  exact ⟨_, rfl, ⟨_, _, rfl, (slN_of ow36).up (by omega), (slN_of ow42).up (by omega)⟩, ⟨hsd, a, c, hk, hc, hz0.step eb (fun k _ hk => by subst hk; exact hM)⟩, eb⟩
attribute [irreducible] pubF leavesF
end Go.Proofs.YtlgkdnmklgbhbaaGreatDoor
