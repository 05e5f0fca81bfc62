/- The walk of law FindNone on what find's calls come to. -/
import Derived.Test.YtpomcdmlmaimeaaFind4
namespace Go.Proofs.Ytpomcdmlmaimeaa
open Go Go.Fw
set_option maxRecDepth 100000
theorem bnd_nil : Bnd [] := ⟨Nat.zero_le _, (fun _ h => by cases h), (fun _ h => by cases h)⟩
theorem ecuF_empty (l : List Tgs) : ecuF l ⟨#[]⟩ = none := by cases l <;> simp [ecuF]

theorem lawNone_any (name : ByteArray) (l : List Tgs) (w : World) (a : Option Addr) (len cap : Nat) (hn : name.size ≤ 1099511627776) (hl : SlAt 5 RTgs w (.slice a len cap) l) (hb : Bnd l) :
    Ret Try.prog 9 [.string name, .slice a len cap] w fun r w' => r = .bool true ∧ Ext w w' := by
  have hl0 := hl
  have e := ExtB.refl (fun _ => False) w
  refine ret_of_run Try.func9 rfl Try.ntmps9 rfl ?_
  refine run_seq ?_
  refine run_region rfl ?_
  refine runl_ev (ev_assign rfl) ?_
  refine runl_nil ?_
  refine run_seq ?_
  refine run_seq ?_
  refine run_region rfl ?_
  refine runl_ev (ev_move rfl) ?_
  refine runl_op (t_call call_11 rfl (heavy_any l _ _ _ _ (hl0.ext RTgs.stable e) hb)) ?_
  rintro _ w13 ⟨tb, rfl, e13⟩
  have z13 := e13.size
  replace e := e.trans e13
  rcases (by cases tb <;> simp : tb = true ∨ tb = false) with rfl | rfl
  · refine runl_ev (ev_move rfl) ?_
    refine runl_no_g rfl rfl (rfl) ?_
    refine runl_no_g rfl rfl (rfl) ?_
    refine runl_no_g rfl rfl (rfl) ?_
    refine runl_ev (ev_pick rfl rfl rfl rfl) ?_
    refine runl_nil ?_
    refine run_cond_true rfl (rfl) ?_
    refine run_seq ?_
    refine run_region rfl ?_
    refine runl_ev (ev_assign rfl) ?_
    refine runl_nil ?_
    refine run_ret_any Try.func9 (res1 Try.results9 rfl) ?_
    exact ⟨rfl, e⟩
  · refine runl_ev (ev_move rfl) ?_
    refine runl_ev_g rfl rfl (rfl) (ev_move rfl) ?_
    refine runl_ev_g rfl rfl (rfl) (ev_lenS str_9 rfl) ?_
    refine runl_ev_g rfl rfl (rfl) (ev_gtr rfl rfl) ?_
    refine runl_ev (ev_pick rfl rfl rfl (if_neg (by simp))) ?_
    refine runl_nil ?_
    refine run_dcond rfl (fun h0 => ?_) (fun h0 => ?_)
    · refine run_seq ?_
      refine run_region rfl ?_
      refine runl_ev (ev_assign rfl) ?_
      refine runl_nil ?_
      refine run_ret_any Try.func9 (res1 Try.results9 rfl) ?_
      exact ⟨rfl, e⟩
    · refine run_skip ?_
      refine run_seq ?_
      refine run_region rfl ?_
      refine runl_ev (ev_move rfl) ?_
      refine runl_op (t_call call_12 rfl (find_any [] _ _ _ _ sl_nil bnd_nil name hn)) ?_
      rintro _ w21 ⟨rfl, -, e21⟩
      rw [show findF [] name = none from rfl]
      have z21 := e21.size
      replace e := e.trans e21
      refine runl_ev (ev_move rfl) ?_
      refine runl_ev (ev_extract rfl rfl) ?_
      refine runl_ev (ev_extract rfl rfl) ?_
      refine runl_ev (ev_extract rfl rfl) ?_
      refine runl_op (t_alloc zero_27 rfl) ?_
      rintro _ w5 ⟨b5, rfl, hb5, e5, n5, l5⟩
      have z5 := e5.size
      replace e := e.trans e5
      refine runl_do (t_storeW sz_27 rfl rfl rfl rfl hb5 (Tgt.one Tgt.zero)) ?_
      rintro _ v3_7 ⟨hq3_7, e3_7, z3_7⟩
      replace e := e.new1 e3_7 (by omega)
      replace hb5 := hq3_7
      clear hq3_7
      refine runl_ev (ev_assign rfl) ?_
      refine runl_ev (ev_assign rfl) ?_
      refine runl_nil ?_
      refine run_seq ?_
      refine run_region rfl ?_
      refine runl_ev (ev_move rfl) ?_
      refine runl_op (t_call call_15 rfl (forecu_any [] _ _ _ _ sl_nil bnd_nil name)) ?_
      rintro _ w27 ⟨rfl, -, e27⟩
      rw [show ecuF [] name = none from rfl]
      have z27 := e27.size
      replace e := e.trans e27
      replace hb5 := e27.at hb5
      refine runl_ev (ev_move rfl) ?_
      refine runl_ev (ev_extract rfl rfl) ?_
      refine runl_ev (ev_extract rfl rfl) ?_
      refine runl_op (t_alloc zero_27 rfl) ?_
      rintro _ w8 ⟨b8, rfl, hb8, e8, n8, l8⟩
      have z8 := e8.size
      replace e := e.trans e8
      replace hb5 := e8.at hb5
      refine runl_do (t_storeW sz_27 rfl rfl rfl rfl hb8 (Tgt.one Tgt.zero)) ?_
      rintro _ v4_6 ⟨hq4_6, e4_6, z4_6⟩
      replace e := e.new1 e4_6 (by omega)
      replace hb5 := e4_6.at1 hb5 (by omega)
      replace hb8 := hq4_6
      clear hq4_6
      refine runl_ev (ev_assign rfl) ?_
      refine runl_nil ?_
      refine run_seq ?_
      refine run_region rfl ?_
      refine runl_ev (ev_move rfl) ?_
      refine runl_op (t_call call_15 rfl (forecu_any l _ _ _ _ (hl0.ext RTgs.stable e) hb ⟨#[]⟩)) ?_
      rintro _ w32 ⟨rfl, -, e32⟩
      rw [ecuF_empty l]
      have z32 := e32.size
      replace e := e.trans e32
      replace hb5 := e32.at hb5
      replace hb8 := e32.at hb8
      refine runl_ev (ev_move rfl) ?_
      refine runl_ev (ev_extract rfl rfl) ?_
      refine runl_ev (ev_extract rfl rfl) ?_
      refine runl_op (t_alloc zero_27 rfl) ?_
      rintro _ w10 ⟨b10, rfl, hb10, e10, n10, l10⟩
      have z10 := e10.size
      replace e := e.trans e10
      replace hb5 := e10.at hb5
      replace hb8 := e10.at hb8
      refine runl_do (t_storeW sz_27 rfl rfl rfl rfl hb10 (Tgt.one Tgt.zero)) ?_
      rintro _ v5_6 ⟨hq5_6, e5_6, z5_6⟩
      replace e := e.new1 e5_6 (by omega)
      replace hb5 := e5_6.at1 hb5 (by omega)
      replace hb8 := e5_6.at1 hb8 (by omega)
      replace hb10 := hq5_6
      clear hq5_6
      refine runl_ev (ev_assign rfl) ?_
      refine runl_nil ?_
      refine run_seq ?_
      refine run_region rfl ?_
      refine runl_ev (ev_move rfl) ?_
      refine runl_ev (ev_not rfl) ?_
      refine runl_ev (ev_move rfl) ?_
      refine runl_ev_g rfl rfl (rfl) (ev_move rfl) ?_
      refine runl_ev_g rfl rfl (rfl) (ev_not rfl) ?_
      refine runl_ev (ev_pick rfl rfl rfl rfl) ?_
      refine runl_ev (ev_move rfl) ?_
      refine runl_ev_g rfl rfl (rfl) (ev_move rfl) ?_
      refine runl_ev_g rfl rfl (rfl) (ev_not rfl) ?_
      refine runl_ev (ev_pick rfl rfl rfl rfl) ?_
      refine runl_ev (ev_move rfl) ?_
      refine runl_op_g rfl rfl (rfl) (t_call call_13 rfl (known_any _)) ?_
      rintro _ w46 ⟨rfl, e46⟩
      have z46 := e46.size
      replace e := e.trans e46
      replace hb5 := e46.at hb5
      replace hb8 := e46.at hb8
      replace hb10 := e46.at hb10
      refine runl_ev (ev_pick rfl rfl rfl rfl) ?_
      refine runl_ev (ev_assign rfl) ?_
      refine runl_nil ?_
      refine run_ret_any Try.func9 (res1 Try.results9 rfl) ?_
      exact ⟨rfl, e⟩
end Go.Proofs.Ytpomcdmlmaimeaa
