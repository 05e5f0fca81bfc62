/- The walks of what the reference decodes, and of the law on roots. -/
import Derived.Test.YtcmbiaibocdfeaaDoorWire8
import Derived.Test.YtcmbiaibocdfeaaDoorWire7
namespace Go.Proofs.YtcmbiaibocdfeaaDoor
open Go Go.Fw
set_option maxRecDepth 100000

theorem qreader_any (l : List UInt8) (w : World) (a : Option Addr) (n c : Nat) (hl : SlAt 1 RByte w (.slice a n c) l) (hc : l.length ≤ c) (hn : l.length ≤ 1099511627776) (kind : Int) :
    Ret Tryd.prog 34 [.slice a n c, .int .i64 kind] w fun r w' => ∃ rb v, r = .pointer (some ⟨rb, 0, none⟩) ∧ RSt 84 w w' rb v (kindS kind l) := by
  have e := ExtB.refl (fun _ => False) w
  obtain ⟨rfl, -⟩ := hl.at
  refine ret_of_run Tryd.func34 rfl Tryd.ntmps34 rfl ?_
  refine run_seq ?_
  refine run_region rfl ?_
  refine runl_ev (ev_assign rfl) ?_
  refine runl_nil ?_
  refine run_seq ?_
  refine run_region rfl ?_
  refine runl_ev (ev_move rfl) ?_
  refine runl_ev (ev_build (out := [.slice a l.length c, .bool false]) ps_84 zero_84 rfl rfl (rfl)) ?_
  refine runl_op (t_boxA rfl) ?_
  rintro _ w8 ⟨b8, rfl, hb8, e8, n8, l8⟩
  have z8 := e8.size
  replace e := e.trans e8
  have st : RSt 84 w w8 b8 _ ⟨l, false⟩ := ⟨hb8, hl, ⟨a, c, rfl, hc⟩, e, n8, hn⟩
  refine runl_ev (ev_assign rfl) ?_
  refine runl_nil ?_
  refine run_seq ?_
  refine run_seq ?_
  refine run_region rfl ?_
  refine runl_ev (ev_move rfl) ?_
  refine runl_op (t_call call_35 rfl (qnum_any st (fun h => by cases h))) ?_
  rintro _ w10 ⟨rfl, rp10⟩
  obtain ⟨v10, st10⟩ := rp10.1
  have z10 := rp10.2.size
  replace e := e.new1 rp10.2 (by omega)
  refine runl_ev (ev_move rfl) ?_
  refine runl_ev (ev_neqI rfl rfl) ?_
  refine runl_nil ?_
  refine run_dcond rfl (fun h0 => ?_) (fun h0 => ?_)
  · have hk : kindS kind l = .fail := by unfold kindS; rw [if_pos h0]
    rw [hk]
    refine run_region rfl ?_
    refine runl_ev (ev_move rfl) ?_
    refine runl_op (t_call call_64 rfl (qbad_any st10)) ?_
    rintro _ w14 ⟨rfl, rp14⟩
    obtain ⟨v14, st14⟩ := rp14.1
    have z14 := rp14.2.size
    replace e := e.new1 rp14.2 (by omega)
    refine runl_nil ?_
    refine run_seq ?_
    refine run_region rfl ?_
    refine runl_ev (ev_move rfl) ?_
    refine runl_ev (ev_assign rfl) ?_
    refine runl_nil ?_
    refine run_ret_any Tryd.func34 (res1 Tryd.results34 rfl) ?_
    exact ⟨b8, v14, rfl, st14⟩
  · have hk : kindS kind l = (RS.mk l false).num.2 := by unfold kindS; rw [if_neg h0]
    rw [hk]
    refine run_skip ?_
    refine run_seq ?_
    refine run_region rfl ?_
    refine runl_ev (ev_move rfl) ?_
    refine runl_ev (ev_assign rfl) ?_
    refine runl_nil ?_
    refine run_ret_any Tryd.func34 (res1 Tryd.results34 rfl) ?_
    exact ⟨b8, v10, rfl, st10⟩
theorem qjust_any {s : RS} {w0 w : World} {rb : Nat} {v : Value} {T : TypeId} (st : RSt T w0 w rb v s) (l l2 : List UInt8) (ee : Int) (a a2 : Option Addr) (n c n2 c2 : Nat) (hl : SlAt 1 RByte w (.slice a n c) l) (hl2 : SlAt 1 RByte w (.slice a2 n2 c2) l2) :
    Ret Tryd.prog 37 [.pointer (some ⟨rb, 0, none⟩), .slice a n c, .slice a2 n2 c2, .int .i64 ee] w fun r w' => r = .bool (s.whole && (decide (ee = 0) && decide (l = l2))) ∧ Ext w w' := by
  have e := ExtB.refl (fun _ => False) w
  refine ret_of_run Tryd.func37 rfl Tryd.ntmps37 rfl ?_
  refine run_seq ?_
  refine run_region rfl ?_
  refine runl_ev (ev_assign rfl) ?_
  refine runl_nil ?_
  refine run_seq ?_
  refine run_region rfl ?_
  refine runl_ev (ev_move rfl) ?_
  refine runl_op (t_call call_67 rfl (qwhole_any st)) ?_
  rintro _ w10 ⟨rfl, e10⟩
  have z10 := e10.size
  replace e := e.trans e10
  cases hw : s.whole
  · refine runl_ev (ev_move rfl) ?_
    refine runl_no_g rfl rfl (rfl) ?_
    refine runl_no_g rfl rfl (rfl) ?_
    refine runl_ev (ev_pick rfl rfl rfl (if_neg (by simp))) ?_
    refine runl_ev (ev_move rfl) ?_
    refine runl_no_g rfl rfl (rfl) ?_
    refine runl_no_g rfl rfl (rfl) ?_
    refine runl_no_g rfl rfl (rfl) ?_
    refine runl_no_g rfl rfl (rfl) ?_
    refine runl_no_g rfl rfl (rfl) ?_
    refine runl_ev (ev_pick rfl rfl rfl (if_neg (by simp))) ?_
    refine runl_ev (ev_assign rfl) ?_
    refine runl_nil ?_
    refine run_ret_any Tryd.func37 (res1 Tryd.results37 rfl) ?_
    exact ⟨rfl, e⟩
  · refine runl_ev (ev_move rfl) ?_
    refine runl_ev_g rfl rfl (rfl) (ev_move rfl) ?_
    refine runl_ev_g rfl rfl (rfl) (ev_eqlI rfl rfl) ?_
    refine runl_ev (ev_pick rfl rfl rfl (if_pos (rfl))) ?_
    by_cases he : ee = 0
    · refine runl_ev (ev_move rfl) ?_
      refine runl_ev_g rfl rfl (decide_eq_true he) (ev_move rfl) ?_
      refine runl_ev_g rfl rfl (decide_eq_true he) (ev_convB (l) Tryd.underlying24 Tryd.underlying5 Tryd.underlying9 rfl (eqw (hl.ext RByte.stable e))) ?_
      refine runl_ev_g rfl rfl (decide_eq_true he) (ev_move rfl) ?_
      refine runl_ev_g rfl rfl (decide_eq_true he) (ev_convB (l2) Tryd.underlying24 Tryd.underlying5 Tryd.underlying9 rfl (eqw (hl2.ext RByte.stable e))) ?_
      refine runl_ev_g rfl rfl (decide_eq_true he) (ev_eqlS rfl rfl) ?_
      refine runl_ev (ev_pick rfl rfl rfl (if_pos (decide_eq_true he))) ?_
      refine runl_ev (ev_assign rfl) ?_
      refine runl_nil ?_
      refine run_ret_any Tryd.func37 (res1 Tryd.results37 rfl) ?_
      refine ⟨?_, e⟩
      rw [decide_eq_true he, decide_eq_decide.2 str_eq]
      rfl
    · refine runl_ev (ev_move rfl) ?_
      refine runl_no_g rfl rfl (decide_eq_false he) ?_
      refine runl_no_g rfl rfl (decide_eq_false he) ?_
      refine runl_no_g rfl rfl (decide_eq_false he) ?_
      refine runl_no_g rfl rfl (decide_eq_false he) ?_
      refine runl_no_g rfl rfl (decide_eq_false he) ?_
      refine runl_ev (ev_pick rfl rfl rfl (if_neg (by simp [he]))) ?_
      refine runl_ev (ev_assign rfl) ?_
      refine runl_nil ?_
      refine run_ret_any Tryd.func37 (res1 Tryd.results37 rfl) ?_
      exact ⟨by rw [decide_eq_false he]; rfl, e⟩
end Go.Proofs.YtcmbiaibocdfeaaDoor
