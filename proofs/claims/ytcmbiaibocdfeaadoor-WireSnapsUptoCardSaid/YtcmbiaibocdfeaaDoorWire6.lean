/- The walks of wire's reader: digests, keys, roots. -/
import Derived.Test.YtcmbiaibocdfeaaDoorReadP
import Derived.Test.YtcmbiaibocdfeaaDoorWire2
import Derived.Test.YtcmbiaibocdfeaaDoorWire4
namespace Go.Proofs.YtcmbiaibocdfeaaDoor
open Go Go.Fw
set_option maxRecDepth 100000

theorem newreader_any (l : List UInt8) (w : World) (a : Option Addr) (n c : Nat) (hl : SlAt 1 RByte w (.slice a n c) l) (hn : l.length ≤ 1099511627776) :
    Ret Tryd.prog 59 [.slice a n c] w fun r w' => ∃ rb w4 v, r = .pointer (some ⟨rb, 0, none⟩) ∧ Ext w w4 ∧ RSt 130 w4 w' rb v ⟨l, false⟩ := by
  have e := ExtB.refl (fun _ => False) w
  refine ret_of_run Tryd.func59 rfl Tryd.ntmps59 rfl ?_
  refine run_seq ?_
  refine run_region rfl ?_
  refine runl_ev (ev_assign rfl) ?_
  refine runl_nil ?_
  refine run_seq ?_
  refine run_region rfl ?_
  refine runl_ev (ev_move rfl) ?_
  refine runl_op (t_call call_79 rfl (clone_any l w a n c hl hn)) ?_
  rintro r4 w4 ⟨g4, own, e4, hg4, hgl4⟩
  obtain ⟨a4, c4, rfl⟩ := own.shape
  have hc4 : l.length ≤ c4 := by
    rcases own.cells with ⟨h, h0, _⟩ | ⟨cap, b, _, h, _, h1, _⟩
    · omega
    · injection h with q1 q2 q3
      omega
  have sl4 := own_bytes own
  have z4 := e4.size
  replace e := e.trans e4
  refine runl_ev (ev_build (out := [.slice a4 l.length c4, .bool false]) ps_130 zero_130 rfl rfl (rfl)) ?_
  refine runl_op (t_boxA rfl) ?_
  rintro _ w6 ⟨b6, rfl, hb6, e6, n6, l6⟩
  have z6 := e6.size
  replace e := e.trans e6
  refine runl_ev (ev_assign rfl) ?_
  refine runl_nil ?_
  refine run_ret_any Tryd.func59 (res1 Tryd.results59 rfl) ?_
  exact ⟨b6, w4, _, rfl, e4, hb6, sl4, ⟨a4, c4, rfl, hc4⟩, e6, n6, hn⟩
end Go.Proofs.YtcmbiaibocdfeaaDoor
