/- The walk of what has another key sign. -/
import Derived.Test.YtlgkdnmklgbhbaaGreatDoorMF
import Derived.Test.YtlgkdnmklgbhbaaGreatDoorMA
import Derived.Test.YtlgkdnmklgbhbaaGreatDoorMB
import Derived.Test.YtlgkdnmklgbhbaaGreatDoorMD
namespace Go.Proofs.YtlgkdnmklgbhbaaGreatDoor
open Go Go.Fw
set_option maxRecDepth 100000
def RepoS.nroot (S : RepoS) : RootP := rootP S.p0 (S.pub (S.gen + 1)) ((S.ver + 1 : Nat) : Int)
def RepoS.rtb (S : RepoS) : List UInt8 := encP 1 isRootP encRoot S.nroot
/-- Behind a rotation. -/
def RepoS.rotate (S : RepoS) : RepoS :=
  { S with gen := S.gen + 1, used1 := 0, ver := S.ver + 1, used0 := S.used0 + 1, roots := S.roots ++ [envF S.p0 (seedF S.seed 0) S.used0 S.rtb] }
theorem rolesF_32 {p0 p1 : List UInt8} (h0 : p0.length = 32) (h1 : p1.length = 32) : ∀ k ∈ rolesF p0 p1, k.keys.length ≤ 1 ∧ ∀ h ∈ k.keys, h.length = 32 := by
  intro k hk
  simp only [rolesF, List.mem_cons, List.not_mem_nil, or_false] at hk
  rcases hk with rfl | rfl | rfl | rfl <;> simp [h0, h1]
theorem nroot_len (S : RepoS) : (encRoot S.nroot).length ≤ 1000 := by
  have := encRoot_len (m := 1) (r := S.nroot) rfl (rolesF_32 (pubF_len _) (pubF_len _))
  omega
theorem rtb_len (S : RepoS) : S.rtb.length ≤ 20000 := by
  have h := nroot_len S
  have := encP_len (k := 1) (may := isRootP) (enc := encRoot) (x := S.nroot) (n := 1000) fun _ => h
  unfold RepoS.rtb
  omega
theorem rtb_eq (S : RepoS) : encP 1 isRootP encRoot S.nroot = S.rtb := rfl
attribute [irreducible] RepoS.rtb
theorem rc_45 {A B C : List Value} {k0 k1 gn l sg ro t0 t1 s0 s1 tg ld : Value} (hA : A.length = 32) (hB : B.length = 10) {v : Value} (h : C[0]? = some v) : (rcells A k0 k1 gn B C l sg ro t0 t1 s0 s1 tg ld)[45]? = some v := by
  have hC : 0 < C.length := (List.getElem?_eq_some_iff.1 h).1
  rw [← h]; simp [rcells, List.getElem?_append, hA, hB, hC]
theorem fz_root {lo : Nat} {w : World} {R : RootP} {cs : List Value} (h : RRootF lo w R cs) : Fz (fun k => k < lo ∨ w.heap.size ≤ k) (fun w => RRoot w R cs) w := fz_lo (fun _ e' => (h.keep e' (fun _ h => h)).r) (fun _ hk => hk)
theorem bnd_rotate {S : RepoS} (h : S.Bnd) (hr : S.roots.length < 1000) : S.rotate.Bnd := by
  have h1 := rtb_len S
  exact ⟨h.time, h.snap, fun E hE => by
    simp only [RepoS.rotate, List.mem_append, List.mem_singleton] at hE
    rcases hE with hE | rfl
    · exact h.roots E hE
    · exact envF_B (by omega), h.tgts, by simp only [RepoS.rotate, List.length_append, List.length_singleton]; omega, h.nt⟩
theorem sepR.key2 {rb k0 k1 kb m n : Nat} {lg rg gg : Int} (h : sepR rb k0 k1 lg rg gg n) (hk : m ≤ kb ∧ kb < n) (h1 : rb < m) (h2 : k0 < m) (h3 : lg < m) (h4 : gg < m) (h5 : rg = kb → False) : sepR rb k0 kb lg rg gg n := by
  obtain ⟨a1, a2, a3, a4, a5, a6, a7, a8, a9⟩ := h
  refine ⟨a1, by omega, by omega, a4, a5, hk.2, ?_, ?_, ?_⟩
  · exact a7.imp id fun ⟨b1, b2, b3, b4, b5, b6⟩ => ⟨b1, b2, b3, b4, by omega, b6⟩
  · exact a8.imp id fun ⟨b1, b2, b3, b4, b5, b6⟩ => ⟨b1, b2, b3, b4, h5, b6⟩
  · exact a9.imp id fun ⟨b1, b2, b3, b4, b5⟩ => ⟨b1, b2, b3, b4, by omega⟩
theorem rotate_done {F : Nat → Prop} {rb k0 k1 kb : Nat} {S : RepoS} {w wA wB w1 w2 : World} {lg rg gg g81 : Int} {fc lc c52 c79 : List Value} {lv rv v81 t0 t1 s0 s1 tv gv : Value} {lx rx gx : List Value} {l1 l2 m1 m2 : Nat} (r : RepoIn F rb S w k0 k1 lg rg gg fc lc lv rv t0 t1 s0 s1 tv gv lx rx gx)
    (hb : w2.heap[rb]? = some (.cells ⟨rcells (hcells S.seed) (.pointer (some ⟨k0, 0, none⟩)) (.pointer (some ⟨kb, 0, none⟩)) (.int .i64 ((S.gen + 1 : Nat) : Int)) fc c52 lv (.int .i64 (S.signed : Int)) v81 t0 t1 s0 s1 tv gv⟩ 108 (0, 0)))
    (eB : ExtB (fun k => k = rb ∨ k = k0 ∨ (k : Int) = rg) w w2) (ka0 : KeyAt (fun k => MutR F rb k0 k1 lg rg gg k ∨ w.heap.size ≤ k) k0 (seedF S.seed 0) (S.used0 + 1) w2) (kaB : KeyAt (fun k => k < wA.heap.size ∨ k = kb ∨ wB.heap.size ≤ k) kb (seedF S.seed ((S.gen + 1 : Nat) : Int)) 0 w2)
    (ol : Own w2 82 37 lv S.l.length lx lg) (og : Own w2 82 37 gv S.book.length gx gg) (hc52 : c52.length = 10)
    (ob81 : Own w2 32 2 v81 (S.roots.length + 1) (rx ++ c79) g81) (an81 : g81 = rg ∨ (w1.heap.size : Int) ≤ g81 ∧ g81 < w2.heap.size)
    (fzL : Fz (fun k => k < l1 ∨ m1 ≤ k) (fun w => RRoot w S.nroot c52) w2) (fzE : Fz (fun k => k < l2 ∨ m2 ≤ k) (fun w => REnv w (envF S.p0 (seedF S.seed 0) S.used0 S.rtb) c79) w2)
    (h1 : w.heap.size ≤ l1) (h2 : w.heap.size ≤ l2) (h3 : m1 ≤ w1.heap.size) (h4 : m2 ≤ w1.heap.size) (h5 : w.heap.size ≤ wA.heap.size) (h6 : wB.heap.size ≤ w1.heap.size) (h7 : w1.heap.size ≤ w2.heap.size) (hkb : w.heap.size ≤ kb) (hkl : kb < w1.heap.size) (hkb1 : l1 > kb) (hkb2 : l2 > kb) : RepoP F w rb S.rotate w2 := by
  have lrb := r.sep.rb_lt
  have lk0 := r.sep.k0_lt
  have lk1 := r.sep.k1_lt
  have llg := r.sep.lg_lt
  have lrg := r.sep.rg_lt
  have lgg := r.sep.gg_lt
  have hsz := eB.size
  have hF' : ∀ k, ¬ (F k ∨ (w.heap.size ≤ k ∧ k < w2.heap.size)) → ¬ F k ∧ (k < w.heap.size ∨ w2.heap.size ≤ k) := fun k h => ⟨fun hF => h (.inl hF), by
    by_cases h1 : w.heap.size ≤ k
    · by_cases h2 : k < w2.heap.size
      · exact absurd (.inr ⟨h1, h2⟩) h
      · exact .inr (by omega)
    · exact .inl (by omega)⟩
  have hM : ∀ k, MutR (fun k => F k ∨ (w.heap.size ≤ k ∧ k < w2.heap.size)) rb k0 kb lg g81 gg k → MutR F rb k0 k1 lg rg gg k ∨ w.heap.size ≤ k := by
    intro k hk
    rcases hk with hk | hk | hk | hk | hk | hk | hk
    · exact .inl (.inl (hF' k hk).1)
    · exact .inl (.inr (.inl hk))
    · exact .inl (.inr (.inr (.inl hk)))
    · exact .inr (by omega)
    · exact .inl (.inr (.inr (.inr (.inr (.inl hk)))))
    · rcases an81 with h | ⟨h, _⟩
      · exact .inl (.inr (.inr (.inr (.inr (.inr (.inl (by omega)))))))
      · exact .inr (by omega)
    · exact .inl (.inr (.inr (.inr (.inr (.inr (.inr hk))))))
  have hN : ∀ k, MutR (fun k => F k ∨ (w.heap.size ≤ k ∧ k < w2.heap.size)) rb k0 kb lg g81 gg k → k < w.heap.size ∨ w2.heap.size ≤ k ∨ w1.heap.size ≤ k ∨ k = kb := by
    intro k hk
    rcases hk with hk | hk | hk | hk | hk | hk | hk
    · have := (hF' k hk).2; omega
    all_goals omega
  have eM : ExtB (MutR F rb k0 k1 lg rg gg) w w2 := eB.mono (fun k _ hk => by
    rcases hk with h | h | h
    · exact .inr (.inl h)
    · exact .inr (.inr (.inl h))
    · exact .inr (.inr (.inr (.inr (.inr (.inl h))))))
  have hzo := r.hz.turn eM hM
  have hpo := r.pr.turn eM hM
  have fL := fzL.turn (ExtB.refl _ _) (fun k hk => by have := hN k hk; omega)
  have fE := fzE.turn (ExtB.refl _ _) (fun k hk => by have := hN k hk; omega)
  have hrl := r.orr.len
  refine ⟨fun k => F k ∨ (w.heap.size ≤ k ∧ k < w2.heap.size), ⟨k0, kb, lg, g81, gg, fc, c52, lv, v81, t0, t1, s0, s1, tv, gv, lx, rx ++ c79, gx, ⟨r.sd, r.fl, hc52, hb, ka0.turn (fun k hk => .inl (hM k hk)), kaB.turn (fun k hk => by have := hN k hk; show (_ ∨ _ ∨ _) ∨ _; omega), ol, r.pl.mono (fun _ _ _ h => flat_tgt _ _ _ _ h),
    by rw [show S.rotate.roots.length = S.roots.length + 1 from List.length_append]; exact ob81, fun v e2 => Parts.app (hpo v e2) hrl (pc (by rw [List.take_of_length_le (Nat.le_of_eq (renv_len (fE v e2)))]; exact fE v e2) pn), og, r.pg.mono (fun _ _ _ h => flat_tgt _ _ _ _ h), fun v e2 => ⟨(hzo v e2).1, fL v e2, (hzo v e2).2.2⟩, ?_, ?_, ?_⟩⟩, eB.mono (fun k _ hk => by
    rcases hk with h | h | h
    · exact r.inF _ (.inl h)
    · exact r.inF _ (.inr (.inl h))
    · exact r.inF _ (.inr (.inr (.inr (.inr (.inl h)))))), fun k hk => hk.imp id (·.1)⟩
  · exact (r.sep.roots (g := g81) hsz (an81.imp id fun h => ⟨by omega, h.2⟩)).key2 ⟨hkb, by omega⟩ lrb lk0 llg lgg (fun h => by
      rcases an81 with h' | ⟨h', _⟩ <;> omega)
  · intro k hk
    rcases hk with h | h | h | h | h | h
    · exact .inl (r.inF _ (.inl h))
    · exact .inl (r.inF _ (.inr (.inl h)))
    · exact .inr ⟨by omega, by omega⟩
    · exact .inl (r.inF _ (.inr (.inr (.inr (.inl h)))))
    · rcases an81 with h2 | ⟨h2, h3⟩
      · exact .inl (r.inF _ (.inr (.inr (.inr (.inr (.inl (by omega)))))))
      · exact .inr (by omega)
    · exact .inl (r.inF _ (.inr (.inr (.inr (.inr (.inr h))))))
  · intro k hk
    rcases hk with h | h
    · have := r.lt k h; omega
    · exact h.2

theorem rotate_used {F : Nat → Prop} {rb : Nat} {S : RepoS} {w : World} (h : RepoAt F rb S w) (hu : 16 ≤ S.used0) : Ret Tryz.prog 20 [.pointer (some ⟨rb, 0, none⟩)] w fun v w' => v = .int .i64 3 ∧ Ext w w' := by
  have e := ExtB.refl (fun _ => False) w
  obtain ⟨k0, k1, lg, rg, gg, fc, lc, lv, rv, t0, t1, s0, s1, tv, gv, lx, rx, gx, r⟩ := h
  have hA : (hcells S.seed).length = 32 := by rw [hcells_length]; exact r.sd
  have hb := r.hb
  have lrb := r.sep.rb_lt
  refine ret_of_run Tryz.func20 rfl Tryz.ntmps20 rfl ?_
  refine run_seq ?_
  refine run_region rfl ?_
  refine runl_ev (ev_assign rfl) ?_
  refine runl_nil ?_
  refine run_seq ?_
  refine run_block ?_
  refine run_seq ?_
  refine run_region rfl ?_
  refine runl_ev (ev_move rfl) ?_
  refine runl_ev (ev_eqlPn Tryz.underlying22 rfl rfl) ?_
  refine runl_ev (ev_assign rfl) ?_
  refine runl_nil ?_
  refine run_cond_false rfl (rfl) ?_
  refine run_seq ?_
  refine run_region rfl ?_
  refine runl_ev (ev_move rfl) ?_
  refine runl_ev (ev_nilCheck rfl) ?_
  refine runl_ev (ev_fieldAddr fld_108_1 rfl) ?_
  refine runl_ev (ev_indexAddrA (k := 0) arr_106 rfl rfl (by decide)) ?_
  refine runl_ev (ev_load1 cell_105 rfl (eqw ((cells_all hb).pick 32 (by omega) (rc_32 hA)))) ?_
  refine runl_op (t_call call_43 rfl (used_key (r.hk0.ext e))) ?_
  rintro _ w15 ⟨rfl, e15⟩
  have z15 := e15.size
  replace e := e.trans e15
  replace hb := e15.at hb
  refine runl_ev (ev_geq rfl rfl) ?_
  refine runl_ev (ev_assign rfl) ?_
  refine runl_nil ?_
  refine run_cond_true rfl (decide_eq_true (by omega)) ?_
  refine run_seq ?_
  refine run_region rfl ?_
  refine runl_ev (ev_assign rfl) ?_
  refine runl_nil ?_
  refine run_ret_any Tryz.func20 (res1 Tryz.results20 rfl) ?_
  exact ⟨rfl, e⟩
set_option maxHeartbeats 1000000 in
theorem rotate_repo {F : Nat → Prop} {rb : Nat} {S : RepoS} {w : World} (h : RepoAt F rb S w) (hu : S.used0 < 16) (hg : S.gen < 200) (hv : S.ver ≤ 1000000) (hrn : S.roots.length ≤ 1000) : Ret Tryz.prog 20 [.pointer (some ⟨rb, 0, none⟩)] w fun v w' => v = .int .i64 0 ∧ RepoP F w rb S.rotate w' := by
  obtain ⟨k0, k1, lg, rg, gg, fc, lc, lv, rv, t0, t1, s0, s1, tv, gv, lx, rx, gx, r⟩ := h
  have hA : (hcells S.seed).length = 32 := by rw [hcells_length]; exact r.sd
  have hb := r.hb
  have lrb := r.sep.rb_lt
  have eB := ExtB.refl (fun k => k = rb ∨ k = k0 ∨ (k : Int) = rg) w
  have ka0 : KeyAt (fun k => MutR F rb k0 k1 lg rg gg k ∨ w.heap.size ≤ k) k0 (seedF S.seed 0) S.used0 w := r.hk0.turn (fun k hk => hk)
  have lk0 := r.sep.k0_lt
  have n1 := r.sep.rb_k0
  have n2 := r.sep.rb_k0.symm
  have n3 := r.sep.lg_rb
  have n4 := r.sep.lg_k0
  have n5 := r.sep.gg_rb
  have n6 := r.sep.gg_k0
  have n7 := r.sep.rg_rb.symm
  have n8 := r.sep.rg_rb
  have n9 := r.sep.rg_k0
  have lrg := r.sep.rg_lt
  have ol := r.ol
  have og := r.og
  have orr := r.orr
  obtain ⟨-, hlast, -⟩ := r.hz.here
  have hlv : lc[0]? = some (.int .i64 (S.ver : Int)) := by obtain ⟨ks, h1, _⟩ := hlast; rw [h1]; rfl
  have hpub32 : S.p0.length = 32 := pubF_len _
  have hrt := rtb_len S
  refine ret_of_run Tryz.func20 rfl Tryz.ntmps20 rfl ?_
  refine run_seq ?_
  refine run_region rfl ?_
  refine runl_ev (ev_assign rfl) ?_
  refine runl_nil ?_
  refine run_seq ?_
  refine run_block ?_
  refine run_seq ?_
  refine run_region rfl ?_
  refine runl_ev (ev_move rfl) ?_
  refine runl_ev (ev_eqlPn Tryz.underlying22 rfl rfl) ?_
  refine runl_ev (ev_assign rfl) ?_
  refine runl_nil ?_
  refine run_cond_false rfl (rfl) ?_
  refine run_seq ?_
  refine run_region rfl ?_
  refine runl_ev (ev_move rfl) ?_
  refine runl_ev (ev_nilCheck rfl) ?_
  refine runl_ev (ev_fieldAddr fld_108_1 rfl) ?_
  refine runl_ev (ev_indexAddrA (k := 0) arr_106 rfl rfl (by decide)) ?_
  refine runl_ev (ev_load1 cell_105 rfl (eqw ((cells_all hb).pick 32 (by omega) (rc_32 hA)))) ?_
  refine runl_op (t_call call_43 rfl (used_key ka0)) ?_
  rintro _ w15 ⟨rfl, e15⟩
  have z15 := e15.size
  replace hb := e15.at hb
  replace eB := eB.trans e15.toB
  replace ka0 := ka0.ext e15
  replace ol := ol.ext e15
  replace og := og.ext e15
  replace orr := orr.ext e15
  refine runl_ev (ev_geq rfl rfl) ?_
  refine runl_ev (ev_assign rfl) ?_
  refine runl_nil ?_
  refine run_cond_false rfl (decide_eq_false (by omega)) ?_
  refine run_seq ?_
  refine run_region rfl ?_
  refine runl_ev (ev_move rfl) ?_
  refine runl_ev (ev_nilCheck rfl) ?_
  refine runl_ev (ev_fieldAddr fld_108_2 rfl) ?_
  refine runl_ev (ev_load1 cell_3 rfl (eqw ((cells_all hb).pick 34 (by omega) (rc_34 hA)))) ?_
  refine runl_ev (ev_geq rfl rfl) ?_
  refine runl_ev (ev_assign rfl) ?_
  refine runl_nil ?_
  refine run_cond_false rfl (decide_eq_false (by omega)) ?_
  refine run_skip ?_
  refine run_inBlock ?_
  refine run_seq ?_
  refine run_region rfl ?_
  refine runl_ev (ev_move rfl) ?_
  refine runl_ev (ev_nilCheck rfl) ?_
  refine runl_ev (ev_fieldAddr fld_108_2 rfl) ?_
  refine runl_ev (ev_load1 cell_3 rfl (eqw ((cells_all hb).pick 34 (by omega) (rc_34 hA)))) ?_
  refine runl_ev (ev_addK (((S.gen + 1 : Nat) : Int)) rfl rfl (by rw [show ((S.gen : Nat) : Int) + 1 = ((S.gen + 1 : Nat) : Int) by omega]; exact wrap_i64 (by omega) (by omega))) ?_
  refine runl_ev (ev_nilCheck rfl) ?_
  refine runl_ev (ev_fieldAddr fld_108_2 rfl) ?_
  refine runl_do (t_store1 sz_3 rfl rfl rfl rfl hb (by rw [rc_len hA r.fl r.ll]; decide)) ?_
  rintro _ v7_7 ⟨hq7_7, e7_7, z7_7⟩
  replace eB := eB.newB1 e7_7 (by first | exact .inl (by omega) | exact .inr rfl | exact .inr (.inl rfl) | exact .inr (.inr (by omega)) | (right; omega))
  replace ka0 := ka0.step e7_7 (fun h => by have h : _ = _ := h; first | contradiction | omega) (fun k hk0 hk => by have hk : _ = _ := hk; first | exact .inl (.inr (.inl hk)) | exact .inl (.inr (.inr (.inr (.inr (.inr (.inl hk)))))))
  replace ol := ol.ext1 e7_7 (by first | assumption | omega)
  replace og := og.ext1 e7_7 (by first | assumption | omega)
  replace orr := orr.ext1 e7_7 (by first | assumption | omega)
  replace hb := hq7_7
  clear hq7_7
  refine runl_nil ?_
  rw [show (0 + 34 : Nat) = 34 from rfl, rs_34 hA] at hb
  refine run_seq ?_
  refine run_draw mo (fun w' => Ext v7_7 w') [14] [(true, 0), (true, 1), (true, 2), (true, 3), (true, 4), (true, 5), (true, 6), (true, 7), (true, 8), (true, 11), (true, 12), (false, 9), (false, 10), (true, 13), (false, 14)] (by kernel_rfl) ?_
  intro wr8 er8
  have zr8 := er8.size
  have hsr8 := er8
  have hbp := er8.at hb
  have eBp := eB.trans er8.toB
  have ka0p := ka0.ext er8
  have olp := ol.ext er8
  have ogp := og.ext er8
  have orrp := orr.ext er8
  refine rund_ev hsr8 rfl (ev_move rfl) ?_
  refine rund_ev hsr8 rfl (ev_move rfl) ?_
  refine rund_ev hsr8 rfl (ev_nilCheck rfl) ?_
  refine rund_ev hsr8 rfl (ev_fieldAddr fld_108_0 rfl) ?_
  refine rund_ev hsr8 rfl (ev_loadA agg_25 hA rfl (fun wz hz => (cells_all (hz.at hb)).seg (hcells S.seed) 0 (by omega) rc_seed)) ?_
  refine rund_ev hsr8 rfl (ev_move rfl) ?_
  refine rund_ev hsr8 rfl (ev_nilCheck rfl) ?_
  refine rund_ev hsr8 rfl (ev_fieldAddr fld_108_2 rfl) ?_
  refine rund_ev hsr8 rfl (ev_load1 cell_3 rfl (fun wz hz => (cells_all (hz.at hb)).pick 34 (by omega) (rc_34 hA))) ?_
  refine rund_ev hsr8 rfl (ev_nilCheck rfl) ?_
  refine rund_ev hsr8 rfl (ev_fieldAddr fld_108_1 rfl) ?_
  refine rund_op rfl (t_call call_41 rfl (seed_any S.seed r.sd _ _)) ?_
  rintro _ w39 ⟨rfl, e39⟩
  have z39 := e39.size
  replace hbp := e39.at hbp
  replace eBp := eBp.trans e39.toB
  replace ka0p := ka0p.ext e39
  replace olp := olp.ext e39
  replace ogp := ogp.ext e39
  replace orrp := orrp.ext e39
  have hs39 := hsr8.trans e39
  refine ⟨hs39, ?_⟩
  refine rund_op rfl (t_call call_40 rfl (keynew_any _ (seedF_len _ _) _)) ?_
  rintro _ w40 ⟨kb, rfl, nkb, lkb, kaB, e40⟩
  have z40 := e40.size
  replace hbp := e40.at hbp
  replace eBp := eBp.trans e40.toB
  replace ka0p := ka0p.ext e40
  replace olp := olp.ext e40
  replace ogp := ogp.ext e40
  replace orrp := orrp.ext e40
  have hs40 := hs39.trans e40
  refine ⟨hs40, ?_⟩
  have kaBp := kaB
  refine rund_ev hs40 rfl (ev_indexAddrA (k := 1) arr_106 rfl rfl (by decide)) ?_
  refine rund_doT rfl rfl (t_store1 sz_105 rfl rfl rfl rfl hbp (by rw [rc_len hA r.fl r.ll]; decide)) ?_
  rintro _ v8_14 ⟨hq8_14, e8_14, z8_14⟩
  replace eBp := eBp.newB1 e8_14 (by first | exact .inl (by omega) | exact .inr rfl | exact .inr (.inl rfl) | exact .inr (.inr (by omega)) | (right; omega))
  replace ka0p := ka0p.step e8_14 (fun h => by have h : _ = _ := h; first | contradiction | omega) (fun k hk0 hk => by have hk : _ = _ := hk; first | exact .inl (.inr (.inl hk)) | exact .inl (.inr (.inr (.inr (.inr (.inr (.inl hk)))))))
  replace olp := olp.ext1 e8_14 (by first | assumption | omega)
  replace ogp := ogp.ext1 e8_14 (by first | assumption | omega)
  replace orrp := orrp.ext1 e8_14 (by first | assumption | omega)
  replace kaBp := kaBp.step e8_14 (fun h => by have h : _ = _ := h; first | contradiction | omega) (fun k hk0 hk => by have hk : _ = _ := hk; exact .inl (by omega))
  replace hbp := hq8_14
  clear hq8_14
  refine rund_nil ?_
  replace hb := hbp
  clear hbp
  replace eB := eBp
  clear eBp
  replace ka0 := ka0p
  clear ka0p
  replace ol := olp
  clear olp
  replace og := ogp
  clear ogp
  replace orr := orrp
  clear orrp
  replace kaB := kaBp
  clear kaBp
  rw [show (0 + 32 + 1 * 1 : Nat) = 33 from rfl, rs_33 hA] at hb
  refine run_seq ?_
  refine run_region rfl ?_
  refine runl_ev (ev_move rfl) ?_
  refine runl_ev (ev_move rfl) ?_
  refine runl_ev (ev_move rfl) ?_
  refine runl_ev (ev_nilCheck rfl) ?_
  refine runl_ev (ev_fieldAddr fld_108_4 rfl) ?_
  refine runl_ev (ev_fieldAddr fld_68_0 rfl) ?_
  refine runl_ev (ev_load1 cell_3 rfl (eqw ((cells_all hb).pick 45 (by omega) (rc_45 hA r.fl hlv)))) ?_
  refine runl_ev (ev_addK (((S.ver + 1 : Nat) : Int)) rfl rfl (by rw [show ((S.ver : Nat) : Int) + 1 = ((S.ver + 1 : Nat) : Int) by omega]; exact wrap_i64 (by omega) (by omega))) ?_
  refine runl_op (t_call call_42 rfl (rroot_new rb _ _ k0 kb _ _ _ _ _ _ _ _ hb (rc_32 hA) (rc_33 hA) ka0 kaB)) ?_
  rintro _ w52 ⟨c52, rfl, kf52, e52⟩
  have hc52 := rroot_len kf52.r
  replace kf52 : RRootF _ w52 S.nroot c52 := kf52
  have fzL := fz_root kf52
  have z52 := e52.size
  replace hb := e52.at hb
  replace eB := eB.trans e52.toB
  replace ka0 := ka0.ext e52
  replace ol := ol.ext e52
  replace og := og.ext e52
  replace orr := orr.ext e52
  replace kaB := kaB.ext e52
  refine runl_ev (ev_nilCheck rfl) ?_
  refine runl_ev (ev_fieldAddr fld_108_4 rfl) ?_
  refine runl_do (t_store sz_68 rfl rfl rfl hc52 hb (by rw [rc_len hA r.fl r.ll, hc52]; decide) (rroot_one kf52.r)) ?_
  rintro _ v9_11 ⟨hq9_11, e9_11, z9_11⟩
  replace eB := eB.newB1 e9_11 (by first | exact .inl (by omega) | exact .inr rfl | exact .inr (.inl rfl) | exact .inr (.inr (by omega)) | (right; omega))
  replace ka0 := ka0.step e9_11 (fun h => by have h : _ = _ := h; first | contradiction | omega) (fun k hk0 hk => by have hk : _ = _ := hk; first | exact .inl (.inr (.inl hk)) | exact .inl (.inr (.inr (.inr (.inr (.inr (.inl hk)))))))
  replace ol := ol.ext1 e9_11 (by first | assumption | omega)
  replace og := og.ext1 e9_11 (by first | assumption | omega)
  replace orr := orr.ext1 e9_11 (by first | assumption | omega)
  replace kaB := kaB.step e9_11 (fun h => by have h : _ = _ := h; first | contradiction | omega) (fun k hk0 hk => by have hk : _ = _ := hk; exact .inl (by omega))
  replace fzL := fzL.step e9_11 (fun k hk0 hk => by exact .inl (by omega))
  replace hb := hq9_11
  clear hq9_11
  refine runl_nil ?_
  rw [show (0 + 45 : Nat) = 45 from rfl, rs_last hA r.fl r.ll hc52] at hb
  refine run_seq ?_
  refine run_region rfl ?_
  refine runl_ev (ev_move rfl) ?_
  refine runl_ev (ev_nilCheck rfl) ?_
  refine runl_ev (ev_fieldAddr fld_108_4 rfl) ?_
  refine runl_ev (ev_loadA agg_68 hc52 rfl (eqw ((cells_all hb).seg c52 45 (by omega) (rc_last hA r.fl)))) ?_
  refine runl_op (t_call call_64 rfl (encroot_any S.nroot c52 _ fzL.here (fun k hk => Nat.le_trans (rolesF_32 (pubF_len _) (pubF_len _) k hk).1 (by decide)) (Nat.le_trans (nroot_len S) (by decide)))) ?_
  rintro _ w60 ⟨p60, rfl, o60⟩
  rw [rtb_eq] at o60
  have e60 := o60.ext
  have sn60 := slN_of o60.g
  have z60 := e60.size
  replace hb := e60.at hb
  replace eB := eB.trans e60.toB
  replace ka0 := ka0.ext e60
  replace ol := ol.ext e60
  replace og := og.ext e60
  replace orr := orr.ext e60
  replace kaB := kaB.ext e60
  replace fzL := fzL.step e60 (fun _ _ h => h.elim)
  refine runl_ev (ev_move rfl) ?_
  refine runl_ev (ev_extract rfl rfl) ?_
  refine runl_ev (ev_extract rfl rfl) ?_
  refine runl_ev (ev_assign rfl) ?_
  refine runl_ev (ev_assign rfl) ?_
  refine runl_nil ?_
  refine run_seq ?_
  refine run_region rfl ?_
  refine runl_ev (ev_move rfl) ?_
  refine runl_ev (ev_nilCheck rfl) ?_
  refine runl_ev (ev_fieldAddr fld_108_1 rfl) ?_
  refine runl_ev (ev_indexAddrA (k := 0) arr_106 rfl rfl (by decide)) ?_
  refine runl_ev (ev_load1 cell_105 rfl (eqw ((cells_all hb).pick 32 (by omega) (rc_32 hA)))) ?_
  refine runl_ev (ev_assign rfl) ?_
  refine runl_nil ?_
  refine run_seq ?_
  refine run_draw mo (fun w' => ExtB (fun k => k = k0) w60 w') [13, 14, 15, 16, 17] [(true, 0), (true, 1), (true, 2), (true, 3), (true, 4), (true, 5), (true, 6), (true, 8), (true, 9), (true, 10), (false, 7), (false, 11), (false, 12), (false, 13), (false, 14), (false, 15), (false, 16), (false, 17)] (by kernel_rfl) ?_
  intro wr12 er12
  have zr12 := er12.size
  have hsr12 : (fun w' => ExtB (fun k => k = k0) w60 w') wr12 := er12.toB
  have hbp := er12.at hb
  have eBp := eB.trans er12.toB
  have ka0p := ka0.ext er12
  have olp := ol.ext er12
  have ogp := og.ext er12
  have orrp := orr.ext er12
  have kaBp := kaB.ext er12
  have fzLp := fzL.step er12 (fun _ _ h => h.elim)
  have sn60p := sn60.step flat_byte er12 (fun _ h => h.elim) (.inl rfl)
  refine rund_ev hsr12 rfl (ev_move rfl) ?_
  refine rund_ev hsr12 rfl (ev_move rfl) ?_
  refine rund_ev hsr12 rfl (ev_nilCheck rfl) ?_
  refine rund_ev hsr12 rfl (ev_fieldAddr fld_108_7 rfl) ?_
  refine rund_ev hsr12 rfl (ev_fieldAddr fld_34_0 rfl) ?_
  refine rund_ev hsr12 rfl (ev_load1 cell_28 rfl (fun wz hz => (cells_all (hz.at1 hb (by first | assumption | omega))).pick 57 (by omega) (rc_57 hA r.fl hc52))) ?_
  refine rund_ev hsr12 rfl (ev_move rfl) ?_
  refine rund_ev hsr12 rfl (ev_move rfl) ?_
  refine rund_ev hsr12 rfl (ev_makeFunc rfl rfl) ?_
  refine rund_ev hsr12 rfl (ev_move rfl) ?_
  refine rund_op rfl (t_call call_49 rfl (public_key ka0p)) ?_
  rintro _ w75 ⟨rfl, e75⟩
  have z75 := e75.size
  replace hbp := e75.at hbp
  replace eBp := eBp.trans e75.toB
  replace ka0p := ka0p.ext e75
  replace olp := olp.ext e75
  replace ogp := ogp.ext e75
  replace orrp := orrp.ext e75
  replace kaBp := kaBp.ext e75
  replace fzLp := fzLp.step e75 (fun _ _ h => h.elim)
  replace sn60p := sn60p.step flat_byte e75 (fun _ h => h.elim) (.inl rfl)
  have hs75 := hsr12.trans e75.toB
  refine ⟨hs75, ?_⟩
  refine rund_op rfl (t_call call_48 rfl (sealed_any ka0p (.inl (.inr (.inr (.inl rfl)))) hu _ hpub32 _ _ _ sn60p (by omega) (by omega) (Nat.le_trans hrt (by decide)))) ?_
  rintro _ w79 ⟨c79, rfl, re79, ka79, e79⟩
  have hc79 := renv_len re79.r
  have ho79 := renv_one re79.r
  have fzE := fz_env re79
  have z79 := e79.size
  replace hbp := e79.at1 hbp (by first | assumption | omega)
  replace eBp := eBp.newB1 e79 (by first | exact .inl (by omega) | exact .inr rfl | exact .inr (.inl rfl) | exact .inr (.inr (by omega)) | (right; omega))
  replace olp := olp.ext1 e79 (by first | assumption | omega)
  replace ogp := ogp.ext1 e79 (by first | assumption | omega)
  replace orrp := orrp.ext1 e79 (by first | assumption | omega)
  replace kaBp := kaBp.step e79 (fun h => by have h : _ = _ := h; first | contradiction | omega) (fun k hk0 hk => by have hk : _ = _ := hk; exact .inl (by omega))
  replace fzLp := fzLp.step e79 (fun k hk0 hk => by exact .inl (by omega))
  replace sn60p := sn60p.step flat_byte e79 (fun k hk => by omega) (.inl rfl)
  have hs79 := hs75.newB1 e79 (by first | exact .inl (by omega) | exact .inr rfl | (right; simp; done) | (right; simp; omega))
  refine ⟨hs79, ?_⟩
  have ka79p := ka79
  have fzEp := fzE
  refine rund_op rfl (t_buildSlice (out := c79) Tryz.underlying28 sz_32 zero_32 rfl rfl (by decide) (by decide) rfl (fill_one rfl hc79 rfl)) ?_
  rintro _ w80 ⟨b80, rfl, hb80, e80, n80, l80⟩
  have z80 := e80.size
  replace hbp := e80.at hbp
  replace eBp := eBp.trans e80.toB
  replace olp := olp.ext e80
  replace ogp := ogp.ext e80
  replace orrp := orrp.ext e80
  replace kaBp := kaBp.ext e80
  replace fzLp := fzLp.step e80 (fun _ _ h => h.elim)
  replace ka79p := ka79p.ext e80
  replace fzEp := fzEp.step e80 (fun _ _ h => h.elim)
  have hs80 := hs79.trans e80.toB
  refine ⟨hs80, ?_⟩
  have hb80p := hb80
  refine rund_opT rfl rfl (t_append (news := c79) ef_28 rfl rfl orrp hc79 (cells_all hb80p) ho79 (by unfold maxLen; omega) (by omega)) ?_
  rintro v81 w81 ⟨g81, ap81⟩
  have ob81 := ap81.own
  have an81 := ap81.new
  obtain ⟨ba, bc, rfl⟩ := ob81.shape
  have z81 := ap81.ext.size
  replace hbp := ap81.ext.atG hbp (by first | assumption | omega)
  replace eBp := eBp.newBG ap81.ext (fun k hk => by first | exact .inl (by omega) | exact .inr hk | exact .inr (.inr hk) | exact .inr (.inr (by omega)))
  replace olp := olp.keep ap81.ext (fun k hk h => by first | omega | exact r.sep.lg_gg k hk h | exact r.sep.lg_rg k hk h | exact r.sep.rg_gg k h hk | exact r.sep.rg_gg k hk h)
  replace ogp := ogp.keep ap81.ext (fun k hk h => by first | omega | exact r.sep.lg_gg k hk h | exact r.sep.lg_rg k hk h | exact r.sep.rg_gg k h hk | exact r.sep.rg_gg k hk h)
  replace kaBp := kaBp.step ap81.ext (fun h => by have h : _ = _ := h; first | contradiction | omega) (fun k hk0 hk => by have hk : _ = _ := hk; exact .inl (by omega))
  replace fzLp := fzLp.step ap81.ext (fun k hk0 hk => by exact .inl (by omega))
  replace ka79p := ka79p.step ap81.ext (fun h => by have h : _ = _ := h; first | contradiction | omega) (fun k hk0 hk => by have hk : _ = _ := hk; first | exact .inl (.inr (.inl hk)) | exact .inl (.inr (.inr (.inr (.inr (.inr (.inl hk)))))))
  replace fzEp := fzEp.step ap81.ext (fun k hk0 hk => by exact .inl (by omega))
  have ob81p := ob81
  refine rund_opT rfl rfl (opT_ev (ev_nilCheck rfl)) ?_
  rintro _ _ ⟨rfl, rfl⟩
  refine rund_opT rfl rfl (opT_ev (ev_fieldAddr fld_108_7 rfl)) ?_
  rintro _ _ ⟨rfl, rfl⟩
  refine rund_opT rfl rfl (opT_ev (ev_fieldAddr fld_34_0 rfl)) ?_
  rintro _ _ ⟨rfl, rfl⟩
  refine rund_doT rfl rfl (t_store1 sz_28 rfl rfl rfl rfl hbp (by rw [rc_len hA r.fl hc52]; decide)) ?_
  rintro _ v12_17 ⟨hq12_17, e12_17, z12_17⟩
  replace eBp := eBp.newB1 e12_17 (by first | exact .inl (by omega) | exact .inr rfl | exact .inr (.inl rfl) | exact .inr (.inr (by omega)) | (right; omega))
  replace olp := olp.ext1 e12_17 (by first | assumption | omega)
  replace ogp := ogp.ext1 e12_17 (by first | assumption | omega)
  replace kaBp := kaBp.step e12_17 (fun h => by have h : _ = _ := h; first | contradiction | omega) (fun k hk0 hk => by have hk : _ = _ := hk; exact .inl (by omega))
  replace fzLp := fzLp.step e12_17 (fun k hk0 hk => by exact .inl (by omega))
  replace ka79p := ka79p.step e12_17 (fun h => by have h : _ = _ := h; first | contradiction | omega) (fun k hk0 hk => by have hk : _ = _ := hk; first | exact .inl (.inr (.inl hk)) | exact .inl (.inr (.inr (.inr (.inr (.inr (.inl hk)))))))
  replace fzEp := fzEp.step e12_17 (fun k hk0 hk => by exact .inl (by omega))
  replace ob81p := ob81p.ext1 e12_17 (by first | assumption | omega)
  replace hbp := hq12_17
  clear hq12_17
  refine rund_nil ?_
  replace hb := hbp
  clear hbp
  replace eB := eBp
  clear eBp
  replace ol := olp
  clear olp
  replace og := ogp
  clear ogp
  replace kaB := kaBp
  clear kaBp
  replace fzL := fzLp
  clear fzLp
  replace ka79 := ka79p
  clear ka79p
  replace fzE := fzEp
  clear fzEp
  replace ob81 := ob81p
  clear ob81p
  rw [show (0 + 57 : Nat) = 57 from rfl, rs_57 hA r.fl hc52] at hb
  refine run_seq ?_
  refine run_region rfl ?_
  refine runl_ev (ev_assign rfl) ?_
  refine runl_nil ?_
  refine run_ret_any Tryz.func20 (res1 Tryz.results20 rfl) ?_
  exact ⟨rfl, rotate_done (w1 := w79) r hb eB ka79 kaB ol og hc52 ob81 (an81.imp id fun h => ⟨by omega, by omega⟩) fzL fzE (by omega) (by omega) (by omega) (by omega) (by omega) (by omega) (by omega) (by omega) (by omega) (by omega) (by omega)⟩
end Go.Proofs.YtlgkdnmklgbhbaaGreatDoor
/- The law on a nil Repo, and what all laws on Repos ask of one. -/
namespace Go.Proofs.YtlgkdnmklgbhbaaGreatDoor
open Go Go.Fw
set_option maxRecDepth 100000
def hash1 (b : UInt8) : List UInt8 := b :: List.replicate 31 0
theorem hash1_len (b : UInt8) : (hash1 b).length = 32 := rfl
theorem rroot_ver {w : World} {r : RootP} {cs : List Value} (h : RRoot w r cs) : cs[0]? = some (.int .i64 r.ver) := by
  obtain ⟨ks, rfl, _⟩ := h
  rfl
theorem bundle_5 {S : RepoS} {cs : List Value} {w : World} (h : BundleC S cs w) : ∃ a c, cs[5]? = some (.slice a S.tgts.length c) := by
  obtain ⟨_, _, _, _, _, _, a, c, rfl, _⟩ := h
  exact ⟨a, c, rfl⟩

theorem known16_any (w : World) : Ret Tryz.prog 18 [] w fun r w' => r = .bool true ∧ Ext w w' := by
  have e := ExtB.refl (fun _ => False) w
  refine ret_of_run Tryz.func18 rfl Tryz.ntmps18 rfl ?_
  refine run_seq ?_
  refine run_region rfl ?_
  refine runl_ev (ev_assign rfl) ?_
  refine runl_nil ?_
  refine run_seq ?_
  refine run_region rfl ?_
  refine runl_ev (ev_build (out := hcells (hash1 1)) ps_25 zero_25 rfl rfl (rfl)) ?_
  refine runl_op (t_call call_12 rfl (reponew_any (hash1 1) rfl _)) ?_
  rintro _ w3 ⟨rb, rfl, at3, e3⟩
  have z3 := e3.size
  replace e := e.trans e3
  refine runl_ev (ev_assign rfl) ?_
  refine runl_nil ?_
  refine run_seq ?_
  refine run_region rfl ?_
  refine runl_ev (ev_move rfl) ?_
  refine runl_ev (ev_neqPn Tryz.underlying22 rfl rfl) ?_
  refine runl_ev (ev_move rfl) ?_
  refine runl_ev_g rfl rfl (rfl) (ev_move rfl) ?_
  refine runl_op_g rfl rfl (rfl) (t_call call_23 rfl (root_repo at3)) ?_
  rintro _ w8 ⟨c8, rfl, kf8, e8⟩
  have hc8 := rroot_ver kf8.r
  have at8 := at3.ext e8
  have z8 := e8.size
  replace e := e.trans e8
  refine runl_ev_g rfl rfl (rfl) (ev_field1 Tryz.underlying68 rfl cell_3 rfl (hc8)) ?_
  refine runl_ev_g rfl rfl (rfl) (ev_eqlI rfl rfl) ?_
  refine runl_ev (ev_pick rfl rfl rfl (if_pos (rfl))) ?_
  refine runl_ev (ev_move rfl) ?_
  refine runl_ev_g rfl rfl (decide_eq_true rfl) (ev_move rfl) ?_
  refine runl_op_g rfl rfl (decide_eq_true rfl) (t_call call_14 rfl (bundle_repo at8 (bnd_new _))) ?_
  rintro _ w14 ⟨c14, rfl, f14, e14⟩
  obtain ⟨a14, d14, h14⟩ := bundle_5 f14.here
  have at14 := at8.ext e14
  have z14 := e14.size
  replace e := e.trans e14
  refine runl_ev_g rfl rfl (decide_eq_true rfl) (ev_field1 Tryz.underlying34 rfl cell_28 rfl (h14)) ?_
  refine runl_ev_g rfl rfl (decide_eq_true rfl) (ev_lenL sl_28 rfl) ?_
  refine runl_ev_g rfl rfl (decide_eq_true rfl) (ev_eqlI rfl rfl) ?_
  refine runl_ev (ev_pick rfl rfl rfl (if_pos (rfl))) ?_
  refine runl_ev (ev_move rfl) ?_
  refine runl_ev_g rfl rfl (rfl) (ev_move rfl) ?_
  refine runl_op_g rfl rfl (rfl) (t_call call_13 rfl (sign_repo at14 0 1 (by decide) (by decide) (by decide) (by decide) (by decide) (by decide) (by decide))) ?_
  rintro _ w21 ⟨rfl, F21, at21, e21, hF21⟩
  have eN : Ext w w21 := e.new e21 (fun k hk => by omega)
  replace e := eN
  have z21 := e21.size
  refine runl_ev_g rfl rfl (rfl) (ev_eqlI rfl rfl) ?_
  refine runl_ev (ev_pick rfl rfl rfl (if_pos (rfl))) ?_
  refine runl_ev (ev_move rfl) ?_
  refine runl_ev_g rfl rfl (rfl) (ev_move rfl) ?_
  refine runl_op_g rfl rfl (rfl) (t_call call_14 rfl (bundle_repo at21 (bnd_sign (bnd_new _) (fun t ht => by simp [RepoS.new] at ht) (by decide) _))) ?_
  rintro _ w26 ⟨c26, rfl, f26, e26⟩
  obtain ⟨a26, d26, h26⟩ := bundle_5 f26.here
  have z26 := e26.size
  replace e := e.trans e26
  refine runl_ev_g rfl rfl (rfl) (ev_field1 Tryz.underlying34 rfl cell_28 rfl (h26)) ?_
  refine runl_ev_g rfl rfl (rfl) (ev_lenL sl_28 rfl) ?_
  refine runl_ev_g rfl rfl (rfl) (ev_eqlI rfl rfl) ?_
  refine runl_ev (ev_pick rfl rfl rfl (if_pos (rfl))) ?_
  refine runl_ev (ev_assign rfl) ?_
  refine runl_nil ?_
  refine run_ret_any Tryz.func18 (res1 Tryz.results18 rfl) ?_
  exact ⟨rfl, e⟩
theorem lawNothing_any (t : Tgt) (ht : t.wf) (hs : t.name.size ≤ 1099511627776 ∧ t.hw.size ≤ 1099511627776 ∧ t.ecu.size ≤ 1099511627776) (w : World) : Ret Tryz.prog 11 [.agg ⟨t.cells⟩] w fun r w' => r = .bool true ∧ Ext w w' := by
  have e := ExtB.refl (fun _ => False) w
  obtain ⟨z1, z2, z3⟩ := hs
  have hcl := Tgt.cells_length ht
  refine ret_of_run Tryz.func11 rfl Tryz.ntmps11 rfl ?_
  refine run_seq ?_
  refine run_region rfl ?_
  refine runl_op (t_boxA rfl) ?_
  rintro _ w1 ⟨b1, rfl, hb1, e1, n1, l1⟩
  have z1 := e1.size
  replace e := e.trans e1
  refine runl_ev (ev_assign rfl) ?_
  refine runl_nil ?_
  refine run_seq ?_
  refine run_seq ?_
  refine run_region rfl ?_
  refine runl_ev (ev_fieldAddr fld_82_0 rfl) ?_
  refine runl_ev (ev_load1 cell_9 rfl (eqw (cell_blk hb1 rfl))) ?_
  refine runl_ev (ev_lenS str_9 rfl) ?_
  refine runl_ev (ev_fieldAddr fld_82_3 rfl) ?_
  refine runl_ev (ev_load1 cell_9 rfl (eqw ((cells_all hb1).pick 34 rfl (Tgt.c34 ht)))) ?_
  refine runl_ev (ev_lenS str_9 rfl) ?_
  refine runl_ev (ev_add rfl rfl (by omega) (by omega)) ?_
  refine runl_ev (ev_fieldAddr fld_82_5 rfl) ?_
  refine runl_ev (ev_load1 cell_9 rfl (eqw ((cells_all hb1).pick 36 rfl (Tgt.c36 ht)))) ?_
  refine runl_ev (ev_lenS str_9 rfl) ?_
  refine runl_ev (ev_add rfl rfl (by omega) (by omega)) ?_
  refine runl_ev (ev_gtr rfl rfl) ?_
  refine runl_nil ?_
  refine run_dcond rfl (fun h0 => ?_) (fun h0 => ?_)
  · refine run_seq ?_
    refine run_region rfl ?_
    refine runl_ev (ev_assign rfl) ?_
    refine runl_nil ?_
    refine run_ret_any Tryz.func11 (res1 Tryz.results11 rfl) ?_
    exact ⟨rfl, e⟩
  · refine run_skip ?_
    refine run_seq ?_
    refine run_region rfl ?_
    refine runl_ev (ev_assign rfl) ?_
    refine runl_nil ?_
    refine run_seq ?_
    refine run_region rfl ?_
    refine runl_ev (ev_move rfl) ?_
    refine runl_op (t_call call_25 rfl (used_nil _)) ?_
    rintro _ w20 ⟨rfl, e20⟩
    have z20 := e20.size
    replace e := e.trans e20
    replace hb1 := e20.at hb1
    refine runl_ev (ev_move rfl) ?_
    refine runl_ev (ev_extract rfl rfl) ?_
    refine runl_ev (ev_extract rfl rfl) ?_
    refine runl_ev (ev_assign rfl) ?_
    refine runl_ev (ev_assign rfl) ?_
    refine runl_nil ?_
    refine run_seq ?_
    refine run_region rfl ?_
    refine runl_ev (ev_move rfl) ?_
    refine runl_ev (ev_loadA agg_82 hcl rfl (eqw (cells_all hb1))) ?_
    refine runl_op (t_call call_34 rfl (publish_nil t _)) ?_
    rintro _ w25 ⟨rfl, e25⟩
    have z25 := e25.size
    replace e := e.trans e25
    replace hb1 := e25.at hb1
    refine runl_ev (ev_eqlI rfl rfl) ?_
    refine runl_ev (ev_move rfl) ?_
    refine runl_ev_g rfl rfl (rfl) (ev_move rfl) ?_
    refine runl_ev_g rfl rfl (rfl) (ev_fieldAddr fld_82_0 rfl) ?_
    refine runl_ev_g rfl rfl (rfl) (ev_load1 cell_9 rfl (eqw (cell_blk hb1 rfl))) ?_
    refine runl_ev_g rfl rfl (rfl) (ev_fieldAddr fld_82_5 rfl) ?_
    refine runl_ev_g rfl rfl (rfl) (ev_load1 cell_9 rfl (eqw ((cells_all hb1).pick 36 rfl (Tgt.c36 ht)))) ?_
    refine runl_op_g rfl rfl (rfl) (t_call call_37 rfl (remove_nil _ _ _)) ?_
    rintro _ w33 ⟨rfl, e33⟩
    have z33 := e33.size
    replace e := e.trans e33
    replace hb1 := e33.at hb1
    refine runl_ev_g rfl rfl (rfl) (ev_eqlI rfl rfl) ?_
    refine runl_ev (ev_pick rfl rfl rfl (if_pos (rfl))) ?_
    refine runl_ev (ev_move rfl) ?_
    refine runl_ev_g rfl rfl (rfl) (ev_move rfl) ?_
    refine runl_op_g rfl rfl (rfl) (t_call call_13 rfl (sign_nil 0 1 _)) ?_
    rintro _ w38 ⟨rfl, e38⟩
    have z38 := e38.size
    replace e := e.trans e38
    replace hb1 := e38.at hb1
    refine runl_ev_g rfl rfl (rfl) (ev_eqlI rfl rfl) ?_
    refine runl_ev (ev_pick rfl rfl rfl (if_pos (rfl))) ?_
    refine runl_ev (ev_move rfl) ?_
    refine runl_ev_g rfl rfl (rfl) (ev_move rfl) ?_
    refine runl_op_g rfl rfl (rfl) (t_call call_20 rfl (rotate_nil _)) ?_
    rintro _ w43 ⟨rfl, e43⟩
    have z43 := e43.size
    replace e := e.trans e43
    replace hb1 := e43.at hb1
    refine runl_ev_g rfl rfl (rfl) (ev_eqlI rfl rfl) ?_
    refine runl_ev (ev_pick rfl rfl rfl (if_pos (rfl))) ?_
    refine runl_ev (ev_move rfl) ?_
    refine runl_ev_g rfl rfl (rfl) (ev_move rfl) ?_
    refine runl_op_g rfl rfl (rfl) (t_call call_31 rfl (targets_nil _)) ?_
    rintro _ w48 ⟨rfl, e48⟩
    have z48 := e48.size
    replace e := e.trans e48
    replace hb1 := e48.at hb1
    refine runl_ev_g rfl rfl (rfl) (ev_lenL sl_45 rfl) ?_
    refine runl_ev_g rfl rfl (rfl) (ev_eqlI rfl rfl) ?_
    refine runl_ev (ev_pick rfl rfl rfl (if_pos (rfl))) ?_
    refine runl_ev (ev_move rfl) ?_
    refine runl_ev_g rfl rfl (rfl) (ev_move rfl) ?_
    refine runl_op_g rfl rfl (rfl) (t_call call_39 rfl (ledger_nil _)) ?_
    rintro _ w54 ⟨rfl, e54⟩
    have z54 := e54.size
    replace e := e.trans e54
    replace hb1 := e54.at hb1
    refine runl_ev_g rfl rfl (rfl) (ev_lenL sl_45 rfl) ?_
    refine runl_ev_g rfl rfl (rfl) (ev_eqlI rfl rfl) ?_
    refine runl_ev (ev_pick rfl rfl rfl (if_pos (rfl))) ?_
    refine runl_ev (ev_move rfl) ?_
    refine runl_ev_g rfl rfl (rfl) (ev_move rfl) ?_
    refine runl_op_g rfl rfl (rfl) (t_call call_14 rfl (bundle_nil _)) ?_
    rintro _ w60 ⟨rfl, e60⟩
    have z60 := e60.size
    replace e := e.trans e60
    replace hb1 := e60.at hb1
    refine runl_ev_g rfl rfl (rfl) (ev_field1 Tryz.underlying34 rfl cell_28 rfl (rfl)) ?_
    refine runl_ev_g rfl rfl (rfl) (ev_lenL sl_28 rfl) ?_
    refine runl_ev_g rfl rfl (rfl) (ev_eqlI rfl rfl) ?_
    refine runl_ev (ev_pick rfl rfl rfl (if_pos (rfl))) ?_
    refine runl_ev (ev_move rfl) ?_
    refine runl_ev_g rfl rfl (rfl) (ev_move rfl) ?_
    refine runl_op_g rfl rfl (rfl) (t_call call_23 rfl (root_nil _)) ?_
    rintro _ w67 ⟨rfl, e67⟩
    have z67 := e67.size
    replace e := e.trans e67
    replace hb1 := e67.at hb1
    refine runl_ev_g rfl rfl (rfl) (ev_field1 Tryz.underlying68 rfl cell_3 rfl (rfl)) ?_
    refine runl_ev_g rfl rfl (rfl) (ev_eqlI rfl rfl) ?_
    refine runl_ev (ev_pick rfl rfl rfl (if_pos (rfl))) ?_
    refine runl_ev (ev_move rfl) ?_
    refine runl_ev_g rfl rfl (rfl) (ev_move rfl) ?_
    refine runl_ev_g rfl rfl (rfl) (ev_move rfl) ?_
    refine runl_ev_g rfl rfl (rfl) (ev_add rfl rfl (by omega) (by omega)) ?_
    refine runl_ev_g rfl rfl (rfl) (ev_eqlI rfl rfl) ?_
    refine runl_ev (ev_pick rfl rfl rfl (if_pos (rfl))) ?_
    refine runl_ev (ev_move rfl) ?_
    refine runl_op_g rfl rfl (rfl) (t_call call_18 rfl (known16_any _)) ?_
    rintro _ w78 ⟨rfl, e78⟩
    have z78 := e78.size
    replace e := e.trans e78
    replace hb1 := e78.at hb1
    refine runl_ev (ev_pick rfl rfl rfl (if_pos (rfl))) ?_
    refine runl_ev (ev_assign rfl) ?_
    refine runl_nil ?_
    refine run_ret_any Tryz.func11 (res1 Tryz.results11 rfl) ?_
    exact ⟨rfl, e⟩
end Go.Proofs.YtlgkdnmklgbhbaaGreatDoor
/- The walks of a list of targets: how two stand, where one stands, how one comes in and goes. -/
namespace Go.Proofs.YtlgkdnmklgbhbaaGreatDoor
open Go Go.Fw
set_option maxRecDepth 100000
theorem run_cmp (a b : ByteArray) (w : World) : (callFunc 216 ⟨[.string a, .string b]⟩).run Tryz.prog w = .ok (.value (.int .i64 (cmpB a b))) w := by
  have h := run_callFunc_extern (P := Tryz.prog) (e := Extern.BytealgCompare.compare) Tryz.func216 (by kernel_rfl) (by kernel_rfl) (by kernel_rfl) (by kernel_rfl) ⟨[.string a, .string b]⟩ w
  rw [h, Lib.run_compareString]
  rfl
theorem shr1_raw (n : Nat) : (n : Int).fdiv (2 ^ (min (1 : Int).toNat IntKind.u64.bits)) = ((n / 2 : Nat) : Int) := by
  rw [show ((2 : Int) ^ (min (1 : Int).toNat IntKind.u64.bits)) = 2 by decide, Int.fdiv_eq_ediv_of_nonneg _ (by decide)]
  omega
def orF : List Int → Int
  | [] => 0
  | x :: r => if x = 0 then orF r else x
theorem or_ord (a b : Tgt) : orF [cmpB a.name b.name, cmpB a.ecu b.ecu] = ordF a b := by
  unfold ordF keyF
  simp only [orF]
  split
  · split
    · rename_i h; exact h.symm
    · rfl
  · rfl
theorem bs_lo {l : List Tgt} {t : Tgt} (hs : Srt l) {m : Nat} (hm : m < l.length) (h : ordF l[m] t < 0) : ∀ k (hk : k < l.length), k < m + 1 → ordF l[k] t < 0 := by
  intro k hk hlt
  by_cases e : k = m
  · subst e; exact h
  · exact ordF_trans (hs.get hk hm (by omega)) h
theorem bs_hi {l : List Tgt} {t : Tgt} (hs : Srt l) {m : Nat} (hm : m < l.length) (h : ¬ ordF l[m] t < 0) : ∀ k (hk : k < l.length), m ≤ k → ¬ ordF l[k] t < 0 := by
  intro k hk hle h2
  by_cases e : k = m
  · subst e; exact h h2
  · exact h (ordF_trans (hs.get hm hk (by omega)) h2)
theorem ovl_apart {w : World} {b b2 o o2 n c n2 c2 : Nat} {cs cs2 : List Value} (hne : b ≠ b2) (h1 : w.heap[b]? = some (.cells ⟨cs⟩ 82 (0, 0))) (h2 : w.heap[b2]? = some (.cells ⟨cs2⟩ 82 (0, 0))) (hl : cs2.length ≠ 0) :
    (callFunc 151 ⟨[.slice (some ⟨b, o, none⟩) n c, .slice (some ⟨b2, o2, none⟩) n2 c2]⟩).run Tryz.prog w = .ok (.value (.bool false)) w := by
  have h := run_callFunc_extern (P := Tryz.prog) (e := Extern.SlicesOverlaps.overlaps #[45, 45] #[4]) Tryz.func151 (by kernel_rfl) (by kernel_rfl) (by kernel_rfl) (by kernel_rfl) ⟨[.slice (some ⟨b, o, none⟩) n c, .slice (some ⟨b2, o2, none⟩) n2 c2]⟩ w
  rw [h]
  have hz : ∀ w, (Go.sizeOf 82).run Tryz.prog w = .ok 37 w := by
    intro w
    have hq := sz_82
    cases hi : Tryz.prog.info? 82 with
    | none => simp [hi] at hq
    | some i =>
      have hs : i.size = 37 := by simpa [hi] using hq
      simp [sizeOf, typeInfo, hi, hs]
  rw [Lib.run_overlaps_apart (P := Tryz.prog) w 45 4 82 Tryz.underlying45 37 hz ⟨b, o, none⟩ ⟨b2, o2, none⟩ n c n2 c2 hne 82 82 cs.length cs2.length (by simp [World.shape?, h1]) (by simp [World.shape?, h2]) hl (by simp [World.frozen?, h1]) (by simp [World.frozen?, h1])]
  rfl
theorem ins_end (l : List Tgt) (t : Tgt) : tcs l ++ t.cells = tcs (insF l l.length t) := by
  unfold insF
  rw [List.take_length, List.drop_length, tcs_app]
  simp [tcs]
theorem tcs_ins (l : List Tgt) (i : Nat) (t : Tgt) : tcs (insF l i t) = tcs (l.take i) ++ (t.cells ++ tcs (l.drop i)) := by
  unfold insF
  rw [tcs_app]
  simp [tcs]
theorem cut_drop {l : List Tgt} {c : List Value} (hwf : ∀ t ∈ l, t.wf) (hct : c.take (l.length * 37) = tcs l) (i : Nat) (hi : i ≤ l.length) : tcs (l.drop i) = (c.drop (i * 37)).take (tcs (l.drop i)).length := by
  have h1 : (tcs (l.drop i)).length = (l.length - i) * 37 := by rw [tcs_len fun t ht => hwf t (List.mem_of_mem_drop ht), List.length_drop]
  rw [h1, ← tcs_drop hwf i hi, ← hct, List.drop_take]
  congr 1
  omega
theorem cut_take {l : List Tgt} {c : List Value} (hwf : ∀ t ∈ l, t.wf) (hct : c.take (l.length * 37) = tcs l) (i : Nat) (hi : i ≤ l.length) : c.take (i * 37) = tcs (l.take i) := by
  rw [← tcs_take hwf i hi, ← hct, List.take_take, Nat.min_eq_left (by omega)]
theorem drop_len {l : List Tgt} (hwf : ∀ t ∈ l, t.wf) (i : Nat) : (tcs (l.drop i)).length = (l.length - i) * 37 := by rw [tcs_len fun t ht => hwf t (List.mem_of_mem_drop ht), List.length_drop]
theorem take_len {l : List Tgt} (hwf : ∀ t ∈ l, t.wf) (i : Nat) (hi : i ≤ l.length) : (tcs (l.take i)).length = i * 37 := by rw [tcs_len fun t ht => hwf t (List.mem_of_mem_take ht), List.length_take, Nat.min_eq_left hi]

theorem cmpstr_any (a b : ByteArray) (w : World) : Ret Tryz.prog 202 [.string a, .string b] w fun r w' => r = .int .i64 (cmpB a b) ∧ Ext w w' := by
  have e := ExtB.refl (fun _ => False) w
  refine ret_of_run Tryz.func202 rfl Tryz.ntmps202 rfl ?_
  refine run_seq ?_
  refine run_region rfl ?_
  refine runl_ev (ev_assign rfl) ?_
  refine runl_nil ?_
  refine run_seq ?_
  refine run_region rfl ?_
  refine runl_ev (ev_move rfl) ?_
  refine runl_ev (ev_move rfl) ?_
  refine runl_ev (ev_callX (vs := [.string a, .string b]) (v := .int .i64 (cmpB a b)) rfl (fun w _ => run_cmp a b w)) ?_
  refine runl_ev (ev_assign rfl) ?_
  refine runl_nil ?_
  refine run_ret_any Tryz.func202 (res1 Tryz.results202 rfl) ?_
  exact ⟨rfl, e⟩
theorem compare_any (a b : ByteArray) (w : World) : Ret Tryz.prog 147 [.string a, .string b] w fun r w' => r = .int .i64 (cmpB a b) ∧ Ext w w' := by
  have e := ExtB.refl (fun _ => False) w
  refine ret_of_run Tryz.func147 rfl Tryz.ntmps147 rfl ?_
  refine run_seq ?_
  refine run_region rfl ?_
  refine runl_ev (ev_assign rfl) ?_
  refine runl_nil ?_
  refine run_seq ?_
  refine run_region rfl ?_
  refine runl_ev (ev_move rfl) ?_
  refine runl_ev (ev_move rfl) ?_
  refine runl_op (t_call call_202 rfl (cmpstr_any a b _)) ?_
  rintro _ w7 ⟨rfl, e7⟩
  have z7 := e7.size
  replace e := e.trans e7
  refine runl_ev (ev_assign rfl) ?_
  refine runl_nil ?_
  refine run_ret_any Tryz.func147 (res1 Tryz.results147 rfl) ?_
  exact ⟨rfl, e⟩
theorem or_any (l : List Int) (b cap : Nat) (T : TypeId) (w : World) (hb : w.heap[b]? = some (.cells ⟨l.map (.int .i64)⟩ T (0, 0))) (hl : l.length ≤ 1000) : Ret Tryz.prog 150 [.slice (some ⟨b, 0, none⟩) l.length cap] w fun r w' => r = .int .i64 (orF l) ∧ Ext w w' := by
  have e := ExtB.refl (fun _ => False) w
  refine ret_of_run Tryz.func150 rfl Tryz.ntmps150 rfl ?_
  refine run_seq ?_
  refine run_region rfl ?_
  refine runl_ev (ev_assign rfl) ?_
  refine runl_nil ?_
  refine run_seq ?_
  refine run_region rfl ?_
  refine runl_ev (ev_assign rfl) ?_
  refine runl_nil ?_
  refine run_seq ?_
  refine run_seq ?_
  refine run_region rfl ?_
  refine runl_ev (ev_move rfl) ?_
  refine runl_ev (ev_lenL sl_248 rfl) ?_
  refine runl_ev (ev_move rfl) ?_
  refine runl_nil ?_
  refine run_block ?_
  refine run_loop (ι := Nat) (fun k => [(3, .int .i64 0), (6, .slice (some ⟨b, 0, none⟩) l.length cap), (7, .int .i64 (l.length : Int)), (8, .int .i64 (k : Int))]) (fun k w' => k ≤ l.length ∧ orF (l.drop k) = orF l ∧ Ext w w') (fun k => l.length - k) (0) ⟨rfl, rfl, rfl, rfl, trivial⟩ (⟨Nat.zero_le _, rfl, e⟩) ?_
  clear e
  intro k w1 ⟨hk, ho, e⟩ IH
  refine run_seq ?_
  refine run_region rfl ?_
  refine runl_ev (ev_lss rfl rfl) ?_
  refine runl_nil ?_
  refine run_seq ?_
  refine run_dcond rfl (fun h0 => ?_) (fun h0 => ?_)
  · have hk1 : k < l.length := by omega
    rw [List.drop_eq_getElem_cons hk1] at ho
    refine run_skip ?_
    refine run_seq ?_
    refine run_block ?_
    refine run_seq ?_
    refine run_region rfl ?_
    refine runl_ev (ev_indexAddr (k := k) el_248 rfl rfl (by omega)) ?_
    refine runl_ev (ev_load1 cell_3 rfl (eqw ((cells_all (e.at hb)).pick (v := .int .i64 l[k]) k (by omega) (by rw [List.getElem?_map, List.getElem?_eq_getElem hk1]; rfl)))) ?_
    refine runl_ev (ev_assign rfl) ?_
    refine runl_nil ?_
    refine run_seq ?_
    refine run_region rfl ?_
    refine runl_ev (ev_move rfl) ?_
    refine runl_ev (ev_move rfl) ?_
    refine runl_ev (ev_neqI rfl rfl) ?_
    refine runl_nil ?_
    refine run_cond_split rfl (fun h1 => ?_) (fun h1 => ?_)
    · have h2 : ¬ l[k] = 0 := by simpa using h1
      refine run_seq ?_
      refine run_region rfl ?_
      refine runl_ev (ev_move rfl) ?_
      refine runl_ev (ev_assign rfl) ?_
      refine runl_nil ?_
      refine run_ret_any Tryz.func150 (res1 Tryz.results150 rfl) ?_
      refine ⟨?_, e⟩
      rw [← ho, orF, if_neg h2]
    · have h2 : l[k] = 0 := by simpa using h1
      rw [orF, if_pos h2] at ho
      refine run_skip ?_
      refine run_inBlock ?_
      refine run_region rfl ?_
      refine runl_ev (ev_add rfl rfl (by omega) (by omega)) ?_
      refine runl_ev (ev_move rfl) ?_
      refine runl_nil ?_
      exact IH (k + 1) _ _ (by omega) ⟨rfl, rfl, rfl, rfl, trivial⟩ ⟨hk1, ho, e⟩
  · obtain rfl : k = l.length := by omega
    rw [List.drop_length] at ho
    refine run_exit rfl ?_
    refine run_seq ?_
    refine run_region rfl ?_
    refine runl_ev (ev_move rfl) ?_
    refine runl_ev (ev_assign rfl) ?_
    refine runl_nil ?_
    refine run_ret_any Tryz.func150 (res1 Tryz.results150 rfl) ?_
    exact ⟨by rw [← ho]; rfl, e⟩
theorem order_any (a b : Tgt) (ha : a.wf) (hb : b.wf) (w : World) : Ret Tryz.prog 84 [.agg ⟨a.cells⟩, .agg ⟨b.cells⟩] w fun r w' => r = .int .i64 (ordF a b) ∧ Ext w w' := by
  have e := ExtB.refl (fun _ => False) w
  refine ret_of_run Tryz.func84 rfl Tryz.ntmps84 rfl ?_
  refine run_seq ?_
  refine run_region rfl ?_
  refine runl_op (t_boxA rfl) ?_
  rintro _ w2 ⟨b2, rfl, hb2, e2, n2, l2⟩
  have z2 := e2.size
  replace e := e.trans e2
  refine runl_op (t_boxA rfl) ?_
  rintro _ w3 ⟨b3, rfl, hb3, e3, n3, l3⟩
  have z3 := e3.size
  replace e := e.trans e3
  replace hb2 := e3.at hb2
  refine runl_ev (ev_assign rfl) ?_
  refine runl_nil ?_
  refine run_seq ?_
  refine run_draw mo (fun w' => Ext w3 w') [] [(true, 0), (true, 1), (true, 2), (true, 3), (true, 5), (true, 6), (true, 7), (true, 8), (false, 4), (false, 9), (false, 10), (false, 11), (true, 12)] (by kernel_rfl) ?_
  intro wr1 er1
  have zr1 := er1.size
  have hsr1 := er1
  have ep := e.trans er1
  have hb2p := er1.at hb2
  have hb3p := er1.at hb3
  refine rund_ev hsr1 rfl (ev_fieldAddr fld_82_0 rfl) ?_
  refine rund_ev hsr1 rfl (ev_load1 cell_9 rfl (fun wz hz => (cells_all (hz.at hb2)).pick 0 rfl a.c0)) ?_
  refine rund_ev hsr1 rfl (ev_fieldAddr fld_82_0 rfl) ?_
  refine rund_ev hsr1 rfl (ev_load1 cell_9 rfl (fun wz hz => (cells_all (hz.at hb3)).pick 0 rfl b.c0)) ?_
  refine rund_ev hsr1 rfl (ev_fieldAddr fld_82_5 rfl) ?_
  refine rund_ev hsr1 rfl (ev_load1 cell_9 rfl (fun wz hz => (cells_all (hz.at hb2)).pick 36 rfl (Tgt.c36 ha))) ?_
  refine rund_ev hsr1 rfl (ev_fieldAddr fld_82_5 rfl) ?_
  refine rund_ev hsr1 rfl (ev_load1 cell_9 rfl (fun wz hz => (cells_all (hz.at hb3)).pick 36 rfl (Tgt.c36 hb))) ?_
  refine rund_op rfl (t_call call_147 rfl (compare_any a.name b.name _)) ?_
  rintro _ w9 ⟨rfl, e9⟩
  have z9 := e9.size
  replace ep := ep.trans e9
  replace hb2p := e9.at hb2p
  replace hb3p := e9.at hb3p
  have hs9 := hsr1.trans e9
  refine ⟨hs9, ?_⟩
  refine rund_op rfl (t_call call_147 rfl (compare_any a.ecu b.ecu _)) ?_
  rintro _ w14 ⟨rfl, e14⟩
  have z14 := e14.size
  replace ep := ep.trans e14
  replace hb2p := e14.at hb2p
  replace hb3p := e14.at hb3p
  have hs14 := hs9.trans e14
  refine ⟨hs14, ?_⟩
  refine rund_op rfl (t_buildSlice (out := [.int .i64 (cmpB a.name b.name), .int .i64 (cmpB a.ecu b.ecu)]) Tryz.underlying248 sz_3 zero_3 rfl rfl (by decide) (by decide) rfl (rfl)) ?_
  rintro _ w15 ⟨b15, rfl, hb15, e15, n15, l15⟩
  have z15 := e15.size
  replace ep := ep.trans e15
  replace hb2p := e15.at hb2p
  replace hb3p := e15.at hb3p
  have hs15 := hs14.trans e15
  refine ⟨hs15, ?_⟩
  have hb15p := hb15
  refine rund_op rfl (t_call call_150 rfl (or_any [cmpB a.name b.name, cmpB a.ecu b.ecu] _ 2 _ _ hb15p (by simp))) ?_
  rintro _ w16 ⟨rfl, e16⟩
  have z16 := e16.size
  replace ep := ep.trans e16
  replace hb2p := e16.at hb2p
  replace hb3p := e16.at hb3p
  replace hb15p := e16.at hb15p
  have hs16 := hs15.trans e16
  refine ⟨hs16, ?_⟩
  refine rund_ev hs16 rfl (ev_assign rfl) ?_
  refine rund_nil ?_
  replace e := ep
  clear ep
  replace hb2 := hb2p
  clear hb2p
  replace hb3 := hb3p
  clear hb3p
  replace hb15 := hb15p
  clear hb15p
  refine run_ret_any Tryz.func84 (res1 Tryz.results84 rfl) ?_
  exact ⟨by rw [or_ord], e⟩
theorem bsearch_any (l : List Tgt) (t : Tgt) (ht : t.wf) (hs : Srt l) (hl : l.length ≤ 1000) (a : Option Addr) (n c : Nat) (w : World) (hsl : SlAt 37 RTgt w (.slice a n c) l) : Ret Tryz.prog 83 [.slice a n c, .agg ⟨t.cells⟩, .func (.func 84) #[] #[]] w fun r w' => r = .tuple #[.int .i64 (posF l t : Int), .bool (fndF l t)] ∧ Ext w w' := by
  have e := ExtB.refl (fun _ => False) w
  have hsl0 := hsl
  obtain ⟨rfl, hat⟩ := hsl.at
  refine ret_of_run Tryz.func83 rfl Tryz.ntmps83 rfl ?_
  refine run_seq ?_
  refine run_region rfl ?_
  refine runl_op (t_boxA rfl) ?_
  rintro _ w4 ⟨b4, rfl, hb4, e4, n4, l4⟩
  have z4 := e4.size
  replace e := e.trans e4
  refine runl_ev (ev_assign rfl) ?_
  refine runl_ev (ev_assign rfl) ?_
  refine runl_nil ?_
  refine run_seq ?_
  refine run_region rfl ?_
  refine runl_ev (ev_move rfl) ?_
  refine runl_ev (ev_lenL sl_45 rfl) ?_
  refine runl_ev (ev_assign rfl) ?_
  refine runl_nil ?_
  refine run_seq ?_
  refine run_region rfl ?_
  refine runl_ev (ev_move rfl) ?_
  refine runl_ev (ev_assign rfl) ?_
  refine runl_ev (ev_assign rfl) ?_
  refine runl_nil ?_
  refine run_seq ?_
  refine run_block ?_
  refine run_loop (ι := Nat × Nat) (fun x => [(0, .slice a l.length c), (2, .func (.func 84) #[] #[]), (4, .pointer (some ⟨b4, 0, none⟩)), (8, .int .i64 (l.length : Int)), (9, .int .i64 (x.1 : Int)), (10, .int .i64 (x.2 : Int))]) (fun x w' => x.1 ≤ x.2 ∧ x.2 ≤ l.length ∧ (∀ k (h : k < l.length), k < x.1 → ordF l[k] t < 0) ∧ (∀ k (h : k < l.length), x.2 ≤ k → ¬ ordF l[k] t < 0) ∧ w'.heap[b4]? = some (.cells ⟨t.cells⟩ 82 (0, 0)) ∧ Ext w w') (fun x => x.2 - x.1) ((0, l.length)) ⟨rfl, rfl, rfl, rfl, rfl, rfl, trivial⟩ (⟨Nat.zero_le _, Nat.le_refl _, fun k h h1 => absurd h1 (Nat.not_lt_zero _), fun k h h1 => absurd h (by omega), hb4, e⟩) ?_
  clear e hb4
  intro ⟨i, j⟩ w1 ⟨hij, hj, hlo, hhi, hb4, e⟩ IH
  simp only at hij hj hlo hhi
  have lb4 := lt_of_at hb4
  refine run_seq ?_
  refine run_seq ?_
  refine run_region rfl ?_
  refine runl_ev (ev_move rfl) ?_
  refine runl_ev (ev_move rfl) ?_
  refine runl_ev (ev_lss rfl rfl) ?_
  refine runl_nil ?_
  refine run_dcond rfl (fun h0 => ?_) (fun h0 => ?_)
  · have hh : (i + j) / 2 < l.length := by omega
    obtain ⟨bb, bo, cs1, rfl, ⟨hw1, rfl⟩, hc1⟩ := hat ((i + j) / 2) hh
    refine run_skip ?_
    refine run_block ?_
    refine run_seq ?_
    refine run_region rfl ?_
    refine runl_ev (ev_move rfl) ?_
    refine runl_ev (ev_move rfl) ?_
    refine runl_ev (ev_addK (((i + j : Nat) : Int)) rfl rfl (by rw [show ((i : Nat) : Int) + (j : Int) = ((i + j : Nat) : Int) by omega]; exact wrap_i64 (by omega) (by omega))) ?_
    refine runl_ev (ev_convI (((i + j : Nat) : Int)) Tryz.underlying3 Tryz.underlying198 rfl (wrap_u64 (by omega))) ?_
    refine runl_ev (ev_shr ((((i + j) / 2 : Nat) : Int)) rfl rfl (by omega) (shr1_raw _)) ?_
    refine runl_ev (ev_convI ((((i + j) / 2 : Nat) : Int)) Tryz.underlying198 Tryz.underlying3 rfl (wrap_i64 (by omega) (by omega))) ?_
    refine runl_ev (ev_assign rfl) ?_
    refine runl_nil ?_
    refine run_seq ?_
    refine run_draw mo (fun w' => Ext w1 w') [] [(true, 0), (true, 1), (true, 2), (true, 3), (true, 4), (true, 5), (false, 6), (true, 7)] (by kernel_rfl) ?_
    intro wr5 er5
    have zr5 := er5.size
    have hsr5 := er5
    have ep := e.trans er5
    have hb4p := er5.at hb4
    refine rund_ev hsr5 rfl (ev_move rfl) ?_
    refine rund_ev hsr5 rfl (ev_move rfl) ?_
    refine rund_ev hsr5 rfl (ev_move rfl) ?_
    refine rund_ev hsr5 rfl (ev_indexAddr (k := (i + j) / 2) el_45 rfl rfl (by omega)) ?_
    refine rund_ev hsr5 rfl (ev_loadA agg_82 (Tgt.cells_length hw1) rfl (fun wz hz => hc1.ext (e.trans hz))) ?_
    refine rund_ev hsr5 rfl (ev_loadA agg_82 (Tgt.cells_length ht) rfl (fun wz hz => cells_all (hz.at hb4))) ?_
    refine rund_op rfl (t_callv call_84 rfl rfl (order_any l[(i + j) / 2] t hw1 ht _)) ?_
    rintro _ w30 ⟨rfl, e30⟩
    have z30 := e30.size
    replace ep := ep.trans e30
    replace hb4p := e30.at hb4p
    have hs30 := hsr5.trans e30
    refine ⟨hs30, ?_⟩
    refine rund_ev hs30 rfl (ev_lss rfl rfl) ?_
    refine rund_nil ?_
    replace e := ep
    clear ep
    replace hb4 := hb4p
    clear hb4p
    refine run_dcond rfl (fun h1 => ?_) (fun h1 => ?_)
    · refine run_region rfl ?_
      refine runl_ev (ev_move rfl) ?_
      refine runl_ev (ev_add rfl rfl (by omega) (by omega)) ?_
      refine runl_ev (ev_assign rfl) ?_
      refine runl_nil ?_
      refine run_inBlock ?_
      exact IH ((i + j) / 2 + 1, j) _ _ (by simp only; omega) ⟨rfl, rfl, rfl, rfl, rfl, rfl, trivial⟩ ⟨by show (i + j) / 2 + 1 ≤ j; omega, hj, bs_lo hs hh h1, hhi, hb4, e⟩
    · refine run_region rfl ?_
      refine runl_ev (ev_move rfl) ?_
      refine runl_ev (ev_assign rfl) ?_
      refine runl_nil ?_
      refine run_inBlock ?_
      exact IH (i, (i + j) / 2) _ _ (by simp only; omega) ⟨rfl, rfl, rfl, rfl, rfl, rfl, trivial⟩ ⟨by show i ≤ (i + j) / 2; omega, by show (i + j) / 2 ≤ _; omega, hlo, bs_hi hs hh h1, hb4, e⟩
  · obtain rfl : i = j := by omega
    have hp : posF l t = i := pos_eq hj hlo hhi
    refine run_exit rfl ?_
    refine run_seq ?_
    by_cases h3 : i < l.length
    · obtain ⟨bb, bo, cs1, rfl, ⟨hw1, rfl⟩, hc1⟩ := hat i h3
      refine run_draw mo (fun w' => Ext w1 w') [] [(true, 0), (true, 1), (true, 2), (true, 3), (true, 4), (true, 5), (true, 6), (true, 7), (true, 8), (true, 9), (true, 10), (false, 11), (true, 12), (true, 13), (true, 14), (true, 15)] (by kernel_rfl) ?_
      intro wr8 er8
      have zr8 := er8.size
      have hsr8 := er8
      have ep := e.trans er8
      have hb4p := er8.at hb4
      refine rund_ev hsr8 rfl (ev_move rfl) ?_
      refine rund_ev hsr8 rfl (ev_move rfl) ?_
      refine rund_ev hsr8 rfl (ev_move rfl) ?_
      refine rund_ev hsr8 rfl (ev_lss rfl rfl) ?_
      refine rund_ev hsr8 rfl (ev_move rfl) ?_
      refine rund_ev_g hsr8 rfl rfl rfl (decide_eq_true (by omega)) (ev_move rfl) ?_
      refine rund_ev_g hsr8 rfl rfl rfl (decide_eq_true (by omega)) (ev_move rfl) ?_
      refine rund_ev_g hsr8 rfl rfl rfl (decide_eq_true (by omega)) (ev_move rfl) ?_
      refine rund_ev_g hsr8 rfl rfl rfl (decide_eq_true (by omega)) (ev_indexAddr (k := i) el_45 rfl rfl (by omega)) ?_
      refine rund_ev_g hsr8 rfl rfl rfl (decide_eq_true (by omega)) (ev_loadA agg_82 (Tgt.cells_length hw1) rfl (fun wz hz => hc1.ext (e.trans hz))) ?_
      refine rund_ev_g hsr8 rfl rfl rfl (decide_eq_true (by omega)) (ev_loadA agg_82 (Tgt.cells_length ht) rfl (fun wz hz => cells_all (hz.at hb4))) ?_
      refine rund_op_g rfl rfl rfl (decide_eq_true (by omega)) (t_callv call_84 rfl rfl (order_any l[i] t hw1 ht _)) ?_
      rintro _ w46 ⟨rfl, e46⟩
      have z46 := e46.size
      replace ep := ep.trans e46
      replace hb4p := e46.at hb4p
      have hs46 := hsr8.trans e46
      refine ⟨hs46, ?_⟩
      refine rund_ev_g hs46 rfl rfl rfl (decide_eq_true (by omega)) (ev_eqlI rfl rfl) ?_
      refine rund_ev hs46 rfl (ev_pick rfl rfl rfl (if_pos (decide_eq_true (by omega)))) ?_
      refine rund_ev hs46 rfl (ev_assign rfl) ?_
      refine rund_ev hs46 rfl (ev_assign rfl) ?_
      refine rund_nil ?_
      replace e := ep
      clear ep
      replace hb4 := hb4p
      clear hb4p
      refine run_ret_any Tryz.func83 (res2 Tryz.results83 rfl rfl) ?_
      exact ⟨by rw [hp, fnd_in hp h3], e⟩
    · refine run_draw mo (fun w' => Ext w1 w') [] [(true, 0), (true, 1), (true, 2), (true, 3), (true, 4), (true, 5), (true, 6), (true, 7), (true, 8), (true, 9), (true, 10), (false, 11), (true, 12), (true, 13), (true, 14), (true, 15)] (by kernel_rfl) ?_
      intro wr8x1 er8x1
      have zr8x1 := er8x1.size
      have hsr8x1 := er8x1
      have ep := e.trans er8x1
      have hb4p := er8x1.at hb4
      refine rund_ev hsr8x1 rfl (ev_move rfl) ?_
      refine rund_ev hsr8x1 rfl (ev_move rfl) ?_
      refine rund_ev hsr8x1 rfl (ev_move rfl) ?_
      refine rund_ev hsr8x1 rfl (ev_lss rfl rfl) ?_
      refine rund_ev hsr8x1 rfl (ev_move rfl) ?_
      refine rund_no_g hsr8x1 rfl rfl rfl (decide_eq_false (by omega)) ?_
      refine rund_no_g hsr8x1 rfl rfl rfl (decide_eq_false (by omega)) ?_
      refine rund_no_g hsr8x1 rfl rfl rfl (decide_eq_false (by omega)) ?_
      refine rund_no_g hsr8x1 rfl rfl rfl (decide_eq_false (by omega)) ?_
      refine rund_no_g hsr8x1 rfl rfl rfl (decide_eq_false (by omega)) ?_
      refine rund_no_g hsr8x1 rfl rfl rfl (decide_eq_false (by omega)) ?_
      refine rund_no_gf rfl rfl rfl (decide_eq_false (by omega)) hsr8x1 ?_
      refine rund_no_g hsr8x1 rfl rfl rfl (decide_eq_false (by omega)) ?_
      refine rund_ev hsr8x1 rfl (ev_pick rfl rfl rfl (if_neg (by simp; omega))) ?_
      refine rund_ev hsr8x1 rfl (ev_assign rfl) ?_
      refine rund_ev hsr8x1 rfl (ev_assign rfl) ?_
      refine rund_nil ?_
      replace e := ep
      clear ep
      replace hb4 := hb4p
      clear hb4p
      refine run_ret_any Tryz.func83 (res2 Tryz.results83 rfl rfl) ?_
      exact ⟨by rw [hp, fnd_out hp (by omega)], e⟩
theorem isone_any (t : Tgt) (ht : t.wf) (w : World) : Ret Tryz.prog 82 [.agg ⟨t.cells⟩] w fun r w' => r = .bool (isTgsB [t]) ∧ Ext w w' := by
  have e := ExtB.refl (fun _ => False) w
  have htl := Tgt.cells_length ht
  refine ret_of_run Tryz.func82 rfl Tryz.ntmps82 rfl ?_
  refine run_seq ?_
  refine run_region rfl ?_
  refine runl_op (t_boxA rfl) ?_
  rintro _ w1 ⟨b1, rfl, hb1, e1, n1, l1⟩
  have z1 := e1.size
  replace e := e.trans e1
  refine runl_ev (ev_assign rfl) ?_
  refine runl_nil ?_
  refine run_seq ?_
  refine run_region rfl ?_
  refine runl_ev (ev_loadA agg_82 htl rfl (eqw (cells_all hb1))) ?_
  refine runl_op (t_buildSlice (out := t.cells) Tryz.underlying45 sz_82 zero_82 rfl rfl (by decide) (by decide) rfl (fill_one rfl htl rfl)) ?_
  rintro _ w7 ⟨b7, rfl, hb7, e7, n7, l7⟩
  have z7 := e7.size
  replace e := e.trans e7
  replace hb1 := e7.at hb1
  refine runl_ev (ev_build (out := [.string topB, .int .i64 1, .int .i64 0, .slice (some ⟨b7, 0, none⟩) 1 1, .slice none 0 0]) ps_48 zero_48 rfl rfl (rfl)) ?_
  refine runl_op (t_call call_44 rfl (enctg_any topB 1 0 (by decide) (by decide) (by decide) [t] _ _ _ (sl_lit hb7 (pc (by rw [List.take_of_length_le (Nat.le_of_eq htl)]; exact rtgt ht) pn)) (by simp))) ?_
  rintro _ w9 ⟨p9, rfl, o9⟩
  have e9 := o9.ext
  have z9 := e9.size
  replace e := e.trans e9
  replace hb1 := e9.at hb1
  replace hb7 := e9.at hb7
  refine runl_ev (ev_move rfl) ?_
  refine runl_ev (ev_extract rfl rfl) ?_
  refine runl_ev (ev_extract rfl rfl) ?_
  refine runl_ev (ev_assign rfl) ?_
  refine runl_ev (ev_assign rfl) ?_
  refine runl_nil ?_
  refine run_seq ?_
  refine run_region rfl ?_
  refine runl_ev (ev_move rfl) ?_
  refine runl_ev (ev_eqlI rfl rfl) ?_
  refine runl_ev (ev_assign rfl) ?_
  refine runl_nil ?_
  refine run_ret_any Tryz.func82 (res1 Tryz.results82 rfl) ?_
  refine ⟨?_, e⟩
  unfold encE
  cases isTgsB [t] <;> rfl
theorem insert_any {lg : Int} {l : List Tgt} {lv : Value} {w : World} (ol : Own w 82 37 lv l.length (tcs l) lg) (hwf : ∀ x ∈ l, x.wf) (t : Tgt) (ht : t.wf) (i : Nat) (hi : i ≤ l.length) (hl : l.length ≤ 1000) (bt : Nat) (hbt : w.heap[bt]? = some (.cells ⟨t.cells⟩ 82 (0, 0))) (hne : lg ≠ bt) :
    Ret Tryz.prog 85 [lv, .int .i64 (i : Int), .slice (some ⟨bt, 0, none⟩) 1 1] w fun r w' => ∃ g', Appended w 82 37 lg (l.length + 1) (tcs (insF l i t)) r w' g' := by
  obtain ⟨la, lc, rfl⟩ := ol.shape
  have htl := Tgt.cells_length ht
  have eG := ExtB.refl (fun k : Nat => (k : Int) = lg) w
  have lbt := lt_of_at hbt
  refine ret_of_run Tryz.func85 rfl Tryz.ntmps85 rfl ?_
  refine run_seq ?_
  refine run_region rfl ?_
  refine runl_ev (ev_assign rfl) ?_
  refine runl_nil ?_
  refine run_seq ?_
  refine run_region rfl ?_
  refine runl_ev (ev_move rfl) ?_
  refine runl_ev (ev_move rfl) ?_
  refine runl_ev (ev_sliceL_lo (n := i) el_45 rfl rfl hi) ?_
  refine runl_nil ?_
  refine run_seq ?_
  refine run_region rfl ?_
  refine runl_ev (ev_move rfl) ?_
  refine runl_ev (ev_lenL sl_45 rfl) ?_
  refine runl_ev (ev_assign rfl) ?_
  refine runl_nil ?_
  refine run_seq ?_
  refine run_seq ?_
  refine run_region rfl ?_
  refine runl_ev (ev_move rfl) ?_
  refine runl_ev (ev_eqlI rfl rfl) ?_
  refine runl_nil ?_
  refine run_cond_false rfl (rfl) ?_
  refine run_skip ?_
  refine run_seq ?_
  refine run_region rfl ?_
  refine runl_ev (ev_move rfl) ?_
  refine runl_ev (ev_lenL sl_45 rfl) ?_
  refine runl_ev (ev_assign rfl) ?_
  refine runl_nil ?_
  refine run_seq ?_
  refine run_seq ?_
  refine run_region rfl ?_
  refine runl_ev (ev_move rfl) ?_
  refine runl_ev (ev_move rfl) ?_
  refine runl_ev (ev_eqlI rfl rfl) ?_
  refine runl_nil ?_
  refine run_dcond rfl (fun h1 => ?_) (fun h1 => ?_)
  · obtain rfl : i = l.length := by omega
    refine run_seq ?_
    refine run_region rfl ?_
    refine runl_ev (ev_move rfl) ?_
    refine runl_ev (ev_move rfl) ?_
    refine runl_op (t_append (news := t.cells) ef_45 rfl rfl ol htl (cells_all hbt) (Tgt.one t) (by unfold maxLen; omega) (by omega)) ?_
    rintro v25 w25 ⟨g25, ap25⟩
    skip
    refine runl_ev (ev_assign rfl) ?_
    refine runl_nil ?_
    refine run_ret_any Tryz.func85 (res1 Tryz.results85 rfl) ?_
    refine ⟨g25, ?_⟩
    rw [ins_end] at ap25
    exact ap25
  · have hil : i < l.length := by omega
    obtain ⟨b, cap, c, hbg, hv, hb, hnc, hcm, hcl, hct⟩ := ol.blk (by omega)
    obtain ⟨rfl, rfl⟩ : la = some ⟨b, 0, none⟩ ∧ lc = cap := by injection hv with q1 _ q3; exact ⟨q1, q3⟩
    have lb := lt_of_at hb
    have hd := drop_len hwf i
    have hlt := take_len hwf i hi
    refine run_skip ?_
    refine run_seq ?_
    refine run_seq ?_
    refine run_region rfl ?_
    refine runl_ev (ev_move rfl) ?_
    refine runl_ev (ev_move rfl) ?_
    refine runl_ev (ev_addK (((l.length + 1 : Nat) : Int)) rfl rfl (by rw [show ((l.length : Nat) : Int) + ((1 : Nat) : Int) = ((l.length + 1 : Nat) : Int) by omega]; exact wrap_i64 (by omega) (by omega))) ?_
    refine runl_ev (ev_move rfl) ?_
    refine runl_ev (ev_capL sl_45 rfl) ?_
    refine runl_ev (ev_gtr rfl rfl) ?_
    refine runl_nil ?_
    refine run_dcond rfl (fun h2 => ?_) (fun h2 => ?_)
    · refine run_seq ?_
      refine run_region rfl ?_
      refine runl_ev (ev_move rfl) ?_
      refine runl_ev (ev_move rfl) ?_
      refine runl_ev (ev_sliceR_hi (n := i) el_45 rfl rfl (by omega)) ?_
      refine runl_ev (ev_move rfl) ?_
      refine runl_ev (ev_move rfl) ?_
      refine runl_ev (ev_addK (((l.length + 1 : Nat) : Int)) rfl rfl (by rw [show ((l.length : Nat) : Int) + ((1 : Nat) : Int) = ((l.length + 1 : Nat) : Int) by omega]; exact wrap_i64 (by omega) (by omega))) ?_
      refine runl_ev (ev_move rfl) ?_
      refine runl_ev (ev_subK (((l.length + 1 - i : Nat) : Int)) rfl rfl (by rw [show ((l.length + 1 : Nat) : Int) - (i : Int) = ((l.length + 1 - i : Nat) : Int) by omega]; exact wrap_i64 (by omega) (by omega))) ?_
      refine runl_op (t_appendMk (n := i) (k := l.length + 1 - i) (xs := tcs (l.take i)) ef_45 Tryz.underlying3 rfl rfl hlt ((cells_all hb).seg (tcs (l.take i)) 0 rfl (by rw [hlt, List.drop_zero]; exact (cut_take hwf hct i hi).symm)) (by omega) (by omega) (by unfold maxLen; omega) (by omega)) ?_
      rintro v40 w40 ⟨b40, cap40, c40, z40, hv40, hb40, hc40a, hc40b, hc40c, hc40d, hc40e, e40, n40, l40⟩
      rw [show i + (l.length + 1 - i) = l.length + 1 by omega] at hv40 hc40a hc40d
      subst hv40
      have z40 := e40.size
      replace eG := eG.trans e40.toB
      replace hb := e40.at hb
      replace hbt := e40.at hbt
      refine runl_ev (ev_assign rfl) ?_
      refine runl_nil ?_
      refine run_seq ?_
      refine run_region rfl ?_
      refine runl_ev (ev_move rfl) ?_
      refine runl_ev (ev_move rfl) ?_
      refine runl_ev (ev_sliceR_lo (n := i) el_45 rfl rfl (by omega) (by omega)) ?_
      refine runl_ev (ev_move rfl) ?_
      refine runl_op (t_copyN (cs := t.cells) Tryz.underlying45 sz_82 rfl rfl hb40 (by rw [htl, show min 1 (l.length + 1 - i) = 1 by omega]) (cells_all hbt) (by rw [htl, hc40c]; omega) (Tgt.one t)) ?_
      rintro _ w45 ⟨rfl, hq45, e45, z45⟩
      have z45 := e45.size
      replace eG := eG.newB1 e45 (by first | exact .inl (by omega) | exact .inr rfl | exact .inr (.inl rfl) | exact .inr (.inr (by omega)) | (right; omega))
      replace hb := e45.at1 hb (by first | assumption | omega)
      replace hbt := e45.at1 hbt (by first | assumption | omega)
      replace hb40 := hq45
      refine runl_nil ?_
      refine run_seq ?_
      refine run_draw mo (fun w' => Ext w45 w') [8] [(true, 0), (true, 1), (true, 2), (true, 3), (true, 4), (true, 5), (true, 6), (true, 7), (false, 8)] (by kernel_rfl) ?_
      intro wr11 er11
      have zr11 := er11.size
      have hsr11 := er11
      have eGp := eG.trans er11.toB
      have hbp := er11.at hb
      have hbtp := er11.at hbt
      have hb40p := er11.at hb40
      refine rund_ev hsr11 rfl (ev_move rfl) ?_
      refine rund_ev hsr11 rfl (ev_move rfl) ?_
      refine rund_ev hsr11 rfl (ev_move rfl) ?_
      refine rund_ev hsr11 rfl (ev_addK (((i + 1 : Nat) : Int)) rfl rfl (by rw [show ((i : Nat) : Int) + ((1 : Nat) : Int) = ((i + 1 : Nat) : Int) by omega]; exact wrap_i64 (by omega) (by omega))) ?_
      refine rund_ev hsr11 rfl (ev_sliceR_lo (n := i + 1) el_45 rfl rfl (by omega) (by omega)) ?_
      refine rund_ev hsr11 rfl (ev_move rfl) ?_
      refine rund_ev hsr11 rfl (ev_move rfl) ?_
      refine rund_ev hsr11 rfl (ev_sliceR_lo (n := i) el_45 rfl rfl (by omega) (by omega)) ?_
      refine rund_opT rfl rfl (t_copyN (cs := tcs (l.drop i)) Tryz.underlying45 sz_82 rfl rfl hb40p (by rw [hd, show min (l.length - i) (l.length + 1 - (i + 1)) = l.length - i by omega]) ((cells_all hbp).seg (tcs (l.drop i)) (i * 37) rfl (cut_drop hwf hct i hi)) (by rw [splice_len (by rw [htl, hc40c]; omega), hd, hc40c]; omega) tcs_one) ?_
      rintro _ w54 ⟨rfl, hq54, e54, z54⟩
      have z54 := e54.size
      replace eGp := eGp.newB1 e54 (by first | exact .inl (by omega) | exact .inr rfl | exact .inr (.inl rfl) | exact .inr (.inr (by omega)) | (right; omega))
      replace hbp := e54.at1 hbp (by first | assumption | omega)
      replace hbtp := e54.at1 hbtp (by first | assumption | omega)
      replace hb40p := hq54
      refine rund_nil ?_
      replace eG := eGp
      clear eGp
      replace hb := hbp
      clear hbp
      replace hbt := hbtp
      clear hbtp
      replace hb40 := hb40p
      clear hb40p
      refine run_seq ?_
      refine run_region rfl ?_
      refine runl_ev (ev_move rfl) ?_
      refine runl_ev (ev_assign rfl) ?_
      refine runl_nil ?_
      refine run_ret_any Tryz.func85 (res1 Tryz.results85 rfl) ?_
      have hx : c40.take (0 + i * 37) = tcs (l.take i) := by
        have h5 : (c40.take ((l.length + 1) * 37)).take (i * 37) = c40.take (i * 37) := by rw [List.take_take, Nat.min_eq_left (by omega)]
        rw [Nat.zero_add, ← h5, hc40d]
        exact List.take_left' hlt
      have hs := sp_grow (zs := tcs (l.drop i)) (tc := t.cells) (o1 := 0 + (i + 1) * 37) hx (by rw [hlt, Nat.zero_add]) (by rw [htl]; omega) (by rw [hd, hc40c]; omega)
      refine ⟨b40, own_blk hb40 (by omega) hc40b ?_ ?_, eG, by omega, .inr ⟨by omega, by omega⟩⟩
      · rw [splice_len (by rw [splice_len (by rw [htl, hc40c]; omega), hd, hc40c]; omega), splice_len (by rw [htl, hc40c]; omega), hc40c]
      · rw [tcs_ins, ← hs]
        congr 1
        rw [hd]; omega
    · refine run_skip ?_
      refine run_seq ?_
      refine run_region rfl ?_
      refine runl_ev (ev_move rfl) ?_
      refine runl_ev (ev_move rfl) ?_
      refine runl_ev (ev_move rfl) ?_
      refine runl_ev (ev_addK (((l.length + 1 : Nat) : Int)) rfl rfl (by rw [show ((l.length : Nat) : Int) + ((1 : Nat) : Int) = ((l.length + 1 : Nat) : Int) by omega]; exact wrap_i64 (by omega) (by omega))) ?_
      refine runl_ev (ev_sliceR_hi (n := l.length + 1) el_45 rfl rfl (by omega)) ?_
      refine runl_ev (ev_assign rfl) ?_
      refine runl_nil ?_
      refine run_seq ?_
      refine run_seq ?_
      refine run_region rfl ?_
      refine runl_ev (ev_move rfl) ?_
      refine runl_ev (ev_move rfl) ?_
      refine runl_ev (ev_move rfl) ?_
      refine runl_ev (ev_move rfl) ?_
      refine runl_ev (ev_addK (((i + 1 : Nat) : Int)) rfl rfl (by rw [show ((i : Nat) : Int) + ((1 : Nat) : Int) = ((i + 1 : Nat) : Int) by omega]; exact wrap_i64 (by omega) (by omega))) ?_
      refine runl_ev (ev_sliceR_lo (n := i + 1) el_45 rfl rfl (by omega) (by omega)) ?_
      refine runl_ev (ev_callX (v := .bool false) rfl (eqw (ovl_apart (by omega) hbt hb (by omega)))) ?_
      refine runl_ev (ev_not rfl) ?_
      refine runl_nil ?_
      refine run_cond_true rfl (rfl) ?_
      refine run_seq ?_
      refine run_draw mo (fun w' => Ext w w') [8] [(true, 0), (true, 1), (true, 2), (true, 3), (true, 4), (true, 5), (true, 6), (true, 7), (false, 8)] (by kernel_rfl) ?_
      intro wr15 er15
      have zr15 := er15.size
      have hsr15 := er15
      have eGp := eG.trans er15.toB
      have hbp := er15.at hb
      have hbtp := er15.at hbt
      refine rund_ev hsr15 rfl (ev_move rfl) ?_
      refine rund_ev hsr15 rfl (ev_move rfl) ?_
      refine rund_ev hsr15 rfl (ev_move rfl) ?_
      refine rund_ev hsr15 rfl (ev_addK (((i + 1 : Nat) : Int)) rfl rfl (by rw [show ((i : Nat) : Int) + ((1 : Nat) : Int) = ((i + 1 : Nat) : Int) by omega]; exact wrap_i64 (by omega) (by omega))) ?_
      refine rund_ev hsr15 rfl (ev_sliceR_lo (n := i + 1) el_45 rfl rfl (by omega) (by omega)) ?_
      refine rund_ev hsr15 rfl (ev_move rfl) ?_
      refine rund_ev hsr15 rfl (ev_move rfl) ?_
      refine rund_ev hsr15 rfl (ev_sliceR_lo (n := i) el_45 rfl rfl (by omega) (by omega)) ?_
      refine rund_opT rfl rfl (t_copyN (cs := tcs (l.drop i)) Tryz.underlying45 sz_82 rfl rfl hbp (by rw [hd, show min (l.length + 1 - i) (l.length + 1 - (i + 1)) = l.length - i by omega]) ((cells_all hbp).seg (tcs (l.drop i)) (i * 37) rfl (cut_drop hwf hct i hi)) (by rw [hd, hcl]; omega) tcs_one) ?_
      rintro _ w77 ⟨rfl, hq77, e77, z77⟩
      have z77 := e77.size
      replace eGp := eGp.newB1 e77 (by first | exact .inl (by omega) | exact .inr rfl | exact .inr (.inl rfl) | exact .inr (.inr (by omega)) | (right; omega))
      replace hbtp := e77.at1 hbtp (by first | assumption | omega)
      replace hbp := hq77
      refine rund_nil ?_
      replace eG := eGp
      clear eGp
      replace hb := hbp
      clear hbp
      replace hbt := hbtp
      clear hbtp
      refine run_seq ?_
      refine run_region rfl ?_
      refine runl_ev (ev_move rfl) ?_
      refine runl_ev (ev_move rfl) ?_
      refine runl_ev (ev_sliceR_lo (n := i) el_45 rfl rfl (by omega) (by omega)) ?_
      refine runl_ev (ev_move rfl) ?_
      refine runl_op (t_copyN (cs := t.cells) Tryz.underlying45 sz_82 rfl rfl hb (by rw [htl, show min 1 (l.length + 1 - i) = 1 by omega]) (cells_all hbt) (by rw [splice_len (by rw [hd, hcl]; omega), htl, hcl]; omega) (Tgt.one t)) ?_
      rintro _ w82 ⟨rfl, hq82, e82, z82⟩
      have z82 := e82.size
      replace eG := eG.newB1 e82 (by first | exact .inl (by omega) | exact .inr rfl | exact .inr (.inl rfl) | exact .inr (.inr (by omega)) | (right; omega))
      replace hbt := e82.at1 hbt (by first | assumption | omega)
      replace hb := hq82
      refine runl_nil ?_
      refine run_seq ?_
      refine run_region rfl ?_
      refine runl_ev (ev_move rfl) ?_
      refine runl_ev (ev_assign rfl) ?_
      refine runl_nil ?_
      refine run_ret_any Tryz.func85 (res1 Tryz.results85 rfl) ?_
      have hs := sp_room (ys := tcs (l.take i)) (zs := tcs (l.drop i)) (tc := t.cells) (o := 0 + i * 37) (o1 := 0 + (i + 1) * 37) (by rw [Nat.zero_add]; exact cut_take hwf hct i hi) (by rw [hlt, Nat.zero_add]) (by rw [htl]; omega) (by rw [hd, hcl]; omega)
      refine ⟨b, own_blk hb (by omega) hcm ?_ ?_, eG, by omega, .inl hbg⟩
      · rw [splice_len (by rw [splice_len (by rw [hd, hcl]; omega), htl, hcl]; omega), splice_len (by rw [hd, hcl]; omega), hcl]
      · rw [tcs_ins, ← hs]
        congr 1
        rw [hd]; omega
end Go.Proofs.YtlgkdnmklgbhbaaGreatDoor
/- The walks of a Repo's targets: Publish, Remove, Targets, Ledger. -/
namespace Go.Proofs.YtlgkdnmklgbhbaaGreatDoor
open Go Go.Fw
set_option maxRecDepth 100000
theorem set_cells {l : List Tgt} {c : List Value} {t : Tgt} (hwf : ∀ t ∈ l, t.wf) (ht : t.wf) (hct : c.take (l.length * 37) = tcs l) (i : Nat) (hi : i < l.length) : (splice c (0 + i * 37) t.cells).take (l.length * 37) = tcs (l.set i t) := by
  have h1 := cut_take hwf hct i (by omega)
  have h2 := cut_drop hwf hct (i + 1) (by omega)
  have htl := Tgt.cells_length ht
  have hd := drop_len hwf (i + 1)
  have hlt := take_len hwf i (by omega)
  have e : tcs (l.set i t) = tcs (l.take i) ++ (t.cells ++ tcs (l.drop (i + 1))) := by
    rw [take_eq_set hi, tcs_app]
    simp [tcs]
  rw [e, h2]
  unfold splice
  rw [Nat.zero_add, h1, htl, show i * 37 + 37 = (i + 1) * 37 by omega]
  generalize hq : (tcs (l.drop (i + 1))).length = m at *
  have hs : c.drop ((i + 1) * 37) = (c.drop ((i + 1) * 37)).take m ++ (c.drop ((i + 1) * 37)).drop m := (List.take_append_drop _ _).symm
  have hm : ((c.drop ((i + 1) * 37)).take m).length = m := by rw [← h2]; exact hq
  rw [hs, List.append_assoc, ← List.append_assoc t.cells, ← List.append_assoc (tcs (l.take i))]
  have hk : ((c.drop ((i + 1) * 37)).take m ++ (c.drop ((i + 1) * 37)).drop m).take m = (c.drop ((i + 1) * 37)).take m := List.take_left' hm
  rw [hk]
  exact List.take_left' (by rw [List.length_append, List.length_append, hlt, htl, hm]; omega)
theorem del_cells {l : List Tgt} {c : List Value} (hwf : ∀ t ∈ l, t.wf) (hct : c.take (l.length * 37) = tcs l) (i : Nat) (hi : i < l.length) : (splice c (i * 37) (tcs (l.drop (i + 1)))).take ((l.length - 1) * 37) = tcs (l.take i ++ l.drop (i + 1)) := by
  have h1 := cut_take hwf hct i (by omega)
  have hd := drop_len hwf (i + 1)
  have hlt := take_len hwf i (by omega)
  unfold splice
  rw [h1, tcs_app]
  exact List.take_left' (by rw [List.length_append, hlt, hd]; omega)
theorem tail_cells {w : World} {b cap : Nat} {l : List Tgt} {c : List Value} {T : TypeId} (hwf : ∀ t ∈ l, t.wf) (hb : w.heap[b]? = some (.cells ⟨c⟩ T (0, 0))) (hct : c.take (l.length * 37) = tcs l) (j : Nat) (hj : j ≤ l.length) (hc : l.length ≤ cap) : Cells w b (if cap = j then 0 else 0 + j * 37) (tcs (l.drop j)) := by
  by_cases h : l.length = j
  · rw [List.drop_eq_nil_of_le (by omega)]
    intro k v hv
    simp [tcs] at hv
  · rw [if_neg (by omega)]
    exact (cells_all hb).seg _ (j * 37) rfl (cut_drop hwf hct j hj)
def remT (a b : ByteArray) : Tgt := ⟨a, 0, List.replicate 32 0, ⟨#[]⟩, 0, b⟩
theorem remT_wf (a b : ByteArray) : (remT a b).wf := by show (List.replicate 32 (0 : UInt8)).length = 32; simp
/-- Behind a change of the targets. -/
theorem list_done {F : Nat → Prop} {rb k0 k1 : Nat} {S : RepoS} {w w2 : World} {lg rg gg g2 : Int} {fc lc : List Value} {lv rv t0 t1 s0 s1 tv gv v2 : Value} {lx rx gx : List Value} {l2 : List Tgt} (r : RepoIn F rb S w k0 k1 lg rg gg fc lc lv rv t0 t1 s0 s1 tv gv lx rx gx)
    (hb : w2.heap[rb]? = some (.cells ⟨rcells (hcells S.seed) (.pointer (some ⟨k0, 0, none⟩)) (.pointer (some ⟨k1, 0, none⟩)) (.int .i64 (S.gen : Int)) fc lc v2 (.int .i64 (S.signed : Int)) rv t0 t1 s0 s1 tv gv⟩ 108 (0, 0)))
    (eB : ExtB (fun k => k = rb ∨ (k : Int) = lg) w w2) (o2 : Own w2 82 37 v2 l2.length (tcs l2) g2) (hwf : ∀ t ∈ l2, t.wf) (an : g2 = lg ∨ (w.heap.size : Int) ≤ g2 ∧ g2 < w2.heap.size) : RepoP F w rb { S with l := l2 } w2 := by
  have lrb := r.sep.rb_lt
  have lk0 := r.sep.k0_lt
  have lk1 := r.sep.k1_lt
  have llg := r.sep.lg_lt
  have lrg := r.sep.rg_lt
  have lgg := r.sep.gg_lt
  have hsz := eB.size
  have n1 := r.sep.rb_k0
  have n2 := r.sep.rb_k1
  have n3 := r.sep.lg_k0
  have n4 := r.sep.lg_k1
  have hF' : ∀ k, ¬ (F k ∨ (w.heap.size ≤ k ∧ k < w2.heap.size)) → ¬ F k ∧ (k < w.heap.size ∨ w2.heap.size ≤ k) := fun k h => ⟨fun hF => h (.inl hF), by
    by_cases h1 : w.heap.size ≤ k
    · by_cases h2 : k < w2.heap.size
      · exact absurd (.inr ⟨h1, h2⟩) h
      · exact .inr (by omega)
    · exact .inl (by omega)⟩
  have hM : ∀ k, MutR (fun k => F k ∨ (w.heap.size ≤ k ∧ k < w2.heap.size)) rb k0 k1 g2 rg gg k → MutR F rb k0 k1 lg rg gg k ∨ w.heap.size ≤ k := by
    intro k hk
    rcases hk with hk | hk | hk | hk | hk | hk | hk
    · exact .inl (.inl (hF' k hk).1)
    · exact .inl (.inr (.inl hk))
    · exact .inl (.inr (.inr (.inl hk)))
    · exact .inl (.inr (.inr (.inr (.inl hk))))
    · rcases an with h | ⟨h, _⟩
      · exact .inl (.inr (.inr (.inr (.inr (.inl (by omega))))))
      · exact .inr (by omega)
    · exact .inl (.inr (.inr (.inr (.inr (.inr (.inl hk))))))
    · exact .inl (.inr (.inr (.inr (.inr (.inr (.inr hk))))))
  have eM : ExtB (MutR F rb k0 k1 lg rg gg) w w2 := eB.mono (fun k _ hk => by
    rcases hk with h | h
    · exact .inr (.inl h)
    · exact .inr (.inr (.inr (.inr (.inl h)))))
  have hT0 : KeyAt (fun k => MutR F rb k0 k1 lg rg gg k ∨ w.heap.size ≤ k) k0 (seedF S.seed 0) S.used0 w := r.hk0.turn (fun k hk => hk)
  have hT1 : KeyAt (fun k => MutR F rb k0 k1 lg rg gg k ∨ w.heap.size ≤ k) k1 (seedF S.seed (S.gen : Int)) S.used1 w := r.hk1.turn (fun k hk => hk)
  have hne : ∀ k : Nat, k = k0 ∨ k = k1 ∨ (k : Int) = rg ∨ (k : Int) = gg → ¬ (k = rb ∨ (k : Int) = lg) := by
    have n5 := r.sep.rg_rb
    have n6 := r.sep.gg_rb
    have n7 := r.sep.lg_rg
    have n8 := r.sep.lg_gg
    intro k hk h
    rcases hk with h1 | h1 | h1 | h1
    · omega
    · omega
    · rcases h with h | h
      · omega
      · exact n7 k h h1
    · rcases h with h | h
      · omega
      · exact n8 k h h1
  have hMk : ∀ k, k < w.heap.size → (k = rb ∨ (k : Int) = lg) → MutR F rb k0 k1 lg rg gg k := fun k _ hk => by
    rcases hk with h | h
    · exact .inr (.inl h)
    · exact .inr (.inr (.inr (.inr (.inl h))))
  refine ⟨fun k => F k ∨ (w.heap.size ≤ k ∧ k < w2.heap.size), ⟨k0, k1, g2, rg, gg, fc, lc, v2, rv, t0, t1, s0, s1, tv, gv, tcs l2, rx, gx, ⟨r.sd, r.fl, r.ll, hb, (hT0.step eB (hne _ (.inl rfl)) (fun k h1 h2 => .inl (hMk k h1 h2))).turn (fun k hk => .inl (hM k hk)), (hT1.step eB (hne _ (.inr (.inl rfl))) (fun k h1 h2 => .inl (hMk k h1 h2))).turn (fun k hk => .inl (hM k hk)), o2, tcs_parts hwf,
    r.orr.keep eB (fun k hk => hne k (.inr (.inr (.inl hk)))), r.pr.turn eM hM, r.og.keep eB (fun k hk => hne k (.inr (.inr (.inr hk)))), r.pg.mono (fun _ _ _ h => flat_tgt _ _ _ _ h), r.hz.turn eM hM, r.sep.list hsz (an.imp id fun h => h), ?_, ?_⟩⟩, eB.mono (fun k _ hk => by
    rcases hk with h | h
    · exact r.inF _ (.inl h)
    · exact r.inF _ (.inr (.inr (.inr (.inl h))))), fun k hk => hk.imp id (·.1)⟩
  · intro k hk
    rcases hk with h | h | h | h | h | h
    · exact .inl (r.inF _ (.inl h))
    · exact .inl (r.inF _ (.inr (.inl h)))
    · exact .inl (r.inF _ (.inr (.inr (.inl h))))
    · rcases an with h2 | ⟨h2, h3⟩
      · exact .inl (r.inF _ (.inr (.inr (.inr (.inl (by omega))))))
      · exact .inr (by omega)
    · exact .inl (r.inF _ (.inr (.inr (.inr (.inr (.inl h))))))
    · exact .inl (r.inF _ (.inr (.inr (.inr (.inr (.inr h))))))
  · intro k hk
    rcases hk with h | h
    · have := r.lt k h; omega
    · exact h.2

theorem delete_any {lg : Int} {l : List Tgt} {lv : Value} {w : World} (ol : Own w 82 37 lv l.length (tcs l) lg) (hwf : ∀ x ∈ l, x.wf) (i : Nat) (hi : i < l.length) (hl : l.length ≤ 1000) :
    Ret Tryz.prog 86 [lv, .int .i64 (i : Int), .int .i64 ((i + 1 : Nat) : Int)] w fun r w' => Own w' 82 37 r (l.take i ++ l.drop (i + 1)).length (tcs (l.take i ++ l.drop (i + 1))) lg ∧ ExtB (fun k => (k : Int) = lg) w w' ∧ w.heap.size ≤ w'.heap.size := by
  obtain ⟨la, lcap, rfl⟩ := ol.shape
  obtain ⟨b, cap, c, hbg, hv, hbl, hnc, hcm, hcl, hct⟩ := ol.blk (by omega)
  obtain ⟨rfl, rfl⟩ : la = some ⟨b, 0, none⟩ ∧ lcap = cap := by injection hv with q1 _ q3; exact ⟨q1, q3⟩
  have lb := lt_of_at hbl
  have eG := ExtB.refl (fun k : Nat => (k : Int) = lg) w
  have hd := drop_len hwf (i + 1)
  have hlen : (l.take i ++ l.drop (i + 1)).length = l.length - 1 := by rw [List.length_append, List.length_take, List.length_drop]; omega
  refine ret_of_run Tryz.func86 rfl Tryz.ntmps86 rfl ?_
  refine run_seq ?_
  refine run_region rfl ?_
  refine runl_ev (ev_assign rfl) ?_
  refine runl_nil ?_
  refine run_seq ?_
  refine run_region rfl ?_
  refine runl_ev (ev_move rfl) ?_
  refine runl_ev (ev_move rfl) ?_
  refine runl_ev (ev_move rfl) ?_
  refine runl_ev (ev_move rfl) ?_
  refine runl_ev (ev_lenL sl_45 rfl) ?_
  refine runl_ev (ev_sliceR_lhm (l := i) (n := i + 1) (m := l.length) el_45 rfl rfl rfl rfl (by omega) (by omega) (by omega) (by omega)) ?_
  refine runl_nil ?_
  refine run_seq ?_
  refine run_seq ?_
  refine run_region rfl ?_
  refine runl_ev (ev_move rfl) ?_
  refine runl_ev (ev_move rfl) ?_
  refine runl_ev (ev_eqlI rfl rfl) ?_
  refine runl_nil ?_
  refine run_cond_false rfl (decide_eq_false (by omega)) ?_
  refine run_skip ?_
  refine run_seq ?_
  refine run_region rfl ?_
  refine runl_ev (ev_move rfl) ?_
  refine runl_ev (ev_lenL sl_45 rfl) ?_
  refine runl_ev (ev_assign rfl) ?_
  refine runl_nil ?_
  refine run_seq ?_
  refine run_draw mo (fun w' => Ext w w') [6, 7] [(true, 0), (true, 1), (true, 2), (true, 3), (true, 4), (true, 5), (false, 6), (false, 7)] (by kernel_rfl) ?_
  intro wr5 er5
  have zr5 := er5.size
  have hsr5 := er5
  have eGp := eG.trans er5.toB
  have hblp := er5.at hbl
  refine rund_ev hsr5 rfl (ev_move rfl) ?_
  refine rund_ev hsr5 rfl (ev_move rfl) ?_
  refine rund_ev hsr5 rfl (ev_sliceR_hi (n := i) el_45 rfl rfl (by omega)) ?_
  refine rund_ev hsr5 rfl (ev_move rfl) ?_
  refine rund_ev hsr5 rfl (ev_move rfl) ?_
  refine rund_ev hsr5 rfl (ev_sliceR_loE (n := i + 1) el_45 rfl rfl (by omega)) ?_
  refine rund_opT rfl rfl (t_appendRoom (news := tcs (l.drop (i + 1))) ef_45 rfl rfl hblp hd (tail_cells hwf hblp hct (i + 1) (by omega) hnc) tcs_one (by omega) (by rw [hd, hcl]; omega)) ?_
  rintro v26 w26 ⟨hv26, hq26, e26, z26⟩
  rw [show i + (l.length - (i + 1)) = l.length - 1 by omega] at hv26
  subst hv26
  have z26 := e26.size
  replace eGp := eGp.newB1 e26 (by first | exact .inl (by omega) | exact .inr rfl | exact .inr (.inl rfl) | exact .inr (.inr (by omega)) | (right; omega))
  replace hblp := hq26
  refine rund_opT rfl rfl (opT_ev (ev_assign rfl)) ?_
  rintro _ _ ⟨rfl, rfl⟩
  refine rund_nil ?_
  replace eG := eGp
  clear eGp
  replace hbl := hblp
  clear hblp
  refine run_seq ?_
  refine run_region rfl ?_
  refine runl_ev (ev_move rfl) ?_
  refine runl_ev (ev_move rfl) ?_
  refine runl_ev (ev_lenL sl_45 rfl) ?_
  refine runl_ev (ev_move rfl) ?_
  refine runl_ev (ev_sliceR_lh (l := l.length - 1) (n := l.length) el_45 rfl rfl rfl (by omega) (by omega) (by omega)) ?_
  refine runl_do (t_clear ef_45 zero_82 (by intro v hv; revert v; decide) rfl (by omega) hbl (by rw [splice_len (by rw [hd, hcl]; omega), hcl]; omega)) ?_
  rintro _ w6 ⟨⟨zs, hzl, hq6⟩, e6, z6⟩
  have z6_5 := e6.size
  replace eG := eG.newB1 e6 (by first | exact .inl (by omega) | exact .inr rfl | exact .inr (.inl rfl) | exact .inr (.inr (by omega)) | (right; omega))
  replace hbl := hq6
  refine runl_nil ?_
  refine run_seq ?_
  refine run_region rfl ?_
  refine runl_ev (ev_move rfl) ?_
  refine runl_ev (ev_assign rfl) ?_
  refine runl_nil ?_
  refine run_ret_any Tryz.func86 (res1 Tryz.results86 rfl) ?_
  have hs := del_cells hwf hct i hi
  refine ⟨?_, eG, by omega⟩
  rw [hlen, ← hbg]
  refine own_blk hbl (by omega) hcm ?_ ?_
  · rw [splice_len (by rw [splice_len (by rw [hd, hcl]; omega), hzl, hcl]; omega), splice_len (by rw [hd, hcl]; omega), hcl]
  · rw [splice_take (by omega) (by rw [splice_len (by rw [hd, hcl]; omega), hcl]; omega), hs]
theorem publish_repo {F : Nat → Prop} {rb : Nat} {S : RepoS} {w : World} (h : RepoAt F rb S w) (t : Tgt) (ht : t.wf) (hsr : Srt S.l) (hl16 : S.l.length ≤ 16) : Ret Tryz.prog 34 [.pointer (some ⟨rb, 0, none⟩), .agg ⟨t.cells⟩] w fun v w' => v = .int .i64 (putF S.l t).2 ∧ RepoP F w rb { S with l := (putF S.l t).1 } w' := by
  have h0 := h
  obtain ⟨k0, k1, lg, rg, gg, fc, lc, lv, rv, t0, t1, s0, s1, tv, gv, lx, rx, gx, r⟩ := h
  have hA : (hcells S.seed).length = 32 := by rw [hcells_length]; exact r.sd
  have hb := r.hb
  have lrb := r.sep.rb_lt
  have e := ExtB.refl (fun _ => False) w
  have eB := ExtB.refl (fun k => k = rb ∨ (k : Int) = lg) w
  have n3 := r.sep.lg_rb
  have n4 := r.sep.lg_rb.symm
  have llg := r.sep.lg_lt
  have ol := r.ol
  obtain ⟨rfl, hwf⟩ := parts_tcs r.pl ol.len
  obtain ⟨la, lcap, rfl⟩ := ol.shape
  have htl := Tgt.cells_length ht
  have hpl := pos_le S.l t
  refine ret_of_run Tryz.func34 rfl Tryz.ntmps34 rfl ?_
  refine run_seq ?_
  refine run_region rfl ?_
  refine runl_op (t_boxA rfl) ?_
  rintro _ w3 ⟨b3, rfl, hb3, e3, n3, l3⟩
  have z3 := e3.size
  replace e := e.trans e3
  replace eB := eB.trans e3.toB
  replace hb := e3.at hb
  replace ol := ol.ext e3
  refine runl_ev (ev_assign rfl) ?_
  refine runl_nil ?_
  refine run_seq ?_
  refine run_seq ?_
  refine run_region rfl ?_
  refine runl_ev (ev_move rfl) ?_
  refine runl_ev (ev_eqlPn Tryz.underlying22 rfl rfl) ?_
  refine runl_ev (ev_move rfl) ?_
  refine runl_ev_g rfl rfl (rfl) (ev_loadA agg_82 htl rfl (eqw (cells_all hb3))) ?_
  refine runl_op_g rfl rfl (rfl) (t_call call_82 rfl (isone_any t ht _)) ?_
  rintro _ w11 ⟨rfl, e11⟩
  have z11 := e11.size
  replace e := e.trans e11
  replace eB := eB.trans e11.toB
  replace hb := e11.at hb
  replace ol := ol.ext e11
  replace hb3 := e11.at hb3
  refine runl_ev_g rfl rfl (rfl) (ev_not rfl) ?_
  refine runl_ev (ev_pick rfl rfl rfl (if_neg (by simp))) ?_
  refine runl_nil ?_
  refine run_cond_split rfl (fun h1 => ?_) (fun h1 => ?_)
  · have hp : putF S.l t = (S.l, 1) := by unfold putF; rw [if_neg (by simpa using h1)]
    rw [hp]
    refine run_seq ?_
    refine run_region rfl ?_
    refine runl_ev (ev_assign rfl) ?_
    refine runl_nil ?_
    refine run_ret_any Tryz.func34 (res1 Tryz.results34 rfl) ?_
    exact ⟨rfl, RepoP.of (h0.ext e) e⟩
  · have h2 : isTgsB [t] = true := by simpa using h1
    refine run_skip ?_
    refine run_seq ?_
    refine run_draw mo (fun w' => Ext w11 w') [] [(true, 0), (true, 1), (true, 2), (true, 3), (true, 4), (false, 5), (true, 6), (true, 7), (true, 8), (true, 9), (true, 10)] (by kernel_rfl) ?_
    intro wr3 er3
    have zr3 := er3.size
    have hsr3 := er3
    have ep := e.trans er3
    have eBp := eB.trans er3.toB
    have hbp := er3.at hb
    have olp := ol.ext er3
    have hb3p := er3.at hb3
    refine rund_ev hsr3 rfl (ev_move rfl) ?_
    refine rund_ev hsr3 rfl (ev_nilCheck rfl) ?_
    refine rund_ev hsr3 rfl (ev_fieldAddr fld_108_5 rfl) ?_
    refine rund_ev hsr3 rfl (ev_load1 cell_45 rfl (fun wz hz => (cells_all (hz.at hb)).pick 55 (by omega) (rc_55 hA r.fl r.ll))) ?_
    refine rund_ev hsr3 rfl (ev_loadA agg_82 htl rfl (fun wz hz => cells_all (hz.at hb3))) ?_
    refine rund_op rfl (t_call call_83 rfl (bsearch_any S.l t ht hsr (by omega) _ _ _ _ (own_slat olp (r.pl.mono (fun _ _ _ h => flat_tgt _ _ _ _ h)) rfl))) ?_
    rintro _ w20 ⟨rfl, e20⟩
    have z20 := e20.size
    replace ep := ep.trans e20
    replace eBp := eBp.trans e20.toB
    replace hbp := e20.at hbp
    replace olp := olp.ext e20
    replace hb3p := e20.at hb3p
    have hs20 := hsr3.trans e20
    refine ⟨hs20, ?_⟩
    refine rund_ev hs20 rfl (ev_move rfl) ?_
    refine rund_ev hs20 rfl (ev_extract rfl rfl) ?_
    refine rund_ev hs20 rfl (ev_extract rfl rfl) ?_
    refine rund_ev hs20 rfl (ev_assign rfl) ?_
    refine rund_ev hs20 rfl (ev_assign rfl) ?_
    refine rund_nil ?_
    replace e := ep
    clear ep
    replace eB := eBp
    clear eBp
    replace hb := hbp
    clear hbp
    replace ol := olp
    clear olp
    replace hb3 := hb3p
    clear hb3p
    refine run_seq ?_
    refine run_block ?_
    refine run_seq ?_
    refine run_region rfl ?_
    refine runl_ev (ev_move rfl) ?_
    refine runl_ev (ev_assign rfl) ?_
    refine runl_nil ?_
    refine run_cond_split rfl (fun hf => ?_) (fun hf => ?_)
    · have hlt := fnd_lt hf
      have hp : putF S.l t = (S.l.set (posF S.l t) t, 0) := by unfold putF; rw [if_pos h2, if_pos hf]
      rw [hp]
      obtain ⟨b, cap, c, hbg, hv, hbl, hnc, hcm, hcl, hct⟩ := ol.blk (by omega)
      obtain ⟨rfl, rfl⟩ : la = some ⟨b, 0, none⟩ ∧ lcap = cap := by injection hv with q1 _ q3; exact ⟨q1, q3⟩
      have lb := lt_of_at hbl
      refine run_draw mo (fun w' => Ext w20 w') [7] [(true, 0), (true, 1), (true, 2), (true, 3), (true, 4), (true, 5), (true, 6), (false, 7)] (by kernel_rfl) ?_
      intro wr6 er6
      have zr6 := er6.size
      have hsr6 := er6
      have eBp := eB.trans er6.toB
      have hbp := er6.at hb
      have hb3p := er6.at hb3
      have hblp := er6.at hbl
      refine rund_ev hsr6 rfl (ev_move rfl) ?_
      refine rund_ev hsr6 rfl (ev_nilCheck rfl) ?_
      refine rund_ev hsr6 rfl (ev_fieldAddr fld_108_5 rfl) ?_
      refine rund_ev hsr6 rfl (ev_load1 cell_45 rfl (fun wz hz => (cells_all (hz.at hb)).pick 55 (by omega) (rc_55 hA r.fl r.ll))) ?_
      refine rund_ev hsr6 rfl (ev_move rfl) ?_
      refine rund_ev hsr6 rfl (ev_loadA agg_82 htl rfl (fun wz hz => cells_all (hz.at hb3))) ?_
      refine rund_ev hsr6 rfl (ev_indexAddr (k := posF S.l t) el_45 rfl rfl (by omega)) ?_
      refine rund_doT rfl rfl (t_store sz_82 rfl rfl rfl htl hblp (by rw [htl, hcl]; omega) (Tgt.one t)) ?_
      rintro _ v6_7 ⟨hq6_7, e6_7, z6_7⟩
      replace eBp := eBp.newB1 e6_7 (by first | exact .inl (by omega) | exact .inr rfl | exact .inr (.inl rfl) | exact .inr (.inr (by omega)) | (right; omega))
      replace hbp := e6_7.at1 hbp (by first | assumption | omega)
      replace hb3p := e6_7.at1 hb3p (by first | assumption | omega)
      replace hblp := hq6_7
      clear hq6_7
      refine rund_nil ?_
      replace eB := eBp
      clear eBp
      replace hb := hbp
      clear hbp
      replace hb3 := hb3p
      clear hb3p
      replace hbl := hblp
      clear hblp
      refine run_inBlock ?_
      refine run_seq ?_
      refine run_region rfl ?_
      refine runl_ev (ev_assign rfl) ?_
      refine runl_nil ?_
      refine run_ret_any Tryz.func34 (res1 Tryz.results34 rfl) ?_
      refine ⟨rfl, list_done (g2 := lg) r hb eB ?_ (fun x hx => (List.mem_or_eq_of_mem_set hx).elim (hwf x) (fun h => h ▸ ht)) (.inl rfl)⟩
      rw [List.length_set, ← hbg]
      exact own_blk hbl hnc hcm (by rw [splice_len (by rw [htl, hcl]; omega), hcl]) (set_cells hwf ht hct _ hlt)
    · have hf2 : fndF S.l t = false := by simpa using hf
      refine run_seq ?_
      refine run_region rfl ?_
      refine runl_ev (ev_move rfl) ?_
      refine runl_ev (ev_nilCheck rfl) ?_
      refine runl_ev (ev_fieldAddr fld_108_5 rfl) ?_
      refine runl_ev (ev_load1 cell_45 rfl (eqw ((cells_all hb).pick 55 (by omega) (rc_55 hA r.fl r.ll)))) ?_
      refine runl_ev (ev_lenL sl_45 rfl) ?_
      refine runl_ev (ev_geq rfl rfl) ?_
      refine runl_ev (ev_assign rfl) ?_
      refine runl_nil ?_
      refine run_dcond rfl (fun h4 => ?_) (fun h4 => ?_)
      · have hp : putF S.l t = (S.l, 12) := by unfold putF; rw [if_pos h2, if_neg (by simp [hf]), if_pos (by omega)]
        rw [hp]
        refine run_seq ?_
        refine run_region rfl ?_
        refine runl_ev (ev_assign rfl) ?_
        refine runl_nil ?_
        refine run_ret_any Tryz.func34 (res1 Tryz.results34 rfl) ?_
        exact ⟨rfl, RepoP.of (h0.ext e) e⟩
      · have hp : putF S.l t = (insF S.l (posF S.l t) t, 0) := by unfold putF; rw [if_pos h2, if_neg (by simp [hf]), if_neg (by omega)]
        rw [hp]
        refine run_draw mo (fun w' => Ext w20 w') [8, 9, 10, 11] [(true, 0), (true, 1), (true, 2), (true, 3), (true, 4), (true, 5), (true, 6), (false, 7), (false, 8), (false, 9), (false, 10), (false, 11)] (by kernel_rfl) ?_
        intro wr4 er4
        have zr4 := er4.size
        have hsr4 := er4
        have ep := e.trans er4
        have eBp := eB.trans er4.toB
        have hbp := er4.at hb
        have olp := ol.ext er4
        have hb3p := er4.at hb3
        refine rund_ev hsr4 rfl (ev_move rfl) ?_
        refine rund_ev hsr4 rfl (ev_move rfl) ?_
        refine rund_ev hsr4 rfl (ev_nilCheck rfl) ?_
        refine rund_ev hsr4 rfl (ev_fieldAddr fld_108_5 rfl) ?_
        refine rund_ev hsr4 rfl (ev_load1 cell_45 rfl (fun wz hz => (cells_all (hz.at hb)).pick 55 (by omega) (rc_55 hA r.fl r.ll))) ?_
        refine rund_ev hsr4 rfl (ev_move rfl) ?_
        refine rund_ev hsr4 rfl (ev_loadA agg_82 htl rfl (fun wz hz => cells_all (hz.at hb3))) ?_
        refine rund_op rfl (t_buildSlice (out := t.cells) Tryz.underlying45 sz_82 zero_82 rfl rfl (by decide) (by decide) rfl (fill_one rfl htl rfl)) ?_
        rintro _ w30 ⟨b30, rfl, hb30, e30, n30, l30⟩
        have z30 := e30.size
        replace ep := ep.trans e30
        replace eBp := eBp.trans e30.toB
        replace hbp := e30.at hbp
        replace olp := olp.ext e30
        replace hb3p := e30.at hb3p
        have hs30 := hsr4.trans e30
        refine ⟨hs30, ?_⟩
        have hb30p := hb30
        refine rund_opT rfl rfl (t_call call_85 rfl (insert_any olp hwf t ht (posF S.l t) hpl (by omega) _ hb30p (by omega))) ?_
        rintro v31 w31 ⟨g31, ap31⟩
        have ol31 := ap31.own
        have an31 := ap31.new
        obtain ⟨va, vc, rfl⟩ := ol31.shape
        have z31 := ap31.ext.size
        replace eBp := eBp.newBG ap31.ext (fun k hk => by first | exact .inl (by omega) | exact .inr hk | exact .inr (.inr hk) | exact .inr (.inr (by omega)))
        replace hbp := ap31.ext.atG hbp (by first | assumption | omega)
        replace hb3p := ap31.ext.atG hb3p (by first | assumption | omega)
        have ol31p := ol31
        refine rund_opT rfl rfl (opT_ev (ev_nilCheck rfl)) ?_
        rintro _ _ ⟨rfl, rfl⟩
        refine rund_opT rfl rfl (opT_ev (ev_fieldAddr fld_108_5 rfl)) ?_
        rintro _ _ ⟨rfl, rfl⟩
        refine rund_doT rfl rfl (t_store1 sz_45 rfl rfl rfl rfl hbp (by rw [rc_len hA r.fl r.ll]; decide)) ?_
        rintro _ v4_11 ⟨hq4_11, e4_11, z4_11⟩
        replace eBp := eBp.newB1 e4_11 (by first | exact .inl (by omega) | exact .inr rfl | exact .inr (.inl rfl) | exact .inr (.inr (by omega)) | (right; omega))
        replace hb3p := e4_11.at1 hb3p (by first | assumption | omega)
        replace ol31p := ol31p.ext1 e4_11 (by first | assumption | omega)
        replace hbp := hq4_11
        clear hq4_11
        refine rund_nil ?_
        replace eB := eBp
        clear eBp
        replace hb := hbp
        clear hbp
        replace hb3 := hb3p
        clear hb3p
        replace ol31 := ol31p
        clear ol31p
        rw [show (0 + 55 : Nat) = 55 from rfl, rs_55 hA r.fl r.ll] at hb
        refine run_inBlock ?_
        refine run_seq ?_
        refine run_region rfl ?_
        refine runl_ev (ev_assign rfl) ?_
        refine runl_nil ?_
        refine run_ret_any Tryz.func34 (res1 Tryz.results34 rfl) ?_
        refine ⟨rfl, list_done r hb eB (by rw [insF_len hpl]; exact ol31) (fun x hx => ?_) (an31.imp id fun h => ⟨by omega, by omega⟩)⟩
        simp only [insF, List.mem_append, List.mem_cons] at hx
        rcases hx with h1 | rfl | h1
        · exact hwf x (List.mem_of_mem_take h1)
        · exact ht
        · exact hwf x (List.mem_of_mem_drop h1)
theorem remove_repo {F : Nat → Prop} {rb : Nat} {S : RepoS} {w : World} (h : RepoAt F rb S w) (a b' : ByteArray) (hsr : Srt S.l) (hl16 : S.l.length ≤ 16) : Ret Tryz.prog 37 [.pointer (some ⟨rb, 0, none⟩), .string a, .string b'] w fun v w' => v = .int .i64 (remF S.l (remT a b')).2 ∧ RepoP F w rb { S with l := (remF S.l (remT a b')).1 } w' := by
  have h0 := h
  obtain ⟨k0, k1, lg, rg, gg, fc, lc, lv, rv, t0, t1, s0, s1, tv, gv, lx, rx, gx, r⟩ := h
  have hA : (hcells S.seed).length = 32 := by rw [hcells_length]; exact r.sd
  have hb := r.hb
  have lrb := r.sep.rb_lt
  have e := ExtB.refl (fun _ => False) w
  have eB := ExtB.refl (fun k => k = rb ∨ (k : Int) = lg) w
  have n3 := r.sep.lg_rb
  have n4 := r.sep.lg_rb.symm
  have llg := r.sep.lg_lt
  have ol := r.ol
  obtain ⟨rfl, hwf⟩ := parts_tcs r.pl ol.len
  obtain ⟨la, lcap, rfl⟩ := ol.shape
  have ht := remT_wf a b'
  have htl := Tgt.cells_length ht
  have hpl := pos_le S.l (remT a b')
  refine ret_of_run Tryz.func37 rfl Tryz.ntmps37 rfl ?_
  refine run_seq ?_
  refine run_region rfl ?_
  refine runl_ev (ev_assign rfl) ?_
  refine runl_nil ?_
  refine run_seq ?_
  refine run_seq ?_
  refine run_region rfl ?_
  refine runl_ev (ev_move rfl) ?_
  refine runl_ev (ev_eqlPn Tryz.underlying22 rfl rfl) ?_
  refine runl_nil ?_
  refine run_cond_false rfl (rfl) ?_
  refine run_skip ?_
  refine run_seq ?_
  refine run_region rfl ?_
  refine runl_ev (ev_move rfl) ?_
  refine runl_ev (ev_nilCheck rfl) ?_
  refine runl_ev (ev_fieldAddr fld_108_5 rfl) ?_
  refine runl_ev (ev_load1 cell_45 rfl (eqw ((cells_all hb).pick 55 (by omega) (rc_55 hA r.fl r.ll)))) ?_
  refine runl_ev (ev_move rfl) ?_
  refine runl_ev (ev_move rfl) ?_
  refine runl_ev (ev_build (out := (remT a b').cells) ps_82 zero_82 rfl rfl (rfl)) ?_
  refine runl_op (t_call call_83 rfl (bsearch_any S.l (remT a b') ht hsr (by omega) _ _ _ _ (own_slat ol (r.pl.mono (fun _ _ _ h => flat_tgt _ _ _ _ h)) rfl))) ?_
  rintro _ w19 ⟨rfl, e19⟩
  have z19 := e19.size
  replace e := e.trans e19
  replace eB := eB.trans e19.toB
  replace hb := e19.at hb
  replace ol := ol.ext e19
  refine runl_ev (ev_move rfl) ?_
  refine runl_ev (ev_extract rfl rfl) ?_
  refine runl_ev (ev_extract rfl rfl) ?_
  refine runl_ev (ev_assign rfl) ?_
  refine runl_ev (ev_assign rfl) ?_
  refine runl_nil ?_
  refine run_seq ?_
  refine run_seq ?_
  refine run_region rfl ?_
  refine runl_ev (ev_move rfl) ?_
  refine runl_ev (ev_not rfl) ?_
  refine runl_nil ?_
  refine run_cond_split rfl (fun hf => ?_) (fun hf => ?_)
  · have hp : remF S.l (remT a b') = (S.l, 9) := by unfold remF; rw [if_neg (by simpa using hf)]
    rw [hp]
    refine run_seq ?_
    refine run_region rfl ?_
    refine runl_ev (ev_assign rfl) ?_
    refine runl_nil ?_
    refine run_ret_any Tryz.func37 (res1 Tryz.results37 rfl) ?_
    exact ⟨rfl, RepoP.of (h0.ext e) e⟩
  · have hf2 : fndF S.l (remT a b') = true := by simpa using hf
    have hlt := fnd_lt hf2
    have hp : remF S.l (remT a b') = (S.l.take (posF S.l (remT a b')) ++ S.l.drop (posF S.l (remT a b') + 1), 0) := by unfold remF; rw [if_pos hf2]
    rw [hp]
    refine run_skip ?_
    refine run_seq ?_
    refine run_region rfl ?_
    refine runl_ev (ev_move rfl) ?_
    refine runl_ev (ev_move rfl) ?_
    refine runl_ev (ev_nilCheck rfl) ?_
    refine runl_ev (ev_fieldAddr fld_108_5 rfl) ?_
    refine runl_ev (ev_load1 cell_45 rfl (eqw ((cells_all hb).pick 55 (by omega) (rc_55 hA r.fl r.ll)))) ?_
    refine runl_ev (ev_move rfl) ?_
    refine runl_ev (ev_move rfl) ?_
    refine runl_ev (ev_add rfl rfl (by omega) (by omega)) ?_
    refine runl_op (t_call call_86 rfl (delete_any ol hwf (posF S.l (remT a b')) hlt (by omega))) ?_
    rintro v32 w32 ⟨ol32, eG32, z32⟩
    obtain ⟨va, vc, rfl⟩ := ol32.shape
    have z32 := eG32.size
    replace eB := eB.newBG eG32 (fun k hk => by first | exact .inl (by omega) | exact .inr hk | exact .inr (.inr hk) | exact .inr (.inr (by omega)))
    replace hb := eG32.atG hb (by first | assumption | omega)
    refine runl_ev (ev_nilCheck rfl) ?_
    refine runl_ev (ev_fieldAddr fld_108_5 rfl) ?_
    refine runl_do (t_store1 sz_45 rfl rfl rfl rfl hb (by rw [rc_len hA r.fl r.ll]; decide)) ?_
    rintro _ v6_11 ⟨hq6_11, e6_11, z6_11⟩
    replace eB := eB.newB1 e6_11 (by first | exact .inl (by omega) | exact .inr rfl | exact .inr (.inl rfl) | exact .inr (.inr (by omega)) | (right; omega))
    replace ol32 := ol32.ext1 e6_11 (by first | assumption | omega)
    replace hb := hq6_11
    clear hq6_11
    refine runl_nil ?_
    rw [show (0 + 55 : Nat) = 55 from rfl, rs_55 hA r.fl r.ll] at hb
    refine run_seq ?_
    refine run_region rfl ?_
    refine runl_ev (ev_assign rfl) ?_
    refine runl_nil ?_
    refine run_ret_any Tryz.func37 (res1 Tryz.results37 rfl) ?_
    refine ⟨rfl, list_done r hb eB ol32 (fun x hx => ?_) (.inl rfl)⟩
    rcases List.mem_append.1 hx with h1 | h1
    · exact hwf x (List.mem_of_mem_take h1)
    · exact hwf x (List.mem_of_mem_drop h1)
theorem targets_repo {F : Nat → Prop} {rb : Nat} {S : RepoS} {w : World} (h : RepoAt F rb S w) (hl : S.l.length ≤ 100000000) : Ret Tryz.prog 31 [.pointer (some ⟨rb, 0, none⟩)] w (OwnL 82 37 RTgt w S.l) := by
  obtain ⟨k0, k1, lg, rg, gg, fc, lc, lv, rv, t0, t1, s0, s1, tv, gv, lx, rx, gx, r⟩ := h
  have hA : (hcells S.seed).length = 32 := by rw [hcells_length]; exact r.sd
  have hb := r.hb
  have lrb := r.sep.rb_lt
  have oo := r.ol
  obtain ⟨oa, oc, ho⟩ := oo.shape
  subst ho
  refine ret_of_run Tryz.func31 rfl Tryz.ntmps31 rfl ?_
  refine run_seq ?_
  refine run_region rfl ?_
  refine runl_ev (ev_assign rfl) ?_
  refine runl_nil ?_
  refine run_seq ?_
  refine run_seq ?_
  refine run_region rfl ?_
  refine runl_ev (ev_move rfl) ?_
  refine runl_ev (ev_eqlPn Tryz.underlying22 rfl rfl) ?_
  refine runl_nil ?_
  refine run_cond_false rfl (rfl) ?_
  refine run_skip ?_
  refine run_seq ?_
  refine run_region rfl ?_
  refine runl_ev (ev_move rfl) ?_
  refine runl_ev (ev_nilCheck rfl) ?_
  refine runl_ev (ev_fieldAddr fld_108_5 rfl) ?_
  refine runl_ev (ev_load1 cell_45 rfl (eqw ((cells_all hb).pick 55 (by omega) (rc_55 hA r.fl r.ll)))) ?_
  refine runl_op (t_call call_81 rfl (cloneT_any S.l _ _ _ _ (own_slat oo r.pl rfl) hl)) ?_
  intro v9 w9 o9
  skip
  refine runl_ev (ev_assign rfl) ?_
  refine runl_nil ?_
  refine run_ret_any Tryz.func31 (res1 Tryz.results31 rfl) ?_
  exact o9
theorem ledger_repo {F : Nat → Prop} {rb : Nat} {S : RepoS} {w : World} (h : RepoAt F rb S w) (hl : S.book.length ≤ 100000000) : Ret Tryz.prog 39 [.pointer (some ⟨rb, 0, none⟩)] w (OwnL 82 37 RTgt w S.book) := by
  obtain ⟨k0, k1, lg, rg, gg, fc, lc, lv, rv, t0, t1, s0, s1, tv, gv, lx, rx, gx, r⟩ := h
  have hA : (hcells S.seed).length = 32 := by rw [hcells_length]; exact r.sd
  have hb := r.hb
  have lrb := r.sep.rb_lt
  have oo := r.og
  obtain ⟨oa, oc, ho⟩ := oo.shape
  subst ho
  refine ret_of_run Tryz.func39 rfl Tryz.ntmps39 rfl ?_
  refine run_seq ?_
  refine run_region rfl ?_
  refine runl_ev (ev_assign rfl) ?_
  refine runl_nil ?_
  refine run_seq ?_
  refine run_seq ?_
  refine run_region rfl ?_
  refine runl_ev (ev_move rfl) ?_
  refine runl_ev (ev_eqlPn Tryz.underlying22 rfl rfl) ?_
  refine runl_nil ?_
  refine run_cond_false rfl (rfl) ?_
  refine run_skip ?_
  refine run_seq ?_
  refine run_region rfl ?_
  refine runl_ev (ev_move rfl) ?_
  refine runl_ev (ev_nilCheck rfl) ?_
  refine runl_ev (ev_fieldAddr fld_108_8 rfl) ?_
  refine runl_ev (ev_load1 cell_45 rfl (eqw ((cells_all hb).pick 63 (by omega) (rc_63 hA r.fl r.ll)))) ?_
  refine runl_op (t_call call_81 rfl (cloneT_any S.book _ _ _ _ (own_slat oo r.pg rfl) hl)) ?_
  intro v9 w9 o9
  skip
  refine runl_ev (ev_assign rfl) ?_
  refine runl_nil ?_
  refine run_ret_any Tryz.func39 (res1 Tryz.results39 rfl) ?_
  exact o9
end Go.Proofs.YtlgkdnmklgbhbaaGreatDoor
/- The walk of the law on the order of a Repo's targets. -/
namespace Go.Proofs.YtlgkdnmklgbhbaaGreatDoor
open Go Go.Fw
set_option maxRecDepth 100000
theorem eqTgt (t u : Tgt) (ht : t.wf) (hu : u.wf) : EqV Tryz.prog 10000 82 (.agg ⟨t.cells⟩) (.agg ⟨u.cells⟩) (decide (t = u)) := by
  rw [← Tgt.eq_iff]
  exact eqv_struct (d := 9999) Tryz.underlying82 st_82
    (eqf_cons rfl (part1 cell_9 (Tgt.c0 t)) (part1 cell_9 (Tgt.c0 u)) (eqv_string Tryz.underlying9)
    (eqf_cons rfl (part1 cell_3 (Tgt.c1 t)) (part1 cell_3 (Tgt.c1 u)) (eqv_int Tryz.underlying3)
    (eqf_cons rfl (partA agg_25 (Tgt.sumdrop ht)) (partA agg_25 (Tgt.sumdrop hu)) (eqv_hash Tryz.underlying25 Tryz.underlying5 sz_5 ht hu)
    (eqf_cons rfl (part1 cell_9 (Tgt.c34 ht)) (part1 cell_9 (Tgt.c34 hu)) (eqv_string Tryz.underlying9)
    (eqf_cons rfl (part1 cell_3 (Tgt.c35 ht)) (part1 cell_3 (Tgt.c35 hu)) (eqv_int Tryz.underlying3)
    (eqf_cons rfl (part1 cell_9 (Tgt.c36 ht)) (part1 cell_9 (Tgt.c36 hu)) (eqv_string Tryz.underlying9) eqf_nil))))))
theorem strLt_irr (a : ByteArray) : strLt a a = false := by
  cases hb : strLt a a with
  | false => rfl
  | true =>
    have := (cmpB_lt a a).1 hb
    rw [(cmpB_eq a a).2 rfl] at this
    omega
theorem any_take {α : Type} {p : α → Bool} {L : List α} {j : Nat} (hj : j < L.length) : (L.take (j + 1)).any p = ((L.take j).any p || p L[j]) := by
  rw [List.take_add_one, List.getElem?_eq_getElem hj, List.any_append]
  simp

theorem before_any (a b : Tgt) (ha : a.wf) (hb : b.wf) (w : World) : Ret Tryz.prog 35 [.agg ⟨a.cells⟩, .agg ⟨b.cells⟩] w fun r w' => r = .bool (riseB a b) ∧ Ext w w' := by
  have e := ExtB.refl (fun _ => False) w
  refine ret_of_run Tryz.func35 rfl Tryz.ntmps35 rfl ?_
  refine run_seq ?_
  refine run_region rfl ?_
  refine runl_op (t_boxA rfl) ?_
  rintro _ w2 ⟨b2, rfl, hb2, e2, n2, l2⟩
  have z2 := e2.size
  replace e := e.trans e2
  refine runl_op (t_boxA rfl) ?_
  rintro _ w3 ⟨b3, rfl, hb3, e3, n3, l3⟩
  have z3 := e3.size
  replace e := e.trans e3
  replace hb2 := e3.at hb2
  refine runl_ev (ev_assign rfl) ?_
  refine runl_nil ?_
  refine run_seq ?_
  refine run_seq ?_
  refine run_region rfl ?_
  refine runl_ev (ev_fieldAddr fld_82_0 rfl) ?_
  refine runl_ev (ev_load1 cell_9 rfl (eqw ((cells_all hb2).pick 0 rfl a.c0))) ?_
  refine runl_ev (ev_fieldAddr fld_82_0 rfl) ?_
  refine runl_ev (ev_load1 cell_9 rfl (eqw ((cells_all hb3).pick 0 rfl b.c0))) ?_
  refine runl_ev (ev_neqS rfl rfl) ?_
  refine runl_nil ?_
  refine run_cond_split rfl (fun h1 => ?_) (fun h1 => ?_)
  · have h2 : ¬ a.name = b.name := by simpa using h1
    refine run_seq ?_
    refine run_region rfl ?_
    refine runl_ev (ev_fieldAddr fld_82_0 rfl) ?_
    refine runl_ev (ev_load1 cell_9 rfl (eqw ((cells_all hb2).pick 0 rfl a.c0))) ?_
    refine runl_ev (ev_fieldAddr fld_82_0 rfl) ?_
    refine runl_ev (ev_load1 cell_9 rfl (eqw ((cells_all hb3).pick 0 rfl b.c0))) ?_
    refine runl_ev (ev_lssS rfl rfl) ?_
    refine runl_ev (ev_assign rfl) ?_
    refine runl_nil ?_
    refine run_ret_any Tryz.func35 (res1 Tryz.results35 rfl) ?_
    refine ⟨?_, e⟩
    unfold riseB
    simp [h2]
  · have h2 : a.name = b.name := by simpa using h1
    refine run_skip ?_
    refine run_seq ?_
    refine run_region rfl ?_
    refine runl_ev (ev_fieldAddr fld_82_5 rfl) ?_
    refine runl_ev (ev_load1 cell_9 rfl (eqw ((cells_all hb2).pick 36 rfl (Tgt.c36 ha)))) ?_
    refine runl_ev (ev_fieldAddr fld_82_5 rfl) ?_
    refine runl_ev (ev_load1 cell_9 rfl (eqw ((cells_all hb3).pick 36 rfl (Tgt.c36 hb)))) ?_
    refine runl_ev (ev_lssS rfl rfl) ?_
    refine runl_ev (ev_assign rfl) ?_
    refine runl_nil ?_
    refine run_ret_any Tryz.func35 (res1 Tryz.results35 rfl) ?_
    refine ⟨?_, e⟩
    unfold riseB
    simp [h2, strLt_irr]
theorem lawList_any (ls : List Tgt) (a : Option Addr) (n c : Nat) (w : World) (hsl : SlAt 37 RTgt w (.slice a n c) ls) (hz : ∀ t ∈ ls, t.name.size ≤ 1099511627776 ∧ t.hw.size ≤ 1099511627776 ∧ t.ecu.size ≤ 1099511627776) : Ret Tryz.prog 8 [.slice a n c] w fun r w' => r = .bool true ∧ Ext w w' := by
  have e := ExtB.refl (fun _ => False) w
  have hsl0 := hsl
  obtain ⟨rfl, hat⟩ := hsl.at
  refine ret_of_run Tryz.func8 rfl Tryz.ntmps8 rfl ?_
  refine run_seq ?_
  refine run_region rfl ?_
  refine runl_ev (ev_assign rfl) ?_
  refine runl_nil ?_
  refine run_seq ?_
  refine run_seq ?_
  refine run_region rfl ?_
  refine runl_ev (ev_move rfl) ?_
  refine runl_ev (ev_lenL sl_45 rfl) ?_
  refine runl_ev (ev_gtr rfl rfl) ?_
  refine runl_nil ?_
  refine run_dcond rfl (fun h0 => ?_) (fun h0 => ?_)
  · refine run_seq ?_
    refine run_region rfl ?_
    refine runl_ev (ev_assign rfl) ?_
    refine runl_nil ?_
    refine run_ret_any Tryz.func8 (res1 Tryz.results8 rfl) ?_
    exact ⟨rfl, e⟩
  · refine run_skip ?_
    refine run_seq ?_
    refine run_seq ?_
    refine run_region rfl ?_
    refine runl_ev (ev_assign rfl) ?_
    refine runl_nil ?_
    refine run_block ?_
    refine run_loop (ι := Nat) (fun k => [(0, .slice a ls.length c), (3, .int .i64 (k : Int))]) (fun k w' => k ≤ ls.length ∧ Ext w w') (fun k => ls.length - k) (0) ⟨rfl, rfl, trivial⟩ (⟨Nat.zero_le _, e⟩) ?_
    clear e
    intro k w1 ⟨hk, e⟩ IH
    refine run_seq ?_
    refine run_seq ?_
    refine run_region rfl ?_
    refine runl_ev (ev_move rfl) ?_
    refine runl_ev (ev_move rfl) ?_
    refine runl_ev (ev_lenL sl_45 rfl) ?_
    refine runl_ev (ev_lss rfl rfl) ?_
    refine runl_nil ?_
    refine run_dcond rfl (fun h1 => ?_) (fun h1 => ?_)
    · have hk1 : k < ls.length := by omega
      obtain ⟨bb, bo, cs1, rfl, ⟨hw1, rfl⟩, hc1⟩ := hat k hk1
      obtain ⟨z1, z2, z3⟩ := hz ls[k] (List.getElem_mem hk1)
      refine run_skip ?_
      refine run_seq ?_
      refine run_block ?_
      refine run_seq ?_
      refine run_draw mo (fun w' => Ext w1 w') [] [(true, 0), (true, 1), (true, 2), (true, 3), (true, 4), (true, 5), (true, 6), (true, 7), (true, 8), (true, 9), (true, 10), (true, 11), (true, 12), (true, 13), (true, 14), (true, 15), (true, 16), (true, 17), (true, 18), (true, 19), (true, 20)] (by kernel_rfl) ?_
      intro wr6 er6
      have zr6 := er6.size
      have hsr6 := er6
      refine rund_ev hsr6 rfl (ev_move rfl) ?_
      refine rund_ev hsr6 rfl (ev_move rfl) ?_
      refine rund_ev hsr6 rfl (ev_indexAddr (k := k) el_45 rfl rfl (by omega)) ?_
      refine rund_ev hsr6 rfl (ev_fieldAddr fld_82_0 rfl) ?_
      refine rund_ev hsr6 rfl (ev_load1 cell_9 rfl (fun wz hz => (hc1.ext (e.trans hz)).pick 0 rfl (Tgt.c0 _))) ?_
      refine rund_ev hsr6 rfl (ev_lenS str_9 rfl) ?_
      refine rund_ev hsr6 rfl (ev_move rfl) ?_
      refine rund_ev hsr6 rfl (ev_move rfl) ?_
      refine rund_ev hsr6 rfl (ev_indexAddr (k := k) el_45 rfl rfl (by omega)) ?_
      refine rund_ev hsr6 rfl (ev_fieldAddr fld_82_3 rfl) ?_
      refine rund_ev hsr6 rfl (ev_load1 cell_9 rfl (fun wz hz => (hc1.ext (e.trans hz)).pick 34 rfl (Tgt.c34 hw1))) ?_
      refine rund_ev hsr6 rfl (ev_lenS str_9 rfl) ?_
      refine rund_ev hsr6 rfl (ev_add rfl rfl (by omega) (by omega)) ?_
      refine rund_ev hsr6 rfl (ev_move rfl) ?_
      refine rund_ev hsr6 rfl (ev_move rfl) ?_
      refine rund_ev hsr6 rfl (ev_indexAddr (k := k) el_45 rfl rfl (by omega)) ?_
      refine rund_ev hsr6 rfl (ev_fieldAddr fld_82_5 rfl) ?_
      refine rund_ev hsr6 rfl (ev_load1 cell_9 rfl (fun wz hz => (hc1.ext (e.trans hz)).pick 36 rfl (Tgt.c36 hw1))) ?_
      refine rund_ev hsr6 rfl (ev_lenS str_9 rfl) ?_
      refine rund_ev hsr6 rfl (ev_add rfl rfl (by omega) (by omega)) ?_
      refine rund_ev hsr6 rfl (ev_gtr rfl rfl) ?_
      refine rund_nil ?_
      replace e := e.trans er6
      refine run_dcond rfl (fun h2 => ?_) (fun h2 => ?_)
      · refine run_seq ?_
        refine run_region rfl ?_
        refine runl_ev (ev_assign rfl) ?_
        refine runl_nil ?_
        refine run_ret_any Tryz.func8 (res1 Tryz.results8 rfl) ?_
        exact ⟨rfl, e⟩
      · refine run_skip ?_
        refine run_inBlock ?_
        refine run_region rfl ?_
        refine runl_ev (ev_move rfl) ?_
        refine runl_ev (ev_add rfl rfl (by omega) (by omega)) ?_
        refine runl_ev (ev_assign rfl) ?_
        refine runl_nil ?_
        exact IH (k + 1) _ _ (by omega) ⟨rfl, rfl, trivial⟩ ⟨hk1, e⟩
    · refine run_exit rfl ?_
      refine run_seq ?_
      refine run_region rfl ?_
      refine runl_ev (ev_build (out := hcells (hash1 2)) ps_25 zero_25 rfl rfl (rfl)) ?_
      refine runl_op (t_call call_12 rfl (reponew_any (hash1 2) rfl _)) ?_
      rintro _ w41 ⟨rb, rfl, at41, e41⟩
      have zz := e.size
      have z41 := e41.size
      replace e := e.trans e41
      refine runl_ev (ev_assign rfl) ?_
      refine runl_nil ?_
      refine run_seq ?_
      refine run_seq ?_
      refine run_region rfl ?_
      refine runl_ev (ev_move rfl) ?_
      refine runl_ev (ev_eqlPn Tryz.underlying22 rfl rfl) ?_
      refine runl_nil ?_
      refine run_cond_false rfl (rfl) ?_
      refine run_skip ?_
      refine run_seq ?_
      refine run_seq ?_
      refine run_region rfl ?_
      refine runl_ev (ev_assign rfl) ?_
      refine runl_nil ?_
      refine run_block ?_
      refine run_loop (ι := Nat × (Nat → Prop) × List Tgt) (fun x => [(0, .slice a ls.length c), (4, .pointer (some ⟨rb, 0, none⟩)), (5, .int .i64 (x.1 : Int))]) (fun x w' => x.1 ≤ ls.length ∧ RepoAt x.2.1 rb { RepoS.new (hash1 2) with l := x.2.2 } w' ∧ Srt x.2.2 ∧ x.2.2.length ≤ 16 ∧ (∀ t ∈ x.2.2, t.wf) ∧ (∀ k, x.2.1 k → w.heap.size ≤ k) ∧ Ext w w') (fun x => ls.length - x.1) ((0, _, [])) ⟨rfl, rfl, rfl, trivial⟩ (⟨Nat.zero_le _, at41, List.Pairwise.nil, by simp, fun _ h => (by cases h), fun k hk => (by have := hk.1; omega), e⟩) ?_
      clear e at41
      intro ⟨k, F, L⟩ w1 ⟨hk, at1, hsr, hl16, hwf, hFw, e⟩ IH
      simp only at hk at1 hsr hl16 hwf hFw
      refine run_seq ?_
      refine run_seq ?_
      refine run_region rfl ?_
      refine runl_ev (ev_move rfl) ?_
      refine runl_ev (ev_move rfl) ?_
      refine runl_ev (ev_lenL sl_45 rfl) ?_
      refine runl_ev (ev_lss rfl rfl) ?_
      refine runl_nil ?_
      refine run_dcond rfl (fun h4 => ?_) (fun h4 => ?_)
      · have hk1 : k < ls.length := by omega
        obtain ⟨bb, bo, cs1, rfl, ⟨hw1, rfl⟩, hc1⟩ := hat k hk1
        refine run_skip ?_
        refine run_seq ?_
        refine run_block ?_
        refine run_seq ?_
        refine run_region rfl ?_
        refine runl_ev (ev_move rfl) ?_
        refine runl_ev (ev_move rfl) ?_
        refine runl_ev (ev_move rfl) ?_
        refine runl_ev (ev_indexAddr (k := k) el_45 rfl rfl (by omega)) ?_
        refine runl_ev (ev_loadA agg_82 (Tgt.cells_length hw1) rfl (eqw (hc1.ext e))) ?_
        refine runl_op (t_call call_34 rfl (publish_repo at1 ls[k] hw1 hsr hl16)) ?_
        rintro _ w55 ⟨rfl, F55, at55, e55, hF55⟩
        have eN55 : Ext w w55 := e.new e55 (fun k hk => hFw k hk)
        have hFw2 : ∀ k, F55 k → w.heap.size ≤ k := fun k hk => (hF55 k hk).elim (hFw k) (fun h => by have := e.size; omega)
        have hsr2 := put_srt (t := ls[k]) hsr
        have hl2 := put_len (t := ls[k]) hl16
        have hwf2 := put_wf hwf hw1
        have hmem := put_mem (l := L) (t := ls[k])
        have h55 : ∃ code L2, code = (putF L ls[k]).2 ∧ L2 = (putF L ls[k]).1 := ⟨_, _, rfl, rfl⟩
        obtain ⟨code, L2, hcode, hL2⟩ := h55
        rw [← hcode]
        rw [← hcode, ← hL2] at hmem
        simp only [← hL2] at hsr2 hl2 hwf2 at55
        replace e := eN55
        have z55 := e55.size
        refine runl_ev (ev_assign rfl) ?_
        refine runl_nil ?_
        refine run_seq ?_
        refine run_region rfl ?_
        refine runl_ev (ev_move rfl) ?_
        refine runl_op (t_call call_31 rfl (targets_repo at55 (Nat.le_trans hl2 (by decide)))) ?_
        rintro v57 w57 o57
        obtain ⟨ta, tc, rfl, -, sl57⟩ := o57.sl
        have e57 := o57.ext
        have at57 := at55.ext e57
        obtain ⟨-, hat2⟩ := sl57.at
        have z57 := e57.size
        replace e := e.trans e57
        refine runl_ev (ev_assign rfl) ?_
        refine runl_nil ?_
        refine run_seq ?_
        refine run_region rfl ?_
        refine runl_ev (ev_assign rfl) ?_
        refine runl_nil ?_
        refine run_seq ?_
        refine run_seq ?_
        refine run_region rfl ?_
        refine runl_ev (ev_assign rfl) ?_
        refine runl_nil ?_
        refine run_block ?_
        refine run_loop (ι := Nat × Bool) (fun x => [(0, .slice (some ⟨bb, bo, none⟩) ls.length c), (4, .pointer (some ⟨rb, 0, none⟩)), (5, .int .i64 (k : Int)), (6, .int .i64 code), (7, .slice ta L2.length tc), (8, .bool x.2), (9, .int .i64 (x.1 : Int))]) (fun x w' => x.1 ≤ L2.length ∧ x.2 = (L2.take x.1).any (fun u => decide (u = ls[k])) ∧ Ext w57 w') (fun x => L2.length - x.1) ((0, false)) ⟨rfl, rfl, rfl, rfl, rfl, rfl, rfl, trivial⟩ (⟨Nat.zero_le _, rfl, ExtB.refl _ _⟩) ?_
        intro ⟨j, th⟩ w2 ⟨hj, hth, e2⟩ IH2
        simp only at hj hth
        refine run_seq ?_
        refine run_seq ?_
        refine run_region rfl ?_
        refine runl_ev (ev_move rfl) ?_
        refine runl_ev (ev_move rfl) ?_
        refine runl_ev (ev_lenL sl_45 rfl) ?_
        refine runl_ev (ev_lss rfl rfl) ?_
        refine runl_nil ?_
        refine run_dcond rfl (fun h5 => ?_) (fun h5 => ?_)
        · have hj1 : j < L2.length := by omega
          obtain ⟨b2, o2, cs2, rfl, ⟨hw2, rfl⟩, hc2⟩ := hat2 j hj1
          refine run_skip ?_
          refine run_seq ?_
          refine run_block ?_
          refine run_seq ?_
          cases th
          · have hth2 : decide (L2[j] = ls[k]) = (L2.take (j + 1)).any (fun u => decide (u = ls[k])) := by rw [any_take hj1, ← hth]; rfl
            refine run_draw mo (fun w' => Ext w2 w') [] [(true, 0), (true, 1), (true, 2), (true, 3), (true, 4), (true, 5), (true, 6), (true, 7), (true, 8), (true, 9), (true, 10), (true, 11), (true, 12)] (by kernel_rfl) ?_
            intro wr20 er20
            have zr20 := er20.size
            have hsr20 := er20
            refine rund_ev hsr20 rfl (ev_move rfl) ?_
            refine rund_ev hsr20 rfl (ev_move rfl) ?_
            refine rund_ev_g hsr20 rfl rfl rfl (rfl) (ev_move rfl) ?_
            refine rund_ev_g hsr20 rfl rfl rfl (rfl) (ev_move rfl) ?_
            refine rund_ev_g hsr20 rfl rfl rfl (rfl) (ev_indexAddr (k := j) el_45 rfl rfl (by omega)) ?_
            refine rund_ev_g hsr20 rfl rfl rfl (rfl) (ev_loadA agg_82 (Tgt.cells_length hw2) rfl (fun wz hz => hc2.ext (e2.trans hz))) ?_
            refine rund_ev_g hsr20 rfl rfl rfl (rfl) (ev_move rfl) ?_
            refine rund_ev_g hsr20 rfl rfl rfl (rfl) (ev_move rfl) ?_
            refine rund_ev_g hsr20 rfl rfl rfl (rfl) (ev_indexAddr (k := k) el_45 rfl rfl (by omega)) ?_
            refine rund_ev_g hsr20 rfl rfl rfl (rfl) (ev_loadA agg_82 (Tgt.cells_length hw1) rfl (fun wz hz => hc1.ext ((e.trans e2).trans hz))) ?_
            refine rund_ev_g hsr20 rfl rfl rfl (rfl) (ev_eqlA rfl rfl eg_82 (eqTgt L2[j] ls[k] hw2 hw1)) ?_
            refine rund_ev hsr20 rfl (ev_pick rfl rfl rfl (if_neg (by simp))) ?_
            refine rund_ev hsr20 rfl (ev_assign rfl) ?_
            refine rund_nil ?_
            replace e2 := e2.trans er20
            refine run_seq ?_
            by_cases hj0 : 0 < j
            · obtain ⟨b3, o3, cs3, hta3, ⟨hw3, hcs3⟩, hc3⟩ := hat2 (j - 1) (by show j - 1 < L2.length; omega)
              obtain ⟨rfl, rfl⟩ : b2 = b3 ∧ o2 = o3 := by injection hta3 with q; injection q with q1 q2; exact ⟨q1, q2⟩
              subst hcs3
              have hr : riseB L2[j - 1] L2[j] = true := (ordF_lt _ _).1 (hsr2.get _ _ (by omega))
              refine run_draw mo (fun w' => Ext wr20 w') [] [(true, 0), (true, 1), (true, 2), (true, 3), (true, 4), (true, 5), (true, 6), (true, 7), (true, 8), (true, 9), (true, 10), (true, 11), (false, 12), (true, 13), (true, 14)] (by kernel_rfl) ?_
              intro wr21 er21
              have zr21 := er21.size
              have hsr21 := er21
              have e2p := e2.trans er21
              refine rund_ev hsr21 rfl (ev_move rfl) ?_
              refine rund_ev hsr21 rfl (ev_gtr rfl rfl) ?_
              refine rund_ev hsr21 rfl (ev_move rfl) ?_
              refine rund_ev_g hsr21 rfl rfl rfl (decide_eq_true (by omega)) (ev_move rfl) ?_
              refine rund_ev_g hsr21 rfl rfl rfl (decide_eq_true (by omega)) (ev_move rfl) ?_
              refine rund_ev_g hsr21 rfl rfl rfl (decide_eq_true (by omega)) (ev_subK (((j - 1 : Nat) : Int)) rfl rfl (by rw [show ((j : Nat) : Int) - 1 = ((j - 1 : Nat) : Int) by omega]; exact wrap_i64 (by omega) (by omega))) ?_
              refine rund_ev_g hsr21 rfl rfl rfl (decide_eq_true (by omega)) (ev_indexAddr (k := j - 1) el_45 rfl rfl (by omega)) ?_
              refine rund_ev_g hsr21 rfl rfl rfl (decide_eq_true (by omega)) (ev_loadA agg_82 (Tgt.cells_length hw3) rfl (fun wz hz => hc3.ext (e2.trans hz))) ?_
              refine rund_ev_g hsr21 rfl rfl rfl (decide_eq_true (by omega)) (ev_move rfl) ?_
              refine rund_ev_g hsr21 rfl rfl rfl (decide_eq_true (by omega)) (ev_move rfl) ?_
              refine rund_ev_g hsr21 rfl rfl rfl (decide_eq_true (by omega)) (ev_indexAddr (k := j) el_45 rfl rfl (by omega)) ?_
              refine rund_ev_g hsr21 rfl rfl rfl (decide_eq_true (by omega)) (ev_loadA agg_82 (Tgt.cells_length hw2) rfl (fun wz hz => hc2.ext (e2.trans hz))) ?_
              refine rund_op_g rfl rfl rfl (decide_eq_true (by omega)) (t_call call_35 rfl (before_any L2[j - 1] L2[j] hw3 hw2 _)) ?_
              rintro _ w88 ⟨rfl, e88⟩
              have z88 := e88.size
              replace e2p := e2p.trans e88
              have hs88 := hsr21.trans e88
              refine ⟨hs88, ?_⟩
              refine rund_ev_g hs88 rfl rfl rfl (decide_eq_true (by omega)) (ev_not rfl) ?_
              refine rund_ev hs88 rfl (ev_pick rfl rfl rfl (if_pos (decide_eq_true (by omega)))) ?_
              refine rund_nil ?_
              replace e2 := e2p
              clear e2p
              refine run_cond_false rfl (by rw [hr]; rfl) ?_
              refine run_skip ?_
              refine run_inBlock ?_
              refine run_region rfl ?_
              refine runl_ev (ev_move rfl) ?_
              refine runl_ev (ev_add rfl rfl (by omega) (by omega)) ?_
              refine runl_ev (ev_assign rfl) ?_
              refine runl_nil ?_
              exact IH2 (j + 1, decide (L2[j] = ls[k])) _ _ (by simp only; omega) ⟨rfl, rfl, rfl, rfl, rfl, rfl, rfl, trivial⟩ ⟨hj1, hth2, e2⟩
            · refine run_draw mo (fun w' => Ext wr20 w') [] [(true, 0), (true, 1), (true, 2), (true, 3), (true, 4), (true, 5), (true, 6), (true, 7), (true, 8), (true, 9), (true, 10), (true, 11), (false, 12), (true, 13), (true, 14)] (by kernel_rfl) ?_
              intro wr21 er21
              have zr21 := er21.size
              have hsr21 := er21
              have e2p := e2.trans er21
              refine rund_ev hsr21 rfl (ev_move rfl) ?_
              refine rund_ev hsr21 rfl (ev_gtr rfl rfl) ?_
              refine rund_ev hsr21 rfl (ev_move rfl) ?_
              refine rund_no_g hsr21 rfl rfl rfl (decide_eq_false (by omega)) ?_
              refine rund_no_g hsr21 rfl rfl rfl (decide_eq_false (by omega)) ?_
              refine rund_no_g hsr21 rfl rfl rfl (decide_eq_false (by omega)) ?_
              refine rund_no_g hsr21 rfl rfl rfl (decide_eq_false (by omega)) ?_
              refine rund_no_g hsr21 rfl rfl rfl (decide_eq_false (by omega)) ?_
              refine rund_no_g hsr21 rfl rfl rfl (decide_eq_false (by omega)) ?_
              refine rund_no_g hsr21 rfl rfl rfl (decide_eq_false (by omega)) ?_
              refine rund_no_g hsr21 rfl rfl rfl (decide_eq_false (by omega)) ?_
              refine rund_no_g hsr21 rfl rfl rfl (decide_eq_false (by omega)) ?_
              refine rund_no_gf rfl rfl rfl (decide_eq_false (by omega)) hsr21 ?_
              refine rund_no_g hsr21 rfl rfl rfl (decide_eq_false (by omega)) ?_
              refine rund_ev hsr21 rfl (ev_pick rfl rfl rfl (if_neg (by simp; omega))) ?_
              refine rund_nil ?_
              replace e2 := e2p
              clear e2p
              refine run_cond_false rfl (rfl) ?_
              refine run_skip ?_
              refine run_inBlock ?_
              refine run_region rfl ?_
              refine runl_ev (ev_move rfl) ?_
              refine runl_ev (ev_add rfl rfl (by omega) (by omega)) ?_
              refine runl_ev (ev_assign rfl) ?_
              refine runl_nil ?_
              exact IH2 (j + 1, decide (L2[j] = ls[k])) _ _ (by simp only; omega) ⟨rfl, rfl, rfl, rfl, rfl, rfl, rfl, trivial⟩ ⟨hj1, hth2, e2⟩
          · have hth2 : true = (L2.take (j + 1)).any (fun u => decide (u = ls[k])) := by rw [any_take hj1, ← hth]; rfl
            refine run_draw mo (fun w' => Ext w2 w') [] [(true, 0), (true, 1), (true, 2), (true, 3), (true, 4), (true, 5), (true, 6), (true, 7), (true, 8), (true, 9), (true, 10), (true, 11), (true, 12)] (by kernel_rfl) ?_
            intro wr20 er20
            have zr20 := er20.size
            have hsr20 := er20
            refine rund_ev hsr20 rfl (ev_move rfl) ?_
            refine rund_ev hsr20 rfl (ev_move rfl) ?_
            refine rund_no_g hsr20 rfl rfl rfl (rfl) ?_
            refine rund_no_g hsr20 rfl rfl rfl (rfl) ?_
            refine rund_no_g hsr20 rfl rfl rfl (rfl) ?_
            refine rund_no_g hsr20 rfl rfl rfl (rfl) ?_
            refine rund_no_g hsr20 rfl rfl rfl (rfl) ?_
            refine rund_no_g hsr20 rfl rfl rfl (rfl) ?_
            refine rund_no_g hsr20 rfl rfl rfl (rfl) ?_
            refine rund_no_g hsr20 rfl rfl rfl (rfl) ?_
            refine rund_no_g hsr20 rfl rfl rfl (rfl) ?_
            refine rund_ev hsr20 rfl (ev_pick rfl rfl rfl (if_pos (rfl))) ?_
            refine rund_ev hsr20 rfl (ev_assign rfl) ?_
            refine rund_nil ?_
            replace e2 := e2.trans er20
            refine run_seq ?_
            by_cases hj0 : 0 < j
            · obtain ⟨b3, o3, cs3, hta3, ⟨hw3, hcs3⟩, hc3⟩ := hat2 (j - 1) (by show j - 1 < L2.length; omega)
              obtain ⟨rfl, rfl⟩ : b2 = b3 ∧ o2 = o3 := by injection hta3 with q; injection q with q1 q2; exact ⟨q1, q2⟩
              subst hcs3
              have hr : riseB L2[j - 1] L2[j] = true := (ordF_lt _ _).1 (hsr2.get _ _ (by omega))
              refine run_draw mo (fun w' => Ext wr20 w') [] [(true, 0), (true, 1), (true, 2), (true, 3), (true, 4), (true, 5), (true, 6), (true, 7), (true, 8), (true, 9), (true, 10), (true, 11), (false, 12), (true, 13), (true, 14)] (by kernel_rfl) ?_
              intro wr21 er21
              have zr21 := er21.size
              have hsr21 := er21
              have e2p := e2.trans er21
              refine rund_ev hsr21 rfl (ev_move rfl) ?_
              refine rund_ev hsr21 rfl (ev_gtr rfl rfl) ?_
              refine rund_ev hsr21 rfl (ev_move rfl) ?_
              refine rund_ev_g hsr21 rfl rfl rfl (decide_eq_true (by omega)) (ev_move rfl) ?_
              refine rund_ev_g hsr21 rfl rfl rfl (decide_eq_true (by omega)) (ev_move rfl) ?_
              refine rund_ev_g hsr21 rfl rfl rfl (decide_eq_true (by omega)) (ev_subK (((j - 1 : Nat) : Int)) rfl rfl (by rw [show ((j : Nat) : Int) - 1 = ((j - 1 : Nat) : Int) by omega]; exact wrap_i64 (by omega) (by omega))) ?_
              refine rund_ev_g hsr21 rfl rfl rfl (decide_eq_true (by omega)) (ev_indexAddr (k := j - 1) el_45 rfl rfl (by omega)) ?_
              refine rund_ev_g hsr21 rfl rfl rfl (decide_eq_true (by omega)) (ev_loadA agg_82 (Tgt.cells_length hw3) rfl (fun wz hz => hc3.ext (e2.trans hz))) ?_
              refine rund_ev_g hsr21 rfl rfl rfl (decide_eq_true (by omega)) (ev_move rfl) ?_
              refine rund_ev_g hsr21 rfl rfl rfl (decide_eq_true (by omega)) (ev_move rfl) ?_
              refine rund_ev_g hsr21 rfl rfl rfl (decide_eq_true (by omega)) (ev_indexAddr (k := j) el_45 rfl rfl (by omega)) ?_
              refine rund_ev_g hsr21 rfl rfl rfl (decide_eq_true (by omega)) (ev_loadA agg_82 (Tgt.cells_length hw2) rfl (fun wz hz => hc2.ext (e2.trans hz))) ?_
              refine rund_op_g rfl rfl rfl (decide_eq_true (by omega)) (t_call call_35 rfl (before_any L2[j - 1] L2[j] hw3 hw2 _)) ?_
              rintro _ w88 ⟨rfl, e88⟩
              have z88 := e88.size
              replace e2p := e2p.trans e88
              have hs88 := hsr21.trans e88
              refine ⟨hs88, ?_⟩
              refine rund_ev_g hs88 rfl rfl rfl (decide_eq_true (by omega)) (ev_not rfl) ?_
              refine rund_ev hs88 rfl (ev_pick rfl rfl rfl (if_pos (decide_eq_true (by omega)))) ?_
              refine rund_nil ?_
              replace e2 := e2p
              clear e2p
              refine run_cond_false rfl (by rw [hr]; rfl) ?_
              refine run_skip ?_
              refine run_inBlock ?_
              refine run_region rfl ?_
              refine runl_ev (ev_move rfl) ?_
              refine runl_ev (ev_add rfl rfl (by omega) (by omega)) ?_
              refine runl_ev (ev_assign rfl) ?_
              refine runl_nil ?_
              exact IH2 (j + 1, true) _ _ (by simp only; omega) ⟨rfl, rfl, rfl, rfl, rfl, rfl, rfl, trivial⟩ ⟨hj1, hth2, e2⟩
            · refine run_draw mo (fun w' => Ext wr20 w') [] [(true, 0), (true, 1), (true, 2), (true, 3), (true, 4), (true, 5), (true, 6), (true, 7), (true, 8), (true, 9), (true, 10), (true, 11), (false, 12), (true, 13), (true, 14)] (by kernel_rfl) ?_
              intro wr21 er21
              have zr21 := er21.size
              have hsr21 := er21
              have e2p := e2.trans er21
              refine rund_ev hsr21 rfl (ev_move rfl) ?_
              refine rund_ev hsr21 rfl (ev_gtr rfl rfl) ?_
              refine rund_ev hsr21 rfl (ev_move rfl) ?_
              refine rund_no_g hsr21 rfl rfl rfl (decide_eq_false (by omega)) ?_
              refine rund_no_g hsr21 rfl rfl rfl (decide_eq_false (by omega)) ?_
              refine rund_no_g hsr21 rfl rfl rfl (decide_eq_false (by omega)) ?_
              refine rund_no_g hsr21 rfl rfl rfl (decide_eq_false (by omega)) ?_
              refine rund_no_g hsr21 rfl rfl rfl (decide_eq_false (by omega)) ?_
              refine rund_no_g hsr21 rfl rfl rfl (decide_eq_false (by omega)) ?_
              refine rund_no_g hsr21 rfl rfl rfl (decide_eq_false (by omega)) ?_
              refine rund_no_g hsr21 rfl rfl rfl (decide_eq_false (by omega)) ?_
              refine rund_no_g hsr21 rfl rfl rfl (decide_eq_false (by omega)) ?_
              refine rund_no_gf rfl rfl rfl (decide_eq_false (by omega)) hsr21 ?_
              refine rund_no_g hsr21 rfl rfl rfl (decide_eq_false (by omega)) ?_
              refine rund_ev hsr21 rfl (ev_pick rfl rfl rfl (if_neg (by simp; omega))) ?_
              refine rund_nil ?_
              replace e2 := e2p
              clear e2p
              refine run_cond_false rfl (rfl) ?_
              refine run_skip ?_
              refine run_inBlock ?_
              refine run_region rfl ?_
              refine runl_ev (ev_move rfl) ?_
              refine runl_ev (ev_add rfl rfl (by omega) (by omega)) ?_
              refine runl_ev (ev_assign rfl) ?_
              refine runl_nil ?_
              exact IH2 (j + 1, true) _ _ (by simp only; omega) ⟨rfl, rfl, rfl, rfl, rfl, rfl, rfl, trivial⟩ ⟨hj1, hth2, e2⟩
        · obtain rfl : j = L2.length := by omega
          rw [List.take_length] at hth
          have e := e.trans e2
          have at57 := at57.ext e2
          refine run_exit rfl ?_
          refine run_seq ?_
          rcases (show code = 0 ∨ (¬ code = 0 ∧ th = true) ∨ (¬ code = 0 ∧ th = false) by by_cases h : code = 0 <;> cases th <;> simp [h]) with hc | ⟨hc, ht1⟩ | ⟨hc, ht1⟩
          · have ht1 : th = true := by rw [hth, List.any_eq_true]; exact ⟨ls[k], hmem hc, decide_eq_true rfl⟩
            subst ht1
            refine run_region rfl ?_
            refine runl_ev (ev_move rfl) ?_
            refine runl_ev (ev_move rfl) ?_
            refine runl_ev (ev_eqlI rfl rfl) ?_
            refine runl_ev (ev_neqB Tryz.underlying4 rfl rfl) ?_
            refine runl_ev (ev_move rfl) ?_
            refine runl_no_g rfl rfl (by rw [decide_eq_true hc]; rfl) ?_
            refine runl_no_g rfl rfl (by rw [decide_eq_true hc]; rfl) ?_
            refine runl_ev (ev_pick rfl rfl rfl (if_neg (by rw [decide_eq_true hc]; simp))) ?_
            refine runl_ev (ev_move rfl) ?_
            refine runl_ev_g rfl rfl (rfl) (ev_move rfl) ?_
            refine runl_ev_g rfl rfl (rfl) (ev_lenL sl_45 rfl) ?_
            refine runl_ev_g rfl rfl (rfl) (ev_gtr rfl rfl) ?_
            refine runl_ev (ev_pick rfl rfl rfl (if_neg (by simp))) ?_
            refine runl_nil ?_
            refine run_cond_false rfl (decide_eq_false (by omega)) ?_
            refine run_skip ?_
            refine run_inBlock ?_
            refine run_region rfl ?_
            refine runl_ev (ev_move rfl) ?_
            refine runl_ev (ev_add rfl rfl (by omega) (by omega)) ?_
            refine runl_ev (ev_assign rfl) ?_
            refine runl_nil ?_
            exact IH (k + 1, F55, L2) _ _ (by simp only; omega) ⟨rfl, rfl, rfl, trivial⟩ ⟨hk1, at57, hsr2, hl2, hwf2, hFw2, e⟩
          · subst ht1
            refine run_region rfl ?_
            refine runl_ev (ev_move rfl) ?_
            refine runl_ev (ev_move rfl) ?_
            refine runl_ev (ev_eqlI rfl rfl) ?_
            refine runl_ev (ev_neqB Tryz.underlying4 rfl rfl) ?_
            refine runl_ev (ev_move rfl) ?_
            refine runl_ev_g rfl rfl (by rw [decide_eq_false hc]; rfl) (ev_move rfl) ?_
            refine runl_ev_g rfl rfl (by rw [decide_eq_false hc]; rfl) (ev_eqlI rfl rfl) ?_
            refine runl_ev (ev_pick rfl rfl rfl (if_pos (by rw [decide_eq_false hc]; rfl))) ?_
            refine runl_ev (ev_move rfl) ?_
            refine runl_ev_g rfl rfl (decide_eq_false hc) (ev_move rfl) ?_
            refine runl_ev_g rfl rfl (decide_eq_false hc) (ev_lenL sl_45 rfl) ?_
            refine runl_ev_g rfl rfl (decide_eq_false hc) (ev_gtr rfl rfl) ?_
            refine runl_ev (ev_pick rfl rfl rfl (if_neg (by simp [hc]))) ?_
            refine runl_nil ?_
            refine run_cond_false rfl (decide_eq_false (by omega)) ?_
            refine run_skip ?_
            refine run_inBlock ?_
            refine run_region rfl ?_
            refine runl_ev (ev_move rfl) ?_
            refine runl_ev (ev_add rfl rfl (by omega) (by omega)) ?_
            refine runl_ev (ev_assign rfl) ?_
            refine runl_nil ?_
            exact IH (k + 1, F55, L2) _ _ (by simp only; omega) ⟨rfl, rfl, rfl, trivial⟩ ⟨hk1, at57, hsr2, hl2, hwf2, hFw2, e⟩
          · subst ht1
            refine run_region rfl ?_
            refine runl_ev (ev_move rfl) ?_
            refine runl_ev (ev_move rfl) ?_
            refine runl_ev (ev_eqlI rfl rfl) ?_
            refine runl_ev (ev_neqB Tryz.underlying4 rfl rfl) ?_
            refine runl_ev (ev_move rfl) ?_
            refine runl_no_g rfl rfl (by rw [decide_eq_false hc]; rfl) ?_
            refine runl_no_g rfl rfl (by rw [decide_eq_false hc]; rfl) ?_
            refine runl_ev (ev_pick rfl rfl rfl (if_neg (by rw [decide_eq_false hc]; simp))) ?_
            refine runl_ev (ev_move rfl) ?_
            refine runl_ev_g rfl rfl (rfl) (ev_move rfl) ?_
            refine runl_ev_g rfl rfl (rfl) (ev_lenL sl_45 rfl) ?_
            refine runl_ev_g rfl rfl (rfl) (ev_gtr rfl rfl) ?_
            refine runl_ev (ev_pick rfl rfl rfl (if_neg (by simp))) ?_
            refine runl_nil ?_
            refine run_cond_false rfl (decide_eq_false (by omega)) ?_
            refine run_skip ?_
            refine run_inBlock ?_
            refine run_region rfl ?_
            refine runl_ev (ev_move rfl) ?_
            refine runl_ev (ev_add rfl rfl (by omega) (by omega)) ?_
            refine runl_ev (ev_assign rfl) ?_
            refine runl_nil ?_
            exact IH (k + 1, F55, L2) _ _ (by simp only; omega) ⟨rfl, rfl, rfl, trivial⟩ ⟨hk1, at57, hsr2, hl2, hwf2, hFw2, e⟩
      · refine run_exit rfl ?_
        refine run_seq ?_
        refine run_region rfl ?_
        refine runl_op (t_call call_18 rfl (known16_any _)) ?_
        rintro _ w104 ⟨rfl, e104⟩
        have z104 := e104.size
        replace e := e.trans e104
        refine runl_ev (ev_assign rfl) ?_
        refine runl_nil ?_
        refine run_ret_any Tryz.func8 (res1 Tryz.results8 rfl) ?_
        exact ⟨rfl, e⟩
end Go.Proofs.YtlgkdnmklgbhbaaGreatDoor
