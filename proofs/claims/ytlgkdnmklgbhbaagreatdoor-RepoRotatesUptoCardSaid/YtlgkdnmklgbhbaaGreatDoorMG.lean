/- The walk of what has another key sign. -/
import Derived.Test.YtlgkdnmklgbhbaaGreatDoorMF
import Derived.Test.YtlgkdnmklgbhbaaGreatDoorMA
import Derived.Test.YtlgkdnmklgbhbaaGreatDoorMB
import Derived.Test.YtlgkdnmklgbhbaaGreatDoorMD
namespace Go.Proofs.YtlgkdnmklgbhbaaGreatDoor
open Go Go.Fw
set_option maxRecDepth 100000
def RepoS.nroot (S : RepoS) : RootP := rootP S.p0 (S.pub (S.gen + 1)) ((S.ver + 1 : Nat) : Int)
def RepoS.rtb (S : RepoS) : List UInt8 := encP 1 isRootP encRoot S.nroot
/-- Behind a rotation. -/
def RepoS.rotate (S : RepoS) : RepoS :=
  { S with gen := S.gen + 1, used1 := 0, ver := S.ver + 1, used0 := S.used0 + 1, roots := S.roots ++ [envF S.p0 (seedF S.seed 0) S.used0 S.rtb] }
theorem rolesF_32 {p0 p1 : List UInt8} (h0 : p0.length = 32) (h1 : p1.length = 32) : ∀ k ∈ rolesF p0 p1, k.keys.length ≤ 1 ∧ ∀ h ∈ k.keys, h.length = 32 := by
  intro k hk;simp only [rolesF, List.mem_cons, List.not_mem_nil, or_false] at hk;rcases hk with rfl | rfl | rfl | rfl <;> simp [h0, h1]
theorem nroot_len (S : RepoS) : (encRoot S.nroot).length ≤ 1000 := by
  have := encRoot_len (m := 1) (r := S.nroot) rfl (rolesF_32 (pubF_len _) (pubF_len _));omega
theorem rtb_len (S : RepoS) : S.rtb.length ≤ 20000 := by
  have h := nroot_len S;have := encP_len (k := 1) (may := isRootP) (enc := encRoot) (x := S.nroot) (n := 1000) fun _ => h
  unfold RepoS.rtb;omega
theorem rtb_eq (S : RepoS) : encP 1 isRootP encRoot S.nroot = S.rtb := rfl
attribute [irreducible] RepoS.rtb
theorem rc_45 {A B C : List Value} {k0 k1 gn l sg ro t0 t1 s0 s1 tg ld : Value} (hA : A.length = 32) (hB : B.length = 10) {v : Value} (h : C[0]? = some v) : (rcells A k0 k1 gn B C l sg ro t0 t1 s0 s1 tg ld)[45]? = some v := by
  have hC : 0 < C.length := (List.getElem?_eq_some_iff.1 h).1;rw [← h]; simp [rcells, List.getElem?_append, hA, hB, hC]
theorem fz_root {lo : Nat} {w : World} {R : RootP} {cs : List Value} (h : RRootF lo w R cs) : Fz (fun k => k < lo ∨ w.heap.size ≤ k) (fun w => RRoot w R cs) w := fz_lo (fun _ e' => (h.keep e' (fun _ h => h)).r) (fun _ hk => hk)
theorem bnd_rotate {S : RepoS} (h : S.Bnd) (hr : S.roots.length < 1000) : S.rotate.Bnd := by
  have h1 := rtb_len S
  exact ⟨h.time, h.snap, fun E hE => by
    simp only [RepoS.rotate, List.mem_append, List.mem_singleton] at hE;rcases hE with hE | rfl
    · exact h.roots E hE
    · exact envF_B (by omega), h.tgts, by simp only [RepoS.rotate, List.length_append, List.length_singleton]; omega, h.nt⟩
theorem sepR.key2 {rb k0 k1 kb m n : Nat} {lg rg gg : Int} (h : sepR rb k0 k1 lg rg gg n) (hk : m ≤ kb ∧ kb < n) (h1 : rb < m) (h2 : k0 < m) (h3 : lg < m) (h4 : gg < m) (h5 : rg = kb → False) : sepR rb k0 kb lg rg gg n := by
  obtain ⟨a1, a2, a3, a4, a5, a6, a7, a8, a9⟩ := h;refine ⟨a1, by omega, by omega, a4, a5, hk.2, ?_, ?_, ?_⟩
  · exact a7.imp id fun ⟨b1, b2, b3, b4, b5, b6⟩ => ⟨b1, b2, b3, b4, by omega, b6⟩
  · exact a8.imp id fun ⟨b1, b2, b3, b4, b5, b6⟩ => ⟨b1, b2, b3, b4, h5, b6⟩
  · exact a9.imp id fun ⟨b1, b2, b3, b4, b5⟩ => ⟨b1, b2, b3, b4, by omega⟩
theorem rotate_done {F : Nat → Prop} {rb k0 k1 kb : Nat} {S : RepoS} {w wA wB w1 w2 : World} {lg rg gg g81 : Int} {fc lc c52 c79 : List Value} {lv rv v81 t0 t1 s0 s1 tv gv : Value} {lx rx gx : List Value} {l1 l2 m1 m2 : Nat} (r : RepoIn F rb S w k0 k1 lg rg gg fc lc lv rv t0 t1 s0 s1 tv gv lx rx gx)
    (hb : w2.heap[rb]? = some (.cells ⟨rcells (hcells S.seed) (.pointer (some ⟨k0, 0, none⟩)) (.pointer (some ⟨kb, 0, none⟩)) (.int .i64 ((S.gen + 1 : Nat) : Int)) fc c52 lv (.int .i64 (S.signed : Int)) v81 t0 t1 s0 s1 tv gv⟩ 108 (0, 0)))
    (eB : ExtB (fun k => k = rb ∨ k = k0 ∨ (k : Int) = rg) w w2) (ka0 : KeyAt (fun k => MutR F rb k0 k1 lg rg gg k ∨ w.heap.size ≤ k) k0 (seedF S.seed 0) (S.used0 + 1) w2) (kaB : KeyAt (fun k => k < wA.heap.size ∨ k = kb ∨ wB.heap.size ≤ k) kb (seedF S.seed ((S.gen + 1 : Nat) : Int)) 0 w2)
    (ol : Own w2 82 37 lv S.l.length lx lg) (og : Own w2 82 37 gv S.book.length gx gg) (hc52 : c52.length = 10)
    (ob81 : Own w2 32 2 v81 (S.roots.length + 1) (rx ++ c79) g81) (an81 : g81 = rg ∨ (w1.heap.size : Int) ≤ g81 ∧ g81 < w2.heap.size)
    (fzL : Fz (fun k => k < l1 ∨ m1 ≤ k) (fun w => RRoot w S.nroot c52) w2) (fzE : Fz (fun k => k < l2 ∨ m2 ≤ k) (fun w => REnv w (envF S.p0 (seedF S.seed 0) S.used0 S.rtb) c79) w2)
    (h1 : w.heap.size ≤ l1) (h2 : w.heap.size ≤ l2) (h3 : m1 ≤ w1.heap.size) (h4 : m2 ≤ w1.heap.size) (h5 : w.heap.size ≤ wA.heap.size) (h6 : wB.heap.size ≤ w1.heap.size) (h7 : w1.heap.size ≤ w2.heap.size) (hkb : w.heap.size ≤ kb) (hkl : kb < w1.heap.size) (hkb1 : l1 > kb) (hkb2 : l2 > kb) : RepoP F w rb S.rotate w2 := by
  have lrb := r.sep.rb_lt;have lk0 := r.sep.k0_lt;have lk1 := r.sep.k1_lt;have llg := r.sep.lg_lt;have lrg := r.sep.rg_lt;have lgg := r.sep.gg_lt;have hsz := eB.size
  have hF' : ∀ k, ¬ (F k ∨ (w.heap.size ≤ k ∧ k < w2.heap.size)) → ¬ F k ∧ (k < w.heap.size ∨ w2.heap.size ≤ k) := fun k h => ⟨fun hF => h (.inl hF), by
    by_cases h1 : w.heap.size ≤ k
    · by_cases h2 : k < w2.heap.size
      · exact absurd (.inr ⟨h1, h2⟩) h
      · exact .inr (by omega)
    · exact .inl (by omega)⟩
  have hM : ∀ k, MutR (fun k => F k ∨ (w.heap.size ≤ k ∧ k < w2.heap.size)) rb k0 kb lg g81 gg k → MutR F rb k0 k1 lg rg gg k ∨ w.heap.size ≤ k := by
    intro k hk;rcases hk with hk | hk | hk | hk | hk | hk | hk
    · exact .inl (.inl (hF' k hk).1)
    · exact .inl (.inr (.inl hk))
    · exact .inl (.inr (.inr (.inl hk)))
    · exact .inr (by omega)
    · exact .inl (.inr (.inr (.inr (.inr (.inl hk)))))
    · rcases an81 with h | ⟨h, _⟩
      · exact .inl (.inr (.inr (.inr (.inr (.inr (.inl (by omega)))))))
      · exact .inr (by omega)
    · exact .inl (.inr (.inr (.inr (.inr (.inr (.inr hk))))))
  have hN : ∀ k, MutR (fun k => F k ∨ (w.heap.size ≤ k ∧ k < w2.heap.size)) rb k0 kb lg g81 gg k → k < w.heap.size ∨ w2.heap.size ≤ k ∨ w1.heap.size ≤ k ∨ k = kb := by
    intro k hk;rcases hk with hk | hk | hk | hk | hk | hk | hk
    · have := (hF' k hk).2; omega
    all_goals omega
  have eM : ExtB (MutR F rb k0 k1 lg rg gg) w w2 := eB.mono (fun k _ hk => by
    rcases hk with h | h | h
    · exact .inr (.inl h)
    · exact .inr (.inr (.inl h))
    · exact .inr (.inr (.inr (.inr (.inr (.inl h))))))
  have hzo := r.hz.turn eM hM;have hpo := r.pr.turn eM hM;have fL := fzL.turn (ExtB.refl _ _) (fun k hk => by have := hN k hk; omega);have fE := fzE.turn (ExtB.refl _ _) (fun k hk => by have := hN k hk; omega);have hrl := r.orr.len
  refine ⟨fun k => F k ∨ (w.heap.size ≤ k ∧ k < w2.heap.size), ⟨k0, kb, lg, g81, gg, fc, c52, lv, v81, t0, t1, s0, s1, tv, gv, lx, rx ++ c79, gx, ⟨r.sd, r.fl, hc52, hb, ka0.turn (fun k hk => .inl (hM k hk)), kaB.turn (fun k hk => by have := hN k hk; show (_ ∨ _ ∨ _) ∨ _; omega), ol, r.pl.mono (fun _ _ _ h => flat_tgt _ _ _ _ h),
    by rw [show S.rotate.roots.length = S.roots.length + 1 from List.length_append]; exact ob81, fun v e2 => Parts.app (hpo v e2) hrl (pc (by rw [List.take_of_length_le (Nat.le_of_eq (renv_len (fE v e2)))]; exact fE v e2) pn), og, r.pg.mono (fun _ _ _ h => flat_tgt _ _ _ _ h), fun v e2 => ⟨(hzo v e2).1, fL v e2, (hzo v e2).2.2⟩, ?_, ?_, ?_⟩⟩, eB.mono (fun k _ hk => by
    rcases hk with h | h | h
    · exact r.inF _ (.inl h)
    · exact r.inF _ (.inr (.inl h))
    · exact r.inF _ (.inr (.inr (.inr (.inr (.inl h)))))), fun k hk => hk.imp id (·.1)⟩
  · exact (r.sep.roots (g := g81) hsz (an81.imp id fun h => ⟨by omega, h.2⟩)).key2 ⟨hkb, by omega⟩ lrb lk0 llg lgg (fun h => by
      rcases an81 with h' | ⟨h', _⟩ <;> omega)
  · intro k hk;rcases hk with h | h | h | h | h | h
    · exact .inl (r.inF _ (.inl h))
    · exact .inl (r.inF _ (.inr (.inl h)))
    · exact .inr ⟨by omega, by omega⟩
    · exact .inl (r.inF _ (.inr (.inr (.inr (.inl h)))))
    · rcases an81 with h2 | ⟨h2, h3⟩
      · exact .inl (r.inF _ (.inr (.inr (.inr (.inr (.inl (by omega)))))))
      · exact .inr (by omega)
    · exact .inl (r.inF _ (.inr (.inr (.inr (.inr (.inr h))))))
  · intro k hk;rcases hk with h | h
    · have := r.lt k h; omega
    · exact h.2

set_option maxHeartbeats 1000000 in
theorem rotate_repo {F : Nat → Prop} {rb : Nat} {S : RepoS} {w : World} (h : RepoAt F rb S w) (hu : S.used0 < 16) (hg : S.gen < 200) (hv : S.ver ≤ 1000000) (hrn : S.roots.length ≤ 1000) : Ret Tryz.prog 20 [.pointer (some ⟨rb, 0, none⟩)] w fun v w' => v = .int .i64 0 ∧ RepoP F w rb S.rotate w' := by
  obtain ⟨k0, k1, lg, rg, gg, fc, lc, lv, rv, t0, t1, s0, s1, tv, gv, lx, rx, gx, r⟩ := h;have hA : (hcells S.seed).length = 32 := by rw [Qk]; exact r.sd
  have hb := r.hb;have lrb := r.sep.rb_lt;have eB := ExtB.refl (fun k => k = rb ∨ k = k0 ∨ (k : Int) = rg) w;have ka0 : KeyAt (fun k => MutR F rb k0 k1 lg rg gg k ∨ w.heap.size ≤ k) k0 (seedF S.seed 0) S.used0 w := r.hk0.turn (fun k hk => hk);have lk0 := r.sep.k0_lt;have n1 := r.sep.rb_k0;have n2 := r.sep.rb_k0.symm;have n3 := r.sep.lg_rb;have n4 := r.sep.lg_k0;have n5 := r.sep.gg_rb;have n6 := r.sep.gg_k0;have n7 := r.sep.rg_rb.symm;have n8 := r.sep.rg_rb;have n9 := r.sep.rg_k0;have lrg := r.sep.rg_lt;have ol := r.ol;have og := r.og;have orr := r.orr;obtain ⟨-, hlast, -⟩ := r.hz.here;have hlv : lc[0]? = some (.int .i64 (S.ver : Int)) := by obtain ⟨ks, h1, _⟩ := hlast; rw [h1]; rfl
  have hpub32 : S.p0.length = 32 := pubF_len _;have hrt := rtb_len S;refine Qt Tryz.func20 rfl Tryz.ntmps20 rfl ?_;refine Qe (Qb rfl (Qa (Qg rfl) (Qd (Qe (Qu (Qe (Qb rfl (Qa (Qc rfl) (Qa (ev_eqlPn Tryz.underlying22 rfl rfl) (Qa (Qg rfl) (Qd ?_)))))))))));refine Qr rfl (rfl) ?_;refine Qe (Qb rfl (Qa (Qc rfl) (Qa (Qs rfl) (Qa (Qf fld_108_1 rfl) ?_))));refine Qa (Qy (k := 0) arr_106 rfl rfl (by decide)) ?_;refine Qa (Qm cell_105 rfl (eqw ((Qj hb).pick 32 (by omega) (rc_32 hA)))) ?_;refine Ql (Qp call_43 rfl (used_key ka0)) ?_;rintro _ w15 ⟨rfl, e15⟩;have z15 := e15.size;replace hb := e15.at hb;replace eB := eB.trans e15.toB;replace ka0 := ka0.ext e15;replace ol := ol.ext e15;replace og := og.ext e15;replace orr := orr.ext e15;refine Qa (ev_geq rfl rfl) (Qa (Qg rfl) (Qd ?_));refine Qr rfl (decide_eq_false (by omega)) ?_;refine Qe (Qb rfl (Qa (Qc rfl) (Qa (Qs rfl) (Qa (Qf fld_108_2 rfl) ?_))));refine Qa (Qm cell_3 rfl (eqw ((Qj hb).pick 34 (by omega) (rc_34 hA)))) ?_;refine Qa (ev_geq rfl rfl) (Qa (Qg rfl) (Qd ?_));refine Qr rfl (decide_eq_false (by omega)) ?_;refine Qx (Zb (Qe (Qb rfl (Qa (Qc rfl) (Qa (Qs rfl) (Qa (Qf fld_108_2 rfl) ?_))))));refine Qa (Qm cell_3 rfl (eqw ((Qj hb).pick 34 (by omega) (rc_34 hA)))) ?_;refine Qa (ev_addK (((S.gen + 1 : Nat) : Int)) rfl rfl (by rw [show ((S.gen : Nat) : Int) + 1 = ((S.gen + 1 : Nat) : Int) by omega]; exact wrap_i64 (by omega) (by omega))) ?_;refine Qa (Qs rfl) (Qa (Qf fld_108_2 rfl) ?_);refine Zc (t_store1 sz_3 rfl rfl rfl rfl hb (by rw [rc_len hA r.fl r.ll]; decide)) ?_;rintro _ v7_7 ⟨hq7_7, e7_7, z7_7⟩;replace eB := eB.newB1 e7_7 (by first | exact .inl (by omega) | exact .inr rfl | exact .inr (.inl rfl) | exact .inr (.inr (by omega)) | (right; omega));replace ka0 := ka0.step e7_7 (fun h => by have h : _ = _ := h; first | contradiction | omega) (fun k hk0 hk => by have hk : _ = _ := hk; first | exact .inl (.inr (.inl hk)) | exact .inl (.inr (.inr (.inr (.inr (.inr (.inl hk)))))));replace ol := ol.ext1 e7_7 (by first | assumption | omega);replace og := og.ext1 e7_7 (by first | assumption | omega);replace orr := orr.ext1 e7_7 (by first | assumption | omega);replace hb := hq7_7;clear hq7_7;refine Qd ?_;rw [show (0 + 34 : Nat) = 34 from rfl, rs_34 hA] at hb;refine Qe ?_;refine run_draw mo (fun w' => Ext v7_7 w') [14] [(true, 0), (true, 1), (true, 2), (true, 3), (true, 4), (true, 5), (true, 6), (true, 7), (true, 8), (true, 11), (true, 12), (false, 9), (false, 10), (true, 13), (false, 14)] (by kernel_rfl) ?_;intro wr8 er8;have zr8 := er8.size;have hsr8 := er8;have hbp := er8.at hb;have eBp := eB.trans er8.toB;have ka0p := ka0.ext er8;have olp := ol.ext er8;have ogp := og.ext er8;have orrp := orr.ext er8;refine Qi hsr8 rfl (Qc rfl) ?_;refine Qi hsr8 rfl (Qc rfl) ?_;refine Qi hsr8 rfl (Qs rfl) ?_;refine Qi hsr8 rfl (Qf fld_108_0 rfl) ?_;refine Qi hsr8 rfl (Qw agg_25 hA rfl (fun wz hz => (Qj (hz.at hb)).seg (hcells S.seed) 0 (by omega) rc_seed)) ?_;refine Qi hsr8 rfl (Qc rfl) ?_;refine Qi hsr8 rfl (Qs rfl) ?_;refine Qi hsr8 rfl (Qf fld_108_2 rfl) ?_;refine Qi hsr8 rfl (Qm cell_3 rfl (fun wz hz => (Qj (hz.at hb)).pick 34 (by omega) (rc_34 hA))) ?_;refine Qi hsr8 rfl (Qs rfl) ?_;refine Qi hsr8 rfl (Qf fld_108_1 rfl) ?_;refine Ze rfl (Qp call_41 rfl (seed_any S.seed r.sd _ _)) ?_;rintro _ w39 ⟨rfl, e39⟩;have z39 := e39.size;replace hbp := e39.at hbp;replace eBp := eBp.trans e39.toB;replace ka0p := ka0p.ext e39;replace olp := olp.ext e39;replace ogp := ogp.ext e39;replace orrp := orrp.ext e39;have hs39 := hsr8.trans e39;refine ⟨hs39, ?_⟩;refine Ze rfl (Qp call_40 rfl (keynew_any _ (seedF_len _ _) _)) ?_;rintro _ w40 ⟨kb, rfl, nkb, lkb, kaB, e40⟩;have z40 := e40.size;replace hbp := e40.at hbp;replace eBp := eBp.trans e40.toB;replace ka0p := ka0p.ext e40;replace olp := olp.ext e40;replace ogp := ogp.ext e40;replace orrp := orrp.ext e40;have hs40 := hs39.trans e40;refine ⟨hs40, ?_⟩;have kaBp := kaB;refine Qi hs40 rfl (Qy (k := 1) arr_106 rfl rfl (by decide)) ?_;refine rund_doT rfl rfl (t_store1 sz_105 rfl rfl rfl rfl hbp (by rw [rc_len hA r.fl r.ll]; decide)) ?_;rintro _ v8_14 ⟨hq8_14, e8_14, z8_14⟩;replace eBp := eBp.newB1 e8_14 (by first | exact .inl (by omega) | exact .inr rfl | exact .inr (.inl rfl) | exact .inr (.inr (by omega)) | (right; omega));replace ka0p := ka0p.step e8_14 (fun h => by have h : _ = _ := h; first | contradiction | omega) (fun k hk0 hk => by have hk : _ = _ := hk; first | exact .inl (.inr (.inl hk)) | exact .inl (.inr (.inr (.inr (.inr (.inr (.inl hk)))))));replace olp := olp.ext1 e8_14 (by first | assumption | omega);replace ogp := ogp.ext1 e8_14 (by first | assumption | omega);replace orrp := orrp.ext1 e8_14 (by first | assumption | omega);replace kaBp := kaBp.step e8_14 (fun h => by have h : _ = _ := h; first | contradiction | omega) (fun k hk0 hk => by have hk : _ = _ := hk; exact .inl (by omega));replace hbp := hq8_14;clear hq8_14;refine Zj ?_;replace hb := hbp;clear hbp;replace eB := eBp;clear eBp;replace ka0 := ka0p;clear ka0p;replace ol := olp;clear olp;replace og := ogp;clear ogp;replace orr := orrp;clear orrp;replace kaB := kaBp;clear kaBp;rw [show (0 + 32 + 1 * 1 : Nat) = 33 from rfl, rs_33 hA] at hb;refine Qe (Qb rfl (Qa (Qc rfl) (Qa (Qc rfl) (Qa (Qc rfl) (Qa (Qs rfl) (Qa (Qf fld_108_4 rfl) (Qa (Qf fld_68_0 rfl) ?_)))))));refine Qa (Qm cell_3 rfl (eqw ((Qj hb).pick 45 (by omega) (rc_45 hA r.fl hlv)))) ?_;refine Qa (ev_addK (((S.ver + 1 : Nat) : Int)) rfl rfl (by rw [show ((S.ver : Nat) : Int) + 1 = ((S.ver + 1 : Nat) : Int) by omega]; exact wrap_i64 (by omega) (by omega))) ?_;refine Ql (Qp call_42 rfl (rroot_new rb _ _ k0 kb _ _ _ _ _ _ _ _ hb (rc_32 hA) (rc_33 hA) ka0 kaB)) ?_;rintro _ w52 ⟨c52, rfl, kf52, e52⟩;have hc52 := rroot_len kf52.r;replace kf52 : RRootF _ w52 S.nroot c52 := kf52;have fzL := fz_root kf52;have z52 := e52.size;replace hb := e52.at hb;replace eB := eB.trans e52.toB;replace ka0 := ka0.ext e52;replace ol := ol.ext e52;replace og := og.ext e52;replace orr := orr.ext e52;replace kaB := kaB.ext e52;refine Qa (Qs rfl) (Qa (Qf fld_108_4 rfl) ?_);refine Zc (t_store sz_68 rfl rfl rfl hc52 hb (by rw [rc_len hA r.fl r.ll, hc52]; decide) (rroot_one kf52.r)) ?_;rintro _ v9_11 ⟨hq9_11, e9_11, z9_11⟩;replace eB := eB.newB1 e9_11 (by first | exact .inl (by omega) | exact .inr rfl | exact .inr (.inl rfl) | exact .inr (.inr (by omega)) | (right; omega));replace ka0 := ka0.step e9_11 (fun h => by have h : _ = _ := h; first | contradiction | omega) (fun k hk0 hk => by have hk : _ = _ := hk; first | exact .inl (.inr (.inl hk)) | exact .inl (.inr (.inr (.inr (.inr (.inr (.inl hk)))))));replace ol := ol.ext1 e9_11 (by first | assumption | omega);replace og := og.ext1 e9_11 (by first | assumption | omega);replace orr := orr.ext1 e9_11 (by first | assumption | omega);replace kaB := kaB.step e9_11 (fun h => by have h : _ = _ := h; first | contradiction | omega) (fun k hk0 hk => by have hk : _ = _ := hk; exact .inl (by omega));replace fzL := fzL.step e9_11 (fun k hk0 hk => by exact .inl (by omega));replace hb := hq9_11;clear hq9_11;refine Qd ?_;rw [show (0 + 45 : Nat) = 45 from rfl, rs_last hA r.fl r.ll hc52] at hb;refine Qe (Qb rfl (Qa (Qc rfl) (Qa (Qs rfl) (Qa (Qf fld_108_4 rfl) ?_))));refine Qa (Qw agg_68 hc52 rfl (eqw ((Qj hb).seg c52 45 (by omega) (rc_last hA r.fl)))) ?_;refine Ql (Qp call_64 rfl (encroot_any S.nroot c52 _ fzL.here (fun k hk => Nat.le_trans (rolesF_32 (pubF_len _) (pubF_len _) k hk).1 (by decide)) (Nat.le_trans (nroot_len S) (by decide)))) ?_;rintro _ w60 ⟨p60, rfl, o60⟩;rw [rtb_eq] at o60;have e60 := o60.ext;have sn60 := slN_of o60.g;have z60 := e60.size;replace hb := e60.at hb;replace eB := eB.trans e60.toB;replace ka0 := ka0.ext e60;replace ol := ol.ext e60;replace og := og.ext e60;replace orr := orr.ext e60;replace kaB := kaB.ext e60;replace fzL := fzL.step e60 (fun _ _ h => h.elim);refine Qa (Qc rfl) (Qa (Zd rfl rfl) (Qa (Zd rfl rfl) (Qa (Qg rfl) (Qa (Qg rfl) (Qd (Qe (Qb rfl (Qa (Qc rfl) (Qa (Qs rfl) (Qa (Qf fld_108_1 rfl) ?_))))))))));refine Qa (Qy (k := 0) arr_106 rfl rfl (by decide)) ?_;refine Qa (Qm cell_105 rfl (eqw ((Qj hb).pick 32 (by omega) (rc_32 hA)))) ?_;refine Qa (Qg rfl) (Qd (Qe ?_));refine run_draw mo (fun w' => ExtB (fun k => k = k0) w60 w') [13, 14, 15, 16, 17] [(true, 0), (true, 1), (true, 2), (true, 3), (true, 4), (true, 5), (true, 6), (true, 8), (true, 9), (true, 10), (false, 7), (false, 11), (false, 12), (false, 13), (false, 14), (false, 15), (false, 16), (false, 17)] (by kernel_rfl) ?_;intro wr12 er12;have zr12 := er12.size;have hsr12 : (fun w' => ExtB (fun k => k = k0) w60 w') wr12 := er12.toB;have hbp := er12.at hb;have eBp := eB.trans er12.toB;have ka0p := ka0.ext er12;have olp := ol.ext er12;have ogp := og.ext er12;have orrp := orr.ext er12;have kaBp := kaB.ext er12;have fzLp := fzL.step er12 (fun _ _ h => h.elim);have sn60p := sn60.step Za er12 (fun _ h => h.elim) (.inl rfl);refine Qi hsr12 rfl (Qc rfl) ?_;refine Qi hsr12 rfl (Qc rfl) ?_;refine Qi hsr12 rfl (Qs rfl) ?_;refine Qi hsr12 rfl (Qf fld_108_7 rfl) ?_;refine Qi hsr12 rfl (Qf fld_34_0 rfl) ?_;refine Qi hsr12 rfl (Qm cell_28 rfl (fun wz hz => (Qj (hz.at1 hb (by first | assumption | omega))).pick 57 (by omega) (rc_57 hA r.fl hc52))) ?_;refine Qi hsr12 rfl (Qc rfl) ?_;refine Qi hsr12 rfl (Qc rfl) ?_;refine Qi hsr12 rfl (ev_makeFunc rfl rfl) ?_;refine Qi hsr12 rfl (Qc rfl) ?_;refine Ze rfl (Qp call_49 rfl (public_key ka0p)) ?_;rintro _ w75 ⟨rfl, e75⟩;have z75 := e75.size;replace hbp := e75.at hbp;replace eBp := eBp.trans e75.toB;replace ka0p := ka0p.ext e75;replace olp := olp.ext e75;replace ogp := ogp.ext e75;replace orrp := orrp.ext e75;replace kaBp := kaBp.ext e75;replace fzLp := fzLp.step e75 (fun _ _ h => h.elim);replace sn60p := sn60p.step Za e75 (fun _ h => h.elim) (.inl rfl);have hs75 := hsr12.trans e75.toB;refine ⟨hs75, ?_⟩;refine Ze rfl (Qp call_48 rfl (sealed_any ka0p (.inl (.inr (.inr (.inl rfl)))) hu _ hpub32 _ _ _ sn60p (by omega) (by omega) (Nat.le_trans hrt (by decide)))) ?_;rintro _ w79 ⟨c79, rfl, re79, ka79, e79⟩;have hc79 := renv_len re79.r;have ho79 := renv_one re79.r;have fzE := fz_env re79;have z79 := e79.size;replace hbp := e79.at1 hbp (by first | assumption | omega);replace eBp := eBp.newB1 e79 (by first | exact .inl (by omega) | exact .inr rfl | exact .inr (.inl rfl) | exact .inr (.inr (by omega)) | (right; omega));replace olp := olp.ext1 e79 (by first | assumption | omega);replace ogp := ogp.ext1 e79 (by first | assumption | omega);replace orrp := orrp.ext1 e79 (by first | assumption | omega);replace kaBp := kaBp.step e79 (fun h => by have h : _ = _ := h; first | contradiction | omega) (fun k hk0 hk => by have hk : _ = _ := hk; exact .inl (by omega));replace fzLp := fzLp.step e79 (fun k hk0 hk => by exact .inl (by omega));replace sn60p := sn60p.step Za e79 (fun k hk => by omega) (.inl rfl);have hs79 := hs75.newB1 e79 (by first | exact .inl (by omega) | exact .inr rfl | (right; simp; done) | (right; simp; omega));refine ⟨hs79, ?_⟩;have ka79p := ka79;have fzEp := fzE;refine Ze rfl (Zh (out := c79) Tryz.underlying28 sz_32 zero_32 rfl rfl (by decide) (by decide) rfl (fill_one rfl hc79 rfl)) ?_;rintro _ w80 ⟨b80, rfl, hb80, e80, n80, l80⟩;have z80 := e80.size;replace hbp := e80.at hbp;replace eBp := eBp.trans e80.toB;replace olp := olp.ext e80;replace ogp := ogp.ext e80;replace orrp := orrp.ext e80;replace kaBp := kaBp.ext e80;replace fzLp := fzLp.step e80 (fun _ _ h => h.elim);replace ka79p := ka79p.ext e80;replace fzEp := fzEp.step e80 (fun _ _ h => h.elim);have hs80 := hs79.trans e80.toB;refine ⟨hs80, ?_⟩;have hb80p := hb80;refine rund_opT rfl rfl (t_append (news := c79) ef_28 rfl rfl orrp hc79 (Qj hb80p) ho79 (by unfold maxLen; omega) (by omega)) ?_;rintro v81 w81 ⟨g81, ap81⟩;have ob81 := ap81.own;have an81 := ap81.new;obtain ⟨ba, bc, rfl⟩ := ob81.shape;have z81 := ap81.ext.size;replace hbp := ap81.ext.atG hbp (by first | assumption | omega);replace eBp := eBp.newBG ap81.ext (fun k hk => by first | exact .inl (by omega) | exact .inr hk | exact .inr (.inr hk) | exact .inr (.inr (by omega)));replace olp := olp.keep ap81.ext (fun k hk h => by first | omega | exact r.sep.lg_gg k hk h | exact r.sep.lg_rg k hk h | exact r.sep.rg_gg k h hk | exact r.sep.rg_gg k hk h);replace ogp := ogp.keep ap81.ext (fun k hk h => by first | omega | exact r.sep.lg_gg k hk h | exact r.sep.lg_rg k hk h | exact r.sep.rg_gg k h hk | exact r.sep.rg_gg k hk h);replace kaBp := kaBp.step ap81.ext (fun h => by have h : _ = _ := h; first | contradiction | omega) (fun k hk0 hk => by have hk : _ = _ := hk; exact .inl (by omega));replace fzLp := fzLp.step ap81.ext (fun k hk0 hk => by exact .inl (by omega));replace ka79p := ka79p.step ap81.ext (fun h => by have h : _ = _ := h; first | contradiction | omega) (fun k hk0 hk => by have hk : _ = _ := hk; first | exact .inl (.inr (.inl hk)) | exact .inl (.inr (.inr (.inr (.inr (.inr (.inl hk)))))));replace fzEp := fzEp.step ap81.ext (fun k hk0 hk => by exact .inl (by omega));have ob81p := ob81;refine rund_opT rfl rfl (opT_ev (Qs rfl)) ?_;rintro _ _ ⟨rfl, rfl⟩;refine rund_opT rfl rfl (opT_ev (Qf fld_108_7 rfl)) ?_;rintro _ _ ⟨rfl, rfl⟩;refine rund_opT rfl rfl (opT_ev (Qf fld_34_0 rfl)) ?_;rintro _ _ ⟨rfl, rfl⟩;refine rund_doT rfl rfl (t_store1 sz_28 rfl rfl rfl rfl hbp (by rw [rc_len hA r.fl hc52]; decide)) ?_;rintro _ v12_17 ⟨hq12_17, e12_17, z12_17⟩;replace eBp := eBp.newB1 e12_17 (by first | exact .inl (by omega) | exact .inr rfl | exact .inr (.inl rfl) | exact .inr (.inr (by omega)) | (right; omega));replace olp := olp.ext1 e12_17 (by first | assumption | omega);replace ogp := ogp.ext1 e12_17 (by first | assumption | omega);replace kaBp := kaBp.step e12_17 (fun h => by have h : _ = _ := h; first | contradiction | omega) (fun k hk0 hk => by have hk : _ = _ := hk; exact .inl (by omega));replace fzLp := fzLp.step e12_17 (fun k hk0 hk => by exact .inl (by omega));replace ka79p := ka79p.step e12_17 (fun h => by have h : _ = _ := h; first | contradiction | omega) (fun k hk0 hk => by have hk : _ = _ := hk; first | exact .inl (.inr (.inl hk)) | exact .inl (.inr (.inr (.inr (.inr (.inr (.inl hk)))))));replace fzEp := fzEp.step e12_17 (fun k hk0 hk => by exact .inl (by omega));replace ob81p := ob81p.ext1 e12_17 (by first | assumption | omega);replace hbp := hq12_17;clear hq12_17;refine Zj ?_;replace hb := hbp;clear hbp;replace eB := eBp;clear eBp;replace ol := olp;clear olp;replace og := ogp;clear ogp;replace kaB := kaBp;clear kaBp;replace fzL := fzLp;clear fzLp;replace ka79 := ka79p;clear ka79p;replace fzE := fzEp;clear fzEp;replace ob81 := ob81p;clear ob81p;rw [show (0 + 57 : Nat) = 57 from rfl, rs_57 hA r.fl hc52] at hb;refine Qe (Qb rfl (Qa (Qg rfl) (Qd ?_)));refine Qo Tryz.func20 (res1 Tryz.results20 rfl) ?_;exact ⟨rfl, rotate_done (w1 := w79) r hb eB ka79 kaB ol og hc52 ob81 (an81.imp id fun h => ⟨by omega, by omega⟩) fzL fzE (by omega) (by omega) (by omega) (by omega) (by omega) (by omega) (by omega) (by omega) (by omega) (by omega) (by omega)⟩
end Go.Proofs.YtlgkdnmklgbhbaaGreatDoor
/- The law on a nil Repo, and what all laws on Repos ask of one. -/
namespace Go.Proofs.YtlgkdnmklgbhbaaGreatDoor
open Go Go.Fw
set_option maxRecDepth 100000
def hash1 (b : UInt8) : List UInt8 := b :: List.replicate 31 0
theorem rroot_ver {w : World} {r : RootP} {cs : List Value} (h : RRoot w r cs) : cs[0]? = some (.int .i64 r.ver) := by
  obtain ⟨ks, rfl, _⟩ := h;rfl
theorem bundle_5 {S : RepoS} {cs : List Value} {w : World} (h : BundleC S cs w) : ∃ a c, cs[5]? = some (.slice a S.tgts.length c) := by
  obtain ⟨_, _, _, _, _, _, a, c, rfl, _⟩ := h;exact ⟨a, c, rfl⟩

theorem known16_any (w : World) : Ret Tryz.prog 18 [] w fun r w' => r = .bool true ∧ Ext w w' := by
  have e := ExtB.refl (fun _ => False) w;refine Qt Tryz.func18 rfl Tryz.ntmps18 rfl ?_;refine Qe (Qb rfl (Qa (Qg rfl) (Qd (Qe (Qb rfl ?_)))));refine Qa (ev_build (out := hcells (hash1 1)) ps_25 zero_25 rfl rfl (rfl)) ?_;refine Ql (Qp call_12 rfl (reponew_any (hash1 1) rfl _)) ?_;rintro _ w3 ⟨rb, rfl, at3, e3⟩;have z3 := e3.size;replace e := e.trans e3;refine Qa (Qg rfl) (Qd (Qe (Qb rfl (Qa (Qc rfl) (Qa (ev_neqPn Tryz.underlying22 rfl rfl) (Qa (Qc rfl) (Qh rfl rfl (rfl) (Qc rfl) ?_)))))));refine runl_op_g rfl rfl (rfl) (Qp call_23 rfl (root_repo at3)) ?_;rintro _ w8 ⟨c8, rfl, kf8, e8⟩;have hc8 := rroot_ver kf8.r;have at8 := at3.ext e8;have z8 := e8.size;replace e := e.trans e8;refine Qh rfl rfl (rfl) (ev_field1 Tryz.underlying68 rfl cell_3 rfl (hc8)) (Qh rfl rfl (rfl) (ev_eqlI rfl rfl) (Qa (Qq rfl rfl rfl (if_pos (rfl))) (Qa (Qc rfl) (Qh rfl rfl (decide_eq_true rfl) (Qc rfl) ?_))));refine runl_op_g rfl rfl (decide_eq_true rfl) (Qp call_14 rfl (bundle_repo at8 (bnd_new _))) ?_;rintro _ w14 ⟨c14, rfl, f14, e14⟩;obtain ⟨a14, d14, h14⟩ := bundle_5 f14.here;have at14 := at8.ext e14;have z14 := e14.size;replace e := e.trans e14;refine Qh rfl rfl (decide_eq_true rfl) (ev_field1 Tryz.underlying34 rfl cell_28 rfl (h14)) (Qh rfl rfl (decide_eq_true rfl) (ev_lenL sl_28 rfl) (Qh rfl rfl (decide_eq_true rfl) (ev_eqlI rfl rfl) (Qa (Qq rfl rfl rfl (if_pos (rfl))) (Qa (Qc rfl) (Qh rfl rfl (rfl) (Qc rfl) ?_)))));refine runl_op_g rfl rfl (rfl) (Qp call_13 rfl (sign_repo at14 0 1 (by decide) (by decide) (by decide) (by decide) (by decide) (by decide) (by decide))) ?_;rintro _ w21 ⟨rfl, F21, at21, e21, hF21⟩;have eN : Ext w w21 := e.new e21 (fun k hk => by omega);replace e := eN;have z21 := e21.size;refine Qh rfl rfl (rfl) (ev_eqlI rfl rfl) (Qa (Qq rfl rfl rfl (if_pos (rfl))) (Qa (Qc rfl) (Qh rfl rfl (rfl) (Qc rfl) ?_)));refine runl_op_g rfl rfl (rfl) (Qp call_14 rfl (bundle_repo at21 (bnd_sign (bnd_new _) (fun t ht => by simp [RepoS.new] at ht) (by decide) _))) ?_;rintro _ w26 ⟨c26, rfl, f26, e26⟩;obtain ⟨a26, d26, h26⟩ := bundle_5 f26.here;have z26 := e26.size;replace e := e.trans e26;refine Qh rfl rfl (rfl) (ev_field1 Tryz.underlying34 rfl cell_28 rfl (h26)) (Qh rfl rfl (rfl) (ev_lenL sl_28 rfl) (Qh rfl rfl (rfl) (ev_eqlI rfl rfl) (Qa (Qq rfl rfl rfl (if_pos (rfl))) (Qa (Qg rfl) (Qd ?_)))));refine Qo Tryz.func18 (res1 Tryz.results18 rfl) ?_;exact ⟨rfl, e⟩
end Go.Proofs.YtlgkdnmklgbhbaaGreatDoor
/- The walks of a list of targets: how two stand, where one stands, how one comes in and goes. -/
namespace Go.Proofs.YtlgkdnmklgbhbaaGreatDoor
open Go Go.Fw
set_option maxRecDepth 100000
def orF : List Int → Int
  | [] => 0
  | x :: r => if x = 0 then orF r else x
end Go.Proofs.YtlgkdnmklgbhbaaGreatDoor
/- The walks of a Repo's targets: Publish, Remove, Targets, Ledger. -/
namespace Go.Proofs.YtlgkdnmklgbhbaaGreatDoor
open Go Go.Fw
set_option maxRecDepth 100000
def remT (a b : ByteArray) : Tgt := ⟨a, 0, List.replicate 32 0, ⟨#[]⟩, 0, b⟩
end Go.Proofs.YtlgkdnmklgbhbaaGreatDoor
/- The walk of the law on the order of a Repo's targets. -/
namespace Go.Proofs.YtlgkdnmklgbhbaaGreatDoor
open Go Go.Fw
set_option maxRecDepth 100000
theorem strLt_irr (a : ByteArray) : strLt a a = false := by
  cases hb : strLt a a with
  | false => rfl
  | true =>
    have := (cmpB_lt a a).1 hb;rw [(cmpB_eq a a).2 rfl] at this;omega
theorem before_any (a b : Tgt) (ha : a.wf) (hb : b.wf) (w : World) : Ret Tryz.prog 35 [.agg ⟨a.cells⟩, .agg ⟨b.cells⟩] w fun r w' => r = .bool (riseB a b) ∧ Ext w w' := by
  have e := ExtB.refl (fun _ => False) w;refine Qt Tryz.func35 rfl Tryz.ntmps35 rfl ?_;refine Qe (Qb rfl ?_);refine Ql (t_boxA rfl) ?_;rintro _ w2 ⟨b2, rfl, hb2, e2, n2, l2⟩;have z2 := e2.size;replace e := e.trans e2;refine Ql (t_boxA rfl) ?_;rintro _ w3 ⟨b3, rfl, hb3, e3, n3, l3⟩;have z3 := e3.size;replace e := e.trans e3;replace hb2 := e3.at hb2;refine Qa (Qg rfl) (Qd (Qe (Qe (Qb rfl (Qa (Qf fld_82_0 rfl) (Qa (Qm cell_9 rfl (eqw ((Qj hb2).pick 0 rfl a.c0))) (Qa (Qf fld_82_0 rfl) (Qa (Qm cell_9 rfl (eqw ((Qj hb3).pick 0 rfl b.c0))) (Qa (ev_neqS rfl rfl) (Qd ?_))))))))));refine run_cond_split rfl (fun h1 => ?_) (fun h1 => ?_)
  · have h2 : ¬ a.name = b.name := by simpa using h1
    refine Qe (Qb rfl (Qa (Qf fld_82_0 rfl) (Qa (Qm cell_9 rfl (eqw ((Qj hb2).pick 0 rfl a.c0))) (Qa (Qf fld_82_0 rfl) (Qa (Qm cell_9 rfl (eqw ((Qj hb3).pick 0 rfl b.c0))) (Qa (ev_lssS rfl rfl) (Qa (Qg rfl) (Qd ?_))))))));refine Qo Tryz.func35 (res1 Tryz.results35 rfl) ?_;refine ⟨?_, e⟩;unfold riseB;simp [h2]
  · have h2 : a.name = b.name := by simpa using h1
    refine Qx (Qe (Qb rfl (Qa (Qf fld_82_5 rfl) (Qa (Qm cell_9 rfl (eqw ((Qj hb2).pick 36 rfl (Tgt.c36 ha)))) (Qa (Qf fld_82_5 rfl) (Qa (Qm cell_9 rfl (eqw ((Qj hb3).pick 36 rfl (Tgt.c36 hb)))) (Qa (ev_lssS rfl rfl) (Qa (Qg rfl) (Qd ?_)))))))));refine Qo Tryz.func35 (res1 Tryz.results35 rfl) ?_;refine ⟨?_, e⟩;unfold riseB;simp [h2, strLt_irr]
end Go.Proofs.YtlgkdnmklgbhbaaGreatDoor
/- The walk of the law on a Repo's ledger. -/
namespace Go.Proofs.YtlgkdnmklgbhbaaGreatDoor
open Go Go.Fw
set_option maxRecDepth 100000
structure Act where
  kind : Int
  t : Tgt
  now : Int
  life : Int
def Act.cells (x : Act) : List Value := .int .i64 x.kind :: (x.t.cells ++ [.int .i64 x.now, .int .i64 x.life])
def RAct (_ : World) (x : Act) (cs : List Value) : Prop := x.t.wf ∧ cs = x.cells
/-- Acts of everyday sizes. -/
def ActB (l : List Act) : Prop := ∀ x ∈ l, x.t.name.size ≤ 1099511627776 ∧ x.t.hw.size ≤ 1099511627776 ∧ x.t.ecu.size ≤ 1099511627776
/-- A Repo behind so many acts. -/
structure LInv (k : Nat) (S : RepoS) : Prop where
  srt : Srt S.l
  ll : S.l.length ≤ 16
  wl : ∀ t ∈ S.l, t.wf
  wb : ∀ t ∈ S.book, t.wf
  u0 : S.used0 ≤ 16
  gn : S.gen ≤ k + 1
  vr : S.ver ≤ k + 1
  rt : S.roots.length ≤ k
  sg : S.signed ≤ k
  bk : S.book.length ≤ 16 * k
end Go.Proofs.YtlgkdnmklgbhbaaGreatDoor
