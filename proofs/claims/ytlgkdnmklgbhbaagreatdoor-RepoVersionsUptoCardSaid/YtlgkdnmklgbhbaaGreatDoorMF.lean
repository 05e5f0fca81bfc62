/- A Repo in plain lists and in memory; the walks of its seed, its roots, and of what makes it. -/
import Derived.Test.YtlgkdnmklgbhbaaGreatDoorME
import Derived.Test.YtlgkdnmklgbhbaaGreatDoorMA
import Derived.Test.YtlgkdnmklgbhbaaGreatDoorMD
import Derived.Test.YtlgkdnmklgbhbaaGreatDoorMB
namespace Go.Proofs.YtlgkdnmklgbhbaaGreatDoor
open Go Go.Fw
set_option maxRecDepth 100000
def seedF (s : List UInt8) (g : Int) : List UInt8 := shaF (s ++ [u8F g])
theorem seedF_len (s : List UInt8) (g : Int) : (seedF s g).length = 32 := shaF_len _
def rolesF (p0 p1 : List UInt8) : List KeysP := [⟨[p0], 1⟩, ⟨[p1], 1⟩, ⟨[p1], 1⟩, ⟨[p1], 1⟩]
theorem rolesF_succ (p0 p1 : List UInt8) {k : Nat} (h : k < 4) : (rolesF p0 p1).take (k + 1) = (rolesF p0 p1).take k ++ [⟨[if k = 0 then p0 else p1], 1⟩] := by
  match k, h with
  | 0, _ => rfl
  | 1, _ => rfl
  | 2, _ => rfl
  | 3, _ => rfl
def rootP (p0 p1 : List UInt8) (v : Int) : RootP := ⟨v, 1073741824, rolesF p0 p1⟩
/-- A Repo's cells. -/
def rcells (A : List Value) (k0 k1 gn : Value) (B C : List Value) (l sg ro t0 t1 s0 s1 tg ld : Value) : List Value := A ++ ([k0, k1, gn] ++ (B ++ (C ++ [l, sg, ro, t0, t1, s0, s1, tg, ld])))
section
variable {A B C : List Value} {k0 k1 gn l sg ro t0 t1 s0 s1 tg ld : Value} (hA : A.length = 32) (hB : B.length = 10) (hC : C.length = 10)
include hA hB hC
theorem rc_len : (rcells A k0 k1 gn B C l sg ro t0 t1 s0 s1 tg ld).length = 64 := by simp [rcells, hA, hB, hC]
omit hA hB hC in
theorem rc_seed : A = ((rcells A k0 k1 gn B C l sg ro t0 t1 s0 s1 tg ld).drop 0).take A.length := by unfold rcells; rw [List.drop_zero]; exact List.take_left.symm
omit hB hC in
theorem rc_32 : (rcells A k0 k1 gn B C l sg ro t0 t1 s0 s1 tg ld)[32]? = some k0 := by simp [rcells, List.getElem?_append, hA]
omit hB hC in
theorem rc_33 : (rcells A k0 k1 gn B C l sg ro t0 t1 s0 s1 tg ld)[33]? = some k1 := by simp [rcells, List.getElem?_append, hA]
omit hB hC in
theorem rc_34 : (rcells A k0 k1 gn B C l sg ro t0 t1 s0 s1 tg ld)[34]? = some gn := by simp [rcells, List.getElem?_append, hA]
omit hA hB hC in
theorem dnil {X : List Value} {m : Nat} (h : X.length = m) : ∀ n, m ≤ n → X.drop n = [] := fun n hn => List.drop_eq_nil_of_le (by omega)
omit hA hB hC in
theorem tnil {X : List Value} {m : Nat} (h : X.length = m) : ∀ n, m ≤ n → X.take n = X := fun n hn => List.take_of_length_le (by omega)
omit hB hC in
theorem rc_first : B = ((rcells A k0 k1 gn B C l sg ro t0 t1 s0 s1 tg ld).drop 35).take B.length := by simp [rcells, List.drop_append, hA, dnil hA]
omit hC in
theorem rc_last : C = ((rcells A k0 k1 gn B C l sg ro t0 t1 s0 s1 tg ld).drop 45).take C.length := by simp [rcells, List.drop_append, hA, hB, dnil hA, dnil hB]
theorem rc_55 : (rcells A k0 k1 gn B C l sg ro t0 t1 s0 s1 tg ld)[55]? = some l := by simp [rcells, List.getElem?_append, hA, hB, hC]
theorem rc_56 : (rcells A k0 k1 gn B C l sg ro t0 t1 s0 s1 tg ld)[56]? = some sg := by simp [rcells, List.getElem?_append, hA, hB, hC]
theorem rc_57 : (rcells A k0 k1 gn B C l sg ro t0 t1 s0 s1 tg ld)[57]? = some ro := by simp [rcells, List.getElem?_append, hA, hB, hC]
theorem rc_62 : (rcells A k0 k1 gn B C l sg ro t0 t1 s0 s1 tg ld)[62]? = some tg := by simp [rcells, List.getElem?_append, hA, hB, hC]
theorem rc_63 : (rcells A k0 k1 gn B C l sg ro t0 t1 s0 s1 tg ld)[63]? = some ld := by simp [rcells, List.getElem?_append, hA, hB, hC]
theorem rc_time : [t0, t1] = ((rcells A k0 k1 gn B C l sg ro t0 t1 s0 s1 tg ld).drop 58).take 2 := by simp [rcells, List.drop_append, hA, hB, hC, dnil hA, dnil hB, dnil hC]
theorem rc_snap : [s0, s1] = ((rcells A k0 k1 gn B C l sg ro t0 t1 s0 s1 tg ld).drop 60).take 2 := by simp [rcells, List.drop_append, hA, hB, hC, dnil hA, dnil hB, dnil hC]
omit hB hC in
theorem rs_33 (v : Value) : (rcells A k0 k1 gn B C l sg ro t0 t1 s0 s1 tg ld).set 33 v = rcells A k0 v gn B C l sg ro t0 t1 s0 s1 tg ld := by simp [rcells, List.set_append, hA]
omit hB hC in
theorem rs_34 (v : Value) : (rcells A k0 k1 gn B C l sg ro t0 t1 s0 s1 tg ld).set 34 v = rcells A k0 k1 v B C l sg ro t0 t1 s0 s1 tg ld := by simp [rcells, List.set_append, hA]
theorem rs_55 (v : Value) : (rcells A k0 k1 gn B C l sg ro t0 t1 s0 s1 tg ld).set 55 v = rcells A k0 k1 gn B C v sg ro t0 t1 s0 s1 tg ld := by simp [rcells, List.set_append, hA, hB, hC]
theorem rs_56 (v : Value) : (rcells A k0 k1 gn B C l sg ro t0 t1 s0 s1 tg ld).set 56 v = rcells A k0 k1 gn B C l v ro t0 t1 s0 s1 tg ld := by simp [rcells, List.set_append, hA, hB, hC]
theorem rs_57 (v : Value) : (rcells A k0 k1 gn B C l sg ro t0 t1 s0 s1 tg ld).set 57 v = rcells A k0 k1 gn B C l sg v t0 t1 s0 s1 tg ld := by simp [rcells, List.set_append, hA, hB, hC]
theorem rs_62 (v : Value) : (rcells A k0 k1 gn B C l sg ro t0 t1 s0 s1 tg ld).set 62 v = rcells A k0 k1 gn B C l sg ro t0 t1 s0 s1 v ld := by simp [rcells, List.set_append, hA, hB, hC]
theorem rs_63 (v : Value) : (rcells A k0 k1 gn B C l sg ro t0 t1 s0 s1 tg ld).set 63 v = rcells A k0 k1 gn B C l sg ro t0 t1 s0 s1 tg v := by simp [rcells, List.set_append, hA, hB, hC]
omit hB hC in
theorem rs_keys (v u : Value) : splice (rcells A k0 k1 gn B C l sg ro t0 t1 s0 s1 tg ld) 32 [v, u] = rcells A v u gn B C l sg ro t0 t1 s0 s1 tg ld := by simp [splice, rcells, List.take_append, List.drop_append, hA, dnil hA, tnil hA]
omit hC in
theorem rs_first {B' : List Value} (hB' : B'.length = 10) : splice (rcells A k0 k1 gn B C l sg ro t0 t1 s0 s1 tg ld) 35 B' = rcells A k0 k1 gn B' C l sg ro t0 t1 s0 s1 tg ld := by simp [splice, rcells, List.take_append, List.drop_append, hA, dnil hA, tnil hA, hB, hB', dnil hB, tnil hB]
theorem rs_last {C' : List Value} (hC' : C'.length = 10) : splice (rcells A k0 k1 gn B C l sg ro t0 t1 s0 s1 tg ld) 45 C' = rcells A k0 k1 gn B C' l sg ro t0 t1 s0 s1 tg ld := by simp [splice, rcells, List.take_append, List.drop_append, hA, hB, hC, dnil hA, dnil hB, dnil hC, tnil hA, tnil hB, tnil hC, hC']
theorem rs_time (v u : Value) : splice (rcells A k0 k1 gn B C l sg ro t0 t1 s0 s1 tg ld) 58 [v, u] = rcells A k0 k1 gn B C l sg ro v u s0 s1 tg ld := by simp [splice, rcells, List.take_append, List.drop_append, hA, hB, hC, dnil hA, dnil hB, dnil hC, tnil hA, tnil hB, tnil hC]
theorem rs_snap (v u : Value) : splice (rcells A k0 k1 gn B C l sg ro t0 t1 s0 s1 tg ld) 60 [v, u] = rcells A k0 k1 gn B C l sg ro t0 t1 v u tg ld := by simp [splice, rcells, List.take_append, List.drop_append, hA, hB, hC, dnil hA, dnil hB, dnil hC, tnil hA, tnil hB, tnil hC]
end

theorem fill_ac {ps : List (Nat × Nat)} {n d j : Nat} {cs z : List Value} {v : Value} (hp : ps[0]? = some (0, n)) (hq : ps[j]? = some (n + d, 1)) (hc : cs.length = n) (hz : n + d < z.length) (hv : v.cells = #[v]) : fillL ps [(0, .agg ⟨cs⟩), (j, v)] z = some (cs ++ ((z.drop n).take d ++ [v] ++ (z.drop n).drop (d + 1))) := by
  unfold fillL
  rw [hp]
  have h1 : (Value.agg ⟨cs⟩).cells.size = n ∧ 0 + n ≤ z.length := ⟨hc, by omega⟩
  simp only [h1, and_self, if_true]
  have h3 : List.take 0 z ++ cs ++ z.drop (0 + n) = cs ++ z.drop n := by simp
  show fillL ps [(j, v)] (List.take 0 z ++ cs ++ z.drop (0 + n)) = _
  rw [h3]
  unfold fillL
  rw [hq]
  have h2 : v.cells.size = 1 ∧ n + d + 1 ≤ (cs ++ z.drop n).length := ⟨by rw [hv]; rfl, by rw [List.length_append, List.length_drop]; omega⟩
  simp only [h2, and_self, if_true]
  unfold fillL
  rw [hv]
  have h5 : (cs ++ z.drop n).drop (n + d + 1) = (z.drop n).drop (d + 1) := by rw [List.drop_append, hc, List.drop_eq_nil_of_le (by omega), show n + d + 1 - n = d + 1 by omega]; rfl
  have h6 : (cs ++ z.drop n).take (n + d) = cs ++ (z.drop n).take d := by rw [List.take_append, hc, List.take_of_length_le (by omega), show n + d - n = d by omega]
  rw [h5, h6]
  simp
theorem ownG_app {T : TypeId} {w w' : World} {x y : List UInt8} {v : Value} {n m : Nat} {b : Nat} (h : Own w' T 1 v (n + m) (hcells x ++ hcells y) b) (hx : x.length = n) (hy : y.length = m) (hb : w.heap.size ≤ b) (hl : b < w'.heap.size) : OwnG T 1 RByte w (x ++ y) v w' := by
  refine ownG_of (g := b) ?_ (.inr (by omega)) (by omega)
  rw [hcells_app, List.length_append, hx, hy]
  exact h

theorem seed_any (s : List UInt8) (hs : s.length = 32) (g : Int) (w : World) : Ret Tryz.prog 41 [.agg ⟨hcells s⟩, .int .i64 g] w fun r w' => r = .agg ⟨hcells (seedF s g)⟩ ∧ Ext w w' := by
  have e := ExtB.refl (fun _ => False) w
  have hl10 := seedF_len s g
  have hsl : (s ++ [u8F g]).length = 33 := by simp [hs]
  refine ret_of_run Tryz.func41 rfl Tryz.ntmps41 rfl ?_
  refine run_seq ?_
  refine run_region rfl ?_
  refine runl_op (t_boxA rfl) ?_
  rintro _ w2 ⟨b2, rfl, hb2, e2, n2, l2⟩
  have z2 := e2.size
  replace e := e.trans e2
  refine runl_op (t_alloc zero_25 rfl) ?_
  rintro _ w4 ⟨b4, rfl, hb4, e4, n4, l4⟩
  have z4 := e4.size
  replace e := e.trans e4
  replace hb2 := e4.at hb2
  refine runl_nil ?_
  refine run_seq ?_
  refine run_region rfl ?_
  refine runl_ev (ev_sliceA arr_25 rfl) ?_
  refine runl_ev (ev_move rfl) ?_
  refine runl_ev (ev_convI (_) Tryz.underlying3 Tryz.underlying5 rfl (rfl)) ?_
  refine runl_op (t_buildSlice (out := [.int .u8 (IntKind.u8.wrap g)]) Tryz.underlying29 sz_5 zero_5 rfl rfl (by decide) (by decide) rfl (rfl)) ?_
  rintro _ w8 ⟨b8, rfl, hb8, e8, n8, l8⟩
  have z8 := e8.size
  replace e := e.trans e8
  replace hb2 := e8.at hb2
  replace hb4 := e8.at hb4
  rw [u8cell g] at hb8
  replace hb8 : _ = some (Obj.cells ⟨hcells [u8F g]⟩ _ _) := hb8
  refine runl_op (t_appendFull (xs := hcells s) (news := hcells [u8F g]) ef_29 rfl rfl (by rw [hcells_length, hs]) (cells_all hb2) rfl (cells_all hb8) (by omega) (by unfold maxLen; omega) (by omega)) ?_
  rintro v9 w9 ⟨b9, own9, e9, n9, l9⟩
  have ow9 := ownG_app (w := w4) own9 hs rfl (by omega) l9
  obtain ⟨a9, c9, rfl, hc9, sl9, -⟩ := ow9.sl
  have z9 := e9.size
  replace e := e.trans e9
  replace hb2 := e9.at hb2
  replace hb4 := e9.at hb4
  replace hb8 := e9.at hb8
  refine runl_op (t_call call_47 rfl (sum_any _ a9 _ c9 _ sl9 hc9 (by omega))) ?_
  rintro _ w10 ⟨rfl, e10⟩
  have z10 := e10.size
  replace e := e.trans e10
  replace hb2 := e10.at hb2
  replace hb4 := e10.at hb4
  replace hb8 := e10.at hb8
  refine runl_do (t_storeW sz_25 rfl rfl (by rw [hcells_length]; exact hl10) rfl hb4 (hcells_one _)) ?_
  rintro _ v1_6 ⟨hq1_6, e1_6, z1_6⟩
  replace e := e.new1 e1_6 (by omega)
  replace hb2 := e1_6.at1 hb2 (by omega)
  replace hb8 := e1_6.at1 hb8 (by omega)
  replace hb4 := hq1_6
  clear hq1_6
  refine runl_nil ?_
  refine run_ret_any Tryz.func41 (resC Tryz.results41 rfl (loadVar_agg agg_25 (by rw [hcells_length]; exact hl10) (cells_all hb4))) ?_
  exact ⟨rfl, e⟩
theorem rroot_new (rb : Nat) (T : TypeId) (c : List Value) (k0 k1 u0 u1 : Nat) (M0 M1 : Nat → Prop) (s0 s1 : List UInt8) (v : Int) (w : World) (hr : w.heap[rb]? = some (.cells ⟨c⟩ T (0, 0))) (h32 : c[32]? = some (.pointer (some ⟨k0, 0, none⟩))) (h33 : c[33]? = some (.pointer (some ⟨k1, 0, none⟩))) (hk0 : KeyAt M0 k0 s0 u0 w) (hk1 : KeyAt M1 k1 s1 u1 w) :
    Ret Tryz.prog 42 [.pointer (some ⟨rb, 0, none⟩), .int .i64 v] w fun r w' => ∃ cs, r = .agg ⟨cs⟩ ∧ RRootF w.heap.size w' (rootP (pubF s0) (pubF s1) v) cs ∧ Ext w w' := by
  have e := ExtB.refl (fun _ => False) w
  have lrb := lt_of_at hr
  have hr0 := hr
  refine ret_of_run Tryz.func42 rfl Tryz.ntmps42 rfl ?_
  refine run_seq ?_
  refine run_region rfl ?_
  refine runl_op (t_alloc zero_68 rfl) ?_
  rintro _ w4 ⟨b4, rfl, hb4, e4, n4, l4⟩
  have z4 := e4.size
  replace e := e.trans e4
  refine runl_nil ?_
  refine run_seq ?_
  refine run_region rfl ?_
  refine runl_ev (ev_move rfl) ?_
  refine runl_ev (ev_build (out := .int .i64 v :: .int .i64 1073741824 :: [.slice none 0 0, .int .i64 0, .slice none 0 0, .int .i64 0, .slice none 0 0, .int .i64 0, .slice none 0 0, .int .i64 0]) ps_68 zero_68 rfl rfl (rfl)) ?_
  refine runl_op (t_alloc zero_68 rfl) ?_
  rintro _ w5 ⟨b5, rfl, hb5, e5, n5, l5⟩
  have z5 := e5.size
  replace e := e.trans e5
  replace hb4 := e5.at hb4
  refine runl_do (t_storeW sz_68 rfl rfl rfl rfl hb5 ((by simp))) ?_
  rintro _ v1_3 ⟨hq1_3, e1_3, z1_3⟩
  replace e := e.new1 e1_3 (by omega)
  replace hb4 := e1_3.at1 hb4 (by omega)
  replace hb5 := hq1_3
  clear hq1_3
  refine runl_nil ?_
  refine run_seq ?_
  refine run_seq ?_
  refine run_region rfl ?_
  refine runl_ev (ev_move rfl) ?_
  refine runl_nil ?_
  refine run_block ?_
  refine run_loop (ι := Nat × List Value × List Value) (fun x => [(0, .pointer (some ⟨rb, 0, none⟩)), (4, .pointer (some ⟨b4, 0, none⟩)), (5, .pointer (some ⟨b5, 0, none⟩)), (10, .int .i64 (x.1 : Int))]) (fun x w1 => x.1 ≤ 4 ∧ x.2.1.length = 2 * x.1 ∧ x.2.2.length = 8 - 2 * x.1 ∧ Parts 2 (RKeysF w5.heap.size) w1 ((rolesF (pubF s0) (pubF s1)).take x.1) x.2.1 ∧ w1.heap[b5]? = some (.cells ⟨.int .i64 v :: .int .i64 1073741824 :: (x.2.1 ++ x.2.2)⟩ 68 (0, 0)) ∧ w1.heap[b4]? = some (.cells ⟨rootZ⟩ 68 (0, 0)) ∧ Ext w w1 ∧ w5.heap.size ≤ w1.heap.size) (fun x => 4 - x.1) ((0, [], [.slice none 0 0, .int .i64 0, .slice none 0 0, .int .i64 0, .slice none 0 0, .int .i64 0, .slice none 0 0, .int .i64 0])) ⟨rfl, rfl, rfl, rfl, trivial⟩ (⟨Nat.zero_le _, rfl, rfl, trivial, hb5, hb4, e, by omega⟩) ?_
  clear hb4 hb5 e
  intro ⟨k, ks, zs⟩ w1 ⟨hk, hkz, hzz, hP, hb5, hb4, e, hz5⟩ IH
  simp only at hk hkz hzz hP hb5
  have lb4 := lt_of_at hb4
  have lb5 := lt_of_at hb5
  have ze := e.size
  have hr := e.at hr0
  refine run_seq ?_
  refine run_region rfl ?_
  refine runl_ev (ev_lss rfl rfl) ?_
  refine runl_nil ?_
  refine run_seq ?_
  refine run_dcond rfl (fun h0 => ?_) (fun h0 => ?_)
  · have hk4 : k < 4 := by omega
    have hsucc := rolesF_succ (pubF s0) (pubF s1) hk4
    refine run_skip ?_
    refine run_seq ?_
    refine run_block ?_
    refine run_seq ?_
    refine run_region rfl ?_
    refine runl_ev (ev_move rfl) ?_
    refine runl_ev (ev_assign rfl) ?_
    refine runl_nil ?_
    refine run_seq ?_
    refine run_region rfl ?_
    refine runl_ev (ev_move rfl) ?_
    refine runl_ev (ev_nilCheck rfl) ?_
    refine runl_ev (ev_fieldAddr fld_108_1 rfl) ?_
    refine runl_ev (ev_indexAddrA (k := 1) arr_106 rfl rfl (by decide)) ?_
    refine runl_ev (ev_load1 cell_105 rfl (eqw ((cells_all hr).pick 33 (by omega) h33))) ?_
    refine runl_ev (ev_assign rfl) ?_
    refine runl_nil ?_
    refine run_cut1 (ι := Nat × List UInt8) (fun x => [(0, .pointer (some ⟨rb, 0, none⟩)), (4, .pointer (some ⟨b4, 0, none⟩)), (5, .pointer (some ⟨b5, 0, none⟩)), (6, .int .i64 (k : Int)), (7, .pointer (some ⟨x.1, 0, none⟩)), (10, .int .i64 (k : Int))]) (fun x w' => w' = w1 ∧ (∃ M u, KeyAt M x.1 x.2 u w1) ∧ (rolesF (pubF s0) (pubF s1)).take (k + 1) = (rolesF (pubF s0) (pubF s1)).take k ++ [⟨[pubF x.2], 1⟩]) ?_ ?_
    · rintro ⟨kx, sdx⟩ _ ⟨rfl, ⟨Mx, ux, hkx⟩, hsucc⟩
      simp only at hkx hsucc
      have hpl := pubF_len sdx
      refine run_region rfl ?_
      refine runl_ev (ev_move rfl) ?_
      refine runl_ev (ev_move rfl) ?_
      refine runl_op (t_call call_49 rfl (public_key hkx)) ?_
      rintro _ w27 ⟨rfl, e27⟩
      have z27 := e27.size
      replace hb4 := e27.at hb4
      replace hb5 := e27.at hb5
      replace hr := e27.at hr
      replace e := e.trans e27
      replace hP := hP.mono (fun _ _ _ h => h.keep e27 (fun _ h => h.elim))
      refine runl_op (t_buildSlice (out := hcells (pubF sdx)) Tryz.underlying60 sz_25 zero_25 rfl rfl (by decide) (by decide) rfl (fill_one rfl (by rw [hcells_length]; exact hpl) rfl)) ?_
      rintro _ w28 ⟨b28, rfl, hb28, e28, n28, l28⟩
      have z28 := e28.size
      replace hb4 := e28.at hb4
      replace hb5 := e28.at hb5
      replace hr := e28.at hr
      replace e := e.trans e28
      replace hP := hP.mono (fun _ _ _ h => h.keep e28 (fun _ h => h.elim))
      have kf28 : RKeysF w5.heap.size w28 ⟨[pubF sdx], 1⟩ [.slice (some ⟨b28, 0, none⟩) 1 1, .int .i64 1] := ⟨_, _, rfl, sl_lit (l := [pubF sdx]) (R := RHash) hb28 (pc (x := pubF sdx) ⟨hpl, List.take_of_length_le (Nat.le_of_eq (by rw [hcells_length]; exact hpl))⟩ pn), by simp, fun b o h => by cases h; omega⟩
      refine runl_ev (ev_build (out := [.slice (some ⟨b28, 0, none⟩) 1 1, .int .i64 1]) ps_65 zero_65 rfl rfl (rfl)) ?_
      refine runl_ev (ev_fieldAddr fld_68_2 rfl) ?_
      refine runl_ev (ev_indexAddrA (k := k) arr_66 rfl rfl (by omega)) ?_
      refine runl_do (t_store sz_65 rfl rfl rfl rfl hb5 (by simp only [List.length_cons, List.length_append, List.length_nil]; omega) ((by simp))) ?_
      rintro _ v8_7 ⟨hq8_7, e8_7, z8_7⟩
      replace hb4 := e8_7.at1 hb4 (by omega)
      replace hr := e8_7.at1 hr (by omega)
      replace e := e.new1 e8_7 (by omega)
      replace hP := hP.mono (fun _ _ _ h => h.keep e8_7 (fun k hk => by omega))
      replace hb28 := e8_7.at1 hb28 (by omega)
      replace hb5 := hq8_7
      clear hq8_7
      refine runl_nil ?_
      replace hb5 := (root_set' (cs := [.slice (some ⟨b28, 0, none⟩) 1 1, .int .i64 1]) hkz rfl) ▸ hb5
      have hP2 := Parts.app hP (by rw [List.length_take]; have : (rolesF (pubF s0) (pubF s1)).length = 4 := rfl; omega) (pc (x := ⟨[pubF sdx], 1⟩) (r := []) (cs := [.slice (some ⟨b28, 0, none⟩) 1 1, .int .i64 1]) (kf28.keep e8_7 (fun k hk => by omega)) pn)
      rw [← hsucc] at hP2
      refine run_inBlock ?_
      refine run_region rfl ?_
      refine runl_ev (ev_add rfl rfl (by omega) (by omega)) ?_
      refine runl_ev (ev_move rfl) ?_
      refine runl_nil ?_
      exact IH (k + 1, _, _) _ _ (by simp only; omega) ⟨rfl, rfl, rfl, rfl, trivial⟩ ⟨by show k + 1 ≤ 4; omega, by rw [List.length_append]; simp only [List.length_cons, List.length_nil]; omega, by rw [List.length_drop]; omega, hP2, hb5, hb4, e, by omega⟩
    · intro JJ
      refine run_seq ?_
      refine run_region rfl ?_
      refine runl_ev (ev_move rfl) ?_
      refine runl_ev (ev_eqlI rfl rfl) ?_
      refine runl_nil ?_
      refine run_dcond rfl (fun h1 => ?_) (fun h1 => ?_)
      · refine run_region rfl ?_
        refine runl_ev (ev_move rfl) ?_
        refine runl_ev (ev_nilCheck rfl) ?_
        refine runl_ev (ev_fieldAddr fld_108_1 rfl) ?_
        refine runl_ev (ev_indexAddrA (k := 0) arr_106 rfl rfl (by decide)) ?_
        refine runl_ev (ev_load1 cell_105 rfl (eqw ((cells_all hr).pick 32 (by omega) h32))) ?_
        refine runl_ev (ev_assign rfl) ?_
        refine runl_nil ?_
        exact JJ (k0, s0) _ _ ⟨rfl, rfl, rfl, rfl, rfl, rfl, trivial⟩ ⟨rfl, ⟨M0, u0, hk0.ext e⟩, by rw [hsucc, if_pos (by omega)]⟩
      · refine run_skip ?_
        exact JJ (k1, s1) _ _ ⟨rfl, rfl, rfl, rfl, rfl, rfl, trivial⟩ ⟨rfl, ⟨M1, u1, hk1.ext e⟩, by rw [hsucc, if_neg (by omega)]⟩
  · obtain rfl : k = 4 := by omega
    obtain rfl : zs = [] := List.eq_nil_of_length_eq_zero (by omega)
    rw [List.append_nil] at hb5
    replace hP : Parts 2 (RKeysF w5.heap.size) w1 (rolesF (pubF s0) (pubF s1)) ks := hP
    refine run_exit rfl ?_
    refine run_seq ?_
    refine run_region rfl ?_
    refine runl_ev (ev_loadA agg_68 (by simp only [List.length_cons]; omega) rfl (eqw (cells_all hb5))) ?_
    refine runl_do (t_storeW sz_68 rfl rfl (by simp only [List.length_cons]; omega) rfl hb4 ((fun v hv => by rcases List.mem_cons.1 hv with rfl | hv; rfl; rcases List.mem_cons.1 hv with rfl | hv; rfl; exact parts_one (fun x cs h => rkeys_one x cs (RKeysF.r h)) hP (by rw [hkz]; rfl) v hv))) ?_
    rintro _ v10_1 ⟨hq10_1, e10_1, z10_1⟩
    replace hb5 := e10_1.at1 hb5 (by omega)
    replace hr := e10_1.at1 hr (by omega)
    replace e := e.new1 e10_1 (by omega)
    replace hP := hP.mono (fun _ _ _ h => h.keep e10_1 (fun k hk => by omega))
    replace hb4 := hq10_1
    clear hq10_1
    refine runl_nil ?_
    refine run_ret_any Tryz.func42 (resC Tryz.results42 rfl (loadVar_agg agg_68 (by simp only [List.length_cons]; omega) (cells_all hb4))) ?_
    exact ⟨_, rfl, ⟨ks, rfl, by omega, rfl, hP.mono (fun _ _ _ h => h.up (by omega))⟩, e⟩
end Go.Proofs.YtlgkdnmklgbhbaaGreatDoor
/- A Repo in memory; the walks of what makes it, of its root, of copies. -/
namespace Go.Proofs.YtlgkdnmklgbhbaaGreatDoor
open Go Go.Fw
set_option maxRecDepth 100000
structure RepoS where
  seed : List UInt8
  used0 : Nat
  used1 : Nat
  gen : Nat
  ver : Nat
  l : List Tgt
  signed : Nat
  roots : List EnvP
  time : EnvP
  snap : EnvP
  tgts : List EnvP
  book : List Tgt
def RepoS.new (s : List UInt8) : RepoS := ⟨s, 0, 0, 1, 1, [], 0, [], .zero, .zero, [], []⟩
def RepoS.p0 (S : RepoS) : List UInt8 := pubF (seedF S.seed 0)
def RepoS.pub (S : RepoS) (g : Nat) : List UInt8 := pubF (seedF S.seed (g : Int))
def RepoS.first (S : RepoS) : RootP := rootP S.p0 (S.pub 1) 1
def RepoS.last (S : RepoS) : RootP := rootP S.p0 (S.pub S.gen) (S.ver : Int)
/-- What may be turned from now on: what is none of the Repo's, and the Repo's own variables. -/
def MutR (F : Nat → Prop) (rb k0 k1 : Nat) (lg rg gg : Int) (k : Nat) : Prop := ¬ F k ∨ k = rb ∨ k = k0 ∨ k = k1 ∨ (k : Int) = lg ∨ (k : Int) = rg ∨ (k : Int) = gg
def sepR (rb k0 k1 : Nat) (lg rg gg : Int) (n : Nat) : Prop := rb ≠ k0 ∧ rb ≠ k1 ∧ k0 ≠ k1 ∧ rb < n ∧ k0 < n ∧ k1 < n ∧ (lg = -1 ∨ ((0 : Int) ≤ lg ∧ lg < n ∧ lg ≠ rb ∧ lg ≠ k0 ∧ lg ≠ k1 ∧ lg ≠ rg ∧ lg ≠ gg)) ∧ (rg = -1 ∨ ((0 : Int) ≤ rg ∧ rg < n ∧ rg ≠ rb ∧ rg ≠ k0 ∧ rg ≠ k1 ∧ rg ≠ gg)) ∧ (gg = -1 ∨ ((0 : Int) ≤ gg ∧ gg < n ∧ gg ≠ rb ∧ gg ≠ k0 ∧ gg ≠ k1))
section
variable {rb k0 k1 n n' : Nat} {lg rg gg : Int}
theorem sepR.grow (h : sepR rb k0 k1 lg rg gg n) (hn : n ≤ n') : sepR rb k0 k1 lg rg gg n' := by
  obtain ⟨a1, a2, a3, a4, a5, a6, a7, a8, a9⟩ := h
  refine ⟨a1, a2, a3, by omega, by omega, by omega, ?_, ?_, ?_⟩
  · exact a7.imp id fun ⟨b1, b2, b3⟩ => ⟨b1, by omega, b3⟩
  · exact a8.imp id fun ⟨b1, b2, b3⟩ => ⟨b1, by omega, b3⟩
  · exact a9.imp id fun ⟨b1, b2, b3⟩ => ⟨b1, by omega, b3⟩
theorem sepR.rb_k0 (h : sepR rb k0 k1 lg rg gg n) : rb ≠ k0 := h.1
theorem sepR.rb_k1 (h : sepR rb k0 k1 lg rg gg n) : rb ≠ k1 := h.2.1
theorem sepR.k0_k1 (h : sepR rb k0 k1 lg rg gg n) : k0 ≠ k1 := h.2.2.1
theorem sepR.rb_lt (h : sepR rb k0 k1 lg rg gg n) : rb < n := h.2.2.2.1
theorem sepR.k0_lt (h : sepR rb k0 k1 lg rg gg n) : k0 < n := h.2.2.2.2.1
theorem sepR.k1_lt (h : sepR rb k0 k1 lg rg gg n) : k1 < n := h.2.2.2.2.2.1
theorem sepR.lg_lt (h : sepR rb k0 k1 lg rg gg n) : lg < n := by
  rcases h.2.2.2.2.2.2.1 with h | ⟨_, h, _⟩
  · omega
  · exact h
theorem sepR.rg_lt (h : sepR rb k0 k1 lg rg gg n) : rg < n := by
  rcases h.2.2.2.2.2.2.2.1 with h | ⟨_, h, _⟩
  · omega
  · exact h
theorem sepR.gg_lt (h : sepR rb k0 k1 lg rg gg n) : gg < n := by
  rcases h.2.2.2.2.2.2.2.2 with h | ⟨_, h, _⟩
  · omega
  · exact h
theorem sepR.lg_rb (h : sepR rb k0 k1 lg rg gg n) : lg ≠ rb := by
  rcases h.2.2.2.2.2.2.1 with h | ⟨_, _, h, _⟩
  · omega
  · exact h
theorem sepR.lg_k0 (h : sepR rb k0 k1 lg rg gg n) : lg ≠ k0 := by
  rcases h.2.2.2.2.2.2.1 with h | ⟨_, _, _, h, _⟩
  · omega
  · exact h
theorem sepR.lg_k1 (h : sepR rb k0 k1 lg rg gg n) : lg ≠ k1 := by
  rcases h.2.2.2.2.2.2.1 with h | ⟨_, _, _, _, h, _⟩
  · omega
  · exact h
theorem sepR.rg_rb (h : sepR rb k0 k1 lg rg gg n) : rg ≠ rb := by
  rcases h.2.2.2.2.2.2.2.1 with h | ⟨_, _, h, _⟩
  · omega
  · exact h
theorem sepR.rg_k0 (h : sepR rb k0 k1 lg rg gg n) : rg ≠ k0 := by
  rcases h.2.2.2.2.2.2.2.1 with h | ⟨_, _, _, h, _⟩
  · omega
  · exact h
theorem sepR.rg_k1 (h : sepR rb k0 k1 lg rg gg n) : rg ≠ k1 := by
  rcases h.2.2.2.2.2.2.2.1 with h | ⟨_, _, _, _, h, _⟩
  · omega
  · exact h
theorem sepR.gg_rb (h : sepR rb k0 k1 lg rg gg n) : gg ≠ rb := by
  rcases h.2.2.2.2.2.2.2.2 with h | ⟨_, _, h, _⟩
  · omega
  · exact h
theorem sepR.gg_k0 (h : sepR rb k0 k1 lg rg gg n) : gg ≠ k0 := by
  rcases h.2.2.2.2.2.2.2.2 with h | ⟨_, _, _, h, _⟩
  · omega
  · exact h
theorem sepR.gg_k1 (h : sepR rb k0 k1 lg rg gg n) : gg ≠ k1 := by
  rcases h.2.2.2.2.2.2.2.2 with h | ⟨_, _, _, _, h⟩
  · omega
  · exact h
theorem sepR.lg_rg (h : sepR rb k0 k1 lg rg gg n) (k : Nat) (h1 : (k : Int) = lg) (h2 : (k : Int) = rg) : False := by
  rcases h.2.2.2.2.2.2.1 with h | ⟨_, _, _, _, _, h, _⟩
  · omega
  · exact h (h1.symm.trans h2)
theorem sepR.lg_gg (h : sepR rb k0 k1 lg rg gg n) (k : Nat) (h1 : (k : Int) = lg) (h2 : (k : Int) = gg) : False := by
  rcases h.2.2.2.2.2.2.1 with h | ⟨_, _, _, _, _, _, h⟩
  · omega
  · exact h (h1.symm.trans h2)
theorem sepR.rg_gg (h : sepR rb k0 k1 lg rg gg n) (k : Nat) (h1 : (k : Int) = rg) (h2 : (k : Int) = gg) : False := by
  rcases h.2.2.2.2.2.2.2.1 with h | ⟨_, _, _, _, _, h⟩
  · omega
  · exact h (h1.symm.trans h2)
theorem sepR.book {g : Int} (h : sepR rb k0 k1 lg rg gg n) (hn : n ≤ n') (hg : g = gg ∨ ((n : Int) ≤ g ∧ g < n')) : sepR rb k0 k1 lg rg g n' := by
  rcases hg with rfl | ⟨h1, h2⟩
  · exact h.grow hn
  · obtain ⟨a1, a2, a3, a4, a5, a6, a7, a8, _⟩ := h
    refine ⟨a1, a2, a3, by omega, by omega, by omega, ?_, ?_, .inr ⟨by omega, h2, by omega, by omega, by omega⟩⟩
    · exact a7.imp id fun ⟨b1, b2, b3, b4, b5, b6, _⟩ => ⟨b1, by omega, b3, b4, b5, b6, by omega⟩
    · exact a8.imp id fun ⟨b1, b2, b3, b4, b5, _⟩ => ⟨b1, by omega, b3, b4, b5, by omega⟩
theorem sepR.roots {g : Int} (h : sepR rb k0 k1 lg rg gg n) (hn : n ≤ n') (hg : g = rg ∨ ((n : Int) ≤ g ∧ g < n')) : sepR rb k0 k1 lg g gg n' := by
  rcases hg with rfl | ⟨h1, h2⟩
  · exact h.grow hn
  · have h9 := h.gg_lt
    obtain ⟨a1, a2, a3, a4, a5, a6, a7, _, a9⟩ := h
    refine ⟨a1, a2, a3, by omega, by omega, by omega, ?_, .inr ⟨by omega, h2, by omega, by omega, by omega, by omega⟩, ?_⟩
    · exact a7.imp id fun ⟨b1, b2, b3, b4, b5, _, b7⟩ => ⟨b1, by omega, b3, b4, b5, by omega, b7⟩
    · exact a9.imp id fun ⟨b1, b2, b3⟩ => ⟨b1, by omega, b3⟩
theorem sepR.list {g : Int} (h : sepR rb k0 k1 lg rg gg n) (hn : n ≤ n') (hg : g = lg ∨ ((n : Int) ≤ g ∧ g < n')) : sepR rb k0 k1 g rg gg n' := by
  rcases hg with rfl | ⟨h1, h2⟩
  · exact h.grow hn
  · have h9 := h.gg_lt
    have h8 := h.rg_lt
    obtain ⟨a1, a2, a3, a4, a5, a6, _, a8, a9⟩ := h
    refine ⟨a1, a2, a3, by omega, by omega, by omega, .inr ⟨by omega, h2, by omega, by omega, by omega, by omega, by omega⟩, ?_, ?_⟩
    · exact a8.imp id fun ⟨b1, b2, b3⟩ => ⟨b1, by omega, b3⟩
    · exact a9.imp id fun ⟨b1, b2, b3⟩ => ⟨b1, by omega, b3⟩
theorem sepR.key {k : Nat} (h : sepR rb k0 k1 lg rg gg n) (hn : n ≤ n') (hk : n ≤ k ∧ k < n') : sepR rb k0 k lg rg gg n' := by
  have h9 := h.gg_lt
  have h8 := h.rg_lt
  have h7 := h.lg_lt
  obtain ⟨a1, a2, a3, a4, a5, a6, a7, a8, a9⟩ := h
  refine ⟨a1, by omega, by omega, by omega, by omega, by omega, ?_, ?_, ?_⟩
  · exact a7.imp id fun ⟨b1, b2, b3, b4, b5, b6⟩ => ⟨b1, by omega, b3, b4, by omega, b6⟩
  · exact a8.imp id fun ⟨b1, b2, b3, b4, b5, b6⟩ => ⟨b1, by omega, b3, b4, by omega, b6⟩
  · exact a9.imp id fun ⟨b1, b2, b3, b4, b5⟩ => ⟨b1, by omega, b3, b4, by omega⟩
end
structure RepoIn (F : Nat → Prop) (rb : Nat) (S : RepoS) (w : World) (k0 k1 : Nat) (lg rg gg : Int) (fc lc : List Value) (lv rv t0 t1 s0 s1 tv gv : Value) (lx rx gx : List Value) : Prop where
  sd : S.seed.length = 32
  fl : fc.length = 10
  ll : lc.length = 10
  hb : w.heap[rb]? = some (.cells ⟨rcells (hcells S.seed) (.pointer (some ⟨k0, 0, none⟩)) (.pointer (some ⟨k1, 0, none⟩)) (.int .i64 (S.gen : Int)) fc lc lv (.int .i64 (S.signed : Int)) rv t0 t1 s0 s1 tv gv⟩ 108 (0, 0))
  hk0 : KeyAt (MutR F rb k0 k1 lg rg gg) k0 (seedF S.seed 0) S.used0 w
  hk1 : KeyAt (MutR F rb k0 k1 lg rg gg) k1 (seedF S.seed (S.gen : Int)) S.used1 w
  ol : Own w 82 37 lv S.l.length lx lg
  pl : Parts 37 RTgt w S.l lx
  orr : Own w 32 2 rv S.roots.length rx rg
  pr : Fz (MutR F rb k0 k1 lg rg gg) (fun w => Parts 2 REnv w S.roots rx) w
  og : Own w 82 37 gv S.book.length gx gg
  pg : Parts 37 RTgt w S.book gx
  hz : Fz (MutR F rb k0 k1 lg rg gg) (fun w => RRoot w S.first fc ∧ RRoot w S.last lc ∧ REnv w S.time [t0, t1] ∧ REnv w S.snap [s0, s1] ∧ SlAt 2 REnv w tv S.tgts) w
  sep : sepR rb k0 k1 lg rg gg w.heap.size
  inF : ∀ k : Nat, k = rb ∨ k = k0 ∨ k = k1 ∨ (k : Int) = lg ∨ (k : Int) = rg ∨ (k : Int) = gg → F k
  lt : ∀ k, F k → k < w.heap.size
def RepoAt (F : Nat → Prop) (rb : Nat) (S : RepoS) (w : World) : Prop := ∃ k0 k1 lg rg gg fc lc lv rv t0 t1 s0 s1 tv gv lx rx gx, RepoIn F rb S w k0 k1 lg rg gg fc lc lv rv t0 t1 s0 s1 tv gv lx rx gx
theorem flat_tgt : Flat RTgt := fun _ _ _ _ h => h
/-- What turns is none of the Repo's. -/
theorem RepoAt.step {F M : Nat → Prop} {rb : Nat} {S : RepoS} {w w' : World} (h : RepoAt F rb S w) (e : ExtB M w w') (hm : ∀ k, F k → ¬ M k) : RepoAt F rb S w' := by
  obtain ⟨k0, k1, lg, rg, gg, fc, lc, lv, rv, t0, t1, s0, s1, tv, gv, lx, rx, gx, r⟩ := h
  have hz := e.size
  have hM : ∀ k, k < w.heap.size → M k → MutR F rb k0 k1 lg rg gg k := fun k _ hk => .inl fun hF => hm k hF hk
  refine ⟨k0, k1, lg, rg, gg, fc, lc, lv, rv, t0, t1, s0, s1, tv, gv, lx, rx, gx, ⟨r.sd, r.fl, r.ll, e.at r.hb (hm _ (r.inF _ (.inl rfl))), r.hk0.step e (hm _ (r.inF _ (.inr (.inl rfl)))) hM, r.hk1.step e (hm _ (r.inF _ (.inr (.inr (.inl rfl))))) hM,
    r.ol.keep e (fun k hk => hm _ (r.inF _ (.inr (.inr (.inr (.inl hk)))))), r.pl.mono (w' := w') (R₂ := RTgt) (fun _ _ _ h => flat_tgt _ _ _ _ h), r.orr.keep e (fun k hk => hm _ (r.inF _ (.inr (.inr (.inr (.inr (.inl hk))))))), r.pr.step e hM, r.og.keep e (fun k hk => hm _ (r.inF _ (.inr (.inr (.inr (.inr (.inr hk))))))), r.pg.mono (w' := w') (R₂ := RTgt) (fun _ _ _ h => flat_tgt _ _ _ _ h), r.hz.step e hM, r.sep.grow hz, r.inF, fun k hk => Nat.lt_of_lt_of_le (r.lt k hk) hz⟩⟩
theorem RepoAt.ext {F : Nat → Prop} {rb : Nat} {S : RepoS} {w w' : World} (h : RepoAt F rb S w) (e : Ext w w') : RepoAt F rb S w' := h.step e (fun _ _ x => x)
theorem RepoAt.lt {F : Nat → Prop} {rb : Nat} {S : RepoS} {w : World} (h : RepoAt F rb S w) : ∀ k, F k → k < w.heap.size := by
  obtain ⟨k0, k1, lg, rg, gg, fc, lc, lv, rv, t0, t1, s0, s1, tv, gv, lx, rx, gx, r⟩ := h
  exact r.lt
theorem RepoAt.inrb {F : Nat → Prop} {rb : Nat} {S : RepoS} {w : World} (h : RepoAt F rb S w) : F rb := by
  obtain ⟨k0, k1, lg, rg, gg, fc, lc, lv, rv, t0, t1, s0, s1, tv, gv, lx, rx, gx, r⟩ := h
  exact r.inF _ (.inl rfl)
/-- What a call on the Repo leaves. -/
def RepoP (F : Nat → Prop) (w : World) (rb : Nat) (S : RepoS) (w' : World) : Prop := ∃ F', RepoAt F' rb S w' ∧ ExtB F w w' ∧ ∀ k, F' k → F k ∨ w.heap.size ≤ k
theorem RepoP.of {F : Nat → Prop} {rb : Nat} {S : RepoS} {w w' : World} (h : RepoAt F rb S w') (e : Ext w w') : RepoP F w rb S w' := ⟨F, h, e.toB, fun _ h => .inl h⟩
theorem fz_lo {P : World → Prop} {lo : Nat} {Mut : Nat → Prop} {w : World} (h : ∀ w', ExtB (fun k => k < lo) w w' → P w') (hm : ∀ k, Mut k → k < lo ∨ w.heap.size ≤ k) : Fz Mut P w := (Fz.of (M := fun k => k < lo) h).turn (ExtB.refl _ _) hm

theorem reponew_any (s : List UInt8) (hs : s.length = 32) (w : World) : Ret Tryz.prog 12 [.agg ⟨hcells s⟩] w fun r w' => ∃ rb, r = .pointer (some ⟨rb, 0, none⟩) ∧ RepoAt (fun k => w.heap.size ≤ k ∧ k < w'.heap.size) rb (.new s) w' ∧ Ext w w' := by
  have e := ExtB.refl (fun _ => False) w
  have hA : (hcells s).length = 32 := by rw [hcells_length]; exact hs
  have hZ : rootZ.length = 10 := rfl
  refine ret_of_run Tryz.func12 rfl Tryz.ntmps12 rfl ?_
  refine run_seq ?_
  refine run_region rfl ?_
  refine runl_op (t_boxA rfl) ?_
  rintro _ w1 ⟨b1, rfl, hb1, e1, n1, l1⟩
  have z1 := e1.size
  replace e := e.trans e1
  refine runl_ev (ev_assign rfl) ?_
  refine runl_nil ?_
  refine run_seq ?_
  refine run_region rfl ?_
  refine runl_ev (ev_loadA agg_25 hA rfl (eqw (cells_all hb1))) ?_
  refine runl_ev (ev_build (out := rcells (hcells s) (.pointer none) (.pointer none) (.int .i64 1) rootZ rootZ (.slice none 0 0) (.int .i64 0) (.slice none 0 0) (.slice none 0 0) (.slice none 0 0) (.slice none 0 0) (.slice none 0 0) (.slice none 0 0) (.slice none 0 0)) ps_108 zero_108 rfl rfl (fill_ac (d := 2) rfl rfl hA (by decide) rfl)) ?_
  refine runl_op (t_boxA rfl) ?_
  rintro _ w6 ⟨b6, rfl, hb6, e6, n6, l6⟩
  have z6 := e6.size
  replace e := e.trans e6
  replace hb1 := e6.at hb1
  refine runl_ev (ev_assign rfl) ?_
  refine runl_nil ?_
  refine run_seq ?_
  refine run_draw mo (fun w' => Ext w6 w') [8, 9, 10] [(true, 0), (true, 1), (true, 4), (false, 2), (false, 3), (false, 5), (false, 6), (true, 7), (false, 8), (false, 9), (false, 10)] (by kernel_rfl) ?_
  intro wr2 er2
  have zr2 := er2.size
  have hsr2 := er2
  have ep := e.trans er2
  have hb1p := er2.at hb1
  have hb6p := er2.at hb6
  refine rund_ev hsr2 rfl (ev_move rfl) ?_
  refine rund_ev hsr2 rfl (ev_loadA agg_25 hA rfl (fun wz hz => cells_all (hz.at hb1))) ?_
  refine rund_ev hsr2 rfl (ev_loadA agg_25 hA rfl (fun wz hz => cells_all (hz.at hb1))) ?_
  refine rund_op rfl (t_call call_41 rfl (seed_any s hs 0 _)) ?_
  rintro _ w9 ⟨rfl, e9⟩
  have z9 := e9.size
  replace ep := ep.trans e9
  replace hb1p := e9.at hb1p
  replace hb6p := e9.at hb6p
  have hs9 := hsr2.trans e9
  refine ⟨hs9, ?_⟩
  refine rund_op rfl (t_call call_40 rfl (keynew_any _ (seedF_len s 0) _)) ?_
  rintro _ w10 ⟨kb0, rfl, nk0, lk0, ka0, e10⟩
  have z10 := e10.size
  replace ep := ep.trans e10
  replace hb1p := e10.at hb1p
  replace hb6p := e10.at hb6p
  have hs10 := hs9.trans e10
  refine ⟨hs10, ?_⟩
  have ka0p := ka0
  refine rund_op rfl (t_call call_41 rfl (seed_any s hs 1 _)) ?_
  rintro _ w12 ⟨rfl, e12⟩
  have z12 := e12.size
  replace ep := ep.trans e12
  replace hb1p := e12.at hb1p
  replace hb6p := e12.at hb6p
  replace ka0p := ka0p.ext e12
  have hs12 := hs10.trans e12
  refine ⟨hs12, ?_⟩
  refine rund_op rfl (t_call call_40 rfl (keynew_any _ (seedF_len s 1) _)) ?_
  rintro _ w13 ⟨kb1, rfl, nk1, lk1, ka1, e13⟩
  have z13 := e13.size
  replace ep := ep.trans e13
  replace hb1p := e13.at hb1p
  replace hb6p := e13.at hb6p
  replace ka0p := ka0p.ext e13
  have hs13 := hs12.trans e13
  refine ⟨hs13, ?_⟩
  have ka1p := ka1
  refine rund_ev hs13 rfl (ev_build (out := [.pointer (some ⟨kb0, 0, none⟩), .pointer (some ⟨kb1, 0, none⟩)]) ps_106 zero_106 rfl rfl (rfl)) ?_
  refine rund_opT rfl rfl (opT_ev (ev_nilCheck rfl)) ?_
  rintro _ _ ⟨rfl, rfl⟩
  refine rund_opT rfl rfl (opT_ev (ev_fieldAddr fld_108_1 rfl)) ?_
  rintro _ _ ⟨rfl, rfl⟩
  refine rund_doT rfl rfl (t_store sz_106 rfl rfl rfl rfl hb6p (by rw [rc_len hA hZ hZ]; simp) (by simp)) ?_
  rintro _ v2_10 ⟨hq2_10, e2_10, z2_10⟩
  replace ep := ep.new1 e2_10 (by omega)
  replace hb1p := e2_10.at1 hb1p (by first | assumption | omega)
  replace ka0p := ka0p.step e2_10 (fun h => by have h : _ = _ := h; omega) (fun k hk0 hk => by have hk : _ = _ := hk; subst hk; show _ ∨ _ ∨ _; omega)
  replace ka1p := ka1p.step e2_10 (fun h => by have h : _ = _ := h; omega) (fun k hk0 hk => by have hk : _ = _ := hk; subst hk; show _ ∨ _ ∨ _; omega)
  replace hb6p := hq2_10
  clear hq2_10
  refine rund_nil ?_
  replace e := ep
  clear ep
  replace hb1 := hb1p
  clear hb1p
  replace hb6 := hb6p
  clear hb6p
  replace ka0 := ka0p
  clear ka0p
  replace ka1 := ka1p
  clear ka1p
  rw [show (0 + 32 : Nat) = 32 from rfl, rs_keys hA] at hb6
  refine run_seq ?_
  refine run_region rfl ?_
  refine runl_ev (ev_move rfl) ?_
  refine runl_ev (ev_move rfl) ?_
  refine runl_op (t_call call_42 rfl (rroot_new b6 _ _ kb0 kb1 0 0 _ _ _ _ 1 _ hb6 (rc_32 hA) (rc_33 hA) ka0 ka1)) ?_
  rintro _ w19 ⟨c19, rfl, kf19, e19⟩
  have hc19 := rroot_len kf19.r
  have z19 := e19.size
  replace e := e.trans e19
  replace hb1 := e19.at hb1
  replace hb6 := e19.at hb6
  replace ka0 := ka0.ext e19
  replace ka1 := ka1.ext e19
  refine runl_ev (ev_nilCheck rfl) ?_
  refine runl_ev (ev_fieldAddr fld_108_3 rfl) ?_
  refine runl_do (t_store sz_68 rfl rfl rfl hc19 hb6 (by rw [rc_len hA hZ hZ, hc19]; decide) (rroot_one kf19.r)) ?_
  rintro _ v3_5 ⟨hq3_5, e3_5, z3_5⟩
  replace e := e.new1 e3_5 (by omega)
  replace hb1 := e3_5.at1 hb1 (by first | assumption | omega)
  replace ka0 := ka0.step e3_5 (fun h => by have h : _ = _ := h; omega) (fun k hk0 hk => by have hk : _ = _ := hk; subst hk; show _ ∨ _ ∨ _; omega)
  replace ka1 := ka1.step e3_5 (fun h => by have h : _ = _ := h; omega) (fun k hk0 hk => by have hk : _ = _ := hk; subst hk; show _ ∨ _ ∨ _; omega)
  replace kf19 := kf19.keep e3_5 (fun k hk => by omega)
  replace hb6 := hq3_5
  clear hq3_5
  refine runl_nil ?_
  rw [show (0 + 35 : Nat) = 35 from rfl, rs_first hA hZ hc19] at hb6
  refine run_seq ?_
  refine run_region rfl ?_
  refine runl_ev (ev_move rfl) ?_
  refine runl_ev (ev_move rfl) ?_
  refine runl_ev (ev_nilCheck rfl) ?_
  refine runl_ev (ev_fieldAddr fld_108_3 rfl) ?_
  refine runl_ev (ev_loadA agg_68 hc19 rfl (eqw ((cells_all hb6).seg c19 35 (by omega) (rc_first hA)))) ?_
  refine runl_ev (ev_nilCheck rfl) ?_
  refine runl_ev (ev_fieldAddr fld_108_4 rfl) ?_
  refine runl_do (t_store sz_68 rfl rfl rfl hc19 hb6 (by rw [rc_len hA hc19 hZ, hc19]; decide) (rroot_one kf19.r)) ?_
  rintro _ v4_7 ⟨hq4_7, e4_7, z4_7⟩
  replace e := e.new1 e4_7 (by omega)
  replace hb1 := e4_7.at1 hb1 (by first | assumption | omega)
  replace ka0 := ka0.step e4_7 (fun h => by have h : _ = _ := h; omega) (fun k hk0 hk => by have hk : _ = _ := hk; subst hk; show _ ∨ _ ∨ _; omega)
  replace ka1 := ka1.step e4_7 (fun h => by have h : _ = _ := h; omega) (fun k hk0 hk => by have hk : _ = _ := hk; subst hk; show _ ∨ _ ∨ _; omega)
  replace kf19 := kf19.keep e4_7 (fun k hk => by omega)
  replace hb6 := hq4_7
  clear hq4_7
  refine runl_nil ?_
  rw [show (0 + 45 : Nat) = 45 from rfl, rs_last hA hc19 hZ hc19] at hb6
  refine run_seq ?_
  refine run_region rfl ?_
  refine runl_ev (ev_move rfl) ?_
  refine runl_ev (ev_assign rfl) ?_
  refine runl_nil ?_
  refine run_ret_any Tryz.func12 (res1 Tryz.results12 rfl) ?_
  have lb6 := lt_of_at hb6
  have t0 := ka0.lt
  have t1 := ka1.lt
  have hM0 : ∀ k, MutR (fun k => w.heap.size ≤ k ∧ k < v4_7.heap.size) b6 kb0 kb1 (-1) (-1) (-1) k → (k < w.heap.size ∨ v4_7.heap.size ≤ k) ∨ k = b6 ∨ k = kb0 ∨ k = kb1 := by
    intro k hk
    rcases hk with hk | hk | hk | hk | hk | hk | hk
    · by_cases h1 : w.heap.size ≤ k
      · by_cases h2 : k < v4_7.heap.size
        · exact absurd ⟨h1, h2⟩ hk
        · exact .inl (.inr (by omega))
      · exact .inl (.inl (by omega))
    · exact .inr (.inl hk)
    · exact .inr (.inr (.inl hk))
    · exact .inr (.inr (.inr hk))
    · omega
    · omega
    · omega
  have hzR : Fz (MutR (fun k => w.heap.size ≤ k ∧ k < v4_7.heap.size) b6 kb0 kb1 (-1) (-1) (-1)) (fun w => RRoot w (RepoS.new s).first c19) v4_7 := fz_lo (fun w' e' => (kf19.keep e' (fun _ h => h)).r) (fun k hk => by have := hM0 k hk; omega)
  refine ⟨b6, rfl, ⟨kb0, kb1, -1, -1, -1, c19, c19, _, _, _, _, _, _, _, _, [], [], [], ⟨hs, hc19, hc19, hb6, ?_, ?_, own_nil _ _ _ _, trivial, own_nil _ _ _ _, fun _ _ => trivial, own_nil _ _ _ _, trivial, fun w' e' => ⟨hzR w' e', hzR w' e', (envZ_any 0 w').r, (envZ_any 0 w').r, sl_nil⟩, ?_, ?_, fun k hk => hk.2⟩⟩, e⟩
  · exact ka0.turn (fun k hk => by have := hM0 k hk; show (_ ∨ _ ∨ _) ∨ _; omega)
  · exact ka1.turn (fun k hk => by have := hM0 k hk; show (_ ∨ _ ∨ _) ∨ _; omega)
  · unfold sepR
    omega
  · intro k hk
    show _ ∧ _
    omega
theorem cloneH_any (l : List (List UInt8)) (w : World) (a : Option Addr) (n c : Nat) (hl : SlAt 32 RHash w (.slice a n c) l) (hn : l.length ≤ 100000000) :
    Ret Tryz.prog 112 [.slice a n c] w (OwnL 25 32 RHash w l) := by
  have hl0 := hl
  obtain ⟨rfl, hat⟩ := hl.at
  have e := ExtB.refl (fun _ => False) w
  refine ret_of_run Tryz.func112 rfl Tryz.ntmps112 rfl ?_
  refine run_seq ?_
  refine run_region rfl ?_
  refine runl_ev (ev_assign rfl) ?_
  refine runl_nil ?_
  refine run_seq ?_
  refine run_seq ?_
  rcases a with _ | a
  · obtain rfl : l = [] := by
      cases l with
      | nil => rfl
      | cons b l =>
        obtain ⟨_, _, _, ha, _⟩ := hat 0 (by simp)
        cases ha
    refine run_region rfl ?_
    refine runl_ev (ev_move rfl) ?_
    refine runl_ev (ev_eqlLn Tryz.underlying60 rfl rfl) ?_
    refine runl_nil ?_
    refine run_cond_true rfl (rfl) ?_
    refine run_seq ?_
    refine run_region rfl ?_
    refine runl_ev (ev_assign rfl) ?_
    refine runl_nil ?_
    refine run_ret_any Tryz.func112 (res1 Tryz.results112 rfl) ?_
    exact OwnL.nil _ _ e
  · refine run_region rfl ?_
    refine runl_ev (ev_move rfl) ?_
    refine runl_ev (ev_eqlLn Tryz.underlying60 rfl rfl) ?_
    refine runl_nil ?_
    refine run_cond_false rfl (rfl) ?_
    refine run_skip ?_
    refine run_seq ?_
    refine run_region rfl ?_
    refine runl_op (t_buildSlice0 Tryz.underlying60 sz_25) ?_
    rintro _ w5 ⟨b5, rfl, hb5, e5, n5, l5⟩
    have z5 := e5.size
    replace e := e.trans e5
    refine runl_ev (ev_move rfl) ?_
    refine runl_op (t_appendL (l := l) (R := RHash) ef_60 rfl rfl (own_lit (n := 0) hb5 (by unfold maxLen; omega) rfl) (hl0.ext RHash.stable e) rhash_len (fun x cs h => rhash_one x cs h) (by unfold maxLen; omega) (by omega)) ?_
    rintro v7 w7 ⟨news, g7, hnl, hnp, ap7⟩
    have own := ap7.own
    rw [List.nil_append, Nat.zero_add] at own
    have hn7 := ap7.new
    have hs7 := ap7.size
    have z7 := ap7.ext.size
    replace e := e.newG ap7.ext (by omega)
    refine runl_ev (ev_assign rfl) ?_
    refine runl_nil ?_
    refine run_ret_any Tryz.func112 (res1 Tryz.results112 rfl) ?_
    exact ⟨news, g7, own, Parts.mono (R := RHash) (w := w5) (fun _ _ _ h => flat_hash _ _ _ _ h) hnp, e, by omega, by omega⟩
theorem cloneT_any (l : List Tgt) (w : World) (a : Option Addr) (n c : Nat) (hl : SlAt 37 RTgt w (.slice a n c) l) (hn : l.length ≤ 100000000) :
    Ret Tryz.prog 81 [.slice a n c] w (OwnL 82 37 RTgt w l) := by
  have hl0 := hl
  obtain ⟨rfl, hat⟩ := hl.at
  have e := ExtB.refl (fun _ => False) w
  refine ret_of_run Tryz.func81 rfl Tryz.ntmps81 rfl ?_
  refine run_seq ?_
  refine run_region rfl ?_
  refine runl_ev (ev_assign rfl) ?_
  refine runl_nil ?_
  refine run_seq ?_
  refine run_seq ?_
  rcases a with _ | a
  · obtain rfl : l = [] := by
      cases l with
      | nil => rfl
      | cons b l =>
        obtain ⟨_, _, _, ha, _⟩ := hat 0 (by simp)
        cases ha
    refine run_region rfl ?_
    refine runl_ev (ev_move rfl) ?_
    refine runl_ev (ev_eqlLn Tryz.underlying45 rfl rfl) ?_
    refine runl_nil ?_
    refine run_cond_true rfl (rfl) ?_
    refine run_seq ?_
    refine run_region rfl ?_
    refine runl_ev (ev_assign rfl) ?_
    refine runl_nil ?_
    refine run_ret_any Tryz.func81 (res1 Tryz.results81 rfl) ?_
    exact OwnL.nil _ _ e
  · refine run_region rfl ?_
    refine runl_ev (ev_move rfl) ?_
    refine runl_ev (ev_eqlLn Tryz.underlying45 rfl rfl) ?_
    refine runl_nil ?_
    refine run_cond_false rfl (rfl) ?_
    refine run_skip ?_
    refine run_seq ?_
    refine run_region rfl ?_
    refine runl_op (t_buildSlice0 Tryz.underlying45 sz_82) ?_
    rintro _ w5 ⟨b5, rfl, hb5, e5, n5, l5⟩
    have z5 := e5.size
    replace e := e.trans e5
    refine runl_ev (ev_move rfl) ?_
    refine runl_op (t_appendL (l := l) (R := RTgt) ef_45 rfl rfl (own_lit (n := 0) hb5 (by unfold maxLen; omega) rfl) (hl0.ext RTgt.stable e) rtgt_len (fun x cs h => rtgt_one x cs h) (by unfold maxLen; omega) (by omega)) ?_
    rintro v7 w7 ⟨news, g7, hnl, hnp, ap7⟩
    have own := ap7.own
    rw [List.nil_append, Nat.zero_add] at own
    have hn7 := ap7.new
    have hs7 := ap7.size
    have z7 := ap7.ext.size
    replace e := e.newG ap7.ext (by omega)
    refine runl_ev (ev_assign rfl) ?_
    refine runl_nil ?_
    refine run_ret_any Tryz.func81 (res1 Tryz.results81 rfl) ?_
    exact ⟨news, g7, own, Parts.mono (R := RTgt) (w := w5) (fun _ _ _ h => flat_tgt _ _ _ _ h) hnp, e, by omega, by omega⟩
theorem cloneM_any (W0 : World) (l : List MarkP) (w : World) (a : Option Addr) (n c : Nat) (hl : SlAt 35 (fun _ => RMark W0) w (.slice a n c) l) (hn : l.length ≤ 100000000) :
    Ret Tryz.prog 111 [.slice a n c] w (OwnL 203 35 (fun _ => RMark W0) w l) := by
  have hl0 := hl
  obtain ⟨rfl, hat⟩ := hl.at
  have e := ExtB.refl (fun _ => False) w
  refine ret_of_run Tryz.func111 rfl Tryz.ntmps111 rfl ?_
  refine run_seq ?_
  refine run_region rfl ?_
  refine runl_ev (ev_assign rfl) ?_
  refine runl_nil ?_
  refine run_seq ?_
  refine run_seq ?_
  rcases a with _ | a
  · obtain rfl : l = [] := by
      cases l with
      | nil => rfl
      | cons b l =>
        obtain ⟨_, _, _, ha, _⟩ := hat 0 (by simp)
        cases ha
    refine run_region rfl ?_
    refine runl_ev (ev_move rfl) ?_
    refine runl_ev (ev_eqlLn Tryz.underlying30 rfl rfl) ?_
    refine runl_nil ?_
    refine run_cond_true rfl (rfl) ?_
    refine run_seq ?_
    refine run_region rfl ?_
    refine runl_ev (ev_assign rfl) ?_
    refine runl_nil ?_
    refine run_ret_any Tryz.func111 (res1 Tryz.results111 rfl) ?_
    exact OwnL.nil _ _ e
  · refine run_region rfl ?_
    refine runl_ev (ev_move rfl) ?_
    refine runl_ev (ev_eqlLn Tryz.underlying30 rfl rfl) ?_
    refine runl_nil ?_
    refine run_cond_false rfl (rfl) ?_
    refine run_skip ?_
    refine run_seq ?_
    refine run_region rfl ?_
    refine runl_op (t_buildSlice0 Tryz.underlying30 sz_203) ?_
    rintro _ w5 ⟨b5, rfl, hb5, e5, n5, l5⟩
    have z5 := e5.size
    replace e := e.trans e5
    refine runl_ev (ev_move rfl) ?_
    refine runl_op (t_appendL (l := l) (R := (fun _ => RMark W0)) ef_30 rfl rfl (own_lit (n := 0) hb5 (by unfold maxLen; omega) rfl) (hl0.ext (fun _ _ _ _ _ h => h) e) (fun _ x cs h => rmark_len W0 x cs h) (fun x cs h => rmark_one x cs h) (by unfold maxLen; omega) (by omega)) ?_
    rintro v7 w7 ⟨news, g7, hnl, hnp, ap7⟩
    have own := ap7.own
    rw [List.nil_append, Nat.zero_add] at own
    have hn7 := ap7.new
    have hs7 := ap7.size
    have z7 := ap7.ext.size
    replace e := e.newG ap7.ext (by omega)
    refine runl_ev (ev_assign rfl) ?_
    refine runl_nil ?_
    refine run_ret_any Tryz.func111 (res1 Tryz.results111 rfl) ?_
    exact ⟨news, g7, own, Parts.mono (R := (fun _ => RMark W0)) (w := w5) (fun _ _ _ h => h) hnp, e, by omega, by omega⟩
end Go.Proofs.YtlgkdnmklgbhbaaGreatDoor
/- The walks of a root handed out, and of what seals bytes. -/
namespace Go.Proofs.YtlgkdnmklgbhbaaGreatDoor
open Go Go.Fw
set_option maxRecDepth 100000
theorem root_setk {a b x y v : Value} {ks zs : List Value} {k : Nat} (h : ks.length = 2 * k) : (a :: b :: (ks ++ (x :: y :: zs))).set (0 + 2 + k * 2 + 0) v = a :: b :: ((ks ++ [v, y]) ++ zs) := by
  rw [show 0 + 2 + k * 2 + 0 = (2 * k + 1) + 1 by omega]
  simp only [List.set_cons_succ]
  rw [List.set_append_right _ _ (by omega), h, Nat.sub_self]
  simp
theorem fill_step {ps : List (Nat × Nat)} {i off n : Nat} {v : Value} {r : List (Nat × Value)} {z : List Value} (hp : ps[i]? = some (off, n)) (hv : v.cells.size = n) (hz : off + n ≤ z.length) : fillL ps ((i, v) :: r) z = fillL ps r (z.take off ++ v.cells.toList ++ z.drop (off + n)) := by
  rw [fillL, hp]
  simp only [hv, hz, and_self, if_true]
theorem fill_end {ps : List (Nat × Nat)} {z : List Value} : fillL ps [] z = some z := by rw [fillL]
theorem fill_2 {ps : List (Nat × Nat)} {n m : Nat} {cs ds z : List Value} (hp : ps[0]? = some (0, n)) (hq : ps[1]? = some (n, m)) (hc : cs.length = n) (hd : ds.length = m) (hz : z.length = n + m) : fillL ps [(0, .agg ⟨cs⟩), (1, .agg ⟨ds⟩)] z = some (cs ++ ds) := by
  rw [fill_step (v := .agg ⟨cs⟩) hp hc (by omega)]
  have h3 : List.take 0 z ++ cs ++ z.drop (0 + n) = cs ++ z.drop n := by simp
  show fillL ps [(1, .agg ⟨ds⟩)] (List.take 0 z ++ cs ++ z.drop (0 + n)) = _
  rw [h3, fill_step (v := .agg ⟨ds⟩) hq hd (by rw [List.length_append, List.length_drop]; omega), fill_end]
  show some (List.take n (cs ++ z.drop n) ++ ds ++ List.drop (n + m) (cs ++ z.drop n)) = _
  rw [← hc, List.take_left, List.drop_eq_nil_of_le (by rw [List.length_append, List.length_drop]; omega), List.append_nil]
theorem fill_time {ps : List (Nat × Nat)} {a b c : Int} {cs z : List Value} (h0 : ps[0]? = some (0, 1)) (h1 : ps[1]? = some (1, 1)) (h2 : ps[2]? = some (2, 1)) (h3 : ps[3]? = some (3, 32)) (hc : cs.length = 32) (hz : z.length = 35) : fillL ps [(0, .int .i64 a), (1, .int .i64 b), (2, .int .i64 c), (3, .agg ⟨cs⟩)] z = some (.int .i64 a :: .int .i64 b :: .int .i64 c :: cs) := by
  match z, hz with
  | x0 :: x1 :: x2 :: zs, hz =>
    have hzl : zs.length = 32 := by simp at hz; omega
    rw [fill_step h0 rfl (by simp)]
    rw [fill_step h1 rfl (by simp [Value.cells])]
    rw [fill_step h2 rfl (by simp [Value.cells])]
    rw [fill_step (v := .agg ⟨cs⟩) h3 hc (by simp [Value.cells, hzl]), fill_end]
    simp [Value.cells, hzl]
theorem fz_env {lo : Nat} {w : World} {E : EnvP} {cs : List Value} (h : REnvF lo w E cs) : Fz (fun k => k < lo ∨ w.heap.size ≤ k) (fun w => REnv w E cs) w := fun _ e' => (h.keep e' (fun _ h => h)).r
theorem fz_tgts {lo b : Nat} {w w2 : World} {E : EnvP} {cs : List Value} {T : TypeId} {fr : Nat × Nat} (h : REnvF lo w E cs) (e : Ext w w2) (hb : w2.heap[b]? = some (.cells ⟨cs⟩ T fr)) (hn : w.heap.size ≤ b) (hl : lo ≤ w.heap.size) : Fz (fun k => k < lo ∨ w2.heap.size ≤ k) (fun w => SlAt 2 REnv w (.slice (some ⟨b, 0, none⟩) 1 1) [E]) w2 := fun w' e' => by
  have hlt := lt_of_at hb
  have hE : REnv w' E cs := ((h.keep e (fun _ h => h.elim)).keep e' (fun k hk => hk)).r
  have hb' := e'.at hb (fun hk => by rcases hk with hk | hk <;> omega)
  exact sl_lit (l := [E]) (R := REnv) hb' (pc (by rw [List.take_of_length_le (Nat.le_of_eq (renv_len hE))]; exact hE) pn)
def envF (pub sd : List UInt8) (u : Nat) (b : List UInt8) : EnvP := ⟨b, [⟨pub, ⟨(u : Int), signF sd (u : Int) b, pathF 4 (leavesF sd) u⟩⟩]⟩

theorem copied_any (r : RootP) (cs : List Value) (w : World) (hr : RRoot w r cs) (hkl : ∀ k ∈ r.roles, k.keys.length ≤ 1000000) : Ret Tryz.prog 70 [.agg ⟨cs⟩] w fun v w' => ∃ cs', v = .agg ⟨cs'⟩ ∧ RRootF w.heap.size w' r cs' ∧ Ext w w' := by
  have e := ExtB.refl (fun _ => False) w
  have hcl := rroot_len hr
  obtain ⟨ks, rfl, hk8, hr4, hP0⟩ := hr
  refine ret_of_run Tryz.func70 rfl Tryz.ntmps70 rfl ?_
  refine run_seq ?_
  refine run_region rfl ?_
  refine runl_op (t_boxA rfl) ?_
  rintro _ w1 ⟨b1, rfl, hb1, e1, n1, l1⟩
  have z1 := e1.size
  replace e := e.trans e1
  refine runl_op (t_alloc zero_68 rfl) ?_
  rintro _ w2 ⟨b2, rfl, hb2, e2, n2, l2⟩
  have z2 := e2.size
  replace e := e.trans e2
  replace hb1 := e2.at hb1
  refine runl_nil ?_
  refine run_seq ?_
  refine run_seq ?_
  refine run_region rfl ?_
  refine runl_ev (ev_fieldAddr fld_68_2 rfl) ?_
  refine runl_ev (ev_loadA agg_66 hk8 rfl (eqw ((cells_all hb1).seg ks 2 (by omega) (by show ks = List.take ks.length ks; rw [List.take_length])))) ?_
  refine runl_ev (ev_move rfl) ?_
  refine runl_nil ?_
  refine run_block ?_
  refine run_loop (ι := Nat × List Value) (fun x => [(1, .pointer (some ⟨b1, 0, none⟩)), (2, .pointer (some ⟨b2, 0, none⟩)), (6, .agg ⟨ks⟩), (7, .int .i64 (x.1 : Int))]) (fun x w1 => x.1 ≤ 4 ∧ x.2.length = 2 * x.1 ∧ Parts 2 (RKeysF w2.heap.size) w1 (r.roles.take x.1) x.2 ∧ w1.heap[b1]? = some (.cells ⟨.int .i64 r.ver :: .int .i64 r.exp :: (x.2 ++ ks.drop (x.1 * 2))⟩ 68 (0, 0)) ∧ w1.heap[b2]? = some (.cells ⟨rootZ⟩ 68 (0, 0)) ∧ Ext w w1 ∧ w2.heap.size ≤ w1.heap.size) (fun x => 4 - x.1) ((0, [])) ⟨rfl, rfl, rfl, rfl, trivial⟩ (⟨Nat.zero_le _, rfl, trivial, hb1, hb2, e, by omega⟩) ?_
  clear hb1 hb2 e
  intro ⟨k, k1⟩ w1 ⟨hk, hkz, hP, hb1, hb2, e, hz2⟩ IH
  simp only at hk hkz hP hb1
  have lb1 := lt_of_at hb1
  have lb2 := lt_of_at hb2
  have ze := e.size
  have ew := ExtB.refl (fun k => k = b1 ∨ k = b2) w1
  refine run_seq ?_
  refine run_region rfl ?_
  refine runl_ev (ev_lss rfl rfl) ?_
  refine runl_nil ?_
  refine run_seq ?_
  refine run_dcond rfl (fun h0 => ?_) (fun h0 => ?_)
  · have hk4 : k < r.roles.length := by omega
    obtain ⟨ka, kc, hks, hksl, -⟩ := hP0.get (List.getElem?_eq_getElem hk4)
    have hdr : ks.drop (k * 2) = .slice ka r.roles[k].keys.length kc :: .int .i64 r.roles[k].need :: ks.drop ((k + 1) * 2) := by
      rw [← List.take_append_drop 2 (ks.drop (k * 2)), hks, List.drop_drop, show k * 2 + 2 = (k + 1) * 2 by omega]
      rfl
    have hkb := hkl _ (List.getElem_mem hk4)
    refine run_skip ?_
    refine run_seq ?_
    refine run_block ?_
    refine run_seq ?_
    refine run_region rfl ?_
    refine runl_ev (ev_move rfl) ?_
    refine runl_ev (ev_indexAA (k := k) arr_66 agg_65 rfl rfl (by omega) (hks)) ?_
    refine runl_op (t_alloc zero_65 rfl) ?_
    rintro _ w4 ⟨b4, rfl, hb4, e4, n4, l4⟩
    have z4 := e4.size
    replace hb1 := e4.at hb1
    replace hb2 := e4.at hb2
    replace e := e.trans e4
    replace ew := ew.trans e4.toB
    refine runl_ev (ev_assign rfl) ?_
    refine runl_do (t_storeW sz_65 rfl rfl rfl rfl hb4 (by simp)) ?_
    rintro _ v3_4 ⟨hq3_4, e3_4, z3_4⟩
    replace hb1 := e3_4.at1 hb1 (by first | assumption | omega)
    replace hb2 := e3_4.at1 hb2 (by first | assumption | omega)
    replace e := e.new1 e3_4 (by omega)
    replace ew := ew.newB1 e3_4 (by first | exact .inl (by omega) | exact .inr rfl | exact .inr (.inl rfl) | exact .inr (.inr (by omega)))
    replace hb4 := hq3_4
    clear hq3_4
    refine runl_nil ?_
    refine run_region rfl ?_
    refine runl_ev (ev_move rfl) ?_
    refine runl_ev (ev_fieldAddr fld_65_0 rfl) ?_
    refine runl_ev (ev_load1 cell_60 rfl (eqw (cell_blk hb4 rfl))) ?_
    refine runl_op (t_call call_112 rfl (cloneH_any r.roles[k].keys _ ka _ kc (hksl.ext RHash.stable e) (by omega))) ?_
    rintro v14 w14 ow14
    have e14 := ow14.ext
    have kf14 := (rkeysF_of r.roles[k].need ow14.g).up (show w2.heap.size ≤ _ by omega)
    obtain ⟨a14, c14, rfl, -⟩ := ow14.sl
    have z14 := e14.size
    replace hb1 := e14.at hb1
    replace hb2 := e14.at hb2
    replace e := e.trans e14
    replace ew := ew.trans e14.toB
    replace hb4 := e14.at hb4
    refine runl_ev (ev_fieldAddr fld_68_2 rfl) ?_
    refine runl_ev (ev_indexAddrA (k := k) arr_66 rfl rfl (by omega)) ?_
    refine runl_ev (ev_fieldAddr fld_65_0 rfl) ?_
    refine runl_do (t_store1 sz_60 rfl rfl rfl rfl hb1 (by simp only [List.length_cons, List.length_append]; rw [hdr]; simp only [List.length_cons]; omega)) ?_
    rintro _ v4_7 ⟨hq4_7, e4_7, z4_7⟩
    replace hb2 := e4_7.at1 hb2 (by first | assumption | omega)
    replace e := e.new1 e4_7 (by omega)
    replace ew := ew.newB1 e4_7 (by first | exact .inl (by omega) | exact .inr rfl | exact .inr (.inl rfl) | exact .inr (.inr (by omega)))
    replace hb4 := e4_7.at1 hb4 (by first | assumption | omega)
    replace kf14 := kf14.keep e4_7 (fun k hk => by omega)
    replace hb1 := hq4_7
    clear hq4_7
    refine runl_nil ?_
    rw [hdr, root_setk hkz] at hb1
    replace hP := hP.mono (fun _ _ _ h => h.keep ew (fun k hk => by omega))
    have hP2 := Parts.app hP (by rw [List.length_take]; omega) (pc (x := r.roles[k]) (r := []) (cs := [.slice a14 _ c14, .int .i64 r.roles[k].need]) kf14 pn)
    rw [show r.roles.take k ++ [r.roles[k]] = r.roles.take (k + 1) from List.take_append_getElem hk4] at hP2
    refine run_inBlock ?_
    refine run_region rfl ?_
    refine runl_ev (ev_add rfl rfl (by omega) (by omega)) ?_
    refine runl_ev (ev_move rfl) ?_
    refine runl_nil ?_
    exact IH (k + 1, _) _ _ (by simp only; omega) ⟨rfl, rfl, rfl, rfl, trivial⟩ ⟨by show k + 1 ≤ 4; omega, by rw [List.length_append]; simp only [List.length_cons, List.length_nil]; omega, hP2, hb1, hb2, e, by omega⟩
  · obtain rfl : k = 4 := by omega
    rw [List.drop_eq_nil_of_le (by omega), List.append_nil] at hb1
    rw [List.take_of_length_le (by omega)] at hP
    refine run_exit rfl ?_
    refine run_seq ?_
    refine run_region rfl ?_
    refine runl_ev (ev_loadA agg_68 (by simp only [List.length_cons]; omega) rfl (eqw (cells_all hb1))) ?_
    refine runl_do (t_storeW sz_68 rfl rfl (by simp only [List.length_cons]; omega) rfl hb2 ((fun v hv => by rcases List.mem_cons.1 hv with rfl | hv; rfl; rcases List.mem_cons.1 hv with rfl | hv; rfl; exact parts_one (fun x cs h => rkeys_one x cs (RKeysF.r h)) hP (by rw [hkz, hr4]) v hv))) ?_
    rintro _ v6_1 ⟨hq6_1, e6_1, z6_1⟩
    replace hb1 := e6_1.at1 hb1 (by first | assumption | omega)
    replace e := e.new1 e6_1 (by omega)
    replace ew := ew.newB1 e6_1 (by first | exact .inl (by omega) | exact .inr rfl | exact .inr (.inl rfl) | exact .inr (.inr (by omega)))
    replace hb2 := hq6_1
    clear hq6_1
    refine runl_nil ?_
    replace hP := hP.mono (fun _ _ _ h => h.keep ew (fun k hk => by omega))
    refine run_ret_any Tryz.func70 (resC Tryz.results70 rfl (loadVar_agg agg_68 (by simp only [List.length_cons]; omega) (cells_all hb2))) ?_
    exact ⟨_, rfl, ⟨k1, rfl, by omega, hr4, hP.mono (fun _ _ _ h => h.up (by omega))⟩, e⟩
theorem root_repo {F : Nat → Prop} {rb : Nat} {S : RepoS} {w : World} (h : RepoAt F rb S w) : Ret Tryz.prog 23 [.pointer (some ⟨rb, 0, none⟩)] w fun v w' => ∃ cs, v = .agg ⟨cs⟩ ∧ RRootF w.heap.size w' S.first cs ∧ Ext w w' := by
  have e := ExtB.refl (fun _ => False) w
  obtain ⟨k0, k1, lg, rg, gg, fc, lc, lv, rv, t0, t1, s0, s1, tv, gv, lx, rx, gx, r⟩ := h
  have hA : (hcells S.seed).length = 32 := by rw [hcells_length]; exact r.sd
  have hb := r.hb
  have lrb := r.sep.rb_lt
  obtain ⟨hf, -⟩ := r.hz.here
  refine ret_of_run Tryz.func23 rfl Tryz.ntmps23 rfl ?_
  refine run_seq ?_
  refine run_region rfl ?_
  refine runl_op (t_alloc zero_68 rfl) ?_
  rintro _ w2 ⟨b2, rfl, hb2, e2, n2, l2⟩
  have z2 := e2.size
  replace e := e.trans e2
  replace hb := e2.at hb
  refine runl_nil ?_
  refine run_seq ?_
  refine run_seq ?_
  refine run_region rfl ?_
  refine runl_ev (ev_move rfl) ?_
  refine runl_ev (ev_eqlPn Tryz.underlying22 rfl rfl) ?_
  refine runl_nil ?_
  refine run_cond_false rfl (rfl) ?_
  refine run_skip ?_
  refine run_seq ?_
  refine run_region rfl ?_
  refine runl_ev (ev_move rfl) ?_
  refine runl_ev (ev_nilCheck rfl) ?_
  refine runl_ev (ev_fieldAddr fld_108_3 rfl) ?_
  refine runl_ev (ev_loadA agg_68 r.fl rfl (eqw ((cells_all hb).seg fc 35 (by omega) (rc_first hA)))) ?_
  refine runl_op (t_call call_70 rfl (copied_any S.first fc _ (RRoot.stable _ _ _ _ e hf) (fun k hk => by simp only [RepoS.first, rootP, rolesF, List.mem_cons, List.not_mem_nil, or_false] at hk; rcases hk with rfl | rfl | rfl | rfl <;> simp))) ?_
  rintro _ w10 ⟨c10, rfl, kf10, e10⟩
  have hc10 := rroot_len kf10.r
  have z10 := e10.size
  replace e := e.trans e10
  replace hb := e10.at hb
  replace hb2 := e10.at hb2
  refine runl_do (t_storeW sz_68 rfl rfl hc10 rfl hb2 (rroot_one kf10.r)) ?_
  rintro _ v3_5 ⟨hq3_5, e3_5, z3_5⟩
  replace e := e.new1 e3_5 (by omega)
  replace hb := e3_5.at1 hb (by first | assumption | omega)
  replace kf10 := kf10.keep e3_5 (fun k hk => by omega)
  replace hb2 := hq3_5
  clear hq3_5
  refine runl_nil ?_
  refine run_ret_any Tryz.func23 (resC Tryz.results23 rfl (loadVar_agg agg_68 hc10 (cells_all hb2))) ?_
  exact ⟨_, rfl, kf10.up (by omega), e⟩
theorem sealed_any {Mut : Nat → Prop} {kb used : Nat} {sd : List UInt8} {w : World} (h : KeyAt Mut kb sd used w) (hM : Mut kb) (hu : used < 16) (pub : List UInt8) (hp : pub.length = 32) (l : List UInt8) (v : Value) (lo : Nat) (hv : SlN 1 RByte lo (-1) w l v) (hlo : lo ≤ w.heap.size) (hkb : kb < lo) (hln : l.length ≤ 1099511627776) :
    Ret Tryz.prog 48 [.agg ⟨hcells pub⟩, .func (.func 50) ⟨[.pointer (some ⟨kb, 0, none⟩)]⟩ ⟨[]⟩, v] w fun r w' => ∃ cs, r = .agg ⟨cs⟩ ∧ REnvF lo w' (envF pub sd used l) cs ∧ KeyAt Mut kb sd (used + 1) w' ∧ ExtB (fun k => k = kb) w w' := by
  have e := ExtB.refl (fun _ => False) w
  have lk := h.lt
  have hpl : (hcells pub).length = 32 := by rw [hcells_length]; exact hp
  obtain ⟨a, c, rfl, sl, hc, hbb⟩ := hv
  have hT : KeyAt (fun k => Mut k ∨ w.heap.size ≤ k) kb sd used w := h.turn (fun k hk => hk)
  refine ret_of_run Tryz.func48 rfl Tryz.ntmps48 rfl ?_
  refine run_seq ?_
  refine run_region rfl ?_
  refine runl_op (t_boxA rfl) ?_
  rintro _ w3 ⟨b3, rfl, hb3, e3, n3, l3⟩
  have z3 := e3.size
  replace e := e.trans e3
  refine runl_op (t_alloc zero_32 rfl) ?_
  rintro _ w6 ⟨b6, rfl, hb6, e6, n6, l6⟩
  have z6 := e6.size
  replace e := e.trans e6
  replace hb3 := e6.at hb3
  refine runl_nil ?_
  refine run_seq ?_
  refine run_region rfl ?_
  refine runl_ev (ev_move rfl) ?_
  refine runl_ev (ev_move rfl) ?_
  refine runl_op (t_callv call_50 rfl rfl (sign_key (hT.ext e) (.inl hM) hu l a _ c (sl.ext RByte.stable e) hc hln (fun b o ha => by have := hbb b o ha; omega))) ?_
  rintro _ w12 ⟨sc, rfl, sg, ka12, e12⟩
  have eb := (Ext.toB e).trans e12
  have f12 := ExtB.refl (fun k => k = b6) w12
  obtain ⟨hsl, hsone⟩ : sc.length = 3 ∧ ∀ v ∈ sc, v.oneCell' = true := ⟨rsig_len _ _ _ sg.r, rsig_one _ _ sg.r⟩
  have z12 := e12.size
  replace hb3 := e12.at1 hb3 (by first | assumption | omega)
  replace hb6 := e12.at1 hb6 (by first | assumption | omega)
  refine runl_ev (ev_move rfl) ?_
  refine runl_ev (ev_extract rfl rfl) ?_
  refine runl_ev (ev_extract rfl rfl) ?_
  refine runl_op (t_alloc zero_200 rfl) ?_
  rintro _ w7 ⟨b7, rfl, hb7, e7, n7, l7⟩
  have z7 := e7.size
  replace hb3 := e7.at hb3
  replace hb6 := e7.at hb6
  replace eb := eb.trans e7.toB
  replace f12 := f12.trans e7.toB
  refine runl_do (t_storeW sz_200 rfl rfl hsl rfl hb7 (hsone)) ?_
  rintro _ v1_7 ⟨hq1_7, e1_7, z1_7⟩
  replace hb3 := e1_7.at1 hb3 (by first | assumption | omega)
  replace hb6 := e1_7.at1 hb6 (by first | assumption | omega)
  replace eb := eb.newB1 e1_7 (by first | exact .inl (by omega) | exact .inr rfl | exact .inr (.inl rfl) | exact .inr (.inr (by omega)))
  replace f12 := f12.newB1 e1_7 (by first | exact .inl (by omega) | exact .inr rfl | exact .inr (.inl rfl) | exact .inr (.inr (by omega)))
  replace hb7 := hq1_7
  clear hq1_7
  refine runl_ev (ev_assign rfl) ?_
  refine runl_nil ?_
  refine run_seq ?_
  refine run_region rfl ?_
  refine runl_ev (ev_move rfl) ?_
  refine runl_ev (ev_loadA agg_25 hpl rfl (eqw (cells_all hb3))) ?_
  refine runl_ev (ev_loadA agg_200 hsl rfl (eqw (cells_all hb7))) ?_
  refine runl_ev (ev_build (out := hcells pub ++ sc) ps_203 zero_203 rfl rfl (fill_2 rfl rfl hpl hsl rfl)) ?_
  refine runl_op (t_buildSlice (out := hcells pub ++ sc) Tryz.underlying30 sz_203 zero_203 rfl rfl (by decide) (by decide) rfl (fill_one rfl (by rw [List.length_append, hpl, hsl]) rfl)) ?_
  rintro _ w19 ⟨b19, rfl, hb19, e19, n19, l19⟩
  have z19 := e19.size
  replace hb3 := e19.at hb3
  replace hb6 := e19.at hb6
  replace eb := eb.trans e19.toB
  replace f12 := f12.trans e19.toB
  replace hb7 := e19.at hb7
  refine runl_ev (ev_build (out := [.slice a l.length c, .slice (some ⟨b19, 0, none⟩) 1 1]) ps_32 zero_32 rfl rfl (rfl)) ?_
  refine runl_do (t_storeW sz_32 rfl rfl rfl rfl hb6 (by simp)) ?_
  rintro _ v2_6 ⟨hq2_6, e2_6, z2_6⟩
  replace hb3 := e2_6.at1 hb3 (by first | assumption | omega)
  replace eb := eb.newB1 e2_6 (by first | exact .inl (by omega) | exact .inr rfl | exact .inr (.inl rfl) | exact .inr (.inr (by omega)))
  replace f12 := f12.newB1 e2_6 (by first | exact .inl (by omega) | exact .inr rfl | exact .inr (.inl rfl) | exact .inr (.inr (by omega)))
  replace hb7 := e2_6.at1 hb7 (by first | assumption | omega)
  replace hb19 := e2_6.at1 hb19 (by first | assumption | omega)
  replace hb6 := hq2_6
  clear hq2_6
  refine runl_nil ?_
  refine run_ret_any Tryz.func48 (resC Tryz.results48 rfl (loadVar_agg agg_32 rfl (cells_all hb6))) ?_
  have sg' := (RSigG.nest _).keep sg f12 (fun k hk => by omega)
  have hmk : RMarkG lo (-1) _ ⟨pub, ⟨(used : Int), signF sd (used : Int) l, pathF 4 (leavesF sd) used⟩⟩ (hcells pub ++ sc) := ⟨sc, rfl, hp, sg'.up (by omega)⟩
  refine ⟨_, rfl, ⟨_, _, 1, rfl, SlN.step flat_byte ⟨a, c, rfl, sl, hc, hbb⟩ eb (fun k hk => .inl (by omega)) (.inl rfl), sl_lit (l := [_]) (R := RMarkG lo (-1)) hb19 (pc (by rw [List.take_of_length_le (by rw [List.length_append, hpl, hsl]; exact Nat.le_refl _)]; exact hmk) pn), fun b o hb => by cases hb; have := lt_of_at hb19; omega⟩, ?_, eb⟩
  have := ka12.step f12 (fun h => by have h : _ = _ := h; omega) (fun k _ hk => .inr (by have hk : _ = _ := hk; omega))
  exact this.turn (fun k hk => .inl (.inl hk))
end Go.Proofs.YtlgkdnmklgbhbaaGreatDoor
/- The walk of what signs all targets. -/
namespace Go.Proofs.YtlgkdnmklgbhbaaGreatDoor
open Go Go.Fw
set_option maxRecDepth 100000
def topB : ByteArray := ⟨#[116, 111, 112]⟩
theorem top_name : nameB topB = true := by decide
def RepoS.env (S : RepoS) (u : Nat) (b : List UInt8) : EnvP := envF (S.pub S.gen) (seedF S.seed (S.gen : Int)) u b
def RepoS.tb (S : RepoS) (ends : Int) : List UInt8 := encP 4 isTgsB (encTg topB ((S.signed + 1 : Nat) : Int) ends) S.l
def RepoS.sb (S : RepoS) (ends : Int) : List UInt8 := encP 3 isSnapP encSnap ⟨((S.signed + 1 : Nat) : Int), ends, [⟨topB, ((S.signed + 1 : Nat) : Int)⟩]⟩
def RepoS.mb (S : RepoS) (ends : Int) : List UInt8 := encP 2 isTimeP encTime ⟨((S.signed + 1 : Nat) : Int), ends, ((S.signed + 1 : Nat) : Int), shaF (S.sb ends)⟩
/-- Behind a signing. -/
def RepoS.sign (S : RepoS) (ends : Int) : RepoS :=
  { S with used1 := S.used1 + 3, signed := S.signed + 1, tgts := [S.env S.used1 (S.tb ends)], snap := S.env (S.used1 + 1) (S.sb ends), time := S.env (S.used1 + 2) (S.mb ends), book := S.book ++ S.l }
theorem encP_len {α : Type} {k : Int} {may : α → Bool} {enc : α → List UInt8} {x : α} {n : Nat} (h : may x = true → (enc x).length ≤ n) : (encP k may enc x).length ≤ 9 + n := by
  unfold encP
  have := encN_len k
  split
  · rename_i hm; have := h hm; rw [List.length_append]; omega
  · simp
theorem tb_len (S : RepoS) (ends : Int) (hw : ∀ t ∈ S.l, t.wf) (hl : S.l.length ≤ 16) : (S.tb ends).length ≤ 20000 := by
  have := encP_len (k := 4) (x := S.l) fun hm => encTg_len (v := ((S.signed + 1 : Nat) : Int)) (ex := ends) top_name hm hw hl
  unfold RepoS.tb
  omega
theorem sb_len (S : RepoS) (ends : Int) : (S.sb ends).length ≤ 20000 := by
  have := encP_len (k := 3) (may := isSnapP) (enc := encSnap) (x := ⟨((S.signed + 1 : Nat) : Int), ends, [⟨topB, ((S.signed + 1 : Nat) : Int)⟩]⟩) fun hm => encSnap_len hm
  unfold RepoS.sb
  omega
theorem encTime_len {t : TimeP} (h : t.sum.length = 32) : (encTime t).length ≤ 100 := by
  have := encNs_len [t.ver, t.exp, t.snap]
  simp only [List.length_cons, List.length_nil] at this
  unfold encTime
  rw [List.length_append]
  omega
def RepoS.tm (S : RepoS) (ends : Int) : TimeP := ⟨((S.signed + 1 : Nat) : Int), ends, ((S.signed + 1 : Nat) : Int), shaF (S.sb ends)⟩
theorem tm_sum (S : RepoS) (ends : Int) : (S.tm ends).sum.length = 32 := shaF_len (S.sb ends)
theorem mb_eq (S : RepoS) (ends : Int) : S.mb ends = encP 2 isTimeP encTime (S.tm ends) := rfl
theorem tm_cells (S : RepoS) (ends : Int) : (S.tm ends).cells = .int .i64 ((S.signed + 1 : Nat) : Int) :: .int .i64 ends :: .int .i64 ((S.signed + 1 : Nat) : Int) :: hcells (shaF (S.sb ends)) := rfl
theorem mb_len (S : RepoS) (ends : Int) : (S.mb ends).length ≤ 20000 := by
  have h := encTime_len (tm_sum S ends)
  have := encP_len (k := 2) (may := isTimeP) (enc := encTime) (x := S.tm ends) (n := 100) fun _ => h
  rw [mb_eq]
  omega
theorem tb_eq (S : RepoS) (ends : Int) : encP 4 isTgsB (encTg topB ((S.signed + 1 : Nat) : Int) ends) S.l = S.tb ends := rfl
theorem sb_eq (S : RepoS) (ends : Int) : encP 3 isSnapP encSnap ⟨((S.signed + 1 : Nat) : Int), ends, [⟨topB, ((S.signed + 1 : Nat) : Int)⟩]⟩ = S.sb ends := rfl
attribute [irreducible] RepoS.tb RepoS.sb RepoS.mb RepoS.tm
theorem sign_done {F : Nat → Prop} {rb k0 k1 : Nat} {S : RepoS} {w w1 w2 : World} {lg rg gg g135 : Int} {fc lc : List Value} {lv rv t0 t1 s0 s1 tv gv x122 y122 x112 y112 tv' v135 : Value} {lx rx gx n135 : List Value} {ends : Int} {l1 l2 l3 m1 m2 m3 : Nat} (r : RepoIn F rb S w k0 k1 lg rg gg fc lc lv rv t0 t1 s0 s1 tv gv lx rx gx)
    (hb : w2.heap[rb]? = some (.cells ⟨rcells (hcells S.seed) (.pointer (some ⟨k0, 0, none⟩)) (.pointer (some ⟨k1, 0, none⟩)) (.int .i64 (S.gen : Int)) fc lc lv (.int .i64 ((S.signed + 1 : Nat) : Int)) rv x122 y122 x112 y112 tv' v135⟩ 108 (0, 0)))
    (eB : ExtB (fun k => k = rb ∨ k = k1 ∨ (k : Int) = gg) w w2) (ka122 : KeyAt (fun k => MutR F rb k0 k1 lg rg gg k ∨ w.heap.size ≤ k) k1 (seedF S.seed (S.gen : Int)) (S.used1 + 1 + 1 + 1) w2) (ol : Own w2 82 37 lv S.l.length lx lg)
    (ob135 : Own w2 82 37 v135 (S.book.length + S.l.length) (gx ++ n135) g135) (pb135 : Parts 37 RTgt w2 (S.book ++ S.l) (gx ++ n135)) (an135 : g135 = gg ∨ (w1.heap.size : Int) ≤ g135 ∧ g135 < w2.heap.size)
    (fzT : Fz (fun k => k < l1 ∨ m1 ≤ k) (fun w => SlAt 2 REnv w tv' [S.env S.used1 (S.tb ends)]) w2) (fzS : Fz (fun k => k < l2 ∨ m2 ≤ k) (fun w => REnv w (S.env (S.used1 + 1) (S.sb ends)) [x112, y112]) w2) (fzM : Fz (fun k => k < l3 ∨ m3 ≤ k) (fun w => REnv w (S.env (S.used1 + 2) (S.mb ends)) [x122, y122]) w2)
    (h1 : w.heap.size ≤ l1) (h2 : w.heap.size ≤ l2) (h3 : w.heap.size ≤ l3) (h4 : m1 ≤ w1.heap.size) (h5 : m2 ≤ w1.heap.size) (h6 : m3 ≤ w1.heap.size) (h7 : w.heap.size ≤ w1.heap.size) (h8 : w1.heap.size ≤ w2.heap.size) : RepoP F w rb (S.sign ends) w2 := by
  have lrb := r.sep.rb_lt
  have lk0 := r.sep.k0_lt
  have lk1 := r.sep.k1_lt
  have llg := r.sep.lg_lt
  have lrg := r.sep.rg_lt
  have lgg := r.sep.gg_lt
  have hsz := eB.size
  have hF' : ∀ k, ¬ (F k ∨ (w.heap.size ≤ k ∧ k < w2.heap.size)) → ¬ F k ∧ (k < w.heap.size ∨ w2.heap.size ≤ k) := fun k h => ⟨fun hF => h (.inl hF), by
    by_cases h1 : w.heap.size ≤ k
    · by_cases h2 : k < w2.heap.size
      · exact absurd (.inr ⟨h1, h2⟩) h
      · exact .inr (by omega)
    · exact .inl (by omega)⟩
  have hM : ∀ k, MutR (fun k => F k ∨ (w.heap.size ≤ k ∧ k < w2.heap.size)) rb k0 k1 lg rg g135 k → MutR F rb k0 k1 lg rg gg k ∨ w.heap.size ≤ k := by
    intro k hk
    rcases hk with hk | hk | hk | hk | hk | hk | hk
    · exact .inl (.inl (hF' k hk).1)
    · exact .inl (.inr (.inl hk))
    · exact .inl (.inr (.inr (.inl hk)))
    · exact .inl (.inr (.inr (.inr (.inl hk))))
    · exact .inl (.inr (.inr (.inr (.inr (.inl hk)))))
    · exact .inl (.inr (.inr (.inr (.inr (.inr (.inl hk))))))
    · rcases an135 with h | ⟨h, _⟩
      · exact .inl (.inr (.inr (.inr (.inr (.inr (.inr (by omega)))))))
      · exact .inr (by omega)
  have hN : ∀ k, MutR (fun k => F k ∨ (w.heap.size ≤ k ∧ k < w2.heap.size)) rb k0 k1 lg rg g135 k → k < w.heap.size ∨ w2.heap.size ≤ k ∨ w1.heap.size ≤ k := by
    intro k hk
    rcases hk with hk | hk | hk | hk | hk | hk | hk
    · have := (hF' k hk).2; omega
    all_goals omega
  have eM : ExtB (MutR F rb k0 k1 lg rg gg) w w2 := eB.mono (fun k _ hk => by
    rcases hk with h | h | h
    · exact .inr (.inl h)
    · exact .inr (.inr (.inr (.inl h)))
    · exact .inr (.inr (.inr (.inr (.inr (.inr h))))))
  have hzo := r.hz.turn eM hM
  have hT0 : KeyAt (fun k => MutR F rb k0 k1 lg rg gg k ∨ w.heap.size ≤ k) k0 (seedF S.seed 0) S.used0 w := r.hk0.turn (fun k hk => hk)
  have k0' := (hT0.step eB (fun h => by
    rcases h with h | h | h
    · exact r.sep.rb_k0 h.symm
    · exact r.sep.k0_k1 h
    · exact r.sep.gg_k0 h.symm) (fun k _ hk => .inl (by
    rcases hk with h | h | h
    · exact .inr (.inl h)
    · exact .inr (.inr (.inr (.inl h)))
    · exact .inr (.inr (.inr (.inr (.inr (.inr h)))))))).turn (fun k hk => .inl (hM k hk))
  have fT := fzT.turn (ExtB.refl _ _) (fun k hk => by have := hN k hk; omega)
  have fS := fzS.turn (ExtB.refl _ _) (fun k hk => by have := hN k hk; omega)
  have fM := fzM.turn (ExtB.refl _ _) (fun k hk => by have := hN k hk; omega)
  refine ⟨fun k => F k ∨ (w.heap.size ≤ k ∧ k < w2.heap.size), ⟨k0, k1, lg, rg, g135, fc, lc, _, rv, x122, y122, x112, y112, _, _, lx, rx, gx ++ n135, ⟨r.sd, r.fl, r.ll, hb, k0', ka122.turn (fun k hk => .inl (hM k hk)), ol, r.pl.mono (fun _ _ _ h => flat_tgt _ _ _ _ h), r.orr.keep eB (fun k hk hm => by
    rcases hm with h | h | h
    · exact r.sep.rg_rb (by omega)
    · exact r.sep.rg_k1 (by omega)
    · exact r.sep.rg_gg k hk h), r.pr.turn eM hM, by rw [show (S.sign ends).book.length = S.book.length + S.l.length from List.length_append]; exact ob135, pb135.mono (fun _ _ _ h => flat_tgt _ _ _ _ h), fun v e2 => ⟨(hzo v e2).1, (hzo v e2).2.1, fM v e2, fS v e2, fT v e2⟩, ?_, ?_, ?_⟩⟩, eB.mono (fun k _ hk => by
    rcases hk with h | h | h
    · exact r.inF _ (.inl h)
    · exact r.inF _ (.inr (.inr (.inl h)))
    · exact r.inF _ (.inr (.inr (.inr (.inr (.inr h)))))), fun k hk => hk.imp id (·.1)⟩
  · exact r.sep.book hsz (an135.imp id fun h => ⟨by omega, h.2⟩)
  · intro k hk
    rcases hk with h | h | h | h | h | h
    · exact .inl (r.inF _ (.inl h))
    · exact .inl (r.inF _ (.inr (.inl h)))
    · exact .inl (r.inF _ (.inr (.inr (.inl h))))
    · exact .inl (r.inF _ (.inr (.inr (.inr (.inl h)))))
    · exact .inl (r.inF _ (.inr (.inr (.inr (.inr (.inl h))))))
    · rcases an135 with h2 | ⟨h2, h3⟩
      · exact .inl (r.inF _ (.inr (.inr (.inr (.inr (.inr (by omega)))))))
      · exact .inr (by omega)
  · intro k hk
    rcases hk with h | h
    · have := r.lt k h; omega
    · exact h.2
theorem snap_top {w : World} {b : Nat} {n e : Int} {T : TypeId} {fr : Nat × Nat} (h : w.heap[b]? = some (.cells ⟨[.string topB, .int .i64 n]⟩ T fr)) : RSnap w ⟨n, e, [⟨topB, n⟩]⟩ [.int .i64 n, .int .i64 e, .slice (some ⟨b, 0, none⟩) 1 1] := ⟨_, _, rfl, sl_lit (l := [PinP.mk topB n]) (R := RPin) h (pc rfl pn)⟩

theorem sign_nil (now life : Int) (w : World) : Ret Tryz.prog 13 [.pointer none, .int .i64 now, .int .i64 life] w fun v w' => v = .int .i64 1 ∧ Ext w w' := by
  have e := ExtB.refl (fun _ => False) w
  refine ret_of_run Tryz.func13 rfl Tryz.ntmps13 rfl ?_
  refine run_seq ?_
  refine run_region rfl ?_
  refine runl_ev (ev_assign rfl) ?_
  refine runl_nil ?_
  refine run_seq ?_
  refine run_block ?_
  refine run_seq ?_
  refine run_region rfl ?_
  refine runl_ev (ev_move rfl) ?_
  refine runl_ev (ev_eqlPn Tryz.underlying22 rfl rfl) ?_
  refine runl_ev (ev_move rfl) ?_
  refine runl_no_g rfl rfl (rfl) ?_
  refine runl_no_g rfl rfl (rfl) ?_
  refine runl_ev (ev_pick rfl rfl rfl (if_pos (rfl))) ?_
  refine runl_ev (ev_move rfl) ?_
  refine runl_no_g rfl rfl (rfl) ?_
  refine runl_no_g rfl rfl (rfl) ?_
  refine runl_ev (ev_pick rfl rfl rfl (if_pos (rfl))) ?_
  refine runl_ev (ev_move rfl) ?_
  refine runl_no_g rfl rfl (rfl) ?_
  refine runl_no_g rfl rfl (rfl) ?_
  refine runl_ev (ev_pick rfl rfl rfl (if_pos (rfl))) ?_
  refine runl_ev (ev_move rfl) ?_
  refine runl_no_g rfl rfl (rfl) ?_
  refine runl_no_g rfl rfl (rfl) ?_
  refine runl_no_g rfl rfl (rfl) ?_
  refine runl_no_g rfl rfl (rfl) ?_
  refine runl_ev (ev_pick rfl rfl rfl (if_pos (rfl))) ?_
  refine runl_ev (ev_assign rfl) ?_
  refine runl_nil ?_
  refine run_cond_true rfl (rfl) ?_
  refine run_seq ?_
  refine run_region rfl ?_
  refine runl_ev (ev_assign rfl) ?_
  refine runl_nil ?_
  refine run_ret_any Tryz.func13 (res1 Tryz.results13 rfl) ?_
  exact ⟨rfl, e⟩
theorem sign_used {F : Nat → Prop} {rb : Nat} {S : RepoS} {w : World} (h : RepoAt F rb S w) (now life : Int) (h0 : 0 ≤ now) (h1 : 0 ≤ life) (h2 : now + life ≤ 1073741824) (hu : 13 < S.used1) : Ret Tryz.prog 13 [.pointer (some ⟨rb, 0, none⟩), .int .i64 now, .int .i64 life] w fun v w' => v = .int .i64 3 ∧ Ext w w' := by
  have e := ExtB.refl (fun _ => False) w
  obtain ⟨k0, k1, lg, rg, gg, fc, lc, lv, rv, t0, t1, s0, s1, tv, gv, lx, rx, gx, r⟩ := h
  have hA : (hcells S.seed).length = 32 := by rw [hcells_length]; exact r.sd
  have hb := r.hb
  have lrb := r.sep.rb_lt
  refine ret_of_run Tryz.func13 rfl Tryz.ntmps13 rfl ?_
  refine run_seq ?_
  refine run_region rfl ?_
  refine runl_ev (ev_assign rfl) ?_
  refine runl_nil ?_
  refine run_seq ?_
  refine run_block ?_
  refine run_seq ?_
  refine run_region rfl ?_
  refine runl_ev (ev_move rfl) ?_
  refine runl_ev (ev_eqlPn Tryz.underlying22 rfl rfl) ?_
  refine runl_ev (ev_move rfl) ?_
  refine runl_ev_g rfl rfl (rfl) (ev_move rfl) ?_
  refine runl_ev_g rfl rfl (rfl) (ev_lss rfl rfl) ?_
  refine runl_ev (ev_pick rfl rfl rfl (if_neg (by simp))) ?_
  refine runl_ev (ev_move rfl) ?_
  refine runl_ev_g rfl rfl (decide_eq_false (by omega)) (ev_move rfl) ?_
  refine runl_ev_g rfl rfl (decide_eq_false (by omega)) (ev_gtr rfl rfl) ?_
  refine runl_ev (ev_pick rfl rfl rfl (if_neg (by simp <;> omega))) ?_
  refine runl_ev (ev_move rfl) ?_
  refine runl_ev_g rfl rfl (decide_eq_false (by omega)) (ev_move rfl) ?_
  refine runl_ev_g rfl rfl (decide_eq_false (by omega)) (ev_lss rfl rfl) ?_
  refine runl_ev (ev_pick rfl rfl rfl (if_neg (by simp <;> omega))) ?_
  refine runl_ev (ev_move rfl) ?_
  refine runl_ev_g rfl rfl (decide_eq_false (by omega)) (ev_move rfl) ?_
  refine runl_ev_g rfl rfl (decide_eq_false (by omega)) (ev_move rfl) ?_
  refine runl_ev_g rfl rfl (decide_eq_false (by omega)) (ev_sub rfl rfl (by omega) (by omega)) ?_
  refine runl_ev_g rfl rfl (decide_eq_false (by omega)) (ev_gtr rfl rfl) ?_
  refine runl_ev (ev_pick rfl rfl rfl (if_neg (by simp <;> omega))) ?_
  refine runl_ev (ev_assign rfl) ?_
  refine runl_nil ?_
  refine run_cond_false rfl (decide_eq_false (by omega)) ?_
  refine run_seq ?_
  refine run_region rfl ?_
  refine runl_ev (ev_move rfl) ?_
  refine runl_ev (ev_nilCheck rfl) ?_
  refine runl_ev (ev_fieldAddr fld_108_1 rfl) ?_
  refine runl_ev (ev_indexAddrA (k := 1) arr_106 rfl rfl (by decide)) ?_
  refine runl_ev (ev_load1 cell_105 rfl (eqw ((cells_all hb).pick 33 (by omega) (rc_33 hA)))) ?_
  refine runl_op (t_call call_43 rfl (used_key (r.hk1.ext e))) ?_
  rintro _ w43 ⟨rfl, e43⟩
  have z43 := e43.size
  replace e := e.trans e43
  replace hb := e43.at hb
  refine runl_ev (ev_gtr rfl rfl) ?_
  refine runl_ev (ev_assign rfl) ?_
  refine runl_nil ?_
  refine run_cond_true rfl (decide_eq_true (by omega)) ?_
  refine run_seq ?_
  refine run_region rfl ?_
  refine runl_ev (ev_assign rfl) ?_
  refine runl_nil ?_
  refine run_ret_any Tryz.func13 (res1 Tryz.results13 rfl) ?_
  exact ⟨rfl, e⟩
theorem renv_two {w : World} {E : EnvP} {cs : List Value} (h : REnv w E cs) : ∃ a b, cs = [a, b] := by
  obtain ⟨a, c, a', c', h1, _⟩ := h
  exact ⟨_, _, h1⟩

set_option maxHeartbeats 4000000 in
theorem sign_repo {F : Nat → Prop} {rb : Nat} {S : RepoS} {w : World} (h : RepoAt F rb S w) (now life : Int) (h0 : 0 ≤ now) (h1 : 0 ≤ life) (h2 : now + life ≤ 1073741824) (hu : S.used1 ≤ 13) (hl16 : S.l.length ≤ 16) (hsg : S.signed ≤ 1000000) (hbk : S.book.length ≤ 1000000) : Ret Tryz.prog 13 [.pointer (some ⟨rb, 0, none⟩), .int .i64 now, .int .i64 life] w fun v w' => v = .int .i64 0 ∧ RepoP F w rb (S.sign (now + life)) w' := by
  obtain ⟨k0, k1, lg, rg, gg, fc, lc, lv, rv, t0, t1, s0, s1, tv, gv, lx, rx, gx, r⟩ := h
  have hA : (hcells S.seed).length = 32 := by rw [hcells_length]; exact r.sd
  have hb := r.hb
  have lrb := r.sep.rb_lt
  have eB := ExtB.refl (fun k => k = rb ∨ k = k1 ∨ (k : Int) = gg) w
  have hT1 : KeyAt (fun k => MutR F rb k0 k1 lg rg gg k ∨ w.heap.size ≤ k) k1 (seedF S.seed (S.gen : Int)) S.used1 w := r.hk1.turn (fun k hk => hk)
  have ka1 := hT1
  have lk1 := r.sep.k1_lt
  have n1 := r.sep.rb_k1
  have n2 := r.sep.rb_k1.symm
  have n3 := r.sep.lg_rb
  have n4 := r.sep.lg_k1
  have n5 := r.sep.gg_rb
  have n6 := r.sep.gg_k1
  have n7 := r.sep.gg_rb.symm
  have lgg := r.sep.gg_lt
  have ol := r.ol
  have og := r.og
  obtain ⟨la, lc2, rfl⟩ := ol.shape
  have hpub32 : (S.pub S.gen).length = 32 := pubF_len _
  have hwf : ∀ t ∈ S.l, t.wf := tgts_wf (own_slat r.ol r.pl rfl)
  have hvv : verB ((S.signed + 1 : Nat) : Int) = true := by unfold verB; simp; omega
  have hxx : numB (now + life) = true := by unfold numB; simp; omega
  refine ret_of_run Tryz.func13 rfl Tryz.ntmps13 rfl ?_
  refine run_seq ?_
  refine run_region rfl ?_
  refine runl_ev (ev_assign rfl) ?_
  refine runl_nil ?_
  refine run_seq ?_
  refine run_block ?_
  refine run_seq ?_
  refine run_region rfl ?_
  refine runl_ev (ev_move rfl) ?_
  refine runl_ev (ev_eqlPn Tryz.underlying22 rfl rfl) ?_
  refine runl_ev (ev_move rfl) ?_
  refine runl_ev_g rfl rfl (rfl) (ev_move rfl) ?_
  refine runl_ev_g rfl rfl (rfl) (ev_lss rfl rfl) ?_
  refine runl_ev (ev_pick rfl rfl rfl (if_neg (by simp))) ?_
  refine runl_ev (ev_move rfl) ?_
  refine runl_ev_g rfl rfl (decide_eq_false (by omega)) (ev_move rfl) ?_
  refine runl_ev_g rfl rfl (decide_eq_false (by omega)) (ev_gtr rfl rfl) ?_
  refine runl_ev (ev_pick rfl rfl rfl (if_neg (by simp <;> omega))) ?_
  refine runl_ev (ev_move rfl) ?_
  refine runl_ev_g rfl rfl (decide_eq_false (by omega)) (ev_move rfl) ?_
  refine runl_ev_g rfl rfl (decide_eq_false (by omega)) (ev_lss rfl rfl) ?_
  refine runl_ev (ev_pick rfl rfl rfl (if_neg (by simp <;> omega))) ?_
  refine runl_ev (ev_move rfl) ?_
  refine runl_ev_g rfl rfl (decide_eq_false (by omega)) (ev_move rfl) ?_
  refine runl_ev_g rfl rfl (decide_eq_false (by omega)) (ev_move rfl) ?_
  refine runl_ev_g rfl rfl (decide_eq_false (by omega)) (ev_sub rfl rfl (by omega) (by omega)) ?_
  refine runl_ev_g rfl rfl (decide_eq_false (by omega)) (ev_gtr rfl rfl) ?_
  refine runl_ev (ev_pick rfl rfl rfl (if_neg (by simp <;> omega))) ?_
  refine runl_ev (ev_assign rfl) ?_
  refine runl_nil ?_
  refine run_cond_false rfl (decide_eq_false (by omega)) ?_
  refine run_seq ?_
  refine run_region rfl ?_
  refine runl_ev (ev_move rfl) ?_
  refine runl_ev (ev_nilCheck rfl) ?_
  refine runl_ev (ev_fieldAddr fld_108_1 rfl) ?_
  refine runl_ev (ev_indexAddrA (k := 1) arr_106 rfl rfl (by decide)) ?_
  refine runl_ev (ev_load1 cell_105 rfl (eqw ((cells_all hb).pick 33 (by omega) (rc_33 hA)))) ?_
  refine runl_op (t_call call_43 rfl (used_key ka1)) ?_
  rintro _ w43 ⟨rfl, e43⟩
  have z43 := e43.size
  replace hb := e43.at hb
  replace eB := eB.trans e43.toB
  replace ka1 := ka1.ext e43
  replace ol := ol.ext e43
  replace og := og.ext e43
  refine runl_ev (ev_gtr rfl rfl) ?_
  refine runl_ev (ev_assign rfl) ?_
  refine runl_nil ?_
  refine run_cond_false rfl (decide_eq_false (by omega)) ?_
  refine run_skip ?_
  refine run_inBlock ?_
  refine run_seq ?_
  refine run_region rfl ?_
  refine runl_ev (ev_move rfl) ?_
  refine runl_ev (ev_nilCheck rfl) ?_
  refine runl_ev (ev_fieldAddr fld_108_6 rfl) ?_
  refine runl_ev (ev_load1 cell_3 rfl (eqw ((cells_all hb).pick 56 (by omega) (rc_56 hA r.fl r.ll)))) ?_
  refine runl_ev (ev_addK (((S.signed + 1 : Nat) : Int)) rfl rfl (by rw [show ((S.signed : Nat) : Int) + 1 = ((S.signed + 1 : Nat) : Int) by omega]; exact wrap_i64 (by omega) (by omega))) ?_
  refine runl_ev (ev_nilCheck rfl) ?_
  refine runl_ev (ev_fieldAddr fld_108_6 rfl) ?_
  refine runl_do (t_store1 sz_3 rfl rfl rfl rfl hb (by rw [rc_len hA r.fl r.ll]; decide)) ?_
  rintro _ v5_7 ⟨hq5_7, e5_7, z5_7⟩
  replace eB := eB.newB1 e5_7 (by first | exact .inl (by omega) | exact .inr rfl | exact .inr (.inl rfl) | exact .inr (.inr (by omega)))
  replace ka1 := ka1.step e5_7 (fun h => by have h : _ = _ := h; first | contradiction | omega) (fun k hk0 hk => by have hk : _ = _ := hk; exact .inl (.inr (.inl hk)))
  replace ol := ol.ext1 e5_7 (by first | assumption | omega)
  replace og := og.ext1 e5_7 (by first | assumption | omega)
  replace hb := hq5_7
  clear hq5_7
  refine runl_nil ?_
  rw [show (0 + 56 : Nat) = 56 from rfl, rs_56 hA r.fl r.ll] at hb
  refine run_seq ?_
  refine run_region rfl ?_
  refine runl_ev (ev_move rfl) ?_
  refine runl_ev (ev_nilCheck rfl) ?_
  refine runl_ev (ev_fieldAddr fld_108_6 rfl) ?_
  refine runl_ev (ev_load1 cell_3 rfl (eqw ((cells_all hb).pick 56 (by omega) (rc_56 hA r.fl r.ll)))) ?_
  refine runl_ev (ev_move rfl) ?_
  refine runl_ev (ev_move rfl) ?_
  refine runl_ev (ev_add rfl rfl (by omega) (by omega)) ?_
  refine runl_ev (ev_assign rfl) ?_
  refine runl_ev (ev_assign rfl) ?_
  refine runl_nil ?_
  refine run_seq ?_
  refine run_region rfl ?_
  refine runl_ev (ev_move rfl) ?_
  refine runl_ev (ev_nilCheck rfl) ?_
  refine runl_ev (ev_fieldAddr fld_108_1 rfl) ?_
  refine runl_ev (ev_indexAddrA (k := 1) arr_106 rfl rfl (by decide)) ?_
  refine runl_ev (ev_load1 cell_105 rfl (eqw ((cells_all hb).pick 33 (by omega) (rc_33 hA)))) ?_
  refine runl_ev (ev_assign rfl) ?_
  refine runl_nil ?_
  refine run_seq ?_
  refine run_region rfl ?_
  refine runl_ev (ev_move rfl) ?_
  refine runl_ev (ev_move rfl) ?_
  refine runl_ev (ev_move rfl) ?_
  refine runl_ev (ev_nilCheck rfl) ?_
  refine runl_ev (ev_fieldAddr fld_108_5 rfl) ?_
  refine runl_ev (ev_load1 cell_45 rfl (eqw ((cells_all hb).pick 55 (by omega) (rc_55 hA r.fl r.ll)))) ?_
  refine runl_ev (ev_build (out := [.string topB, .int .i64 ((S.signed + 1 : Nat) : Int), .int .i64 (now + life), .slice la S.l.length lc2, .slice none 0 0]) ps_48 zero_48 rfl rfl (rfl)) ?_
  refine runl_op (t_call call_44 rfl (enctg_any topB _ _ top_name hvv hxx S.l la lc2 _ (own_slat ol (r.pl.mono (fun _ _ _ h => flat_tgt _ _ _ _ h)) rfl) hl16)) ?_
  rintro _ w72 ⟨p72, rfl, o72⟩
  rw [tb_eq] at o72
  have e72 := o72.ext
  have sn72 := slN_of o72.g
  have htl := tb_len S (now + life) hwf hl16
  have z72 := e72.size
  replace hb := e72.at hb
  replace eB := eB.trans e72.toB
  replace ka1 := ka1.ext e72
  replace ol := ol.ext e72
  replace og := og.ext e72
  refine runl_ev (ev_move rfl) ?_
  refine runl_ev (ev_extract rfl rfl) ?_
  refine runl_ev (ev_extract rfl rfl) ?_
  refine runl_ev (ev_assign rfl) ?_
  refine runl_ev (ev_assign rfl) ?_
  refine runl_nil ?_
  refine run_seq ?_
  refine run_region rfl ?_
  refine runl_ev (ev_move rfl) ?_
  refine runl_ev (ev_move rfl) ?_
  refine runl_ev (ev_move rfl) ?_
  refine runl_ev (ev_build (out := [.string topB, .int .i64 ((S.signed + 1 : Nat) : Int)]) ps_52 zero_52 rfl rfl (rfl)) ?_
  refine runl_op (t_buildSlice (out := [.string topB, .int .i64 ((S.signed + 1 : Nat) : Int)]) Tryz.underlying40 sz_52 zero_52 rfl rfl (by decide) (by decide) rfl (rfl)) ?_
  rintro _ w80 ⟨b80, rfl, hb80, e80, n80, l80⟩
  have z80 := e80.size
  replace hb := e80.at hb
  replace eB := eB.trans e80.toB
  replace ka1 := ka1.ext e80
  replace ol := ol.ext e80
  replace og := og.ext e80
  replace sn72 := sn72.step flat_byte e80 (fun _ h => h.elim) (.inl rfl)
  refine runl_ev (ev_build (out := [.int .i64 ((S.signed + 1 : Nat) : Int), .int .i64 (now + life), .slice (some ⟨b80, 0, none⟩) 1 1]) ps_42 zero_42 rfl rfl (rfl)) ?_
  refine runl_op (t_call call_45 rfl (encsnap_any ⟨((S.signed + 1 : Nat) : Int), now + life, [⟨topB, ((S.signed + 1 : Nat) : Int)⟩]⟩ _ _ (snap_top hb80) (by simp))) ?_
  rintro _ w82 ⟨p82, rfl, o82⟩
  rw [sb_eq] at o82
  have e82 := o82.ext
  have sn82 := slN_of o82.g
  have hsl := sb_len S (now + life)
  obtain ⟨a82, c82, rfl, sl82, hc82, -⟩ := id sn82
  have z82 := e82.size
  replace hb := e82.at hb
  replace eB := eB.trans e82.toB
  replace ka1 := ka1.ext e82
  replace ol := ol.ext e82
  replace og := og.ext e82
  replace sn72 := sn72.step flat_byte e82 (fun _ h => h.elim) (.inl rfl)
  replace hb80 := e82.at hb80
  refine runl_ev (ev_move rfl) ?_
  refine runl_ev (ev_extract rfl rfl) ?_
  refine runl_ev (ev_extract rfl rfl) ?_
  refine runl_ev (ev_assign rfl) ?_
  refine runl_ev (ev_assign rfl) ?_
  refine runl_nil ?_
  refine run_seq ?_
  refine run_region rfl ?_
  refine runl_ev (ev_move rfl) ?_
  refine runl_ev (ev_move rfl) ?_
  refine runl_ev (ev_move rfl) ?_
  refine runl_ev (ev_move rfl) ?_
  refine runl_op (t_call call_47 rfl (sum_any (S.sb (now + life)) a82 _ c82 _ sl82 hc82 (by omega))) ?_
  rintro _ w90 ⟨rfl, e90⟩
  have z90 := e90.size
  replace hb := e90.at hb
  replace eB := eB.trans e90.toB
  replace ka1 := ka1.ext e90
  replace ol := ol.ext e90
  replace og := og.ext e90
  replace sn72 := sn72.step flat_byte e90 (fun _ h => h.elim) (.inl rfl)
  replace sn82 := sn82.step flat_byte e90 (fun _ h => h.elim) (.inl rfl)
  refine runl_ev (ev_build (out := TimeP.cells (S.tm (now + life))) ps_37 zero_37 rfl rfl ((tm_cells S (now + life)) ▸ fill_time rfl rfl rfl rfl (by rw [hcells_length, shaF_len]) rfl)) ?_
  refine runl_op (t_call call_46 rfl (enctime_any (S.tm (now + life)) _ (tm_sum S (now + life)))) ?_
  rintro _ w92 ⟨p92, rfl, o92⟩
  rw [← mb_eq] at o92
  have e92 := o92.ext
  have sn92 := slN_of o92.g
  have hml := mb_len S (now + life)
  have z92 := e92.size
  replace hb := e92.at hb
  replace eB := eB.trans e92.toB
  replace ka1 := ka1.ext e92
  replace ol := ol.ext e92
  replace og := og.ext e92
  replace sn72 := sn72.step flat_byte e92 (fun _ h => h.elim) (.inl rfl)
  replace sn82 := sn82.step flat_byte e92 (fun _ h => h.elim) (.inl rfl)
  refine runl_ev (ev_move rfl) ?_
  refine runl_ev (ev_extract rfl rfl) ?_
  refine runl_ev (ev_extract rfl rfl) ?_
  refine runl_ev (ev_assign rfl) ?_
  refine runl_ev (ev_assign rfl) ?_
  refine runl_nil ?_
  refine run_seq ?_
  refine run_region rfl ?_
  refine runl_ev (ev_move rfl) ?_
  refine runl_ev (ev_move rfl) ?_
  refine runl_op (t_call call_49 rfl (public_key ka1)) ?_
  rintro _ w97 ⟨rfl, e97⟩
  have z97 := e97.size
  replace hb := e97.at hb
  replace eB := eB.trans e97.toB
  replace ka1 := ka1.ext e97
  replace ol := ol.ext e97
  replace og := og.ext e97
  replace sn72 := sn72.step flat_byte e97 (fun _ h => h.elim) (.inl rfl)
  replace sn82 := sn82.step flat_byte e97 (fun _ h => h.elim) (.inl rfl)
  replace sn92 := sn92.step flat_byte e97 (fun _ h => h.elim) (.inl rfl)
  refine runl_ev (ev_move rfl) ?_
  refine runl_ev (ev_makeFunc rfl rfl) ?_
  refine runl_ev (ev_move rfl) ?_
  refine runl_op (t_call call_48 rfl (sealed_any ka1 (.inl (.inr (.inr (.inr (.inl rfl))))) (by omega) _ hpub32 _ _ _ sn72 (by omega) (by omega) (Nat.le_trans htl (by decide)))) ?_
  rintro _ w101 ⟨c101, rfl, re101, ka101, e101⟩
  have hc101 := renv_len re101.r
  have ho101 := renv_one re101.r
  have z101 := e101.size
  replace hb := e101.at1 hb (by first | assumption | omega)
  replace eB := eB.newB1 e101 (by first | exact .inl (by omega) | exact .inr rfl | exact .inr (.inl rfl) | exact .inr (.inr (by omega)))
  replace ol := ol.ext1 e101 (by first | assumption | omega)
  replace og := og.ext1 e101 (by first | assumption | omega)
  replace sn72 := sn72.step flat_byte e101 (fun k hk => by omega) (.inl rfl)
  replace sn82 := sn82.step flat_byte e101 (fun k hk => by omega) (.inl rfl)
  replace sn92 := sn92.step flat_byte e101 (fun k hk => by omega) (.inl rfl)
  refine runl_op (t_buildSlice (out := c101) Tryz.underlying28 sz_32 zero_32 rfl rfl (by decide) (by decide) rfl (fill_one rfl hc101 rfl)) ?_
  rintro _ w102 ⟨b102, rfl, hb102, e102, n102, l102⟩
  have z102 := e102.size
  replace hb := e102.at hb
  replace eB := eB.trans e102.toB
  replace ol := ol.ext e102
  replace og := og.ext e102
  replace sn72 := sn72.step flat_byte e102 (fun _ h => h.elim) (.inl rfl)
  replace sn82 := sn82.step flat_byte e102 (fun _ h => h.elim) (.inl rfl)
  replace sn92 := sn92.step flat_byte e102 (fun _ h => h.elim) (.inl rfl)
  replace ka101 := ka101.ext e102
  have fzT := fz_tgts re101 e102 hb102 (by omega) (by omega)
  refine runl_ev (ev_nilCheck rfl) ?_
  refine runl_ev (ev_fieldAddr fld_108_7 rfl) ?_
  refine runl_ev (ev_fieldAddr fld_34_3 rfl) ?_
  refine runl_do (t_store1 sz_28 rfl rfl rfl rfl hb (by rw [rc_len hA r.fl r.ll]; decide)) ?_
  rintro _ v11_11 ⟨hq11_11, e11_11, z11_11⟩
  replace eB := eB.newB1 e11_11 (by first | exact .inl (by omega) | exact .inr rfl | exact .inr (.inl rfl) | exact .inr (.inr (by omega)))
  replace ol := ol.ext1 e11_11 (by first | assumption | omega)
  replace og := og.ext1 e11_11 (by first | assumption | omega)
  replace sn72 := sn72.step flat_byte e11_11 (fun k hk => by omega) (.inl rfl)
  replace sn82 := sn82.step flat_byte e11_11 (fun k hk => by omega) (.inl rfl)
  replace sn92 := sn92.step flat_byte e11_11 (fun k hk => by omega) (.inl rfl)
  replace ka101 := ka101.step e11_11 (fun h => by have h : _ = _ := h; first | contradiction | omega) (fun k hk0 hk => by have hk : _ = _ := hk; first | exact .inl (.inr (.inl hk)) | exact .inl (.inr (.inr (.inr (.inr (.inr (.inr hk)))))))
  replace hb102 := e11_11.at1 hb102 (by first | assumption | omega)
  replace fzT := fzT.step e11_11 (fun k hk0 hk => by exact .inl (by omega))
  replace hb := hq11_11
  clear hq11_11
  refine runl_nil ?_
  rw [show (0 + 57 + 5 : Nat) = 62 from rfl, rs_62 hA r.fl r.ll] at hb
  refine run_seq ?_
  refine run_region rfl ?_
  refine runl_ev (ev_move rfl) ?_
  refine runl_ev (ev_move rfl) ?_
  refine runl_op (t_call call_49 rfl (public_key ka101)) ?_
  rintro _ w108 ⟨rfl, e108⟩
  have z108 := e108.size
  replace hb := e108.at hb
  replace eB := eB.trans e108.toB
  replace ol := ol.ext e108
  replace og := og.ext e108
  replace sn72 := sn72.step flat_byte e108 (fun _ h => h.elim) (.inl rfl)
  replace sn82 := sn82.step flat_byte e108 (fun _ h => h.elim) (.inl rfl)
  replace sn92 := sn92.step flat_byte e108 (fun _ h => h.elim) (.inl rfl)
  replace ka101 := ka101.ext e108
  replace hb102 := e108.at hb102
  replace fzT := fzT.step e108 (fun _ _ h => h.elim)
  refine runl_ev (ev_move rfl) ?_
  refine runl_ev (ev_makeFunc rfl rfl) ?_
  refine runl_ev (ev_move rfl) ?_
  refine runl_op (t_call call_48 rfl (sealed_any ka101 (.inl (.inr (.inr (.inr (.inl rfl))))) (by omega) _ hpub32 _ _ _ sn82 (by omega) (by omega) (Nat.le_trans hsl (by decide)))) ?_
  rintro _ w112 ⟨c112, rfl, re112, ka112, e112⟩
  have hc112 := renv_len re112.r
  have ho112 := renv_one re112.r
  have z112 := e112.size
  replace hb := e112.at1 hb (by first | assumption | omega)
  replace eB := eB.newB1 e112 (by first | exact .inl (by omega) | exact .inr rfl | exact .inr (.inl rfl) | exact .inr (.inr (by omega)))
  replace ol := ol.ext1 e112 (by first | assumption | omega)
  replace og := og.ext1 e112 (by first | assumption | omega)
  replace sn72 := sn72.step flat_byte e112 (fun k hk => by omega) (.inl rfl)
  replace sn82 := sn82.step flat_byte e112 (fun k hk => by omega) (.inl rfl)
  replace sn92 := sn92.step flat_byte e112 (fun k hk => by omega) (.inl rfl)
  replace hb102 := e112.at1 hb102 (by first | assumption | omega)
  replace fzT := fzT.step e112 (fun k hk0 hk => by exact .inl (by omega))
  obtain ⟨x112, y112, rfl⟩ := renv_two re112.r
  have fzS := fz_env re112
  refine runl_ev (ev_nilCheck rfl) ?_
  refine runl_ev (ev_fieldAddr fld_108_7 rfl) ?_
  refine runl_ev (ev_fieldAddr fld_34_2 rfl) ?_
  refine runl_do (t_store sz_32 rfl rfl rfl rfl hb (by rw [rc_len hA r.fl r.ll]; simp) (ho112)) ?_
  rintro _ v12_10 ⟨hq12_10, e12_10, z12_10⟩
  replace eB := eB.newB1 e12_10 (by first | exact .inl (by omega) | exact .inr rfl | exact .inr (.inl rfl) | exact .inr (.inr (by omega)))
  replace ol := ol.ext1 e12_10 (by first | assumption | omega)
  replace og := og.ext1 e12_10 (by first | assumption | omega)
  replace sn72 := sn72.step flat_byte e12_10 (fun k hk => by omega) (.inl rfl)
  replace sn82 := sn82.step flat_byte e12_10 (fun k hk => by omega) (.inl rfl)
  replace sn92 := sn92.step flat_byte e12_10 (fun k hk => by omega) (.inl rfl)
  replace hb102 := e12_10.at1 hb102 (by first | assumption | omega)
  replace fzT := fzT.step e12_10 (fun k hk0 hk => by exact .inl (by omega))
  replace ka112 := ka112.step e12_10 (fun h => by have h : _ = _ := h; first | contradiction | omega) (fun k hk0 hk => by have hk : _ = _ := hk; first | exact .inl (.inr (.inl hk)) | exact .inl (.inr (.inr (.inr (.inr (.inr (.inr hk)))))))
  replace fzS := fzS.step e12_10 (fun k hk0 hk => by exact .inl (by omega))
  replace hb := hq12_10
  clear hq12_10
  refine runl_nil ?_
  rw [show (0 + 57 + 3 : Nat) = 60 from rfl, rs_snap hA r.fl r.ll] at hb
  refine run_seq ?_
  refine run_region rfl ?_
  refine runl_ev (ev_move rfl) ?_
  refine runl_ev (ev_move rfl) ?_
  refine runl_op (t_call call_49 rfl (public_key ka112)) ?_
  rintro _ w118 ⟨rfl, e118⟩
  have z118 := e118.size
  replace hb := e118.at hb
  replace eB := eB.trans e118.toB
  replace ol := ol.ext e118
  replace og := og.ext e118
  replace sn72 := sn72.step flat_byte e118 (fun _ h => h.elim) (.inl rfl)
  replace sn82 := sn82.step flat_byte e118 (fun _ h => h.elim) (.inl rfl)
  replace sn92 := sn92.step flat_byte e118 (fun _ h => h.elim) (.inl rfl)
  replace hb102 := e118.at hb102
  replace fzT := fzT.step e118 (fun _ _ h => h.elim)
  replace ka112 := ka112.ext e118
  replace fzS := fzS.step e118 (fun _ _ h => h.elim)
  refine runl_ev (ev_move rfl) ?_
  refine runl_ev (ev_makeFunc rfl rfl) ?_
  refine runl_ev (ev_move rfl) ?_
  refine runl_op (t_call call_48 rfl (sealed_any ka112 (.inl (.inr (.inr (.inr (.inl rfl))))) (by omega) _ hpub32 _ _ _ sn92 (by omega) (by omega) (Nat.le_trans hml (by decide)))) ?_
  rintro _ w122 ⟨c122, rfl, re122, ka122, e122⟩
  have hc122 := renv_len re122.r
  have ho122 := renv_one re122.r
  have z122 := e122.size
  replace hb := e122.at1 hb (by first | assumption | omega)
  replace eB := eB.newB1 e122 (by first | exact .inl (by omega) | exact .inr rfl | exact .inr (.inl rfl) | exact .inr (.inr (by omega)))
  replace ol := ol.ext1 e122 (by first | assumption | omega)
  replace og := og.ext1 e122 (by first | assumption | omega)
  replace sn72 := sn72.step flat_byte e122 (fun k hk => by omega) (.inl rfl)
  replace sn82 := sn82.step flat_byte e122 (fun k hk => by omega) (.inl rfl)
  replace sn92 := sn92.step flat_byte e122 (fun k hk => by omega) (.inl rfl)
  replace hb102 := e122.at1 hb102 (by first | assumption | omega)
  replace fzT := fzT.step e122 (fun k hk0 hk => by exact .inl (by omega))
  replace fzS := fzS.step e122 (fun k hk0 hk => by exact .inl (by omega))
  obtain ⟨x122, y122, rfl⟩ := renv_two re122.r
  have fzM := fz_env re122
  refine runl_ev (ev_nilCheck rfl) ?_
  refine runl_ev (ev_fieldAddr fld_108_7 rfl) ?_
  refine runl_ev (ev_fieldAddr fld_34_1 rfl) ?_
  refine runl_do (t_store sz_32 rfl rfl rfl rfl hb (by rw [rc_len hA r.fl r.ll]; simp) (ho122)) ?_
  rintro _ v13_10 ⟨hq13_10, e13_10, z13_10⟩
  replace eB := eB.newB1 e13_10 (by first | exact .inl (by omega) | exact .inr rfl | exact .inr (.inl rfl) | exact .inr (.inr (by omega)))
  replace ol := ol.ext1 e13_10 (by first | assumption | omega)
  replace og := og.ext1 e13_10 (by first | assumption | omega)
  replace sn72 := sn72.step flat_byte e13_10 (fun k hk => by omega) (.inl rfl)
  replace sn82 := sn82.step flat_byte e13_10 (fun k hk => by omega) (.inl rfl)
  replace sn92 := sn92.step flat_byte e13_10 (fun k hk => by omega) (.inl rfl)
  replace hb102 := e13_10.at1 hb102 (by first | assumption | omega)
  replace fzT := fzT.step e13_10 (fun k hk0 hk => by exact .inl (by omega))
  replace fzS := fzS.step e13_10 (fun k hk0 hk => by exact .inl (by omega))
  replace ka122 := ka122.step e13_10 (fun h => by have h : _ = _ := h; first | contradiction | omega) (fun k hk0 hk => by have hk : _ = _ := hk; first | exact .inl (.inr (.inl hk)) | exact .inl (.inr (.inr (.inr (.inr (.inr (.inr hk)))))))
  replace fzM := fzM.step e13_10 (fun k hk0 hk => by exact .inl (by omega))
  replace hb := hq13_10
  clear hq13_10
  refine runl_nil ?_
  rw [show (0 + 57 + 1 : Nat) = 58 from rfl, rs_time hA r.fl r.ll] at hb
  refine run_seq ?_
  refine run_draw mo (fun w' => Ext v13_10 w') [9, 10, 11, 12] [(true, 0), (true, 1), (true, 2), (true, 3), (true, 4), (true, 5), (true, 6), (true, 7), (true, 8), (false, 9), (false, 10), (false, 11), (false, 12)] (by kernel_rfl) ?_
  intro wr14 er14
  have zr14 := er14.size
  have hsr14 := er14
  have hbp := er14.at hb
  have eBp := eB.trans er14.toB
  have olp := ol.ext er14
  have ogp := og.ext er14
  have sn72p := sn72.step flat_byte er14 (fun _ h => h.elim) (.inl rfl)
  have sn82p := sn82.step flat_byte er14 (fun _ h => h.elim) (.inl rfl)
  have sn92p := sn92.step flat_byte er14 (fun _ h => h.elim) (.inl rfl)
  have hb102p := er14.at hb102
  have fzTp := fzT.step er14 (fun _ _ h => h.elim)
  have fzSp := fzS.step er14 (fun _ _ h => h.elim)
  have ka122p := ka122.ext er14
  have fzMp := fzM.step er14 (fun _ _ h => h.elim)
  refine rund_ev hsr14 rfl (ev_move rfl) ?_
  refine rund_ev hsr14 rfl (ev_move rfl) ?_
  refine rund_ev hsr14 rfl (ev_nilCheck rfl) ?_
  refine rund_ev hsr14 rfl (ev_fieldAddr fld_108_8 rfl) ?_
  refine rund_ev hsr14 rfl (ev_load1 cell_45 rfl (fun wz hz => (cells_all (hz.at hb)).pick 63 (by omega) (rc_63 hA r.fl r.ll))) ?_
  refine rund_ev hsr14 rfl (ev_move rfl) ?_
  refine rund_ev hsr14 rfl (ev_nilCheck rfl) ?_
  refine rund_ev hsr14 rfl (ev_fieldAddr fld_108_5 rfl) ?_
  refine rund_ev hsr14 rfl (ev_load1 cell_45 rfl (fun wz hz => (cells_all (hz.at hb)).pick 55 (by omega) (rc_55 hA r.fl r.ll))) ?_
  refine rund_opT rfl rfl (t_appendL (l := S.l) (R := RTgt) ef_45 rfl rfl ogp (own_slat olp (r.pl.mono (fun _ _ _ h => flat_tgt _ _ _ _ h)) rfl) rtgt_len (fun x cs h => rtgt_one x cs h) (by unfold maxLen; omega) (by omega)) ?_
  rintro v135 w135 ⟨n135, g135, hnl135, hnp135, ap135⟩
  have ob135 := ap135.own
  have an135 := ap135.new
  have pb135 := Parts.app (r.pg.mono (w' := w135) (R₂ := RTgt) (fun _ _ _ h => flat_tgt _ _ _ _ h)) (r.og.len) (hnp135.mono (w' := w135) (R₂ := RTgt) (fun _ _ _ h => flat_tgt _ _ _ _ h))
  obtain ⟨ba, bc, rfl⟩ := ob135.shape
  have z135 := ap135.ext.size
  replace hbp := ap135.ext.atG hbp (by first | assumption | omega)
  replace eBp := eBp.newBG ap135.ext (fun k hk => by first | exact .inl (by omega) | exact .inr hk | exact .inr (.inr hk) | exact .inr (.inr (by omega)))
  replace olp := olp.keep ap135.ext (fun k hk h => by first | omega | (exact r.sep.lg_gg k hk h))
  replace sn72p := sn72p.step flat_byte ap135.ext (fun k hk => by omega) (.inl rfl)
  replace sn82p := sn82p.step flat_byte ap135.ext (fun k hk => by omega) (.inl rfl)
  replace sn92p := sn92p.step flat_byte ap135.ext (fun k hk => by omega) (.inl rfl)
  replace hb102p := ap135.ext.atG hb102p (by first | assumption | omega)
  replace fzTp := fzTp.step ap135.ext (fun k hk0 hk => by exact .inl (by omega))
  replace fzSp := fzSp.step ap135.ext (fun k hk0 hk => by exact .inl (by omega))
  replace ka122p := ka122p.step ap135.ext (fun h => by have h : _ = _ := h; first | contradiction | omega) (fun k hk0 hk => by have hk : _ = _ := hk; first | exact .inl (.inr (.inl hk)) | exact .inl (.inr (.inr (.inr (.inr (.inr (.inr hk)))))))
  replace fzMp := fzMp.step ap135.ext (fun k hk0 hk => by exact .inl (by omega))
  have ob135p := ob135
  refine rund_opT rfl rfl (opT_ev (ev_nilCheck rfl)) ?_
  rintro _ _ ⟨rfl, rfl⟩
  refine rund_opT rfl rfl (opT_ev (ev_fieldAddr fld_108_8 rfl)) ?_
  rintro _ _ ⟨rfl, rfl⟩
  refine rund_doT rfl rfl (t_store1 sz_45 rfl rfl rfl rfl hbp (by rw [rc_len hA r.fl r.ll]; decide)) ?_
  rintro _ v14_12 ⟨hq14_12, e14_12, z14_12⟩
  replace eBp := eBp.newB1 e14_12 (by first | exact .inl (by omega) | exact .inr rfl | exact .inr (.inl rfl) | exact .inr (.inr (by omega)))
  replace olp := olp.ext1 e14_12 (by first | assumption | omega)
  replace sn72p := sn72p.step flat_byte e14_12 (fun k hk => by omega) (.inl rfl)
  replace sn82p := sn82p.step flat_byte e14_12 (fun k hk => by omega) (.inl rfl)
  replace sn92p := sn92p.step flat_byte e14_12 (fun k hk => by omega) (.inl rfl)
  replace hb102p := e14_12.at1 hb102p (by first | assumption | omega)
  replace fzTp := fzTp.step e14_12 (fun k hk0 hk => by exact .inl (by omega))
  replace fzSp := fzSp.step e14_12 (fun k hk0 hk => by exact .inl (by omega))
  replace ka122p := ka122p.step e14_12 (fun h => by have h : _ = _ := h; first | contradiction | omega) (fun k hk0 hk => by have hk : _ = _ := hk; first | exact .inl (.inr (.inl hk)) | exact .inl (.inr (.inr (.inr (.inr (.inr (.inr hk)))))))
  replace fzMp := fzMp.step e14_12 (fun k hk0 hk => by exact .inl (by omega))
  replace ob135p := ob135p.ext1 e14_12 (by first | assumption | omega)
  replace hbp := hq14_12
  clear hq14_12
  refine rund_nil ?_
  replace hb := hbp
  clear hbp
  replace eB := eBp
  clear eBp
  replace ol := olp
  clear olp
  replace sn72 := sn72p
  clear sn72p
  replace sn82 := sn82p
  clear sn82p
  replace sn92 := sn92p
  clear sn92p
  replace hb102 := hb102p
  clear hb102p
  replace fzT := fzTp
  clear fzTp
  replace fzS := fzSp
  clear fzSp
  replace ka122 := ka122p
  clear ka122p
  replace fzM := fzMp
  clear fzMp
  replace ob135 := ob135p
  clear ob135p
  rw [show (0 + 63 : Nat) = 63 from rfl, rs_63 hA r.fl r.ll] at hb
  refine run_seq ?_
  refine run_region rfl ?_
  refine runl_ev (ev_assign rfl) ?_
  refine runl_nil ?_
  refine run_ret_any Tryz.func13 (res1 Tryz.results13 rfl) ?_
  have hzx := z135
  refine ⟨rfl, sign_done (w1 := wr14) r hb eB ka122 ol ob135 (pb135.mono (fun _ _ _ h => flat_tgt _ _ _ _ h)) (an135.imp id fun h => ⟨h.1, by omega⟩) fzT fzS fzM (by omega) (by omega) (by omega) (by omega) (by omega) (by omega) (by omega) (by omega)⟩
end Go.Proofs.YtlgkdnmklgbhbaaGreatDoor
/- The walks of what is handed out: envelopes as new memory. -/
namespace Go.Proofs.YtlgkdnmklgbhbaaGreatDoor
open Go Go.Fw
set_option maxRecDepth 100000
theorem mk_33 {ky : List UInt8} {a b c : Value} (h : ky.length = 32) : (hcells ky ++ [a, b, c])[33]? = some b := by
  rw [List.getElem?_append_right (by rw [hcells_length]; omega), hcells_length, h]
  rfl
theorem mk_34 {ky : List UInt8} {a b c : Value} (h : ky.length = 32) : (hcells ky ++ [a, b, c])[34]? = some c := by
  rw [List.getElem?_append_right (by rw [hcells_length]; omega), hcells_length, h]
  rfl
theorem mk_len {ky : List UInt8} {a b c : Value} (h : ky.length = 32) : (hcells ky ++ [a, b, c]).length = 35 := by rw [List.length_append, hcells_length, h]; rfl
theorem mk_one {ky : List UInt8} {l : Int} {a b : Option Addr} {n c n' c' : Nat} : ∀ v ∈ hcells ky ++ [.int .i64 l, .slice a n c, .slice b n' c'], v.oneCell' = true := by
  intro v hv
  rcases List.mem_append.1 hv with h | h
  · exact hcells_one _ v h
  · simp only [List.mem_cons, List.not_mem_nil, or_false] at h
    rcases h with rfl | rfl | rfl <;> rfl
theorem marks_set {c ys ky zs : List Value} {l a b v u : Value} {m k : Nat} (hc : c.take m = ys ++ (ky ++ [l, a, b] ++ zs)) (hy : ys.length = k * 35) (hk : ky.length = 32) : ((c.set (k * 35 + 33) v).set (k * 35 + 34) u).take m = (ys ++ (ky ++ [l, v, u])) ++ zs := by
  rw [List.take_set, List.take_set, hc, List.set_append_right _ _ (by omega), List.set_append_right _ _ (by omega), hy, show k * 35 + 33 - k * 35 = 33 by omega, show k * 35 + 34 - k * 35 = 34 by omega]
  rw [List.append_assoc, List.set_append_right _ _ (by omega), List.set_append_right _ _ (by omega), hk]
  simp
/-- An envelope within bounds. -/
def EnvB (E : EnvP) : Prop := E.body.length ≤ 100000 ∧ E.marks.length ≤ 1000 ∧ ∀ m ∈ E.marks, m.sig.chains.length ≤ 1000 ∧ m.sig.path.length ≤ 1000

theorem envelope_any (E : EnvP) (hE : EnvB E) (cs : List Value) (w : World) (hr : REnv w E cs) : Ret Tryz.prog 52 [.agg ⟨cs⟩] w fun v w' => ∃ cs', v = .agg ⟨cs'⟩ ∧ REnvF w.heap.size w' E cs' ∧ Ext w w' := by
  have e := ExtB.refl (fun _ => False) w
  obtain ⟨hE1, hE2, hE3⟩ := hE
  obtain ⟨a, c, a2, c2, rfl, hbd, hmk⟩ := hr
  refine ret_of_run Tryz.func52 rfl Tryz.ntmps52 rfl ?_
  refine run_seq ?_
  refine run_region rfl ?_
  refine runl_op (t_boxA rfl) ?_
  rintro _ w1 ⟨b1, rfl, hb1, e1, n1, l1⟩
  have z1 := e1.size
  replace e := e.trans e1
  refine runl_op (t_alloc zero_32 rfl) ?_
  rintro _ w2 ⟨b2, rfl, hb2, e2, n2, l2⟩
  have z2 := e2.size
  replace e := e.trans e2
  replace hb1 := e2.at hb1
  refine runl_nil ?_
  refine run_seq ?_
  refine run_region rfl ?_
  refine runl_ev (ev_fieldAddr fld_32_0 rfl) ?_
  refine runl_ev (ev_load1 cell_29 rfl (eqw (cell_blk hb1 rfl))) ?_
  refine runl_op (t_call call_110 rfl (clone_any E.body _ a _ c (hbd.ext RByte.stable e) (by omega))) ?_
  rintro v7 w7 ⟨g7, o7, e7, hg7, hgl7⟩
  have sn7 := slN_of (w0 := w2) (ownG_of o7 (by omega) hgl7)
  obtain ⟨a7, c7, rfl, -⟩ := id sn7
  have E7 := ExtB.refl (fun k => k < w2.heap.size ∨ w7.heap.size ≤ k) w7
  have z7 := e7.size
  replace e := e.trans e7
  replace hb1 := e7.at hb1
  replace hb2 := e7.at hb2
  refine runl_ev (ev_fieldAddr fld_32_0 rfl) ?_
  refine runl_do (t_store1 sz_29 rfl rfl rfl rfl hb1 (by simp)) ?_
  rintro _ v1_4 ⟨hq1_4, e1_4, z1_4⟩
  replace e := e.new1 e1_4 (by omega)
  replace hb2 := e1_4.at1 hb2 (by first | assumption | omega)
  replace E7 := E7.newB1 e1_4 (by first | exact .inl (by omega) | exact .inr rfl | exact .inr (.inl rfl) | exact .inr (.inr (by omega)) | (right; omega))
  replace hb1 := hq1_4
  clear hq1_4
  refine runl_nil ?_
  refine run_seq ?_
  refine run_region rfl ?_
  refine runl_ev (ev_fieldAddr fld_32_1 rfl) ?_
  refine runl_ev (ev_load1 cell_30 rfl (eqw (cell_blk hb1 rfl))) ?_
  refine runl_op (t_call call_111 rfl (cloneM_any w E.marks _ a2 _ c2 ((SlAt.map (R' := fun _ => RMark w) hmk (fun _ _ h => h)).ext (fun _ _ _ _ _ h => h) e) (by omega))) ?_
  rintro v11 w11 ow11
  have e11 := ow11.ext
  obtain ⟨x11, g, own, hP, hx11, -, hg, hgl⟩ := ow11.open
  obtain ⟨am, cm, rfl⟩ := own.shape
  have z11 := e11.size
  replace e := e.trans e11
  replace hb1 := e11.at hb1
  replace hb2 := e11.at hb2
  replace E7 := E7.trans e11.toB
  refine runl_ev (ev_fieldAddr fld_32_1 rfl) ?_
  refine runl_do (t_store1 sz_30 rfl rfl rfl rfl hb1 (by simp)) ?_
  rintro _ v2_4 ⟨hq2_4, e2_4, z2_4⟩
  replace e := e.new1 e2_4 (by omega)
  replace hb2 := e2_4.at1 hb2 (by first | assumption | omega)
  replace E7 := E7.newB1 e2_4 (by first | exact .inl (by omega) | exact .inr rfl | exact .inr (.inl rfl) | exact .inr (.inr (by omega)) | (right; omega))
  replace own := own.ext1 e2_4 (by first | assumption | omega)
  replace hb1 := hq2_4
  clear hq2_4
  refine runl_nil ?_
  refine run_seq ?_
  refine run_seq ?_
  refine run_region rfl ?_
  refine runl_ev (ev_fieldAddr fld_32_1 rfl) ?_
  refine runl_ev (ev_load1 cell_30 rfl (eqw (cell_blk hb1 rfl))) ?_
  refine runl_ev (ev_lenL sl_30 rfl) ?_
  refine runl_ev (ev_move rfl) ?_
  refine runl_nil ?_
  have hPw : Parts 35 (fun _ => RMark w) v2_4 E.marks x11 := Parts.mono (R := fun _ => RMark w) (w := w11) (fun _ _ _ h => h) hP
  refine run_block ?_
  refine run_loop (ι := Nat × List Value × List Value) (fun x => [(1, .pointer (some ⟨b1, 0, none⟩)), (2, .pointer (some ⟨b2, 0, none⟩)), (14, .slice am E.marks.length cm), (15, .int .i64 (E.marks.length : Int)), (16, .int .i64 (x.1 : Int))]) (fun x w1 => x.1 ≤ E.marks.length ∧ x.2.1.length = x.1 * 35 ∧ Own w1 203 35 (.slice am E.marks.length cm) E.marks.length (x.2.1 ++ x.2.2) g ∧ Parts 35 (RMarkG w2.heap.size g) w1 (E.marks.take x.1) x.2.1 ∧ Parts 35 (fun _ => RMark w) w1 (E.marks.drop x.1) x.2.2 ∧ w1.heap[b1]? = some (.cells ⟨[.slice a7 E.body.length c7, .slice am E.marks.length cm]⟩ 32 (0, 0)) ∧ w1.heap[b2]? = some (.cells ⟨envZ⟩ 32 (0, 0)) ∧ Ext w w1 ∧ ExtB (fun k => k < w2.heap.size ∨ w7.heap.size ≤ k) w7 w1 ∧ v2_4.heap.size ≤ w1.heap.size) (fun x => E.marks.length - x.1) ((0, [], x11)) ⟨rfl, rfl, rfl, rfl, rfl, trivial⟩ (⟨Nat.zero_le _, rfl, own, trivial, hPw, hb1, hb2, e, E7, Nat.le_refl _⟩) ?_
  clear own hb1 hb2 e E7 hPw
  intro ⟨k, ys, zs⟩ w1 ⟨hk, hyl, own, hY, hZ, hb1, hb2, e, E7, zV⟩ IH
  simp only at hk hyl own hY hZ
  have lb1 := lt_of_at hb1
  have lb2 := lt_of_at hb2
  have ze := e.size
  have zE := E7.size
  have ew := ExtB.refl (fun k => (k : Int) = g) w1
  refine run_seq ?_
  refine run_region rfl ?_
  refine runl_ev (ev_lss rfl rfl) ?_
  refine runl_nil ?_
  refine run_seq ?_
  refine run_dcond rfl (fun h0 => ?_) (fun h0 => ?_)
  · have hk1 : k < E.marks.length := by omega
    obtain ⟨bR, cap, c, rfl, hv, hbR, hcap1, hcap2, hcl, htk⟩ := own.blk (by omega)
    obtain ⟨rfl, rfl⟩ : am = some ⟨bR, 0, none⟩ ∧ cm = cap := by injection hv with h1 h2 h3; exact ⟨h1, h3⟩
    have lbR := lt_of_at hbR
    rw [drop_of_get (List.getElem?_eq_getElem hk1)] at hZ
    obtain ⟨⟨sc, hsc, hk32, sa, scp, sa2, scp2, hsc2, hch, hpa⟩, hZ2⟩ := hZ
    subst hsc2
    obtain ⟨hcb, hpb⟩ := hE3 _ (List.getElem_mem hk1)
    have hzs : zs = (hcells E.marks[k].key ++ [.int .i64 E.marks[k].sig.leaf, .slice sa E.marks[k].sig.chains.length scp, .slice sa2 E.marks[k].sig.path.length scp2]) ++ zs.drop 35 := by rw [← hsc, List.take_append_drop]
    have hxl := own.len
    have hcc : Cells w1 bR 0 (ys ++ zs) := by
      rw [← htk]
      exact (cells_all hbR).take _
    have hM35 := mk_len (a := .int .i64 E.marks[k].sig.leaf) (b := .slice sa E.marks[k].sig.chains.length scp) (c := .slice sa2 E.marks[k].sig.path.length scp2) hk32
    have hfit : k * 35 + 35 ≤ cm * 35 := by omega
    refine run_skip ?_
    refine run_seq ?_
    refine run_block ?_
    refine run_seq ?_
    refine run_region rfl ?_
    refine runl_ev (ev_move rfl) ?_
    refine runl_ev (ev_indexAddr (k := k) el_30 rfl rfl (by omega)) ?_
    refine runl_ev (ev_loadA agg_203 hM35 rfl (eqw (hcc.seg (hcells E.marks[k].key ++ [.int .i64 E.marks[k].sig.leaf, .slice sa E.marks[k].sig.chains.length scp, .slice sa2 E.marks[k].sig.path.length scp2]) (k * 35) rfl (by rw [List.drop_append, hyl, List.drop_eq_nil_of_le (by omega), Nat.sub_self, hM35, List.nil_append, List.drop_zero, hsc])))) ?_
    refine runl_op (t_alloc zero_203 rfl) ?_
    rintro _ w4 ⟨b4, rfl, hb4, e4, n4, l4⟩
    have z4 := e4.size
    replace hb1 := e4.at hb1
    replace hb2 := e4.at hb2
    replace e := e.trans e4
    replace E7 := E7.trans e4.toB
    replace ew := ew.trans e4.toB
    replace hbR := e4.at hbR
    refine runl_ev (ev_assign rfl) ?_
    refine runl_do (t_storeW sz_203 rfl rfl hM35 rfl hb4 (mk_one)) ?_
    rintro _ v5_5 ⟨hq5_5, e5_5, z5_5⟩
    replace hb1 := e5_5.at1 hb1 (by first | assumption | omega)
    replace hb2 := e5_5.at1 hb2 (by first | assumption | omega)
    replace e := e.new1 e5_5 (by omega)
    replace E7 := E7.newB1 e5_5 (by first | exact .inl (by omega) | exact .inr rfl | exact .inr (.inl rfl) | exact .inr (.inr (by omega)) | (right; omega))
    replace ew := ew.newB1 e5_5 (by first | exact .inl (by omega) | exact .inr rfl | exact .inr (.inl rfl) | exact .inr (.inr (by omega)) | (right; omega))
    replace hbR := e5_5.at1 hbR (by first | assumption | omega)
    replace hb4 := hq5_5
    clear hq5_5
    refine runl_nil ?_
    refine run_draw mo (fun w' => ExtB (fun k => k = bR) v5_5 w') [] [(true, 0), (true, 1), (true, 2), (true, 3), (true, 4), (true, 5), (true, 6), (true, 7), (true, 8), (true, 10), (true, 11), (true, 12), (false, 9), (false, 13), (true, 14), (true, 15), (true, 16), (false, 17), (true, 18), (true, 19), (true, 20), (false, 21)] (by kernel_rfl) ?_
    intro wr6 er6
    have zr6 := er6.size
    have hsr6 : (fun w' => ExtB (fun k => k = bR) v5_5 w') wr6 := er6.toB
    have hb1p := er6.at hb1
    have hb2p := er6.at hb2
    have ep := e.trans er6
    have E7p := E7.trans er6.toB
    have ewp := ew.trans er6.toB
    have hbRp := er6.at hbR
    have hb4p := er6.at hb4
    refine rund_ev hsr6 rfl (ev_fieldAddr fld_32_1 rfl) ?_
    refine rund_ev hsr6 rfl (ev_load1 cell_30 rfl (fun wz hz => cell_blk (hz.at1 hb1 (by omega)) rfl)) ?_
    refine rund_ev hsr6 rfl (ev_move rfl) ?_
    refine rund_ev hsr6 rfl (ev_fieldAddr fld_32_1 rfl) ?_
    refine rund_ev hsr6 rfl (ev_load1 cell_30 rfl (fun wz hz => cell_blk (hz.at1 hb1 (by omega)) rfl)) ?_
    refine rund_ev hsr6 rfl (ev_move rfl) ?_
    refine rund_ev hsr6 rfl (ev_fieldAddr fld_203_1 rfl) ?_
    refine rund_ev hsr6 rfl (ev_fieldAddr fld_200_1 rfl) ?_
    refine rund_ev hsr6 rfl (ev_load1 cell_60 rfl (fun wz hz => (cells_all (hz.at1 hb4 (by omega))).pick 33 (by omega) (mk_33 hk32))) ?_
    refine rund_ev hsr6 rfl (ev_fieldAddr fld_203_1 rfl) ?_
    refine rund_ev hsr6 rfl (ev_fieldAddr fld_200_2 rfl) ?_
    refine rund_ev hsr6 rfl (ev_load1 cell_60 rfl (fun wz hz => (cells_all (hz.at1 hb4 (by omega))).pick 34 (by omega) (mk_34 hk32))) ?_
    refine rund_op rfl (t_call call_112 rfl (cloneH_any E.marks[k].sig.chains _ sa _ scp (hch.ext RHash.stable ep) (by omega))) ?_
    rintro v30 w30 ow30
    have e30 := ow30.ext
    have sn30 := slN_of ow30.g
    obtain ⟨a30, c30, rfl, -⟩ := id sn30
    have z30 := e30.size
    replace hb1p := e30.at hb1p
    replace hb2p := e30.at hb2p
    replace ep := ep.trans e30
    replace E7p := E7p.trans e30.toB
    replace ewp := ewp.trans e30.toB
    replace hbRp := e30.at hbRp
    replace hb4p := e30.at hb4p
    have hs30 := hsr6.trans e30.toB
    refine ⟨hs30, ?_⟩
    have sn30p := sn30
    refine rund_op rfl (t_call call_112 rfl (cloneH_any E.marks[k].sig.path _ sa2 _ scp2 (hpa.ext RHash.stable ep) (by omega))) ?_
    rintro v34 w34 ow34
    have e34 := ow34.ext
    have sn34 := slN_of ow34.g
    obtain ⟨a34, c34, rfl, -⟩ := id sn34
    have z34 := e34.size
    replace hb1p := e34.at hb1p
    replace hb2p := e34.at hb2p
    replace ep := ep.trans e34
    replace E7p := E7p.trans e34.toB
    replace ewp := ewp.trans e34.toB
    replace hbRp := e34.at hbRp
    replace hb4p := e34.at hb4p
    replace sn30p := sn30p.step flat_hash e34 (fun _ h => h.elim) (.inl rfl)
    have hs34 := hs30.trans e34.toB
    refine ⟨hs34, ?_⟩
    have sn34p := sn34
    refine rund_ev hs34 rfl (ev_indexAddr (k := k) el_30 rfl rfl (by omega)) ?_
    refine rund_ev hs34 rfl (ev_fieldAddr fld_203_1 rfl) ?_
    refine rund_ev hs34 rfl (ev_fieldAddr fld_200_1 rfl) ?_
    refine rund_do rfl (t_store1 sz_60 rfl rfl rfl rfl hbRp (by omega)) ?_
    rintro _ v6_17 ⟨hq6_17, e6_17, z6_17⟩
    replace hb1p := e6_17.at1 hb1p (by first | assumption | omega)
    replace hb2p := e6_17.at1 hb2p (by first | assumption | omega)
    replace ep := ep.new1 e6_17 (by omega)
    replace E7p := E7p.newB1 e6_17 (by first | exact .inl (by omega) | exact .inr rfl | exact .inr (.inl rfl) | exact .inr (.inr (by omega)) | (right; omega))
    replace ewp := ewp.newB1 e6_17 (by first | exact .inl (by omega) | exact .inr rfl | exact .inr (.inl rfl) | exact .inr (.inr (by omega)) | (right; omega))
    replace hb4p := e6_17.at1 hb4p (by first | assumption | omega)
    replace sn30p := sn30p.step flat_hash e6_17 (fun k hk => by omega) (.inl rfl)
    replace sn34p := sn34p.step flat_hash e6_17 (fun k hk => by omega) (.inl rfl)
    replace hbRp := hq6_17
    clear hq6_17
    have hs6_17 := hs34.newB1 e6_17 (by first | exact .inl (by omega) | exact .inr rfl | (right; simp; done) | (right; simp; omega))
    refine ⟨hs6_17, ?_⟩
    refine rund_ev hs6_17 rfl (ev_indexAddr (k := k) el_30 rfl rfl (by omega)) ?_
    refine rund_ev hs6_17 rfl (ev_fieldAddr fld_203_1 rfl) ?_
    refine rund_ev hs6_17 rfl (ev_fieldAddr fld_200_2 rfl) ?_
    refine rund_do rfl (t_store1 sz_60 rfl rfl rfl rfl hbRp (by rw [List.length_set]; omega)) ?_
    rintro _ v6_21 ⟨hq6_21, e6_21, z6_21⟩
    replace hb1p := e6_21.at1 hb1p (by first | assumption | omega)
    replace hb2p := e6_21.at1 hb2p (by first | assumption | omega)
    replace ep := ep.new1 e6_21 (by omega)
    replace E7p := E7p.newB1 e6_21 (by first | exact .inl (by omega) | exact .inr rfl | exact .inr (.inl rfl) | exact .inr (.inr (by omega)) | (right; omega))
    replace ewp := ewp.newB1 e6_21 (by first | exact .inl (by omega) | exact .inr rfl | exact .inr (.inl rfl) | exact .inr (.inr (by omega)) | (right; omega))
    replace hb4p := e6_21.at1 hb4p (by first | assumption | omega)
    replace sn30p := sn30p.step flat_hash e6_21 (fun k hk => by omega) (.inl rfl)
    replace sn34p := sn34p.step flat_hash e6_21 (fun k hk => by omega) (.inl rfl)
    replace hbRp := hq6_21
    clear hq6_21
    have hs6_21 := hs6_17.newB1 e6_21 (by first | exact .inl (by omega) | exact .inr rfl | (right; simp; done) | (right; simp; omega))
    refine ⟨hs6_21, ?_⟩
    refine rund_nil ?_
    replace hb1 := hb1p
    clear hb1p
    replace hb2 := hb2p
    clear hb2p
    replace e := ep
    clear ep
    replace E7 := E7p
    clear E7p
    replace ew := ewp
    clear ewp
    replace hbR := hbRp
    clear hbRp
    replace hb4 := hb4p
    clear hb4p
    replace sn30 := sn30p
    clear sn30p
    replace sn34 := sn34p
    clear sn34p
    rw [show 0 + k * 35 + 32 + 1 = k * 35 + 33 by omega, show 0 + k * 35 + 32 + 2 = k * 35 + 34 by omega] at hbR
    have hset := marks_set (v := .slice a30 E.marks[k].sig.chains.length c30) (u := .slice a34 E.marks[k].sig.path.length c34) (htk.trans (by rw [← hzs])) hyl (by rw [hcells_length]; exact hk32)
    have own2 := own_blk hbR hcap1 hcap2 (by rw [List.length_set, List.length_set]; exact hcl) hset
    have hnm : RMarkG w2.heap.size (bR : Int) _ E.marks[k] (hcells E.marks[k].key ++ [.int .i64 E.marks[k].sig.leaf, .slice a30 E.marks[k].sig.chains.length c30, .slice a34 E.marks[k].sig.path.length c34]) := ⟨_, rfl, hk32, _, _, rfl, (sn30.cast (by omega)).up (by omega), (sn34.cast (by omega)).up (by omega)⟩
    have hY2 := Parts.app (hY.mono (fun _ _ _ h => (RMarkG.nest _).keep h ew (fun k hk => .inr (.inl hk)))) (by rw [List.length_take]; omega) (pc (r := []) (by rw [List.take_of_length_le (Nat.le_of_eq (mk_len hk32))]; exact hnm) pn)
    rw [List.take_append_getElem hk1] at hY2
    refine run_inBlock ?_
    refine run_region rfl ?_
    refine runl_ev (ev_add rfl rfl (by omega) (by omega)) ?_
    refine runl_ev (ev_move rfl) ?_
    refine runl_nil ?_
    exact IH (k + 1, _, _) _ _ (by simp only; omega) ⟨rfl, rfl, rfl, rfl, rfl, trivial⟩ ⟨hk1, by rw [List.length_append, mk_len hk32]; omega, own2, hY2, Parts.mono (R := fun _ => RMark w) (w := w1) (fun _ _ _ h => h) hZ2, hb1, hb2, e, E7, by omega⟩
  · obtain rfl : k = E.marks.length := by omega
    obtain rfl : zs = [] := List.eq_nil_of_length_eq_zero (by have := own.len; rw [List.length_append] at this; omega)
    rw [List.append_nil] at own
    rw [List.take_length] at hY
    have snb := sn7.step flat_byte E7 (fun k hk => by omega) (.inl rfl)
    have hF := renvF_of (lo := w2.heap.size) (w0 := w2) (snb.up (by omega)) ⟨ys, g, own, hY, by omega, by omega⟩ (Nat.le_refl _)
    refine run_exit rfl ?_
    refine run_seq ?_
    refine run_region rfl ?_
    refine runl_ev (ev_loadA agg_32 rfl rfl (eqw (cells_all hb1))) ?_
    refine runl_do (t_storeW sz_32 rfl rfl rfl rfl hb2 (by simp)) ?_
    rintro _ v8_1 ⟨hq8_1, e8_1, z8_1⟩
    replace hb1 := e8_1.at1 hb1 (by first | assumption | omega)
    replace e := e.new1 e8_1 (by omega)
    replace hF := hF.keep e8_1 (fun k hk => by omega)
    replace hb2 := hq8_1
    clear hq8_1
    refine runl_nil ?_
    refine run_ret_any Tryz.func52 (resC Tryz.results52 rfl (loadVar_agg agg_32 rfl (cells_all hb2))) ?_
    exact ⟨_, rfl, hF.up (by omega), e⟩
end Go.Proofs.YtlgkdnmklgbhbaaGreatDoor
/- The walks of what is handed out: rows of envelopes, the bundle; a nil Repo; what the laws on Repos all ask. -/
namespace Go.Proofs.YtlgkdnmklgbhbaaGreatDoor
open Go Go.Fw
set_option maxRecDepth 100000
/-- As REnvF, and none of it is block g. -/
def REnvG (lo : Nat) (g : Int) (w : World) (e : EnvP) (cs : List Value) : Prop :=
  ∃ v a' c', cs = [v, .slice a' e.marks.length c'] ∧ SlN 1 RByte lo g w e.body v ∧ SlAt 35 (RMarkG lo g) w (.slice a' e.marks.length c') e.marks ∧ ∀ b o, a' = some ⟨b, o, none⟩ → lo ≤ b ∧ b < w.heap.size ∧ (b : Int) ≠ g
theorem sl_keep3 {α : Type} {sz : Nat} {R R' : World → α → List Value → Prop} {M : Nat → Prop} {w w' : World} {a : Option Addr} {n c : Nat} {l : List α} (h : SlAt sz R w (.slice a n c) l) (he : ExtB M w w') (hm : ∀ b o, a = some ⟨b, o, none⟩ → ¬ M b) (hR : ∀ x cs, R w x cs → R' w' x cs) : SlAt sz R' w' (.slice a n c) l := by
  obtain ⟨a', cap', hv, h⟩ := h
  cases hv
  refine ⟨_, _, rfl, fun i x hi => ?_⟩
  obtain ⟨b, o, cs, ha, hr, hc⟩ := h i x hi
  exact ⟨b, o, cs, ha, hR _ _ hr, hc.extB he (hm b o ha)⟩
theorem REnvG.nest (lo : Nat) : Nest lo (REnvG lo) := ⟨fun ⟨v, a', c', h1, h2, h3, h4⟩ e hM hg => ⟨v, a', c', h1, h2.step flat_byte e hM hg, sl_keep3 h3 e (fun b o ha hm => by have := hM b hm; have := h4 b o ha; omega) (fun y cs hy => (RMarkG.nest lo).step hy e hM hg), fun b o ha => by have := h4 b o ha; have := e.size; omega⟩⟩
theorem REnvF.g {lo lo' : Nat} {g : Int} {w : World} {e : EnvP} {cs : List Value} (h : REnvF lo w e cs) (hl : lo' ≤ lo) (hg : g < lo) : REnvG lo' g w e cs := by
  obtain ⟨v, a', c', h1, h2, h3, h4⟩ := h
  exact ⟨v, a', c', h1, (h2.cast hg).up hl, h3.map (fun _ _ h => (h.cast hg).up hl), fun b o ha => by have := h4 b o ha; omega⟩
theorem REnvG.r {lo : Nat} {g : Int} {w : World} {x : EnvP} {cs : List Value} (h : REnvG lo g w x cs) : REnv w x cs := by
  obtain ⟨v, a', c', h1, h2, h3, h4⟩ := h
  obtain ⟨a, c, rfl, h5, _⟩ := h2.sl
  exact ⟨a, c, a', c', h1, h5, h3.map fun _ _ h => h.r⟩
theorem fz_rows {T : TypeId} {lo : Nat} {w0 w : World} {l : List EnvP} {v : Value} (h : OwnN T 2 (REnvG lo) w0 l v w) (hl : lo ≤ w0.heap.size) : Fz (fun k => k < lo ∨ w.heap.size ≤ k) (fun w => SlAt 2 REnv w v l) w := fun w' e' => by
  obtain ⟨xs, g, h1, h2, _⟩ := h.keep (REnvG.nest lo) e' (fun k hk => hk) hl
  exact own_slat h1 (h2.mono fun _ _ _ h => h.r) rfl
structure RepoS.Bnd (S : RepoS) : Prop where
  time : EnvB S.time
  snap : EnvB S.snap
  roots : ∀ E ∈ S.roots, EnvB E
  tgts : ∀ E ∈ S.tgts, EnvB E
  nr : S.roots.length ≤ 1000
  nt : S.tgts.length ≤ 1000
theorem envZ_B : EnvB .zero := ⟨by simp [EnvP.zero], by simp [EnvP.zero], fun m hm => by simp [EnvP.zero] at hm⟩
theorem bnd_new (s : List UInt8) : (RepoS.new s).Bnd := ⟨envZ_B, envZ_B, fun E h => by simp [RepoS.new] at h, fun E h => by simp [RepoS.new] at h, by simp [RepoS.new], by simp [RepoS.new]⟩
theorem signF_len (sd : List UInt8) (lf : Int) (m : List UInt8) : (signF sd lf m).length = 36 := by unfold signF; exact signP_len _ _ _ _
theorem envF_B {pub sd b : List UInt8} {u : Nat} (h : b.length ≤ 100000) : EnvB (envF pub sd u b) := ⟨h, by simp [envF], fun m hm => by
  simp only [envF, List.mem_singleton] at hm
  subst hm
  simp only [signF_len, pathF_len]
  omega⟩
theorem bnd_sign {S : RepoS} (h : S.Bnd) (hw : ∀ t ∈ S.l, t.wf) (hl : S.l.length ≤ 16) (ends : Int) : (S.sign ends).Bnd := by
  have h1 := tb_len S ends hw hl
  have h2 := sb_len S ends
  have h3 := mb_len S ends
  exact ⟨envF_B (by omega), envF_B (by omega), h.roots, fun E hE => by
    simp only [RepoS.sign, List.mem_singleton] at hE
    subst hE
    exact envF_B (by omega), h.nr, by simp [RepoS.sign]⟩
def BundleC (S : RepoS) (cs : List Value) (w : World) : Prop := ∃ ra rc t0 t1 s0 s1 ta tc, cs = [.slice ra S.roots.length rc, t0, t1, s0, s1, .slice ta S.tgts.length tc] ∧ SlAt 2 REnv w (.slice ra S.roots.length rc) S.roots ∧ REnv w S.time [t0, t1] ∧ REnv w S.snap [s0, s1] ∧ SlAt 2 REnv w (.slice ta S.tgts.length tc) S.tgts
theorem bundle_len {S : RepoS} {cs : List Value} {w : World} (h : BundleC S cs w) : cs.length = 6 := by obtain ⟨_, _, _, _, _, _, _, _, rfl, _⟩ := h; rfl
theorem fill_bundle {ps : List (Nat × Nat)} {a t0 t1 s0 s1 b : Value} {z : List Value} (h0 : ps[0]? = some (0, 1)) (h1 : ps[1]? = some (1, 2)) (h2 : ps[2]? = some (3, 2)) (h3 : ps[3]? = some (5, 1)) (ha : a.cells = #[a]) (hb : b.cells = #[b]) (hz : z.length = 6) : fillL ps [(0, a), (1, .agg ⟨[t0, t1]⟩), (2, .agg ⟨[s0, s1]⟩), (3, b)] z = some [a, t0, t1, s0, s1, b] := by
  match z, hz with
  | [z0, z1, z2, z3, z4, z5], _ =>
    rw [fill_step h0 (by rw [ha]; rfl) (by simp)]
    rw [fill_step (v := .agg ⟨[t0, t1]⟩) h1 rfl (by rw [ha]; simp)]
    rw [fill_step (v := .agg ⟨[s0, s1]⟩) h2 rfl (by rw [ha]; simp [Value.cells])]
    rw [fill_step h3 (by rw [hb]; rfl) (by rw [ha]; simp [Value.cells]), fill_end, ha, hb]
    simp [Value.cells]

theorem envelopes_any (l : List EnvP) (hE : ∀ E ∈ l, EnvB E) (hn : l.length ≤ 100000) (a : Option Addr) (n c : Nat) (w : World) (hs : SlAt 2 REnv w (.slice a n c) l) : Ret Tryz.prog 51 [.slice a n c] w fun v w' => OwnN 32 2 (REnvG w.heap.size) w l v w' ∧ Ext w w' := by
  have e := ExtB.refl (fun _ => False) w
  obtain ⟨rfl, hat⟩ := hs.at
  refine ret_of_run Tryz.func51 rfl Tryz.ntmps51 rfl ?_
  refine run_seq ?_
  refine run_region rfl ?_
  refine runl_ev (ev_assign rfl) ?_
  refine runl_nil ?_
  refine run_seq ?_
  refine run_region rfl ?_
  refine runl_ev (ev_assign rfl) ?_
  refine runl_nil ?_
  refine run_seq ?_
  refine run_seq ?_
  refine run_region rfl ?_
  refine runl_ev (ev_move rfl) ?_
  refine runl_ev (ev_lenL sl_28 rfl) ?_
  refine runl_ev (ev_move rfl) ?_
  refine runl_nil ?_
  refine run_block ?_
  refine run_loop (ι := Nat × Value) (fun x => [(3, x.2), (6, .slice a l.length c), (7, .int .i64 (l.length : Int)), (8, .int .i64 (x.1 : Int))]) (fun x w1 => x.1 ≤ l.length ∧ OwnN 32 2 (REnvG w.heap.size) w (l.take x.1) x.2 w1 ∧ Ext w w1) (fun x => l.length - x.1) ((0, .slice none 0 0)) ⟨rfl, rfl, rfl, rfl, trivial⟩ (⟨Nat.zero_le _, OwnN.nil _ _, e⟩) ?_
  clear e
  intro ⟨k, v⟩ w1 ⟨hk, ow, e⟩ IH
  simp only at hk ow
  have ze := e.size
  have ew := ExtB.refl (fun _ => False) w1
  have htl : (l.take k).length = k := by rw [List.length_take]; omega
  obtain ⟨xs, g, own, hpp, hxl, hg, hgl⟩ := ow.open
  refine run_seq ?_
  refine run_region rfl ?_
  refine runl_ev (ev_lss rfl rfl) ?_
  refine runl_nil ?_
  refine run_seq ?_
  refine run_dcond rfl (fun h0 => ?_) (fun h0 => ?_)
  · have hk1 : k < l.length := by omega
    obtain ⟨bA, oA, cA, rfl, hrA, hcA⟩ := hat k hk1
    have hcl := renv_len hrA
    have hone := renv_one hrA
    refine run_skip ?_
    refine run_seq ?_
    refine run_block ?_
    refine run_seq ?_
    refine run_region rfl ?_
    refine runl_ev (ev_indexAddr (k := k) el_28 rfl rfl (by omega)) ?_
    refine runl_ev (ev_loadA agg_32 hcl rfl (eqw (hcA.ext e))) ?_
    refine runl_op (t_alloc zero_32 rfl) ?_
    rintro _ w5 ⟨b5, rfl, hb5, e5, n5, l5⟩
    have z5 := e5.size
    replace e := e.trans e5
    replace ew := ew.trans e5
    replace own := own.ext e5
    refine runl_do (t_storeW sz_32 rfl rfl hcl rfl hb5 (hone)) ?_
    rintro _ v4_3 ⟨hq4_3, e4_3, z4_3⟩
    replace e := e.new1 e4_3 (by omega)
    replace ew := ew.new1 e4_3 (by omega)
    replace own := own.ext1 e4_3 (by first | assumption | omega)
    replace hb5 := hq4_3
    clear hq4_3
    refine runl_nil ?_
    refine run_region rfl ?_
    refine runl_ev (ev_move rfl) ?_
    refine runl_ev (ev_loadA agg_32 hcl rfl (eqw (cells_all hb5))) ?_
    refine runl_op (t_call call_52 rfl (envelope_any l[k] (hE _ (List.getElem_mem hk1)) cA _ (REnv.stable _ _ _ _ e hrA))) ?_
    rintro _ w14 ⟨c14, rfl, re14, e14⟩
    have hc14 := renv_len re14.r
    have hg14 := REnvF.g (lo' := w.heap.size) (g := g) re14 (by omega) (by omega)
    have ho14 := renv_one re14.r
    have z14 := e14.size
    replace e := e.trans e14
    replace ew := ew.trans e14
    replace own := own.ext e14
    replace hb5 := e14.at hb5
    refine runl_op (t_buildSlice (out := c14) Tryz.underlying28 sz_32 zero_32 rfl rfl (by decide) (by decide) rfl (fill_one rfl hc14 rfl)) ?_
    rintro _ w15 ⟨b15, rfl, hb15, e15, n15, l15⟩
    have z15 := e15.size
    replace e := e.trans e15
    replace ew := ew.trans e15
    replace own := own.ext e15
    replace hb5 := e15.at hb5
    have hg15 := (REnvG.nest _).keep hg14 e15 (fun _ h => h.elim)
    have hp15 := hpp.mono (fun _ _ _ h => (REnvG.nest _).keep h ew (fun _ h => h.elim))
    refine runl_op (t_append (news := c14) ef_28 rfl rfl own hc14 (cells_all hb15) ho14 (by unfold maxLen; omega) (by omega)) ?_
    rintro v16 w16 ⟨g16, ap16⟩
    have ow16 := OwnN.app (REnvG.nest _) (w := w) (by omega) hg (by omega) hp15 hxl hg15 hc14 ap16
    rw [List.take_append_getElem hk1] at ow16
    have z16 := ap16.ext.size
    replace e := e.newG ap16.ext (by omega)
    replace hb5 := ap16.ext.atG hb5 (by first | assumption | omega)
    refine runl_ev (ev_assign rfl) ?_
    refine runl_nil ?_
    refine run_inBlock ?_
    refine run_region rfl ?_
    refine runl_ev (ev_add rfl rfl (by omega) (by omega)) ?_
    refine runl_ev (ev_move rfl) ?_
    refine runl_nil ?_
    exact IH (k + 1, v16) _ _ (by simp only; omega) ⟨rfl, rfl, rfl, rfl, trivial⟩ ⟨by show k + 1 ≤ l.length; omega, ow16, e⟩
  · obtain rfl : k = l.length := by omega
    rw [List.take_length] at ow
    refine run_exit rfl ?_
    refine run_seq ?_
    refine run_region rfl ?_
    refine runl_ev (ev_move rfl) ?_
    refine runl_ev (ev_assign rfl) ?_
    refine runl_nil ?_
    refine run_ret_any Tryz.func51 (res1 Tryz.results51 rfl) ?_
    exact ⟨ow, e⟩
theorem bundle_repo {F : Nat → Prop} {rb : Nat} {S : RepoS} {w : World} (h : RepoAt F rb S w) (hB : S.Bnd) : Ret Tryz.prog 14 [.pointer (some ⟨rb, 0, none⟩)] w fun v w' => ∃ cs, v = .agg ⟨cs⟩ ∧ Fz (fun k => k < w.heap.size ∨ w'.heap.size ≤ k) (BundleC S cs) w' ∧ Ext w w' := by
  have e := ExtB.refl (fun _ => False) w
  obtain ⟨k0, k1, lg, rg, gg, fc, lc, lv, rv, t0, t1, s0, s1, tv, gv, lx, rx, gx, r⟩ := h
  have hA : (hcells S.seed).length = 32 := by rw [hcells_length]; exact r.sd
  have hb := r.hb
  have lrb := r.sep.rb_lt
  obtain ⟨-, -, hT, hS, hG⟩ := r.hz.here
  have hR := own_slat r.orr r.pr.here rfl
  obtain ⟨ra, rc, rfl⟩ := r.orr.shape
  obtain ⟨ta, tc, rfl⟩ : ∃ a c, tv = .slice a S.tgts.length c := by obtain ⟨a, c, h, _⟩ := hG; exact ⟨a, c, h⟩
  refine ret_of_run Tryz.func14 rfl Tryz.ntmps14 rfl ?_
  refine run_seq ?_
  refine run_region rfl ?_
  refine runl_op (t_alloc zero_34 rfl) ?_
  rintro _ w2 ⟨b2, rfl, hb2, e2, n2, l2⟩
  have z2 := e2.size
  replace e := e.trans e2
  replace hb := e2.at hb
  refine runl_nil ?_
  refine run_seq ?_
  refine run_seq ?_
  refine run_region rfl ?_
  refine runl_ev (ev_move rfl) ?_
  refine runl_ev (ev_eqlPn Tryz.underlying22 rfl rfl) ?_
  refine runl_nil ?_
  refine run_cond_false rfl (rfl) ?_
  refine run_skip ?_
  refine run_seq ?_
  refine run_draw mo (fun w' => Ext w2 w') [25] [(true, 0), (true, 1), (true, 2), (true, 3), (true, 4), (true, 6), (true, 7), (true, 8), (true, 9), (true, 10), (true, 12), (true, 13), (true, 14), (true, 15), (true, 16), (true, 18), (true, 19), (true, 20), (true, 21), (true, 22), (false, 5), (false, 11), (false, 17), (false, 23), (true, 24), (false, 25)] (by kernel_rfl) ?_
  intro wr3 er3
  have zr3 := er3.size
  have hsr3 := er3
  have ep := e.trans er3
  have hbp := er3.at hb
  have hb2p := er3.at hb2
  refine rund_ev hsr3 rfl (ev_move rfl) ?_
  refine rund_ev hsr3 rfl (ev_nilCheck rfl) ?_
  refine rund_ev hsr3 rfl (ev_fieldAddr fld_108_7 rfl) ?_
  refine rund_ev hsr3 rfl (ev_fieldAddr fld_34_0 rfl) ?_
  refine rund_ev hsr3 rfl (ev_load1 cell_28 rfl (fun wz hz => (cells_all (hz.at hb)).pick 57 (by omega) (rc_57 hA r.fl r.ll))) ?_
  refine rund_ev hsr3 rfl (ev_move rfl) ?_
  refine rund_ev hsr3 rfl (ev_nilCheck rfl) ?_
  refine rund_ev hsr3 rfl (ev_fieldAddr fld_108_7 rfl) ?_
  refine rund_ev hsr3 rfl (ev_fieldAddr fld_34_1 rfl) ?_
  refine rund_ev hsr3 rfl (ev_loadA agg_32 rfl rfl (fun wz hz => (cells_all (hz.at hb)).seg [t0, t1] 58 (by omega) (rc_time hA r.fl r.ll))) ?_
  refine rund_ev hsr3 rfl (ev_move rfl) ?_
  refine rund_ev hsr3 rfl (ev_nilCheck rfl) ?_
  refine rund_ev hsr3 rfl (ev_fieldAddr fld_108_7 rfl) ?_
  refine rund_ev hsr3 rfl (ev_fieldAddr fld_34_2 rfl) ?_
  refine rund_ev hsr3 rfl (ev_loadA agg_32 rfl rfl (fun wz hz => (cells_all (hz.at hb)).seg [s0, s1] 60 (by omega) (rc_snap hA r.fl r.ll))) ?_
  refine rund_ev hsr3 rfl (ev_move rfl) ?_
  refine rund_ev hsr3 rfl (ev_nilCheck rfl) ?_
  refine rund_ev hsr3 rfl (ev_fieldAddr fld_108_7 rfl) ?_
  refine rund_ev hsr3 rfl (ev_fieldAddr fld_34_3 rfl) ?_
  refine rund_ev hsr3 rfl (ev_load1 cell_28 rfl (fun wz hz => (cells_all (hz.at hb)).pick 62 (by omega) (rc_62 hA r.fl r.ll))) ?_
  refine rund_op rfl (t_call call_51 rfl (envelopes_any S.roots hB.roots (Nat.le_trans hB.nr (by decide)) ra _ rc _ (hR.ext REnv.stable ep))) ?_
  rintro v11 w11 ⟨ow11, e11⟩
  obtain ⟨a11, c11, rfl⟩ := ow11.shape
  have f11 := fz_rows ow11 (Nat.le_refl _)
  have z11 := e11.size
  replace ep := ep.trans e11
  replace hbp := e11.at hbp
  replace hb2p := e11.at hb2p
  have hs11 := hsr3.trans e11
  refine ⟨hs11, ?_⟩
  have f11p := f11
  refine rund_op rfl (t_call call_52 rfl (envelope_any S.time hB.time _ _ (REnv.stable _ _ _ _ ep hT))) ?_
  rintro _ w17 ⟨c17, rfl, re17, e17⟩
  obtain ⟨x17, y17, rfl⟩ := renv_two re17.r
  have f17 := fz_env re17
  have o17 := renv_one re17.r
  have z17 := e17.size
  replace ep := ep.trans e17
  replace hbp := e17.at hbp
  replace hb2p := e17.at hb2p
  replace f11p := f11p.step e17 (fun _ _ h => h.elim)
  have hs17 := hs11.trans e17
  refine ⟨hs17, ?_⟩
  have f17p := f17
  refine rund_op rfl (t_call call_52 rfl (envelope_any S.snap hB.snap _ _ (REnv.stable _ _ _ _ ep hS))) ?_
  rintro _ w23 ⟨c23, rfl, re23, e23⟩
  obtain ⟨x23, y23, rfl⟩ := renv_two re23.r
  have f23 := fz_env re23
  have o23 := renv_one re23.r
  have z23 := e23.size
  replace ep := ep.trans e23
  replace hbp := e23.at hbp
  replace hb2p := e23.at hb2p
  replace f11p := f11p.step e23 (fun _ _ h => h.elim)
  replace f17p := f17p.step e23 (fun _ _ h => h.elim)
  have hs23 := hs17.trans e23
  refine ⟨hs23, ?_⟩
  have f23p := f23
  refine rund_op rfl (t_call call_51 rfl (envelopes_any S.tgts hB.tgts (Nat.le_trans hB.nt (by decide)) ta _ tc _ (hG.ext REnv.stable ep))) ?_
  rintro v29 w29 ⟨ow29, e29⟩
  obtain ⟨a29, c29, rfl⟩ := ow29.shape
  have f29 := fz_rows ow29 (Nat.le_refl _)
  have z29 := e29.size
  replace ep := ep.trans e29
  replace hbp := e29.at hbp
  replace hb2p := e29.at hb2p
  replace f11p := f11p.step e29 (fun _ _ h => h.elim)
  replace f17p := f17p.step e29 (fun _ _ h => h.elim)
  replace f23p := f23p.step e29 (fun _ _ h => h.elim)
  have hs29 := hs23.trans e29
  refine ⟨hs29, ?_⟩
  have f29p := f29
  refine rund_ev hs29 rfl (ev_build (out := [.slice a11 S.roots.length c11, x17, y17, x23, y23, .slice a29 S.tgts.length c29]) ps_34 zero_34 rfl rfl (fill_bundle rfl rfl rfl rfl rfl rfl rfl)) ?_
  refine rund_doT rfl rfl (t_storeW sz_34 rfl rfl rfl rfl hb2p ((fun v hv => by simp only [List.mem_cons, List.not_mem_nil, or_false] at hv o17 o23; rcases hv with rfl | rfl | rfl | rfl | rfl | rfl; rfl; exact o17 _ (.inl rfl); exact o17 _ (.inr rfl); exact o23 _ (.inl rfl); exact o23 _ (.inr rfl); rfl))) ?_
  rintro _ v3_25 ⟨hq3_25, e3_25, z3_25⟩
  replace ep := ep.new1 e3_25 (by omega)
  replace hbp := e3_25.at1 hbp (by first | assumption | omega)
  replace f11p := f11p.step e3_25 (fun k hk0 hk => by exact .inl (by omega))
  replace f17p := f17p.step e3_25 (fun k hk0 hk => by exact .inl (by omega))
  replace f23p := f23p.step e3_25 (fun k hk0 hk => by exact .inl (by omega))
  replace f29p := f29p.step e3_25 (fun k hk0 hk => by exact .inl (by omega))
  replace hb2p := hq3_25
  clear hq3_25
  refine rund_nil ?_
  replace e := ep
  clear ep
  replace hb := hbp
  clear hbp
  replace hb2 := hb2p
  clear hb2p
  replace f11 := f11p
  clear f11p
  replace f17 := f17p
  clear f17p
  replace f23 := f23p
  clear f23p
  replace f29 := f29p
  clear f29p
  refine run_ret_any Tryz.func14 (resC Tryz.results14 rfl (loadVar_agg agg_34 rfl (cells_all hb2))) ?_
  refine ⟨_, rfl, ?_, e⟩
  have g11 := f11.turn (M' := fun k => k < w.heap.size ∨ v3_25.heap.size ≤ k) (ExtB.refl _ _) (fun k hk => by omega)
  have g17 := f17.turn (M' := fun k => k < w.heap.size ∨ v3_25.heap.size ≤ k) (ExtB.refl _ _) (fun k hk => by omega)
  have g23 := f23.turn (M' := fun k => k < w.heap.size ∨ v3_25.heap.size ≤ k) (ExtB.refl _ _) (fun k hk => by omega)
  have g29 := f29.turn (M' := fun k => k < w.heap.size ∨ v3_25.heap.size ≤ k) (ExtB.refl _ _) (fun k hk => by omega)
  exact fun w' e' => ⟨_, _, _, _, _, _, _, _, rfl, g11 w' e', g17 w' e', g23 w' e', g29 w' e'⟩
theorem used_nil  (w : World) : Ret Tryz.prog 25 [.pointer none] w fun v w' => v = .tuple #[.int .i64 0, .int .i64 0] ∧ Ext w w' := by
  have e := ExtB.refl (fun _ => False) w
  refine ret_of_run Tryz.func25 rfl Tryz.ntmps25 rfl ?_
  refine run_seq ?_
  refine run_region rfl ?_
  refine runl_ev (ev_assign rfl) ?_
  refine runl_ev (ev_assign rfl) ?_
  refine runl_nil ?_
  refine run_seq ?_
  refine run_seq ?_
  refine run_region rfl ?_
  refine runl_ev (ev_move rfl) ?_
  refine runl_ev (ev_eqlPn Tryz.underlying22 rfl rfl) ?_
  refine runl_nil ?_
  refine run_cond_true rfl (rfl) ?_
  refine run_seq ?_
  refine run_region rfl ?_
  refine runl_ev (ev_assign rfl) ?_
  refine runl_ev (ev_assign rfl) ?_
  refine runl_nil ?_
  refine run_ret_any Tryz.func25 (res2 Tryz.results25 rfl rfl) ?_
  exact ⟨rfl, e⟩
theorem remove_nil (a b : ByteArray) (w : World) : Ret Tryz.prog 37 [.pointer none, .string a, .string b] w fun v w' => v = .int .i64 1 ∧ Ext w w' := by
  have e := ExtB.refl (fun _ => False) w
  refine ret_of_run Tryz.func37 rfl Tryz.ntmps37 rfl ?_
  refine run_seq ?_
  refine run_region rfl ?_
  refine runl_ev (ev_assign rfl) ?_
  refine runl_nil ?_
  refine run_seq ?_
  refine run_seq ?_
  refine run_region rfl ?_
  refine runl_ev (ev_move rfl) ?_
  refine runl_ev (ev_eqlPn Tryz.underlying22 rfl rfl) ?_
  refine runl_nil ?_
  refine run_cond_true rfl (rfl) ?_
  refine run_seq ?_
  refine run_region rfl ?_
  refine runl_ev (ev_assign rfl) ?_
  refine runl_nil ?_
  refine run_ret_any Tryz.func37 (res1 Tryz.results37 rfl) ?_
  exact ⟨rfl, e⟩
theorem rotate_nil  (w : World) : Ret Tryz.prog 20 [.pointer none] w fun v w' => v = .int .i64 1 ∧ Ext w w' := by
  have e := ExtB.refl (fun _ => False) w
  refine ret_of_run Tryz.func20 rfl Tryz.ntmps20 rfl ?_
  refine run_seq ?_
  refine run_region rfl ?_
  refine runl_ev (ev_assign rfl) ?_
  refine runl_nil ?_
  refine run_seq ?_
  refine run_block ?_
  refine run_seq ?_
  refine run_region rfl ?_
  refine runl_ev (ev_move rfl) ?_
  refine runl_ev (ev_eqlPn Tryz.underlying22 rfl rfl) ?_
  refine runl_ev (ev_assign rfl) ?_
  refine runl_nil ?_
  refine run_cond_true rfl (rfl) ?_
  refine run_seq ?_
  refine run_region rfl ?_
  refine runl_ev (ev_assign rfl) ?_
  refine runl_nil ?_
  refine run_ret_any Tryz.func20 (res1 Tryz.results20 rfl) ?_
  exact ⟨rfl, e⟩
theorem targets_nil  (w : World) : Ret Tryz.prog 31 [.pointer none] w fun v w' => v = .slice none 0 0 ∧ Ext w w' := by
  have e := ExtB.refl (fun _ => False) w
  refine ret_of_run Tryz.func31 rfl Tryz.ntmps31 rfl ?_
  refine run_seq ?_
  refine run_region rfl ?_
  refine runl_ev (ev_assign rfl) ?_
  refine runl_nil ?_
  refine run_seq ?_
  refine run_seq ?_
  refine run_region rfl ?_
  refine runl_ev (ev_move rfl) ?_
  refine runl_ev (ev_eqlPn Tryz.underlying22 rfl rfl) ?_
  refine runl_nil ?_
  refine run_cond_true rfl (rfl) ?_
  refine run_seq ?_
  refine run_region rfl ?_
  refine runl_ev (ev_assign rfl) ?_
  refine runl_nil ?_
  refine run_ret_any Tryz.func31 (res1 Tryz.results31 rfl) ?_
  exact ⟨rfl, e⟩
theorem ledger_nil  (w : World) : Ret Tryz.prog 39 [.pointer none] w fun v w' => v = .slice none 0 0 ∧ Ext w w' := by
  have e := ExtB.refl (fun _ => False) w
  refine ret_of_run Tryz.func39 rfl Tryz.ntmps39 rfl ?_
  refine run_seq ?_
  refine run_region rfl ?_
  refine runl_ev (ev_assign rfl) ?_
  refine runl_nil ?_
  refine run_seq ?_
  refine run_seq ?_
  refine run_region rfl ?_
  refine runl_ev (ev_move rfl) ?_
  refine runl_ev (ev_eqlPn Tryz.underlying22 rfl rfl) ?_
  refine runl_nil ?_
  refine run_cond_true rfl (rfl) ?_
  refine run_seq ?_
  refine run_region rfl ?_
  refine runl_ev (ev_assign rfl) ?_
  refine runl_nil ?_
  refine run_ret_any Tryz.func39 (res1 Tryz.results39 rfl) ?_
  exact ⟨rfl, e⟩
theorem publish_nil (t : Tgt) (w : World) : Ret Tryz.prog 34 [.pointer none, .agg ⟨t.cells⟩] w fun v w' => v = .int .i64 1 ∧ Ext w w' := by
  have e := ExtB.refl (fun _ => False) w
  refine ret_of_run Tryz.func34 rfl Tryz.ntmps34 rfl ?_
  refine run_seq ?_
  refine run_region rfl ?_
  refine runl_op (t_boxA rfl) ?_
  rintro _ w3 ⟨b3, rfl, hb3, e3, n3, l3⟩
  have z3 := e3.size
  replace e := e.trans e3
  refine runl_ev (ev_assign rfl) ?_
  refine runl_nil ?_
  refine run_seq ?_
  refine run_seq ?_
  refine run_region rfl ?_
  refine runl_ev (ev_move rfl) ?_
  refine runl_ev (ev_eqlPn Tryz.underlying22 rfl rfl) ?_
  refine runl_ev (ev_move rfl) ?_
  refine runl_no_g rfl rfl (rfl) ?_
  refine runl_no_g rfl rfl (rfl) ?_
  refine runl_no_g rfl rfl (rfl) ?_
  refine runl_ev (ev_pick rfl rfl rfl (if_pos (rfl))) ?_
  refine runl_nil ?_
  refine run_cond_true rfl (rfl) ?_
  refine run_seq ?_
  refine run_region rfl ?_
  refine runl_ev (ev_assign rfl) ?_
  refine runl_nil ?_
  refine run_ret_any Tryz.func34 (res1 Tryz.results34 rfl) ?_
  exact ⟨rfl, e⟩
theorem bundle_nil  (w : World) : Ret Tryz.prog 14 [.pointer none] w fun v w' => v = .agg ⟨[.slice none 0 0, .slice none 0 0, .slice none 0 0, .slice none 0 0, .slice none 0 0, .slice none 0 0]⟩ ∧ Ext w w' := by
  have e := ExtB.refl (fun _ => False) w
  refine ret_of_run Tryz.func14 rfl Tryz.ntmps14 rfl ?_
  refine run_seq ?_
  refine run_region rfl ?_
  refine runl_op (t_alloc zero_34 rfl) ?_
  rintro _ w2 ⟨b2, rfl, hb2, e2, n2, l2⟩
  have z2 := e2.size
  replace e := e.trans e2
  refine runl_nil ?_
  refine run_seq ?_
  refine run_seq ?_
  refine run_region rfl ?_
  refine runl_ev (ev_move rfl) ?_
  refine runl_ev (ev_eqlPn Tryz.underlying22 rfl rfl) ?_
  refine runl_nil ?_
  refine run_cond_true rfl (rfl) ?_
  refine run_seq ?_
  refine run_region rfl ?_
  refine runl_ev (ev_build (out := [.slice none 0 0, .slice none 0 0, .slice none 0 0, .slice none 0 0, .slice none 0 0, .slice none 0 0]) ps_34 zero_34 rfl rfl (rfl)) ?_
  refine runl_do (t_storeW sz_34 rfl rfl rfl rfl hb2 ((by simp))) ?_
  rintro _ v2_1 ⟨hq2_1, e2_1, z2_1⟩
  replace e := e.new1 e2_1 (by omega)
  replace hb2 := hq2_1
  clear hq2_1
  refine runl_nil ?_
  refine run_ret_any Tryz.func14 (resC Tryz.results14 rfl (loadVar_agg agg_34 rfl (cells_all hb2))) ?_
  exact ⟨rfl, e⟩
theorem root_nil  (w : World) : Ret Tryz.prog 23 [.pointer none] w fun v w' => v = .agg ⟨rootZ⟩ ∧ Ext w w' := by
  have e := ExtB.refl (fun _ => False) w
  refine ret_of_run Tryz.func23 rfl Tryz.ntmps23 rfl ?_
  refine run_seq ?_
  refine run_region rfl ?_
  refine runl_op (t_alloc zero_68 rfl) ?_
  rintro _ w2 ⟨b2, rfl, hb2, e2, n2, l2⟩
  have z2 := e2.size
  replace e := e.trans e2
  refine runl_nil ?_
  refine run_seq ?_
  refine run_seq ?_
  refine run_region rfl ?_
  refine runl_ev (ev_move rfl) ?_
  refine runl_ev (ev_eqlPn Tryz.underlying22 rfl rfl) ?_
  refine runl_nil ?_
  refine run_cond_true rfl (rfl) ?_
  refine run_seq ?_
  refine run_region rfl ?_
  refine runl_ev (ev_build (out := rootZ) ps_68 zero_68 rfl rfl (rfl)) ?_
  refine runl_do (t_storeW sz_68 rfl rfl rfl rfl hb2 ((by simp [rootZ]))) ?_
  rintro _ v2_1 ⟨hq2_1, e2_1, z2_1⟩
  replace e := e.new1 e2_1 (by omega)
  replace hb2 := hq2_1
  clear hq2_1
  refine runl_nil ?_
  refine run_ret_any Tryz.func23 (resC Tryz.results23 rfl (loadVar_agg agg_68 rfl (cells_all hb2))) ?_
  exact ⟨rfl, e⟩
end Go.Proofs.YtlgkdnmklgbhbaaGreatDoor
