/- A reader's calls, one behind the other; copies of rows. -/
import Derived.Test.YtcmbiaibocdfeaaDoorOwnB
import Derived.Test.YtcmbiaibocdfeaaDoorReader
namespace Go.Fw
section
variable {P : Program} {env : Env} {dst : Option Tmp} {ty : TypeId} {pos : String} {af : Array Edge} {gd : Option (Nat × Bool)}
/-- copy(d, s), s a row of bytes, d as long as it, or s empty. -/
theorem t_copyB {x y : Operand} {dT sT elem t : TypeId} {w : World} {b o dLen dCap sCap : Nat} {a : Option Addr} {n : Nat} {cur : List Value} {l : List UInt8} (hu : P.underlying dT = some (.slice elem)) (hs : (P.info? elem).map (·.size) = some 1)
    (hx : env.ev x = some (.slice (some ⟨b, o, none⟩) dLen dCap)) (hy : env.ev y = some (.slice a n sCap))
    (hg : w.heap[b]? = some (.cells ⟨cur⟩ t (0, 0))) (hn : l.length ≤ dLen) (hc : SlAt 1 RByte w (.slice a n sCap) l) (hfit : o + l.length ≤ cur.length) :
    OpT P env ⟨dst, .call { callee := .builtin .copy, args := #[x, y], argTypes := #[dT, sT] }, ty, pos, af, gd⟩ w fun v w' => v = .int .i64 l.length ∧ w'.heap[b]? = some (.cells ⟨splice cur o (hcells l)⟩ t (0, 0)) ∧ ExtB (fun k => k = b) w w' ∧ w.heap.size ≤ w'.heap.size := by
  obtain ⟨rfl, -⟩ := hc.at
  by_cases hne : l = []
  · subst hne
    intro a' ha next Q hnx
    have hr := run_copy_none (P := P) w dT sT ty elem (some ⟨b, o, none⟩) a dLen dCap 0 sCap hu hs (by simp)
    unfold Oper.wp execOp
    simp only [resolve, invoke, builtin, Sem.run_bind, Sem.run_pure, Result.andThen_ok, List.map_toArray, List.map_cons, List.map_nil, ha x _ hx, ha y _ hy, List.length_nil, hr]
    exact hnx _ _ ⟨rfl, by simpa [hcells, splice] using hg, ExtB.refl _ _, Nat.le_refl _⟩
  · obtain ⟨b', o', rfl, hcc⟩ := bytes_cells hc hne
    have := t_copy (P := P) (env := env) (sT := sT) (dst := dst) (ty := ty) (pos := pos) (af := af) (gd := gd) (x := x) (y := y) (cs := hcells l) hu hs hx hy hg (by rw [hcells_length]; omega) hcc (by rw [hcells_length]; exact hfit) (hcells_one l)
    rwa [hcells_length] at this
end
theorem raw32 (s : RS) : (s.raw 32).1 = [] ∨ (s.raw 32).1.length = 32 := by
  unfold RS.raw
  split
  · exact .inl rfl
  · refine .inr ?_
    simp only [List.length_take]
    omega
theorem hash_of (s : RS) : splice (List.replicate 32 (.int .u8 0)) 0 (hcells (s.raw 32).1) = hcells s.hash.1 := by
  have h : s.hash.1 = if (s.raw 32).1.length = 32 then (s.raw 32).1 else List.replicate 32 0 := rfl
  rw [h]
  rcases raw32 s with e | e
  · rw [e, if_neg (by simp)]
    rfl
  · rw [if_pos e, splice_whole (by rw [hcells_length, e]; simp)]
theorem Ext.tr {a b c : World} (h : Ext a b) (g : Ext b c) : Ext a c := ExtB.trans h g
theorem RP.st {T : TypeId} {w0 w w' : World} {rb : Nat} {s : RS} (h : RP T w0 w rb s w') : ∃ v, RSt T w0 w' rb v s := h.1
theorem RP.extB {T : TypeId} {w0 w w' : World} {rb : Nat} {s : RS} (h : RP T w0 w rb s w') : ExtB (fun k => k = rb) w w' := h.2
theorem RSt.lt {T : TypeId} {w0 w : World} {rb : Nat} {v : Value} {s : RS} (st : RSt T w0 w rb v s) : rb < w.heap.size := lt_of_at st.hr
/-- Behind a reader's call in w1, made in w, with what is new in between. -/
theorem RP.pre {T : TypeId} {w0 w w1 w' : World} {rb : Nat} {s : RS} (e : ExtB (fun k => k = rb) w w1) (h : RP T w0 w1 rb s w') : RP T w0 w rb s w' := ⟨h.1, e.trans h.2⟩
theorem RP.post {T : TypeId} {w0 w w1 w' : World} {rb : Nat} {s : RS} (h : RP T w0 w rb s w1) (e : Ext w1 w') : RP T w0 w rb s w' := by
  obtain ⟨⟨v, st⟩, hb⟩ := h
  exact ⟨⟨v, st.up e⟩, hb.trans e.toB⟩
theorem RP.of {T : TypeId} {w0 w w' : World} {rb : Nat} {v : Value} {s : RS} (st : RSt T w0 w' rb v s) (e : ExtB (fun k => k = rb) w w') : RP T w0 w rb s w' := ⟨⟨v, st⟩, e⟩
/-- Memory of the call's own turned since. -/
theorem RSt.own {T : TypeId} {w0 w w' : World} {rb : Nat} {v : Value} {s : RS} {M : Nat → Prop} (st : RSt T w0 w rb v s) (e : ExtB M w w') (hM : ∀ k, k < w0.heap.size ∨ k = rb → ¬ M k) : RSt T w0 w' rb v s :=
  ⟨e.at st.hr (hM rb (.inr rfl)), st.rest, st.cap,
   ⟨e.os.trans st.ext.os, e.tape.trans st.ext.tape, e.output.trans st.ext.output, Nat.le_trans st.ext.size e.size, fun k o hk ho => e.blk k o (hM k (.inl (lt_of_at ho))) (st.ext.blk k o hk ho)⟩, st.hrb, st.len⟩

/-- v is a row of the call's own, made since w0, that reads as l. -/
def OwnG {α : Type} (T : TypeId) (sz : Nat) (R : World → α → List Value → Prop) (w0 : World) (l : List α) (v : Value) (w' : World) : Prop :=
  ∃ xs g, Own w' T sz v l.length xs g ∧ Parts sz R w' l xs ∧ (g = -1 ∨ (w0.heap.size : Int) ≤ g) ∧ g < w'.heap.size
section
variable {α : Type} {T : TypeId} {sz : Nat} {R : World → α → List Value → Prop}
theorem OwnG.nil (w w' : World) : OwnG T sz R w [] (.slice none 0 0) w' := ⟨[], -1, own_nil _ _ _ _, trivial, .inl rfl, by omega⟩
theorem OwnG.open {w w' : World} {l : List α} {v : Value} (h : OwnG T sz R w l v w') : ∃ xs g, Own w' T sz v l.length xs g ∧ Parts sz R w' l xs ∧ xs.length = l.length * sz ∧ (g = -1 ∨ (w.heap.size : Int) ≤ g) ∧ g < w'.heap.size := by
  obtain ⟨xs, g, h1, h2, h4, h5⟩ := h
  exact ⟨xs, g, h1, h2, h1.len, h4, h5⟩
theorem OwnG.up (hR : Stable R) {w w' w'' : World} {l : List α} {v : Value} (h : OwnG T sz R w l v w') (e : Ext w' w'') : OwnG T sz R w l v w'' := by
  obtain ⟨xs, g, h1, h2, h4, h5⟩ := h
  exact ⟨xs, g, h1.ext e, h2.mono fun _ _ _ hr => hR _ _ _ _ e hr, h4, by have := e.size; omega⟩
theorem OwnG.from {w0 w w' : World} {l : List α} {v : Value} (e : w0.heap.size ≤ w.heap.size) (h : OwnG T sz R w l v w') : OwnG T sz R w0 l v w' := by
  obtain ⟨xs, g, h1, h2, h4, h5⟩ := h
  exact ⟨xs, g, h1, h2, by omega, h5⟩
theorem OwnG.keep (hR : Flat R) {w w' w'' : World} {l : List α} {v : Value} (h : OwnG T sz R w l v w') {M : Nat → Prop} (he : ExtB M w' w'') (hM : ∀ k, M k → k < w.heap.size ∨ w'.heap.size ≤ k) : OwnG T sz R w l v w'' := by
  obtain ⟨xs, g, h1, h2, h4, h5⟩ := h
  exact ⟨xs, g, h1.keep he fun k hk hm => by have := hM k hm; omega, h2.mono fun _ _ _ hr => hR _ _ _ _ hr, h4, by have := he.size; omega⟩
theorem OwnG.app (hR : Flat R) {w w1 w2 : World} {l l' : List α} {n m : Nat} {xs news : List Value} {v' : Value} {g g' : Int} (hz : w.heap.size ≤ w1.heap.size) (hg : g = -1 ∨ (w.heap.size : Int) ≤ g) (hgl : g < w1.heap.size) (hp : Parts sz R w1 l xs) (hl : xs.length = l.length * sz)
    (hp' : Parts sz R w1 l' news) (ap : Appended w1 T sz g (n + m) (xs ++ news) v' w2 g') (hn : l.length = n) (hm : l'.length = m) : OwnG T sz R w (l ++ l') v' w2 := by
  have h1 := ap.own
  rw [← hn, ← hm, ← List.length_append] at h1
  refine ⟨_, g', h1, Parts.mono (fun _ _ _ hr => hR _ _ _ _ hr) (Parts.app hp hl hp'), ?_, ?_⟩
  · rcases ap.new with h | ⟨h, _⟩ <;> omega
  · have := ap.size
    rcases ap.new with h | ⟨_, h⟩ <;> omega
theorem OwnG.sl {w w' : World} {l : List α} {v : Value} (h : OwnG T sz R w l v w') : ∃ a c, v = .slice a l.length c ∧ l.length ≤ c ∧ SlAt sz R w' (.slice a l.length c) l ∧ ∀ b o, a = some ⟨b, o, none⟩ → w.heap.size ≤ b := by
  obtain ⟨xs, g, h1, h2, h4, h5⟩ := h
  have hs := own_slat h1 h2 rfl
  rcases h1.cells with ⟨rfl, hn, _⟩ | ⟨cap, b, hb, rfl, _, hc, _⟩
  · exact ⟨none, 0, by rw [hn], by omega, by rw [hn]; exact hs, fun _ _ h => by cases h⟩
  · exact ⟨_, _, rfl, hc, hs, fun b' o h => by cases h; omega⟩
end

/-! ### Keys and roots that lie in new memory -/
def RKeysF (lo : Nat) (w : World) (k : KeysP) (cs : List Value) : Prop :=
  ∃ a c, cs = [.slice a k.keys.length c, .int .i64 k.need] ∧ SlAt 32 RHash w (.slice a k.keys.length c) k.keys ∧ k.keys.length ≤ c ∧ ∀ b o, a = some ⟨b, o, none⟩ → lo ≤ b
theorem RKeysF.keep {lo : Nat} {w w' : World} {k : KeysP} {cs : List Value} (h : RKeysF lo w k cs) {M : Nat → Prop} (e : ExtB M w w') (hM : ∀ k, M k → k < lo) : RKeysF lo w' k cs := by
  obtain ⟨a, c, h1, h2, h3, h4⟩ := h
  exact ⟨a, c, h1, h2.keep rhash_any e (fun b o ha hm => by have := hM b hm; have := h4 b o ha; omega), h3, h4⟩
theorem RKeysF.up {lo lo' : Nat} {w : World} {k : KeysP} {cs : List Value} (h : RKeysF lo w k cs) (hl : lo' ≤ lo) : RKeysF lo' w k cs := by
  obtain ⟨a, c, h1, h2, h3, h4⟩ := h
  exact ⟨a, c, h1, h2, h3, fun b o ha => by have := h4 b o ha; omega⟩
theorem RKeysF.r {lo : Nat} {w : World} {k : KeysP} {cs : List Value} (h : RKeysF lo w k cs) : RKeys w k cs := by
  obtain ⟨a, c, h1, h2, h3, _⟩ := h
  exact ⟨a, c, h1, h2, h3⟩
theorem rkeysF_of {T : TypeId} {w0 w : World} {l : List (List UInt8)} {v : Value} (n : Int) (h : OwnG T 32 RHash w0 l v w) : RKeysF w0.heap.size w ⟨l, n⟩ [v, .int .i64 n] := by
  obtain ⟨a, c, rfl, h1, h2, h3⟩ := h.sl
  exact ⟨a, c, rfl, h2, h1, h3⟩
def RRootF (lo : Nat) (w : World) (r : RootP) (cs : List Value) : Prop := ∃ ks, cs = .int .i64 r.ver :: .int .i64 r.exp :: ks ∧ ks.length = 8 ∧ r.roles.length = 4 ∧ Parts 2 (RKeysF lo) w r.roles ks
theorem RRootF.keep {lo : Nat} {w w' : World} {k : RootP} {cs : List Value} (h : RRootF lo w k cs) {M : Nat → Prop} (e : ExtB M w w') (hM : ∀ k, M k → k < lo) : RRootF lo w' k cs := by
  obtain ⟨ks, h1, h2, h3, h4⟩ := h
  exact ⟨ks, h1, h2, h3, h4.mono fun _ _ _ h => RKeysF.keep h e hM⟩
theorem RRootF.up {lo lo' : Nat} {w : World} {k : RootP} {cs : List Value} (h : RRootF lo w k cs) (hl : lo' ≤ lo) : RRootF lo' w k cs := by
  obtain ⟨ks, h1, h2, h3, h4⟩ := h
  exact ⟨ks, h1, h2, h3, h4.mono fun _ _ _ h => RKeysF.up h hl⟩
theorem RRootF.r {lo : Nat} {w : World} {k : RootP} {cs : List Value} (h : RRootF lo w k cs) : RRoot w k cs := by
  obtain ⟨ks, h1, h2, h3, h4⟩ := h
  exact ⟨ks, h1, h2, h3, h4.mono fun _ _ _ h => RKeysF.r h⟩
def RootP.zero : RootP := ⟨0, 0, List.replicate 4 ⟨[], 0⟩⟩
def rootZ : List Value := [.int .i64 0, .int .i64 0, .slice none 0 0, .int .i64 0, .slice none 0 0, .int .i64 0, .slice none 0 0, .int .i64 0, .slice none 0 0, .int .i64 0]
theorem rootZ_any (lo : Nat) (w : World) : RRootF lo w .zero rootZ :=
  have h : ∀ r, RKeysF lo w ⟨[], 0⟩ (.slice none 0 0 :: .int .i64 0 :: r |>.take 2) := fun r => ⟨none, 0, rfl, sl_nil, Nat.le_refl _, fun _ _ h => by cases h⟩
  ⟨_, rfl, rfl, rfl, h _, h _, h _, h _, trivial⟩
theorem splice_app {pre z vs : List Value} {o : Nat} (h : o = pre.length) : splice (pre ++ z) o vs = pre ++ (vs ++ z.drop vs.length) := by
  subst h
  unfold splice
  rw [List.take_left, List.drop_append, Nat.add_sub_cancel_left]
  simp
theorem hash_used {s : RS} (h : s.hash.2.bad = false) : s.hash.2.rest.length + 32 = s.rest.length := by
  have h1 := (reads_hash s h).2
  have h2 := congrArg List.length h1
  rw [List.length_append, id, hash_len] at h2
  omega
theorem fill_one {ps : List (Nat × Nat)} {n : Nat} {cs z : List Value} (hp : ps[0]? = some (0, n)) (hc : cs.length = n) (hz : z.length = n) : fillL ps [(0, .agg ⟨cs⟩)] z = some cs := by
  unfold fillL
  rw [hp]
  have h1 : (Value.agg ⟨cs⟩).cells.size = n ∧ 0 + n ≤ z.length := ⟨hc, by omega⟩
  simp only [h1, and_self, if_true]
  unfold fillL
  have h2 : z.drop (0 + n) = [] := List.drop_eq_nil_of_le (by omega)
  rw [h2]
  show some (List.take 0 z ++ cs ++ []) = some cs
  simp
theorem num_used (s : RS) : s.num.2.rest.length ≤ s.rest.length := by
  unfold RS.num
  split
  · rename_i u r hq
    obtain ⟨m, _, h, _⟩ := rdN_enc _ _ _ _ _ hq
    rw [h]
    simp
  · simp [RS.fail]
end Go.Fw
