/- The walk by partial frames: a region whose order is open, where at some places either of two operations may come up. -/
import Derived.Test.YtcmbiaibocdfeaaDoorFwB
namespace Go.Fw
/-- Orders: one, or a begin and two ways to go on, each with an operation of its own first. -/
inductive OT where
  | seq (ord : List (Bool × Nat))
  | alt (pre : List (Bool × Nat)) (t u : OT)
def hdL : List (Bool × Nat) → Option Nat
  | (false, i) :: _ => some i
  | _ => none
def OT.hd : OT → Option Nat
  | .seq ord => hdL ord
  | .alt pre _ _ => hdL pre
def seqOkF (ops : Array Oper) (tl : List Nat) : List (Bool × Nat) → Bool → Array Bool → (Array Bool → Bool) → Bool
  | [], _, listed, e => e listed
  | (true, i) :: r, _, listed, e => Region.free .any ops listed i && (Region.ready .any ops listed).contains i && (waitAll ops tl i || pureAt ops i) && seqOkF ops tl r false (listed.setIfInBounds i true) e
  | (false, i) :: r, first, listed, e => (first && (Region.ready .any ops listed).contains i || Region.ready .any ops listed == [i]) && seqOkF ops tl r false (listed.setIfInBounds i true) e
def treeOk (ops : Array Oper) (tl : List Nat) : OT → Nat → Bool → Array Bool → Bool
  | .seq ord, m, first, listed => Nat.beq ord.length m && seqOkF ops tl ord first listed fun l => (Region.ready .any ops l).isEmpty
  | .alt pre t u, m, first, listed => Nat.ble pre.length m && seqOkF ops tl pre first listed fun l =>
      (match t.hd, u.hd with | some i, some j => Region.ready .any ops l == [i, j] | _, _ => false) && treeOk ops tl t (m - pre.length) true l && treeOk ops tl u (m - pre.length) true l
def drawOkT (n : Nat) (ops : Array Oper) (tl : List Nat) (t : OT) : Bool :=
  Region.noSelect ops && dstOk n ops.toList && treeOk ops tl t ops.size false (Array.replicate ops.size false)

section
variable {P : Program} {f : FuncId} {n : Nat} {k : List Item} {env : Env} {w : World} {R : Value → World → Prop} {ops : Array Oper}
def RunT (P : Program) (n : Nat) (ops : Array Oper) (S : World → Prop) (tl : List Nat) : OT → (Z : Env → World → Prop) → Env → World → Prop
  | .seq ord, Z, env, w => RunZ P n ops S tl ord Z env w
  | .alt pre t u, Z, env, w => RunZ P n ops S tl pre (fun env w => RunT P n ops S tl t Z env w ∧ RunT P n ops S tl u Z env w) env w

theorem wp_QZ {o : Oper} {a : Act} {w : World} {K : Act → World → Prop} {Z Z' : Env → World → Prop} (h : o.wp P a w K (QZ n Z')) : o.wp P a w K (QZ n Z) := by
  unfold Oper.wp Oper.upon at *
  split at h
  · exact h
  · exact h
  · exact h
  · refine Calls.mono h fun e w' he => ?_
    cases e with
    | returned v => exact he
    | panicked c => exact he.elim
    | outgrown => obtain ⟨_, _, hh⟩ := he; exact hh.elim
  · exact h
  · exact h.elim
  · exact h.elim
theorem wpOp_QZ {i : Nat} {K : Act → World → Prop} {a : Act} {w : World} {Z Z' : Env → World → Prop} (h : wpOp P ops (QZ n Z') i K a w) : wpOp P ops (QZ n Z) i K a w := by
  unfold wpOp at *
  split
  · simpa [*] using h
  · rename_i o ho
    simp only [ho] at h
    split
    · rename_i hw
      rw [if_pos hw] at h
      rcases h with h | ⟨_, _, _, h⟩
      · exact .inl (wp_QZ h)
      · exact h.elim
    · rename_i hw
      rw [if_neg hw] at h
      exact h
variable {S : World → Prop} {tl : List Nat} {Z Z' : Env → World → Prop}
theorem of_seqF (hs : Region.noSelect ops = true) {m : Nat} {e : Array Bool → Bool} (hend : ∀ l a w, Closed ops l → e l = true → QZ n Z' .normal a w → wpAnyG P ops (QZ n Z) S (fun i => !tl.contains i) m l a w) :
    ∀ (ord : List (Bool × Nat)) (listed : Array Bool) (a : Act) (w : World), Closed ops listed → seqOkF ops tl ord false listed e = true → heldSeq P ops (QZ n Z') S tl ord a w → wpAnyG P ops (QZ n Z) S (fun i => !tl.contains i) (ord.length + m) listed a w
  | [], listed, a, w, hcl, hok, h => by rw [List.length_nil, Nat.zero_add]; exact hend listed a w hcl hok h
  | (true, i) :: r, listed, a, w, hcl, hok, h => by
    simp only [seqOkF, Bool.and_eq_true] at hok
    obtain ⟨o, v, hi, hy, hS, hr⟩ := h
    have hrdy : i ∈ Region.ready .any ops listed := by simpa using hok.1.1.2
    rw [show ((true, i) :: r).length + m = (r.length + m) + 1 by simp only [List.length_cons]; omega]
    rcases Bool.or_eq_true _ _ ▸ hok.1.2 with hw | hw
    · refine wpAnyG_first hi (Region.noSelect_spec hs) (fun c a w hp => hp.elim) (fun j hp => ?_) _ listed a w hcl (Region.free_spec hi hok.1.1.1) hrdy hy hS (of_seqF hs hend r _ _ _ (closed_set hcl hrdy) hok.2 hr)
      unfold waitAll at hw
      rw [List.all_eq_true] at hw
      exact hw j (by simpa using hp)
    · have hp : pureOp o.op = true := by unfold pureAt at hw; rw [hi] at hw; exact hw
      have hy' : YieldsIf P ops (fun _ => True) o v a := by
        rcases hy with ⟨h1, h2⟩ | h1
        · exact .inl ⟨h1, fun w' _ => pure_any hp (h2 w hS) w'⟩
        · exact .inr h1
      exact wpAnyG_pure hi (Region.noSelect_spec hs) (fun c a w hp => hp.elim) _ listed a w hcl (Region.free_spec hi hok.1.1.1) hrdy hy' (of_seqF hs hend r _ _ _ (closed_set hcl hrdy) hok.2 hr)
  | (false, i) :: r, listed, a, w, hcl, hok, h => by
    simp only [seqOkF, Bool.and_eq_true, Bool.false_and, Bool.false_or, beq_iff_eq] at hok
    have hrdy : i ∈ Region.ready .any ops listed := by rw [hok.1]; simp
    rw [show ((false, i) :: r).length + m = (r.length + m) + 1 by simp only [List.length_cons]; omega]
    refine ⟨fun h0 => (by rw [hok.1] at h0; cases h0), fun j hj => ?_⟩
    rw [hok.1] at hj
    obtain rfl : j = i := by simpa using hj
    exact wpOp_QZ (wpOp_mono (fun a' w' ⟨hS', h'⟩ => ⟨fun hp _ => hS' (by simpa using hp), of_seqF hs hend r _ _ _ (closed_set hcl hrdy) hok.2 h'⟩) h)
/-- The first operation of a way to go on. -/
theorem of_seqT (hs : Region.noSelect ops = true) {m : Nat} {e : Array Bool → Bool} (hend : ∀ l a w, Closed ops l → e l = true → QZ n Z' .normal a w → wpAnyG P ops (QZ n Z) S (fun i => !tl.contains i) m l a w)
    {ord : List (Bool × Nat)} {listed : Array Bool} {a : Act} {w : World} (hcl : Closed ops listed) (hok : seqOkF ops tl ord true listed e = true) (h : heldSeq P ops (QZ n Z') S tl ord a w) {i : Nat} (hi : hdL ord = some i) :
    ∃ q, ord.length + m = q + 1 ∧ wpOp P ops (QZ n Z) i (fun a' w' => ((!tl.contains i) = true → S w → S w') ∧ wpAnyG P ops (QZ n Z) S (fun i => !tl.contains i) q (listed.setIfInBounds i true) a' w') a w := by
  cases ord with
  | nil => cases hi
  | cons p r =>
    obtain ⟨b, i'⟩ := p
    cases b with
    | true => cases hi
    | false =>
      cases hi
      simp only [seqOkF, Bool.and_eq_true, Bool.true_and, Bool.or_eq_true] at hok
      have hrdy : i ∈ Region.ready .any ops listed := by
        rcases hok.1 with h1 | h1
        · simpa using h1
        · have : Region.ready .any ops listed = [i] := by simpa using h1
          rw [this]; simp
      refine ⟨r.length + m, by simp only [List.length_cons]; omega, ?_⟩
      exact wpOp_QZ (wpOp_mono (fun a' w' ⟨hS', h'⟩ => ⟨fun hp _ => hS' (by simpa using hp), of_seqF hs hend r _ _ _ (closed_set hcl hrdy) hok.2 h'⟩) h)
theorem of_tree (hs : Region.noSelect ops = true) (hd : dstOk n ops.toList = true) : ∀ (t : OT) (m : Nat) (listed : Array Bool) (a : Act) (env : Env) (w : World), Closed ops listed → Fits n env a → RunT P n ops S tl t Z env w →
    (treeOk ops tl t m false listed = true → wpAnyG P ops (QZ n Z) S (fun i => !tl.contains i) m listed a w) ∧
    (∀ i, t.hd = some i → treeOk ops tl t m true listed = true → ∃ q, m = q + 1 ∧ wpOp P ops (QZ n Z) i (fun a' w' => ((!tl.contains i) = true → S w → S w') ∧ wpAnyG P ops (QZ n Z) S (fun i => !tl.contains i) q (listed.setIfInBounds i true) a' w') a w)
  | .seq ord, m, listed, a, env, w, hcl, ha, h => by
    have hend : ∀ l a w, Closed ops l → (Region.ready .any ops l).isEmpty = true → QZ n Z .normal a w → wpAnyG P ops (QZ n Z) S (fun i => !tl.contains i) 0 l a w := fun l a w _ he hz => wpAnyG_done (by simpa using he) hz 0
    refine ⟨fun hok => ?_, fun i hi hok => ?_⟩
    · simp only [treeOk, Bool.and_eq_true] at hok
      rw [← Nat.eq_of_beq_eq_true hok.1]
      exact of_seqF hs hend ord listed a w hcl hok.2 (h hd a ha)
    · simp only [treeOk, Bool.and_eq_true] at hok
      rw [← Nat.eq_of_beq_eq_true hok.1]
      exact of_seqT hs hend hcl hok.2 (h hd a ha) hi
  | .alt pre t u, m, listed, a, env, w, hcl, ha, h => by
    have hend : ∀ l a w, Closed ops l → ((match t.hd, u.hd with | some i, some j => Region.ready .any ops l == [i, j] | _, _ => false) && treeOk ops tl t (m - pre.length) true l && treeOk ops tl u (m - pre.length) true l) = true →
        QZ n (fun env w => RunT P n ops S tl t Z env w ∧ RunT P n ops S tl u Z env w) .normal a w → wpAnyG P ops (QZ n Z) S (fun i => !tl.contains i) (m - pre.length) l a w := by
      intro l a w hcl he hz
      obtain ⟨env, ha, ht, hu⟩ := hz
      simp only [Bool.and_eq_true] at he
      obtain ⟨⟨he1, he2⟩, he3⟩ := he
      cases hti : t.hd with
      | none => rw [hti] at he1; cases he1
      | some i =>
        cases huj : u.hd with
        | none => rw [hti, huj] at he1; cases he1
        | some j =>
          rw [hti, huj] at he1
          have hrd : Region.ready .any ops l = [i, j] := by simpa using he1
          obtain ⟨q, hq, h1⟩ := (of_tree hs hd t _ l a env w hcl ha ht).2 i hti he2
          obtain ⟨q', hq', h2⟩ := (of_tree hs hd u _ l a env w hcl ha hu).2 j huj he3
          rw [hq]
          obtain rfl : q = q' := by omega
          refine ⟨fun h0 => (by rw [hrd] at h0; cases h0), fun k hk => ?_⟩
          rw [hrd] at hk
          simp only [List.mem_cons, List.not_mem_nil, or_false] at hk
          rcases hk with rfl | rfl
          · exact h1
          · exact h2
    refine ⟨fun hok => ?_, fun i hi hok => ?_⟩
    · simp only [treeOk, Bool.and_eq_true] at hok
      obtain ⟨hle, hok⟩ := hok
      rw [show m = pre.length + (m - pre.length) by have := Nat.le_of_ble_eq_true hle; omega]
      refine of_seqF hs (fun l a w h1 h2 h3 => hend l a w h1 ?_ h3) pre listed a w hcl hok (h hd a ha)
      simpa only [Bool.and_eq_true] using h2
    · simp only [treeOk, Bool.and_eq_true] at hok
      obtain ⟨hle, hok⟩ := hok
      rw [show m = pre.length + (m - pre.length) by have := Nat.le_of_ble_eq_true hle; omega]
      refine of_seqT hs (fun l a w h1 h2 h3 => hend l a w h1 ?_ h3) hcl hok (h hd a ha) hi
      simpa only [Bool.and_eq_true] using h2
theorem run_drawT {id : Nat} (hm : P.follows .mixedOrders = true) (S : World → Prop) (tl : List Nat) (t : OT) (hok : drawOkT n ops tl t = true)
    (h : ∀ w', Ext w w' → RunT P n ops S tl t (fun env w => Run P f n k env w R) env w') : Run P f n (.code (.region id ops true) :: k) env w R := by
  simp only [drawOkT, Bool.and_eq_true] at hok
  obtain ⟨⟨h1, h2⟩, h3⟩ := hok
  refine run_of_wp fun a ha => ?_
  refine wp_region_any hm (wpAny_of_G (S := S) (pre := fun i => !tl.contains i) _ _ _ _ ?_)
  exact (of_tree h1 h2 t ops.size _ a env w.drew (closed_none _) ha (h w.drew (Ext.drew w))).1 h3
theorem runt_seq {ord : List (Bool × Nat)} (h : RunZ P n ops S tl ord Z env w) : RunT P n ops S tl (.seq ord) Z env w := h
theorem runt_alt {pre : List (Bool × Nat)} {t u : OT} (h : RunZ P n ops S tl pre (fun env w => RunT P n ops S tl t Z env w ∧ RunT P n ops S tl u Z env w) env w) : RunT P n ops S tl (.alt pre t u) Z env w := h
end
end Go.Fw
