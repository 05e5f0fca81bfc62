/- The walk by partial frames: what a call of a function of the program comes to, from a list of what some of its slots hold. -/
import Derived.WalkKit
import Derived.OrdersHeld
namespace Go.Fw

/-- What some slots hold. -/
abbrev Env := List (Nat × Value)
def Env.get : Env → Nat → Option Value
  | [], _ => none
  | (k, v) :: r, t => bif Nat.beq k t then some v else Env.get r t
def Env.ev (env : Env) : Operand → Option Value
  | .tmp t => env.get t
  | .const v => some v
  | .global g => some (.pointer (some ⟨g, 0, none⟩))
  | .func f => some (.func (.func f) #[] #[])
def Env.evs (env : Env) : List Operand → Option (List Value)
  | [] => some []
  | x :: r => match env.ev x with
    | none => none
    | some v => match Env.evs env r with
      | none => none
      | some l => some (v :: l)
def Env.evps (env : Env) : List (Nat × Operand) → Option (List (Nat × Value))
  | [] => some []
  | (i, x) :: r => match env.ev x with
    | none => none
    | some v => match Env.evps env r with
      | none => none
      | some l => some ((i, v) :: l)
def Env.le : Env → Env → Prop
  | [], _ => True
  | (t, v) :: r, e => e.get t = some v ∧ Env.le r e
def Env.of : Nat → List Value → Env
  | _, [] => []
  | i, v :: r => (i, v) :: Env.of (i + 1) r

structure Fits (n : Nat) (env : Env) (a : Act) : Prop where
  size : a.tmps.size = n
  get : ∀ t v, env.get t = some v → a.tmps[t]? = some v
  defers : a.defers = []

theorem Fits.ev {n : Nat} {env : Env} {a : Act} (h : Fits n env a) {x : Operand} {v : Value} (hx : env.ev x = some v) : a.eval x = v := by
  cases x with
  | tmp t =>
    have := h.get t v hx
    simp [Act.eval, this]
  | const u => simpa [Env.ev, Act.eval] using hx
  | global g => simpa [Env.ev, Act.eval] using hx
  | func f => simpa [Env.ev, Act.eval] using hx

theorem Fits.evs {n : Nat} {env : Env} {a : Act} (h : Fits n env a) : ∀ {xs : List Operand} {vs : List Value}, env.evs xs = some vs → xs.map a.eval = vs
  | [], vs, e => by simp [Env.evs] at e; simp [e]
  | x :: r, vs, e => by
    unfold Env.evs at e
    split at e
    · cases e
    · rename_i v hv
      split at e
      · cases e
      · rename_i l hl
        cases e
        simp [h.ev hv, Fits.evs h hl]

theorem Fits.evps {n : Nat} {env : Env} {a : Act} (h : Fits n env a) : ∀ {xs : List (Nat × Operand)} {vs : List (Nat × Value)}, env.evps xs = some vs → (xs.map fun (i, x) => (i, a.eval x)) = vs
  | [], vs, e => by simp [Env.evps] at e; simp [e]
  | (i, x) :: r, vs, e => by
    unfold Env.evps at e
    split at e
    · cases e
    · rename_i v hv
      split at e
      · cases e
      · rename_i l hl
        cases e
        simp [h.ev hv, Fits.evps h hl]

theorem Fits.put {n : Nat} {env : Env} {a : Act} (h : Fits n env a) {d : Nat} (hd : d < n) (v : Value) : Fits n ((d, v) :: env) (a.put (some d) v) := by
  refine ⟨by simp [Act.put, h.size], fun t u ht => ?_, h.defers⟩
  unfold Env.get at ht
  cases hb : Nat.beq d t with
  | true =>
    have e : d = t := Nat.eq_of_beq_eq_true hb
    subst e
    rw [hb] at ht
    simp only [cond_true, Option.some.injEq] at ht
    subst ht
    simp [Act.put, h.size, hd]
  | false =>
    have e : d ≠ t := Nat.ne_of_beq_eq_false hb
    rw [hb] at ht
    simp only [cond_false] at ht
    simp [Act.put, Array.getElem?_setIfInBounds_ne e, h.get t u ht]

theorem Fits.put_none {n : Nat} {env : Env} {a : Act} (h : Fits n env a) (v : Value) : Fits n env (a.put none v) := h

theorem Env.get_of_le : ∀ {e e' : Env}, Env.le e e' → ∀ {t v}, e.get t = some v → e'.get t = some v
  | [], _, _, t, v, h => by simp [Env.get] at h
  | (k, u) :: r, e', hle, t, v, h => by
    unfold Env.get at h
    cases hb : Nat.beq k t with
    | true =>
      have e : k = t := Nat.eq_of_beq_eq_true hb
      subst e
      rw [hb] at h
      simp only [cond_true, Option.some.injEq] at h
      subst h
      exact hle.1
    | false =>
      rw [hb] at h
      simp only [cond_false] at h
      exact Env.get_of_le hle.2 h

theorem Fits.le {n : Nat} {e e' : Env} {a : Act} (h : Fits n e' a) (hle : Env.le e e') : Fits n e a :=
  ⟨h.size, fun _ _ ht => h.get _ _ (Env.get_of_le hle ht), h.defers⟩

/-- From here on the call returns, and R holds of what it hands back and of the world behind it. -/
def Run (P : Program) (f : FuncId) (n : Nat) (todo : List Item) (env : Env) (w : World) (R : Value → World → Prop) : Prop :=
  ∀ (b : Frame) (a : Act) (cs : List Frame), b.fn = f → b.kind = .normal → Fits n env a →
    ∃ v w' fr, R v w' ∧ Steps P (lone (b.at a todo) cs w) (lone fr cs w') ∧ fr.fn = f ∧ fr.leaving P w' (.returned v)

/-- A call returns, and R holds. -/
def Ret (P : Program) (f : FuncId) (args : List Value) (w : World) (R : Value → World → Prop) : Prop :=
  Calls P f ⟨args⟩ w fun e w' => ∃ v, e = .returned v ∧ R v w'

theorem Ret.mono {P : Program} {f : FuncId} {args : List Value} {w : World} {R R' : Value → World → Prop} (h : Ret P f args w R) (hr : ∀ v w', R v w' → R' v w') : Ret P f args w R' :=
  Calls.mono h fun _ _ ⟨v, he, hv⟩ => ⟨v, he, hr _ _ hv⟩

theorem fits_of : ∀ (l : List Value) (i n : Nat) (pre : List Value), pre.length = i → i + l.length ≤ n →
    ∀ t v, (Env.of i l).get t = some v → ((pre ++ l).toArray ++ Array.replicate (n - (pre ++ l).toArray.size) undef)[t]? = some v
  | [], _, _, _, _, _, t, v, h => by simp [Env.of, Env.get] at h
  | x :: r, i, n, pre, hp, hl, t, v, h => by
    unfold Env.of Env.get at h
    cases hb : Nat.beq i t with
    | true =>
      have e : i = t := Nat.eq_of_beq_eq_true hb
      rw [hb] at h
      simp only [cond_true, Option.some.injEq] at h
      subst h e
      have h1 : (pre ++ x :: r)[i]? = some x := by rw [List.getElem?_append_right (by omega)]; simp [hp]
      rw [Array.getElem?_append_left (by simp at hl ⊢; omega)]
      simpa using h1
    | false =>
      rw [hb] at h
      simp only [cond_false] at h
      have := fits_of r (i + 1) n (pre ++ [x]) (by simp [hp]) (by simp at hl; omega) t v h
      simpa using this

theorem ret_of_run {P : Program} {f : FuncId} {fn : Func} {c : Code} {n : Nat} {args : List Value} {w : World} {R : Value → World → Prop}
    (hf : P.funcs[f]? = some fn) (hb : fn.body = some c) (hn : fn.ntmps = n) (hl : Nat.ble args.length n = true)
    (h : Run P f n [.code c] (Env.of 0 args) w R) : Ret P f args w R := by
  intro cs
  let b : Frame := { (default : Frame) with fn := f, kind := .normal }
  have henter : Frame.enter P f ⟨args⟩ .normal =
      b.at { tmps := ⟨args⟩ ++ Array.replicate (fn.ntmps - (Array.mk args).size) undef, defers := [] } [.code c] := by
    simp [Frame.enter, Frame.at, hf, hb, b]
  have hle : args.length ≤ n := Nat.le_of_ble_eq_true hl
  obtain ⟨v, w', fr, hR, hs, hfn, hlv⟩ := h b { tmps := ⟨args⟩ ++ Array.replicate (fn.ntmps - (Array.mk args).size) undef, defers := [] } cs rfl rfl
    ⟨by simp [hn]; omega, fun t v ht => by
      have := fits_of args 0 n [] rfl (by omega) t v ht
      simpa [hn] using this, rfl⟩
  exact ⟨.returned v, w', fr, ⟨v, rfl, hR⟩, by rw [henter]; exact hs, hfn, hlv⟩

section
variable {P : Program} {f : FuncId} {n : Nat} {k : List Item} {env : Env} {w : World} {R : Value → World → Prop}

theorem Run.mono {todo : List Item} {R' : Value → World → Prop} (h : Run P f n todo env w R) (hr : ∀ v w', R v w' → R' v w') : Run P f n todo env w R' :=
  fun b a cs h1 h2 h3 => let ⟨v, w', fr, r, rest⟩ := h b a cs h1 h2 h3; ⟨v, w', fr, hr _ _ r, rest⟩

theorem Run.le {todo : List Item} {e' : Env} (h : Run P f n todo e' w R) (hle : Env.le e' env) : Run P f n todo env w R :=
  fun b a cs h1 h2 h3 => h b a cs h1 h2 (h3.le hle)

theorem run_step {todo todo' : List Item} (hs : ∀ (b : Frame) (a : Act) (cs : List Frame), b.fn = f → Fits n env a → step P (lone (b.at a todo) cs w) = .next (lone (b.at a todo') cs w))
    (h : Run P f n todo' env w R) : Run P f n todo env w R :=
  fun b a cs h1 h2 h3 => let ⟨v, w', fr, r, s, l⟩ := h b a cs h1 h2 h3; ⟨v, w', fr, r, .head (hs b a cs h1 h3) s, l⟩

theorem run_seq {x y : Code} (h : Run P f n (.code x :: .code y :: k) env w R) : Run P f n (.code (.seq x y) :: k) env w R := run_step (fun _ _ _ _ _ => step_seq) h
theorem run_skip (h : Run P f n k env w R) : Run P f n (.code .skip :: k) env w R := run_step (fun _ _ _ _ _ => step_skip) h
theorem run_label {l : Nat} (h : Run P f n k env w R) : Run P f n (.code (.label l) :: k) env w R := run_step (fun _ _ _ _ _ => step_label) h
theorem run_inBlock {id : Nat} (h : Run P f n k env w R) : Run P f n (.inBlock id :: k) env w R := run_step (fun _ _ _ _ _ => step_inBlock) h
theorem run_block {id : Nat} {c : Code} (h : Run P f n (.code c :: .inBlock id :: k) env w R) : Run P f n (.code (.block id c) :: k) env w R := run_step (fun _ _ _ _ _ => step_block) h
theorem run_exit {id : Nat} {k' : List Item} (hk : exitTo id k = some k') (h : Run P f n k' env w R) : Run P f n (.code (.exit id) :: k) env w R := run_step (fun _ _ _ _ _ => step_exit hk) h
theorem run_cond {c : Operand} {x y : Code} {t : Bool} (hc : env.ev c = some (.bool t)) (h : Run P f n (.code (if t then x else y) :: k) env w R) : Run P f n (.code (.cond c x y) :: k) env w R :=
  run_step (fun _ _ _ _ hf => step_cond (hf.ev hc)) h
theorem run_cond_true {c : Operand} {x y : Code} {t : Bool} (hc : env.ev c = some (.bool t)) (ht : t = true) (h : Run P f n (.code x :: k) env w R) : Run P f n (.code (.cond c x y) :: k) env w R :=
  run_cond hc (by rw [ht]; exact h)
theorem run_cond_false {c : Operand} {x y : Code} {t : Bool} (hc : env.ev c = some (.bool t)) (ht : t = false) (h : Run P f n (.code y :: k) env w R) : Run P f n (.code (.cond c x y) :: k) env w R :=
  run_cond hc (by rw [ht]; exact h)
theorem run_cond_split {c : Operand} {x y : Code} {t : Bool} (hc : env.ev c = some (.bool t)) (h1 : t = true → Run P f n (.code x :: k) env w R) (h2 : t = false → Run P f n (.code y :: k) env w R) : Run P f n (.code (.cond c x y) :: k) env w R := by
  cases t
  · exact run_cond_false hc rfl (h2 rfl)
  · exact run_cond_true hc rfl (h1 rfl)
theorem run_dcond {c : Operand} {x y : Code} {p : Prop} [Decidable p] (hc : env.ev c = some (.bool (decide p))) (h1 : p → Run P f n (.code x :: k) env w R) (h2 : ¬ p → Run P f n (.code y :: k) env w R) : Run P f n (.code (.cond c x y) :: k) env w R :=
  run_cond_split hc (fun h => h1 (of_decide_eq_true h)) (fun h => h2 (of_decide_eq_false h))
theorem run_inLoop {c : Code} (h : Run P f n (.code c :: .inLoop c :: k) env w R) : Run P f n (.inLoop c :: k) env w R := run_step (fun _ _ _ _ _ => step_inLoop) h
theorem run_loop1 {c : Code} (h : Run P f n (.code c :: .inLoop c :: k) env w R) : Run P f n (.code (.loop c) :: k) env w R := run_step (fun _ _ _ _ _ => step_loop) h

/-- A loop: ι is what turns from round to round, E the slots that are read later, J what holds at each round's head, μ goes down. -/
theorem run_loop {ι : Type} (E : ι → Env) (J : ι → World → Prop) (μ : ι → Nat) (i0 : ι) {c : Code} (hle : Env.le (E i0) env) (hJ : J i0 w)
    (round : ∀ i w, J i w → (∀ i' w' env', μ i' < μ i → Env.le (E i') env' → J i' w' → Run P f n (.inLoop c :: k) env' w' R) → Run P f n (.code c :: .inLoop c :: k) (E i) w R) :
    Run P f n (.code (.loop c) :: k) env w R := by
  have key : ∀ m i w, μ i = m → J i w → Run P f n (.code c :: .inLoop c :: k) (E i) w R := by
    intro m
    induction m using Nat.strongRecOn with
    | _ m ih =>
      intro i w hm hJ
      exact round i w hJ fun i' w' env' hlt hle hJ' => run_inLoop ((ih _ (hm ▸ hlt) i' w' rfl hJ').le hle)
  exact run_loop1 ((key _ i0 w rfl hJ).le hle)

/-- A place where ways meet: what follows is walked once. -/
theorem run_cut1 {ι : Type} (E : ι → Env) (J : ι → World → Prop) {a c : Code} (h1 : ∀ i w, J i w → Run P f n (.code c :: k) (E i) w R)
    (h2 : (∀ i w env, Env.le (E i) env → J i w → Run P f n (.code c :: k) env w R) → Run P f n (.code a :: .code c :: k) env w R) :
    Run P f n (.code (.seq a c) :: k) env w R :=
  run_seq (h2 fun i w env hle hJ => (h1 i w hJ).le hle)
theorem run_cut2 {ι : Type} (E : ι → Env) (J : ι → World → Prop) {a b c : Code} (h1 : ∀ i w, J i w → Run P f n (.code c :: k) (E i) w R)
    (h2 : (∀ i w env, Env.le (E i) env → J i w → Run P f n (.code c :: k) env w R) → Run P f n (.code a :: .code (.seq b c) :: k) env w R) :
    Run P f n (.code (.seq a (.seq b c)) :: k) env w R :=
  run_seq (h2 fun i w env hle hJ => (h1 i w hJ).le hle)
theorem leaving_of {fn : Func} {a : Act} {b : Frame} {todo : List Item} {v : Value} (hb : b.fn = f) (hk : b.kind = .normal) (hf : P.funcs[f]? = some fn) (hd : a.defers = [])
    (hr : (results fn a.tmps).run P w = .ok v w) : ({ b.at a todo with mode := .returning } : Frame).leaving P w (.returned v) :=
  ⟨rfl, hd, hk, fn, by simpa [Frame.at, hb] using hf, hr⟩

theorem run_ret_any {fn : Func} {v : Value} (hf : P.funcs[f]? = some fn) (hr : ∀ a : Act, Fits n env a → (results fn a.tmps).run P w = .ok v w) (h : R v w) : Run P f n (.code .ret :: k) env w R :=
  fun b a cs h1 h2 h3 => ⟨v, w, _, h, .one step_ret, h1, leaving_of h1 h2 hf h3.defers (hr a h3)⟩
theorem run_end_any {fn : Func} {v : Value} (hf : P.funcs[f]? = some fn) (hr : ∀ a : Act, Fits n env a → (results fn a.tmps).run P w = .ok v w) (h : R v w) : Run P f n [] env w R :=
  fun b a cs h1 h2 h3 => ⟨v, w, _, h, .one step_end, h1, leaving_of h1 h2 hf h3.defers (hr a h3)⟩

theorem res1 {fn : Func} {t : Tmp} {v : Value} (hr : fn.results = #[.tmp t]) (hv : env.get t = some v) : ∀ a : Act, Fits n env a → (results fn a.tmps).run P w = .ok v w := by
  intro a h
  rw [results_tmp hr]
  simp [h.get t v hv]
theorem res0 {fn : Func} (hr : fn.results = #[]) : ∀ a : Act, Fits n env a → (results fn a.tmps).run P w = .ok (.tuple #[]) w := by
  intro a h
  rw [results_none hr]
theorem res2 {fn : Func} {t t' : Tmp} {v v' : Value} (hr : fn.results = #[.tmp t, .tmp t']) (hv : env.get t = some v) (hv' : env.get t' = some v') : ∀ a : Act, Fits n env a → (results fn a.tmps).run P w = .ok (.tuple #[v, v']) w := by
  intro a h
  rw [results_tmp2 hr]
  simp [h.get t v hv, h.get t' v' hv']
theorem res3 {fn : Func} {t t' t'' : Tmp} {v v' v'' : Value} (hr : fn.results = #[.tmp t, .tmp t', .tmp t'']) (hv : env.get t = some v) (hv' : env.get t' = some v') (hv'' : env.get t'' = some v'') :
    ∀ a : Act, Fits n env a → (results fn a.tmps).run P w = .ok (.tuple #[v, v', v'']) w := by
  intro a h
  simp [results, hr, h.get t v hv, h.get t' v' hv', h.get t'' v'' hv'']

end
end Go.Fw
