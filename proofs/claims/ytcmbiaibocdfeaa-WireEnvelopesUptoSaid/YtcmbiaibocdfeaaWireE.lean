/- Signatures, marks, envelopes: as bytes in plain lists, and in memory. -/
import Derived.Test.YtcmbiaibocdfeaaFwJ
namespace Go.Fw
structure SigP where
  leaf : Int
  chains : List (List UInt8)
  path : List (List UInt8)
structure MarkP where
  key : List UInt8
  sig : SigP
structure EnvP where
  body : List UInt8
  marks : List MarkP
def SigP.zero : SigP := ⟨0, [], []⟩
def EnvP.zero : EnvP := ⟨[], []⟩
def isSigP (s : SigP) : Bool := decide (0 ≤ s.leaf) && (decide (s.leaf < 16) && (decide (s.chains.length = 36) && decide (s.path.length = 4)))
def encSig (s : SigP) : List UInt8 := encN s.leaf ++ (s.chains ++ s.path).flatMap id
def sigB (s : SigP) : List UInt8 := if isSigP s then encSig s else []
def encMark (m : MarkP) : List UInt8 := m.key ++ encBs (sigB m.sig)
def isEnvP (e : EnvP) : Bool := decide (e.body.length ≤ 8192) && (decide (e.marks.length ≤ 4) && e.marks.all fun m => isSigP m.sig)
def encEnv (e : EnvP) : List UInt8 := encBs e.body ++ (encN e.marks.length ++ e.marks.flatMap encMark)
def RS.sig (s : RS) : SigP × RS :=
  (⟨s.num.1, (rowsA RS.hash 36 [] s.num.2).1, (rowsA RS.hash 4 [] (rowsA RS.hash 36 [] s.num.2).2).1⟩, (rowsA RS.hash 4 [] (rowsA RS.hash 36 [] s.num.2).2).2)
def decSig (b : List UInt8) : Option SigP := if (RS.sig ⟨b, false⟩).2.whole && isSigP (RS.sig ⟨b, false⟩).1 then some (RS.sig ⟨b, false⟩).1 else none
def RS.mark (s : RS) : MarkP × RS :=
  (⟨s.hash.1, (decSig s.hash.2.bytes.1).getD .zero⟩, if (decSig s.hash.2.bytes.1).isSome then s.hash.2.bytes.2 else .fail)
/-- As the reference reads a mark: that a signature is none is told apart. -/
def RS.markQ (s : RS) : MarkP × RS := (⟨s.hash.1, (decSig s.hash.2.bytes.1).getD .zero⟩, s.hash.2.bytes.2)
def badSig (s : RS) : Bool := !(decSig s.hash.2.bytes.1).isSome
def takenQ : Nat → List MarkP → RS → Bool → List MarkP × RS × Bool
  | 0, acc, s, b => (acc, s, b)
  | n + 1, acc, s, b => if s.bad = true then (acc, s, b) else takenQ n (acc ++ [(RS.markQ s).1]) (RS.markQ s).2 (b || badSig s)
def RS.env (s : RS) : EnvP × RS := (⟨s.bytes.1, (takenL RS.mark s.bytes.2.num.1.toNat [] s.bytes.2.num.2).1⟩, (takenL RS.mark s.bytes.2.num.1.toNat [] s.bytes.2.num.2).2)
def envQ (s : RS) : List MarkP × RS × Bool := takenQ (min 5 s.bytes.2.num.1.toNat) [] s.bytes.2.num.2 false
def RS.envQ (s : RS) : EnvP × RS := (⟨s.bytes.1, (Go.Fw.envQ s).1⟩, if (Go.Fw.envQ s).2.2 = true then .fail else (Go.Fw.envQ s).2.1)

theorem reads_sig : Reads RS.sig encSig := fun s h => by
  have e : RS.sig s = (⟨s.num.1, (rowsA RS.hash 36 [] s.num.2).1, (rowsA RS.hash 4 [] (rowsA RS.hash 36 [] s.num.2).2).1⟩, (rowsA RS.hash 4 [] (rowsA RS.hash 36 [] s.num.2).2).2) := rfl
  have h1 := rowsA_good reads_hash 36 [] s.num.2
  have h2 := rowsA_good reads_hash 4 [] (rowsA RS.hash 36 [] s.num.2).2
  rw [e] at h
  rw [e]
  generalize rowsA RS.hash 36 [] s.num.2 = r at h h1 h2 ⊢
  generalize rowsA RS.hash 4 [] r.2 = q at h h2 ⊢
  obtain ⟨g1, l1, g2, g3, g4⟩ := h2 h
  obtain ⟨k1, l2, k2, k3, k4⟩ := h1 g1
  obtain ⟨j1, j2⟩ := reads_num s k1
  refine ⟨j1, ?_⟩
  simp only [encSig]
  rw [j2, k4, g4, g2, k2]
  simp
theorem decSig_enc {b : List UInt8} {s : SigP} (h : decSig b = some s) : b = encSig s ∧ isSigP s = true := by
  unfold decSig at h
  split at h
  · rename_i hw
    cases h
    simp only [Bool.and_eq_true] at hw
    obtain ⟨hb, hr⟩ := whole_good hw.1
    obtain ⟨_, h2⟩ := reads_sig _ hb
    refine ⟨?_, hw.2⟩
    rw [hr] at h2
    simpa using h2
  · cases h
theorem decSig_len {b : List UInt8} : ((decSig b).getD .zero).chains.length ≤ 36 ∧ ((decSig b).getD .zero).path.length ≤ 4 := by
  cases h : decSig b with
  | none => exact ⟨by simp [SigP.zero], by simp [SigP.zero]⟩
  | some s =>
    have := (decSig_enc h).2
    unfold isSigP at this
    simp only [Bool.and_eq_true, decide_eq_true_eq] at this
    exact ⟨by show s.chains.length ≤ 36; omega, by show s.path.length ≤ 4; omega⟩
theorem sticky_bytes : Sticky RS.bytes := reads_bytes.sticky
theorem sticky_mark : Sticky RS.mark := fun s h => by
  show (if (decSig s.hash.2.bytes.1).isSome then s.hash.2.bytes.2 else RS.fail).bad = true
  split
  · exact sticky_bytes _ (reads_hash.sticky s h)
  · rfl
theorem reads_mark : Reads RS.mark encMark := fun s h => by
  have e : RS.mark s = (⟨s.hash.1, (decSig s.hash.2.bytes.1).getD .zero⟩, if (decSig s.hash.2.bytes.1).isSome then s.hash.2.bytes.2 else .fail) := rfl
  rw [e] at h
  rw [e]
  cases hd : decSig s.hash.2.bytes.1 with
  | none => rw [hd] at h; cases h
  | some sg =>
    rw [hd] at h
    obtain ⟨h1, h2⟩ := reads_bytes _ h
    obtain ⟨h3, h4⟩ := reads_hash _ h1
    refine ⟨h3, ?_⟩
    obtain ⟨h5, h6⟩ := decSig_enc hd
    show s.rest = encMark ⟨s.hash.1, sg⟩ ++ s.hash.2.bytes.2.rest
    have h7 : encMark ⟨s.hash.1, sg⟩ = s.hash.1 ++ encBs s.hash.2.bytes.1 := by
      unfold encMark sigB
      rw [h6, if_pos rfl, ← h5]
    rw [h7, h4, h2]
    simp
theorem reads_env : Reads RS.env encEnv := fun s h => by
  have e : RS.env s = (⟨s.bytes.1, (takenL RS.mark s.bytes.2.num.1.toNat [] s.bytes.2.num.2).1⟩, (takenL RS.mark s.bytes.2.num.1.toNat [] s.bytes.2.num.2).2) := rfl
  rw [e] at h
  rw [e]
  obtain ⟨h1, l, h2, h3, h4⟩ := takenL_good reads_mark _ _ _ h
  obtain ⟨h5, h6⟩ := reads_num _ h1
  obtain ⟨h7, h8⟩ := reads_bytes _ h5
  refine ⟨h7, ?_⟩
  simp only [encEnv]
  rw [h8, h6, h4, h2]
  have hn := num_nonneg s.bytes.2
  have : ((List.length ([] ++ l) : Nat) : Int) = s.bytes.2.num.1 := by simp at h3 ⊢; omega
  simp only [this]
  simp
theorem takenQ_flag : ∀ (n : Nat) (acc : List MarkP) (s : RS), (takenQ n acc s true).2.2 = true
  | 0, _, _ => rfl
  | n + 1, acc, s => by
    unfold takenQ
    split
    · rfl
    · exact takenQ_flag n _ _
theorem takenQ_close : ∀ (n : Nat) (acc : List MarkP) (s : RS), (takenQ n acc s false = ((takenL RS.mark n acc s).1, (takenL RS.mark n acc s).2, false)) ∨ ((takenQ n acc s false).2.2 = true ∧ (takenL RS.mark n acc s).2.bad = true)
  | 0, _, _ => .inl rfl
  | n + 1, acc, s => by
    unfold takenQ takenL
    cases hs : s.bad with
    | true => exact .inl rfl
    | false =>
      rw [if_neg (by simp), if_neg (by simp)]
      cases hd : decSig s.hash.2.bytes.1 with
      | none =>
        right
        have hb : badSig s = true := by unfold badSig; rw [hd]; rfl
        rw [hb]
        refine ⟨takenQ_flag _ _ _, takenL_sticky _ _ _ _ ?_⟩
        show (if (decSig s.hash.2.bytes.1).isSome then s.hash.2.bytes.2 else RS.fail).bad = true
        rw [hd]
        rfl
      | some sg =>
        have hb : badSig s = false := by unfold badSig; rw [hd]; rfl
        have hm : RS.mark s = RS.markQ s := by
          unfold RS.mark RS.markQ
          rw [hd]
          rfl
        rw [hb, hm]
        exact takenQ_close n _ _
theorem takenQ_len : ∀ (n : Nat) (acc : List MarkP) (s : RS) (b : Bool), (takenQ n acc s b).2.1.bad = true ∨ (takenQ n acc s b).1.length = acc.length + n
  | 0, acc, s, b => .inr rfl
  | n + 1, acc, s, b => by
    unfold takenQ
    cases hs : s.bad with
    | true => rw [if_pos rfl]; exact .inl hs
    | false =>
      rw [if_neg (by simp)]
      rcases takenQ_len n (acc ++ [(RS.markQ s).1]) (RS.markQ s).2 (b || badSig s) with h | h
      · exact .inl h
      · exact .inr (by rw [h]; simp; omega)
theorem takenQ_le : ∀ (n : Nat) (acc : List MarkP) (s : RS) (b : Bool), (takenQ n acc s b).1.length ≤ acc.length + n
  | 0, acc, s, b => Nat.le_refl _
  | n + 1, acc, s, b => by
    unfold takenQ
    split
    · simp only; omega
    · have := takenQ_le n (acc ++ [(RS.markQ s).1]) (RS.markQ s).2 (b || badSig s)
      simp only [List.length_append, List.length_singleton] at this
      omega
theorem envF {e : EnvP} (h : ¬ e.marks.length ≤ 4) : isEnvP e = false := by
  unfold isEnvP
  rw [decide_eq_false h]
  simp
theorem close_env : Close isEnvP RS.env RS.envQ := fun s => by
  by_cases hn : s.bytes.2.num.1.toNat ≤ 5
  · have hm : min 5 s.bytes.2.num.1.toNat = s.bytes.2.num.1.toNat := by omega
    have hq : envQ s = takenQ s.bytes.2.num.1.toNat [] s.bytes.2.num.2 false := by unfold envQ; rw [hm]
    rcases takenQ_close s.bytes.2.num.1.toNat [] s.bytes.2.num.2 with h | ⟨h1, h2⟩
    · left
      unfold RS.env RS.envQ
      rw [hq, h]
      rfl
    · right
      refine ⟨.inl h2, .inl ?_⟩
      unfold RS.envQ
      rw [hq, h1, if_pos rfl]
      rfl
  · right
    constructor
    · rcases takenL_len RS.mark s.bytes.2.num.1.toNat [] s.bytes.2.num.2 with h | h
      · exact .inl h
      · refine .inr (envF ?_)
        show ¬ (takenL RS.mark s.bytes.2.num.1.toNat [] s.bytes.2.num.2).1.length ≤ 4
        rw [h]; simp; omega
    · unfold RS.envQ
      cases hf : (envQ s).2.2 with
      | true => exact .inl rfl
      | false =>
        rcases takenQ_len (min 5 s.bytes.2.num.1.toNat) [] s.bytes.2.num.2 false with h | h
        · exact .inl h
        · refine .inr (envF ?_)
          show ¬ (takenQ (min 5 s.bytes.2.num.1.toNat) [] s.bytes.2.num.2 false).1.length ≤ 4
          rw [h]; simp; omega
theorem ok_markQ {s : RS} (h : s.ok) : (RS.markQ s).2.ok := ok_bytes (ok_hash h)
theorem sticky_envQ : Sticky RS.envQ := fun s h => by
  unfold RS.envQ
  split
  · rfl
  · rename_i hf
    have key : ∀ (n : Nat) (acc : List MarkP) (s : RS) (b : Bool), s.bad = true → (takenQ n acc s b).2.1.bad = true := by
      intro n acc s b hs
      cases n with
      | zero => exact hs
      | succ n => unfold takenQ; rw [if_pos hs]; exact hs
    exact key _ _ _ _ (reads_num.sticky _ (sticky_bytes _ h))

/-! ### In memory -/
def RSig (w : World) (s : SigP) (cs : List Value) : Prop := ∃ a c a' c', cs = [.int .i64 s.leaf, .slice a s.chains.length c, .slice a' s.path.length c'] ∧ SlAt 32 RHash w (.slice a s.chains.length c) s.chains ∧ SlAt 32 RHash w (.slice a' s.path.length c') s.path
theorem RSig.stable : Stable RSig := fun _ _ _ _ he ⟨a, c, a', c', h1, h2, h3⟩ => ⟨a, c, a', c', h1, h2.ext RHash.stable he, h3.ext RHash.stable he⟩
theorem rsig_len (w : World) (x : SigP) (cs : List Value) (h : RSig w x cs) : cs.length = 3 := by obtain ⟨_, _, _, _, rfl, _⟩ := h; rfl
theorem rsig_one {w : World} (x : SigP) (cs : List Value) (h : RSig w x cs) : ∀ v ∈ cs, v.oneCell' = true := by obtain ⟨_, _, _, _, rfl, _⟩ := h; simp
def RMark (w : World) (m : MarkP) (cs : List Value) : Prop := ∃ sc, cs = hcells m.key ++ sc ∧ m.key.length = 32 ∧ RSig w m.sig sc
theorem RMark.stable : Stable RMark := fun _ _ _ _ he ⟨sc, h1, h2, h3⟩ => ⟨sc, h1, h2, RSig.stable _ _ _ _ he h3⟩
theorem rmark_len (w : World) (x : MarkP) (cs : List Value) (h : RMark w x cs) : cs.length = 35 := by
  obtain ⟨sc, rfl, h1, h2⟩ := h
  rw [List.length_append, hcells_length, h1, rsig_len _ _ _ h2]
theorem rmark_one {w : World} (x : MarkP) (cs : List Value) (h : RMark w x cs) : ∀ v ∈ cs, v.oneCell' = true := by
  obtain ⟨sc, rfl, h1, h2⟩ := h
  intro v hv
  rcases List.mem_append.1 hv with hv | hv
  · exact hcells_one _ v hv
  · exact rsig_one _ _ h2 v hv
def REnv (w : World) (e : EnvP) (cs : List Value) : Prop := ∃ a c a' c', cs = [.slice a e.body.length c, .slice a' e.marks.length c'] ∧ SlAt 1 RByte w (.slice a e.body.length c) e.body ∧ SlAt 35 RMark w (.slice a' e.marks.length c') e.marks
theorem REnv.stable : Stable REnv := fun _ _ _ _ he ⟨a, c, a', c', h1, h2, h3⟩ => ⟨a, c, a', c', h1, h2.ext RByte.stable he, h3.ext RMark.stable he⟩
theorem renv_len {w : World} {x : EnvP} {cs : List Value} (h : REnv w x cs) : cs.length = 2 := by obtain ⟨_, _, _, _, rfl, _⟩ := h; rfl
theorem renv_one {w : World} {x : EnvP} {cs : List Value} (h : REnv w x cs) : ∀ v ∈ cs, v.oneCell' = true := by obtain ⟨_, _, _, _, rfl, _⟩ := h; simp
/-- The same of new memory. -/
def RSigG (lo : Nat) (g : Int) (w : World) (s : SigP) (cs : List Value) : Prop := ∃ v v', cs = [.int .i64 s.leaf, v, v'] ∧ SlN 32 RHash lo g w s.chains v ∧ SlN 32 RHash lo g w s.path v'
theorem RSigG.nest (lo : Nat) : Nest lo (RSigG lo) := ⟨fun ⟨v, v', h1, h2, h3⟩ e hM hg => ⟨v, v', h1, h2.step flat_hash e hM hg, h3.step flat_hash e hM hg⟩⟩
theorem RSigG.r {lo : Nat} {g : Int} {w : World} {s : SigP} {cs : List Value} (h : RSigG lo g w s cs) : RSig w s cs := by
  obtain ⟨v, v', rfl, h2, h3⟩ := h
  obtain ⟨a, c, rfl, h4, _⟩ := h2.sl
  obtain ⟨a', c', rfl, h5, _⟩ := h3.sl
  exact ⟨a, c, a', c', rfl, h4, h5⟩
theorem RSigG.up {lo lo' : Nat} {g : Int} {w : World} {s : SigP} {cs : List Value} (h : RSigG lo g w s cs) (hl : lo' ≤ lo) : RSigG lo' g w s cs := by
  obtain ⟨v, v', h1, h2, h3⟩ := h
  exact ⟨v, v', h1, h2.up hl, h3.up hl⟩
theorem rsig_zero (lo : Nat) (g : Int) (w : World) : RSigG lo g w .zero [.int .i64 0, .slice none 0 0, .slice none 0 0] := ⟨_, _, rfl, SlN.nil, SlN.nil⟩
def RMarkG (lo : Nat) (g : Int) (w : World) (m : MarkP) (cs : List Value) : Prop := ∃ sc, cs = hcells m.key ++ sc ∧ m.key.length = 32 ∧ RSigG lo g w m.sig sc
theorem RMarkG.nest (lo : Nat) : Nest lo (RMarkG lo) := ⟨fun ⟨sc, h1, h2, h3⟩ e hM hg => ⟨sc, h1, h2, (RSigG.nest lo).step h3 e hM hg⟩⟩
theorem RMarkG.r {lo : Nat} {g : Int} {w : World} {m : MarkP} {cs : List Value} (h : RMarkG lo g w m cs) : RMark w m cs := by
  obtain ⟨sc, h1, h2, h3⟩ := h
  exact ⟨sc, h1, h2, h3.r⟩
theorem RMarkG.up {lo lo' : Nat} {g : Int} {w : World} {m : MarkP} {cs : List Value} (h : RMarkG lo g w m cs) (hl : lo' ≤ lo) : RMarkG lo' g w m cs := by
  obtain ⟨sc, h1, h2, h3⟩ := h
  exact ⟨sc, h1, h2, h3.up hl⟩
theorem SlAt.keep2 {α : Type} {sz : Nat} {R : World → α → List Value → Prop} {M : Nat → Prop} {w w' : World} {a : Option Addr} {n c : Nat} {l : List α} (h : SlAt sz R w (.slice a n c) l) (he : ExtB M w w') (hm : ∀ b o, a = some ⟨b, o, none⟩ → ¬ M b) (hR : ∀ x cs, R w x cs → R w' x cs) : SlAt sz R w' (.slice a n c) l := by
  obtain ⟨a', cap', hv, h⟩ := h
  cases hv
  refine ⟨_, _, rfl, fun i x hi => ?_⟩
  obtain ⟨b, o, cs, ha, hr, hc⟩ := h i x hi
  exact ⟨b, o, cs, ha, hR _ _ hr, hc.extB he (hm b o ha)⟩
theorem SlAt.map {α : Type} {sz : Nat} {R R' : World → α → List Value → Prop} {w : World} {v : Value} {l : List α} (h : SlAt sz R w v l) (hR : ∀ x cs, R w x cs → R' w x cs) : SlAt sz R' w v l := by
  obtain ⟨a, cap, hv, h⟩ := h
  refine ⟨a, cap, hv, fun i x hi => ?_⟩
  obtain ⟨b, o, cs, ha, hr, hc⟩ := h i x hi
  exact ⟨b, o, cs, ha, hR _ _ hr, hc⟩
def REnvF (lo : Nat) (w : World) (e : EnvP) (cs : List Value) : Prop :=
  ∃ v a' c', cs = [v, .slice a' e.marks.length c'] ∧ SlN 1 RByte lo (-1) w e.body v ∧ SlAt 35 (RMarkG lo (-1)) w (.slice a' e.marks.length c') e.marks ∧ ∀ b o, a' = some ⟨b, o, none⟩ → lo ≤ b ∧ b < w.heap.size
theorem REnvF.keep {lo : Nat} {w w' : World} {x : EnvP} {cs : List Value} (h : REnvF lo w x cs) {M : Nat → Prop} (e : ExtB M w w') (hM : ∀ k, M k → k < lo ∨ w.heap.size ≤ k) : REnvF lo w' x cs := by
  obtain ⟨v, a', c', h1, h2, h3, h4⟩ := h
  have hM' : ∀ k, M k → k < lo ∨ (k : Int) = -1 ∨ w.heap.size ≤ k := fun k hk => by have := hM k hk; omega
  refine ⟨v, a', c', h1, h2.step flat_byte e hM' (.inl rfl), h3.keep2 e (fun b o ha hm => by have := hM b hm; have := h4 b o ha; omega) (fun y cs hy => (RMarkG.nest lo).keep hy e hM'), fun b o ha => by have := h4 b o ha; have := e.size; omega⟩
theorem REnvF.up {lo lo' : Nat} {w : World} {x : EnvP} {cs : List Value} (h : REnvF lo w x cs) (hl : lo' ≤ lo) : REnvF lo' w x cs := by
  obtain ⟨v, a', c', h1, h2, h3, h4⟩ := h
  exact ⟨v, a', c', h1, h2.up hl, h3.map fun _ _ h => h.up hl, fun b o ha => by have := h4 b o ha; omega⟩
theorem REnvF.r {lo : Nat} {w : World} {x : EnvP} {cs : List Value} (h : REnvF lo w x cs) : REnv w x cs := by
  obtain ⟨v, a', c', h1, h2, h3, h4⟩ := h
  obtain ⟨a, c, rfl, h5, _⟩ := h2.sl
  exact ⟨a, c, a', c', h1, h5, h3.map fun _ _ h => h.r⟩
def envZ : List Value := [.slice none 0 0, .slice none 0 0]
theorem envZ_any (lo : Nat) (w : World) : REnvF lo w .zero envZ := ⟨_, none, 0, rfl, SlN.nil, sl_nil, fun _ _ h => by cases h⟩
theorem renvF_of {T : TypeId} {lo : Nat} {w0 w : World} {b : List UInt8} {v : Value} {l : List MarkP} {v' : Value} (h : SlN 1 RByte lo (-1) w b v) (hn : OwnN T 35 (RMarkG lo) w0 l v' w) (hl : lo ≤ w0.heap.size) : REnvF lo w ⟨b, l⟩ [v, v'] := by
  obtain ⟨xs, g, o1, hp, hg, hgl⟩ := hn
  have hp' : Parts 35 (RMarkG lo (-1)) w l xs := hp.mono fun _ _ _ hr => (RMarkG.nest lo).re hr (.inr (by decide))
  have hs := own_slat o1 hp' rfl
  rcases o1.cells with ⟨rfl, hn0, _⟩ | ⟨cap, b', hb, rfl, _, hc, hlt⟩
  · refine ⟨v, none, 0, ?_, h, ?_, fun _ _ h => by cases h⟩
    · show [v, Value.slice none 0 0] = [v, .slice none l.length 0]
      rw [hn0]
    · show SlAt 35 _ w (.slice none l.length 0) l
      rw [hn0]; exact hs
  · exact ⟨v, _, cap, rfl, h, hs, fun b o ha => by cases ha; exact ⟨by omega, hlt⟩⟩
theorem rmark_seg {k : List UInt8} {sc : List Value} (h : k.length = 32) : sc = ((hcells k ++ sc).drop 32).take sc.length := by
  rw [List.drop_left' (by rw [hcells_length, h]), List.take_length]
theorem rmark_key {k : List UInt8} {sc : List Value} (h : k.length = 32) : hcells k = ((hcells k ++ sc).drop 0).take (hcells k).length := by
  rw [List.drop_zero, List.take_left]
theorem idx_all {α : Type} {p : α → Bool} {l : List α} : decide (0 ≤ idxOf (fun x => !p x) l) = !(l.all p) := by
  have key : 0 ≤ idxOf (fun x => !p x) l ↔ l.all p = false := by
    unfold idxOf
    cases hq : l.findIdx? (fun x => !p x) with
    | none =>
      rw [List.findIdx?_eq_none_iff] at hq
      have : l.all p = true := by rw [List.all_eq_true]; intro x hx; simpa using hq x hx
      rw [this]
      constructor
      · intro h; exact absurd h (by decide)
      · intro h; cases h
    | some i =>
      rw [List.findIdx?_eq_some_iff_getElem] at hq
      obtain ⟨hi, h1, _⟩ := hq
      constructor
      · intro _; exact all_no hi (by simpa using h1)
      · intro _; show (0 : Int) ≤ (i : Int); omega
  cases hl : l.all p with
  | true => rw [hl] at key; exact decide_eq_false (fun h => by cases key.1 h)
  | false => rw [hl] at key; exact decide_eq_true (key.2 rfl)
theorem OwnL.g {α : Type} {T : TypeId} {sz : Nat} {R : World → α → List Value → Prop} {w w' : World} {l : List α} {v : Value} (h : OwnL T sz R w l v w') : OwnG T sz R w l v w' := by
  obtain ⟨xs, g, h1, h2, _, h4, h5⟩ := h
  exact ⟨xs, g, h1, h2, h4, h5⟩
theorem OwnG.l {α : Type} {T : TypeId} {sz : Nat} {R : World → α → List Value → Prop} {w w' : World} {l : List α} {v : Value} (h : OwnG T sz R w l v w') (e : Ext w w') : OwnL T sz R w l v w' := by
  obtain ⟨xs, g, h1, h2, h4, h5⟩ := h
  exact ⟨xs, g, h1, h2, e, h4, h5⟩
/-- What a writer's calls turn is none of what was there at its begin. -/
theorem WSt.base {T e : TypeId} {w0 w w' : World} {wb : Nat} {g : Int} {v : Value} {l : List UInt8} (st : WSt T e w0 w wb g v l) (he : ExtB (fun k => k = wb ∨ (k : Int) = g) w w') : Ext w0 w' :=
  st.ext.new he fun k hk => by
    have := st.hwb
    rcases hk with rfl | hk
    · exact this
    · rcases st.hg with h | h <;> omega
def RHs (w : World) (l : List (List UInt8)) (cs : List Value) : Prop := ∃ a c, cs = [.slice a l.length c] ∧ SlAt 32 RHash w (.slice a l.length c) l
theorem RHs.stable : Stable RHs := fun _ _ _ _ he ⟨a, c, h1, h2⟩ => ⟨a, c, h1, h2.ext RHash.stable he⟩
theorem flat_flat (l : List (List (List UInt8))) (k : Nat) (hk : k < l.length) : (l.take (k + 1)).flatten = (l.take k).flatten ++ l[k] := by
  rw [List.take_add_one, List.getElem?_eq_getElem hk, List.flatten_append]
  simp
theorem OwnG.slat {α : Type} {T : TypeId} {sz : Nat} {R : World → α → List Value → Prop} {w w' : World} {l : List α} {v : Value} (h : OwnG T sz R w l v w') : SlAt sz R w' v l := by
  obtain ⟨a, c, rfl, _, h, _⟩ := h.sl
  exact h
theorem takenL_cnt {α : Type} {take : RS → α × RS} (h : ∀ s, (take s).2.bad = false → (take s).2.rest.length < s.rest.length) : ∀ (n : Nat) (acc : List α) (s : RS), (takenL take n acc s).1.length ≤ acc.length + s.rest.length + 1
  | 0, acc, s => by unfold takenL; simp only; omega
  | n + 1, acc, s => by
    unfold takenL
    split
    · simp only; omega
    · cases hb : (take s).2.bad with
      | true =>
        have : takenL take n (acc ++ [(take s).1]) (take s).2 = (acc ++ [(take s).1], (take s).2) := by
          cases n with
          | zero => rfl
          | succ n => unfold takenL; rw [if_pos hb]
        rw [this]
        simp only [List.length_append, List.length_singleton]
        omega
      | false =>
        have h1 := takenL_cnt h n (acc ++ [(take s).1]) (take s).2
        have h2 := h s hb
        simp only [List.length_append, List.length_singleton] at h1
        omega
theorem mark_used {s : RS} (h : (RS.mark s).2.bad = false) : (RS.mark s).2.rest.length < s.rest.length := by
  have h1 := (reads_mark s h).2
  have h2 := congrArg List.length h1
  have h3 : (RS.mark s).1.key.length = 32 := hash_len s
  unfold encMark at h2
  simp only [List.length_append, h3] at h2
  omega
theorem raw_used (s : RS) (n : Int) : (s.raw n).2.rest.length ≤ s.rest.length := by
  unfold RS.raw
  split
  · simp [RS.fail]
  · simp only [List.length_drop]; omega
theorem bytes_used (s : RS) : s.bytes.2.rest.length ≤ s.rest.length := Nat.le_trans (raw_used _ _) (num_used s)
theorem env_cnt (s : RS) : (RS.env s).1.marks.length ≤ s.rest.length + 1 := by
  have h1 := takenL_cnt (take := RS.mark) (fun _ => mark_used) s.bytes.2.num.1.toNat [] s.bytes.2.num.2
  have h2 := num_used s.bytes.2
  have h3 := bytes_used s
  simp only [List.length_nil] at h1
  show (takenL RS.mark s.bytes.2.num.1.toNat [] s.bytes.2.num.2).1.length ≤ _
  omega
theorem SlN.cast {β : Type} {sz : Nat} {S : World → β → List Value → Prop} {lo : Nat} {g g' : Int} {w : World} {l : List β} {v : Value} (h : SlN sz S lo g w l v) (hg : g' < lo) : SlN sz S lo g' w l v := by
  obtain ⟨a, c, h1, h2, h3, h4⟩ := h
  exact ⟨a, c, h1, h2, h3, fun b o ha => by have := h4 b o ha; omega⟩
theorem RSigG.cast {lo : Nat} {g g' : Int} {w : World} {s : SigP} {cs : List Value} (h : RSigG lo g w s cs) (hg : g' < lo) : RSigG lo g' w s cs := by
  obtain ⟨v, v', h1, h2, h3⟩ := h
  exact ⟨v, v', h1, h2.cast hg, h3.cast hg⟩
theorem RMarkG.cast {lo : Nat} {g g' : Int} {w : World} {m : MarkP} {cs : List Value} (h : RMarkG lo g w m cs) (hg : g' < lo) : RMarkG lo g' w m cs := by
  obtain ⟨sc, h1, h2, h3⟩ := h
  exact ⟨sc, h1, h2, h3.cast hg⟩
theorem fill_head {ps : List (Nat × Nat)} {n : Nat} {cs z : List Value} (hp : ps[0]? = some (0, n)) (hc : cs.length = n) (hz : n ≤ z.length) : fillL ps [(0, .agg ⟨cs⟩)] z = some (cs ++ z.drop n) := by
  unfold fillL
  rw [hp]
  have h1 : (Value.agg ⟨cs⟩).cells.size = n ∧ 0 + n ≤ z.length := ⟨hc, by omega⟩
  simp only [h1, and_self, if_true]
  unfold fillL
  rw [Nat.zero_add]
  show some (List.take 0 z ++ cs ++ List.drop n z) = _
  simp
theorem ownG_of {T : TypeId} {w w' : World} {bs : List UInt8} {v : Value} {g : Int} (h : Own w' T 1 v bs.length (hcells bs) g) (hg : g = -1 ∨ (w.heap.size : Int) ≤ g) (hgl : g < w'.heap.size) : OwnG T 1 RByte w bs v w' := ⟨_, g, h, parts_bytes bs, hg, hgl⟩
theorem bytes_len (s : RS) : s.bytes.1.length ≤ s.rest.length := Nat.le_trans (raw_len_le _ _) (num_used s)
theorem hash_rest (s : RS) : s.hash.2.rest.length ≤ s.rest.length := raw_used s 32
theorem mark0_one (k : List UInt8) : ∀ v ∈ hcells k ++ [.int .i64 0, .slice none 0 0, .slice none 0 0], v.oneCell' = true := by
  intro v hv
  rcases List.mem_append.1 hv with h | h
  · exact hcells_one _ v h
  · simp only [List.mem_cons, List.not_mem_nil, or_false] at h
    rcases h with rfl | rfl | rfl <;> rfl
theorem sig_eq (s : RS) : RS.sig s = (⟨s.num.1, (rowsA RS.hash 36 [] s.num.2).1, (rowsA RS.hash 4 [] (rowsA RS.hash 36 [] s.num.2).2).1⟩, (rowsA RS.hash 4 [] (rowsA RS.hash 36 [] s.num.2).2).2) := rfl
theorem mark_eq (s : RS) : RS.mark s = (⟨s.hash.1, (decSig s.hash.2.bytes.1).getD .zero⟩, if (decSig s.hash.2.bytes.1).isSome then s.hash.2.bytes.2 else .fail) := rfl
theorem mark_bad {s : RS} (h : optE (decSig s.hash.2.bytes.1) ≠ 0) : (RS.mark s).2 = .fail := by
  rw [mark_eq]
  cases hd : decSig s.hash.2.bytes.1 with
  | none => rfl
  | some x => rw [hd] at h; exact absurd rfl h
theorem mark_good {s : RS} (h : ¬ optE (decSig s.hash.2.bytes.1) ≠ 0) : (RS.mark s).2 = s.hash.2.bytes.2 := by
  rw [mark_eq]
  cases hd : decSig s.hash.2.bytes.1 with
  | none => rw [hd] at h; exact absurd (by decide) h
  | some x => rfl
theorem mark_1 (s : RS) : (RS.mark s).1 = ⟨s.hash.1, (decSig s.hash.2.bytes.1).getD .zero⟩ := by rw [mark_eq]
theorem mark_set {k : List UInt8} {z sc : List Value} (hk : k.length = 32) (h : z.length ≤ sc.length) : splice (hcells k ++ z) (0 + 32) sc = hcells k ++ sc := by
  rw [splice_app (by rw [hcells_length, hk]), List.drop_eq_nil_of_le h, List.append_nil]
theorem sigB_len {s : SigP} (h : ∀ y ∈ s.chains ++ s.path, y.length = 32) : (sigB s).length ≤ 1289 := by
  unfold sigB
  split
  · rename_i hm
    unfold isSigP at hm
    simp only [Bool.and_eq_true, decide_eq_true_eq] at hm
    have h1 := hashes_len h
    have h2 := encN_len s.leaf
    rw [List.length_append] at h1
    unfold encSig
    rw [List.length_append]
    omega
  · simp
def Mark32 (m : MarkP) : Prop := m.key.length = 32 ∧ ∀ y ∈ m.sig.chains ++ m.sig.path, y.length = 32
theorem encMark_len {m : MarkP} (h : Mark32 m) : (encMark m).length ≤ 1330 := by
  have h1 := sigB_len h.2
  have h2 := encN_len (sigB m.sig).length
  unfold encMark encBs
  simp only [List.length_append, h.1]
  omega
theorem encMarks_len : ∀ {l : List MarkP}, (∀ m ∈ l, Mark32 m) → (l.flatMap encMark).length ≤ l.length * 1330
  | [], _ => by simp
  | m :: l, h => by
    have h1 := encMarks_len (l := l) fun m hm => h m (by simp [hm])
    have h2 := encMark_len (h m (by simp))
    rw [List.flatMap_cons, List.length_append, List.length_cons, Nat.add_mul]
    omega
theorem encEnv_len {x : EnvP} (hm : isEnvP x = true) (h : ∀ m ∈ x.marks, Mark32 m) : (encEnv x).length ≤ 20000 := by
  unfold isEnvP at hm
  simp only [Bool.and_eq_true, decide_eq_true_eq] at hm
  have h1 := encMarks_len h
  have h2 := encN_len x.body.length
  have h3 := encN_len x.marks.length
  unfold encEnv encBs
  simp only [List.length_append]
  have : x.marks.length * 1330 ≤ 4 * 1330 := Nat.mul_le_mul_right _ hm.2.1
  omega
theorem rmark_32 {w : World} {m : MarkP} {cs : List Value} (h : RMark w m cs) : Mark32 m := by
  obtain ⟨sc, _, h1, a, c, a', c', _, h2, h3⟩ := h
  refine ⟨h1, fun y hy => ?_⟩
  rcases List.mem_append.1 hy with hy | hy
  · exact sl_hashes h2 y hy
  · exact sl_hashes h3 y hy
theorem renv_32 {w : World} {x : EnvP} {cs : List Value} (h : REnv w x cs) : ∀ m ∈ x.marks, Mark32 m := by
  obtain ⟨a, c, a', c', _, _, h⟩ := h
  intro m hm
  obtain ⟨i, hi, rfl⟩ := List.mem_iff_getElem.1 hm
  obtain ⟨b, o, cs, _, hr, _⟩ := h.at.2 i hi
  exact rmark_32 hr
theorem bytes_bad {s : RS} (hok : s.ok) (h : s.num.2.bad = true) : s.bytes = ([], s.num.2) := by
  have hz : s.num.1 = 0 := by
    unfold RS.num at h ⊢
    cases hq : rdN 0 0 s.rest with
    | none => rfl
    | some p =>
      obtain ⟨n, r⟩ := p
      rw [hq] at h
      have := hok h
      rw [this] at hq
      simp [rdN] at hq
  show s.num.2.raw s.num.1 = _
  rw [hz]
  exact raw_bad h (ok_num hok) (by decide) (by omega)
theorem bad_flag (s : RS) : decide (optE (decSig s.hash.2.bytes.1) ≠ 0) = badSig s := by
  unfold badSig
  cases decSig s.hash.2.bytes.1 <;> simp [optE]
theorem markQ_1 (s : RS) : (RS.markQ s).1 = ⟨s.hash.1, (decSig s.hash.2.bytes.1).getD .zero⟩ := rfl
end Go.Fw
