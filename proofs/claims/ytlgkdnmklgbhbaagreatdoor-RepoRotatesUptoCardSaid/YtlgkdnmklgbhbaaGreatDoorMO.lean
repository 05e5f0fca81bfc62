/- How a law's arguments, as the claim reads them, are what the walks ask for; and how a walk closes a law's statement. -/
import Derived.Test.YtlgkdnmklgbhbaaGreatDoorRows
import Derived.Test.YtlgkdnmklgbhbaaGreatDoorMA
import Derived.Test.YtlgkdnmklgbhbaaGreatDoorMB
import Derived.ProofKit
import Derived.OpenShut
import Derived.JoinedCond
import Derived.Deep.Slices
import Derived.Test.YtlgkdnmklgbhbaaGreatDoorCards
import Derived.Test.YtlgkdnmklgbhbaaGreatDoorTie
import Derived.Deep.DeepHandedRow
import Derived.Lib.LaidTab
namespace Go.Fw
open Go.RowKit Go.WideShapes Go.ChangeShapes

/-- Derived from the guide's 'post_of_below'. -/
theorem post_below {H : Type} {enc : TypeId × Value → H} {P : Program} {f : Func} {s : ChangeSpec} {apart fresh handsOn again : Bool} {W W' : World} {args : Array Value} {v : Value} {ds gs : List (DataW H)} {before pa pv : List MemPlace}
    (hW : DataW.Whole enc P f.params.toList s.vars apart W args.toList ds gs before)
    (hres : ∀ (b : Nat) (sp : Nat → Bool) (hd : Bool), DataW.TrodAll enc P W' b sp hd f.resultTypes.toList (v.resultList f.resultTypes.size) (s.fn H (ds ++ gs)).results [])
    (hargs : ∀ sp : Nat → Bool, (∀ p ∈ before, sp p.block = true) → DataW.TrodAll enc P W' 0 sp true f.params.toList args.toList (s.fn H (ds ++ gs)).args pa)
    (hvars : ∀ sp : Nat → Bool, (∀ p ∈ before, sp p.block = true) → DataW.TrodVars enc P W' sp s.vars (s.fn H (ds ++ gs)).vars pv)
    (hps : before = pa ++ pv) (hb : Below W.heap.size W W')
    (hok : ∀ (j : Nat) (t : TypeId) (r : Value), f.resultTypes[j]? = some t → (v.resultList f.resultTypes.size)[j]? = some r → Value.okWide P W' .any 0 t r) :
    s.post enc P f apart fresh handsOn again W args v W' := by
  have hlt : ∀ p ∈ before, p.block < W.heap.size := fun p hp => hW.lt p hp
  have hold : ∀ p ∈ before, (fun b => decide (b < W.heap.size)) p.block = true := fun p hp => by simpa using hlt p hp
  refine ⟨ds, gs, before, [], pa, pv, hW, hres _ _ _, hargs _ hold, hvars _ hold, World.keptBut_mono (fun p hp => ⟨hp, ?_⟩) (hb.frame (· ∈ before)), fun _ => ?_⟩
  · rw [hps, List.mem_append] at hp;exact Or.inr hp
  · obtain ⟨_, _, _, _, _, hz, hn⟩ := hW;refine ⟨hok, _, _, ([] ++ pa) ++ pv, ⟨[] ++ pa, pv, trodAll_append (hargs _ (fun _ _ => rfl)) (hres _ _ _), hvars _ (fun _ _ => rfl), rfl, ?_, ?_⟩, ?_⟩
    · intro b off hp;have hin : MemPlace.cell b off ∈ before := by rw [hps]; simpa using hp
      rw [hb.frozen (hlt _ hin)];exact hz b off hin
    · intro ha;have := hn ha;rw [hps] at this
      simpa using this
    · intro p hp _;rw [hps]
      simpa using hp

theorem trodAll_stays {H : Type} {enc : TypeId × Value → H} {P : Program} (hl : laidOutB P = true) {W W' : World} {sp : Nat → Bool} : ∀ {ts : List TypeId} {vs : List Value} {ds : List (DataW H)} {ps : List MemPlace},
    (∀ t ∈ ts, P.readableRec t = true ∧ t < P.types.size) → DataW.TrodAll enc P W 0 (fun _ => true) true ts vs ds ps → (∀ p ∈ ps, W.sameAt W' p) → (∀ p ∈ ps, sp p.block = true) → DataW.TrodAll enc P W' 0 sp true ts vs ds ps
  | [], [], [], _, _, h, _, _ => h
  | t :: ts, v :: vs, d :: ds, ps, ht, h, hs, hsp => by
    obtain ⟨p, q, h1, h2, rfl⟩ := h
    exact ⟨p, q, WideElems.Trod_stays hl (ht t (by simp)).1 (ht t (by simp)).2 h1 (fun x hx => hs x (by simp [hx])) (fun x hx => hsp x (by simp [hx])),
      trodAll_stays hl (fun u hu => ht u (by simp [hu])) h2 (fun x hx => hs x (by simp [hx])) (fun x hx => hsp x (by simp [hx])), rfl⟩
  | [], _ :: _, _, _, _, h, _, _ => by simp [DataW.TrodAll] at h
  | [], [], _ :: _, _, _, h, _, _ => by simp [DataW.TrodAll] at h
  | _ :: _, [], _, _, _, h, _, _ => by simp [DataW.TrodAll] at h
  | _ :: _, _ :: _, [], _, _, h, _, _ => by simp [DataW.TrodAll] at h

/-- A law's walk closes its post: it returns true, and nothing that was there has turned. -/
theorem law_post {H : Type} {enc : TypeId × Value → H} {P : Program} {f : Func} {s : ChangeSpec} {apart fresh handsOn again : Bool} {W W' : World} {args : Array Value} {ds gs : List (DataW H)} {before : List MemPlace} {tb : TypeId}
    (hl : laidOutB P = true) (hr : (f.params.toList.all fun t => P.readableRec t && decide (t < P.types.size)) = true) (hrt : f.resultTypes = #[tb]) (htb : P.underlying tb = some .bool)
    (hW : DataW.Whole enc P f.params.toList s.vars apart W args.toList ds gs before) (hv : s.vars = [])
    (h1 : (s.fn H (ds ++ gs)).results = [.lit (.bool true)]) (h2 : (s.fn H (ds ++ gs)).args = ds) (h3 : (s.fn H (ds ++ gs)).vars = []) (hE : Ext W W') :
    s.post enc P f apart fresh handsOn again W args (.bool true) W' := by
  have hW' := hW;obtain ⟨p, q, hA, hV, hpq, -, -⟩ := hW'
  have hq : q = [] := by
    rw [hv] at hV
    cases gs with
    | nil => exact hV
    | cons _ _ => cases hV
  subst hq;refine post_below (pa := p) (pv := []) hW (fun b sp hd => ?_) (fun sp hsp => ?_) (fun sp _ => ?_) hpq hE.below (fun j t r hj hjr => ?_)
  · rw [hrt, h1];exact ⟨[], [], ⟨1, by simp [DataW.trod, htb, Value.cells]⟩, rfl, rfl⟩
  · rw [h2];refine trodAll_stays hl (fun t ht => ?_) hA (fun x hx => hE.below.same (hW.lt x (by rw [hpq]; simpa using hx))) (fun x hx => hsp x (by rw [hpq]; simpa using hx));have := (List.all_eq_true.1 hr) t ht
    simpa using this
  · rw [hv, h3];exact rfl
  · rw [hrt] at hj
    cases j with
    | zero =>
      simp at hj;subst hj
      have : r = .bool true := by
        rw [hrt] at hjr
        simpa [Value.resultList] using hjr.symm
      subst this;exact okWide_bool_mk htb true
    | succ j => simp at hj
end Go.Fw

namespace Go.Proofs.YtlgkdnmklgbhbaaGreatDoor
open Go.Fw
open _root_.Go.Proofs.YtlgkdnmklgbhbaaGreatDoor.Rows (uptoBulk uptoBulkAll)

/-- What a type's reading gives: an x for which the cells stand, and what its bulk says of it. -/
def Opens {α : Type} (T : TypeId) (R : World → α → List Value → Prop) (Q : Nat → α → Prop) : Prop :=
  ∀ (H : Type) (enc : TypeId × Value → H) (w : World) (fuel : Nat) (cs : List Value) (z : DataW H × List MemPlace), DataW.trod enc Tryz.prog w 0 (fun _ => true) true fuel T cs = some z → ∃ x, R w x cs ∧ Q (uptoBulk z.1) x
def RStr (_ : World) (s : ByteArray) (cs : List Value) : Prop := cs = [.string s]
def RBool (_ : World) (b : Bool) (cs : List Value) : Prop := cs = [.bool b]
def InK (k : IntKind) (n : Int) : Prop := k.min ≤ n ∧ n ≤ k.max
/-- A digest. -/
theorem opens_hash {T e : TypeId} {n : Nat} (h : Tryz.prog.underlying T = some (.array n e)) (he : Tryz.prog.underlying e = some (.int .u8)) (hsz : Tryz.prog.cellsOf e = 1) (hT : Tryz.prog.cellsOf T = n) : Opens T (fun _ s cs => s.length = n ∧ cs = hcells s) (fun _ _ => True) := by
  intro H enc w fuel cs z hz;obtain ⟨xs, m, _, rfl, hl, hxl, hall⟩ := DataW.trod_array h hz;rw [hT] at hl
  have hx : ∀ i, i < n → ∃ b : UInt8, cs[i]? = some (.int .u8 b.toNat) := by
    intro i hi;have := hall i hi;rw [hsz, Nat.mul_one] at this;obtain ⟨y, hy⟩ : ∃ y, xs[i]? = some y := ⟨xs[i]'(by omega), by simp⟩
    rw [hy] at this;obtain ⟨k, hk, _, hw⟩ := DataW.trod_int he this
    have hd : cs[i]? = some (.int .u8 k) := by
      have h0 := congrArg (fun l => l[0]?) hk
      simpa using h0
    have hw' : 0 ≤ k ∧ k ≤ 255 := by simpa [Lit.wf, IntKind.min, IntKind.max, IntKind.signed, IntKind.bits] using hw
    have hk8 : ((UInt8.ofNat k.toNat).toNat : Int) = k := by
      rw [UInt8.toNat_ofNat'];omega
    exact ⟨UInt8.ofNat k.toNat, by rw [hd, hk8]⟩
  obtain ⟨f, hf⟩ := Deep.choose_lt hx;refine ⟨(List.range n).map f, ⟨by simp, ?_⟩, trivial⟩
  apply List.ext_getElem?
  intro i;by_cases hi : i < n
  · rw [hf i hi];simp [hcells, hi]
  · rw [List.getElem?_eq_none (show cs.length ≤ i by omega), List.getElem?_eq_none (show (hcells ((List.range n).map f)).length ≤ i by simp [hcells]; omega)]

end Go.Proofs.YtlgkdnmklgbhbaaGreatDoor
/- Targets as the claim reads them. -/
namespace Go.Proofs.YtlgkdnmklgbhbaaGreatDoor
open Go Go.Fw
open _root_.Go.Proofs.YtlgkdnmklgbhbaaGreatDoor.Rows (uptoBulk uptoBulkAll)
set_option maxRecDepth 100000
end Go.Proofs.YtlgkdnmklgbhbaaGreatDoor
/- A world for the witness of a card: the settled one, the two tables of utf8 holding what their initialisers lay. -/
namespace Go.Proofs.YtlgkdnmklgbhbaaGreatDoor
open Go
/-- A datum's leaves, in order. -/
noncomputable def leaves : Nat → DataW Unit → List Value
  | 0, _ => []
  | _ + 1, .lit (.int k z) => [.int k z]
  | n + 1, .agg ps => ps.flatMap (leaves n)
  | _ + 1, _ => []
noncomputable def laidHeap (hp : Array Obj) (name : String) (d : DataW Unit) : Array Obj :=
  match Tryz.prog.globalNamed name with
  | some g => hp.modify g fun
      | .cells _ t frozen => .cells (leaves 4 d).toArray t frozen
      | o => o
  | none => hp
noncomputable def laidWorld (os : Os) : World :=
  { World.holding Tryz.prog os ⟨#[], #[], []⟩ with heap := laidHeap (laidHeap (World.holding Tryz.prog os ⟨#[], #[], []⟩).heap "unicode/utf8.acceptRanges" Rows.laid_unicode_utf8_acceptRanges) "unicode/utf8.first" Rows.laid_unicode_utf8_first }
theorem own : ownKnob Tryz.prog.godebug = none := by kernel_rfl
end Go.Proofs.YtlgkdnmklgbhbaaGreatDoor
