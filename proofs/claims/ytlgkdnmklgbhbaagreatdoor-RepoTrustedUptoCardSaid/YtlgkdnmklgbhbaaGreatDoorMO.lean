/- How a law's arguments, as the claim reads them, are what the walks ask for; and how a walk closes a law's statement. -/
import Derived.Test.YtlgkdnmklgbhbaaGreatDoorRows
import Derived.Test.YtlgkdnmklgbhbaaGreatDoorMA
import Derived.Test.YtlgkdnmklgbhbaaGreatDoorMB
import Derived.ProofKit
import Derived.OpenShut
import Derived.JoinedCond
import Derived.Deep.Slices
import Derived.Test.YtlgkdnmklgbhbaaGreatDoorCards
import Derived.Test.YtlgkdnmklgbhbaaGreatDoorTie
import Derived.Deep.DeepHandedRow
import Derived.Lib.LaidTab
namespace Go.Fw
open Go.RowKit Go.WideShapes Go.ChangeShapes

/-- Derived from the guide's 'post_of_below'. -/
theorem post_below {H : Type} {enc : TypeId × Value → H} {P : Program} {f : Func} {s : ChangeSpec} {apart fresh handsOn again : Bool} {W W' : World} {args : Array Value} {v : Value} {ds gs : List (DataW H)} {before pa pv : List MemPlace}
    (hW : DataW.Whole enc P f.params.toList s.vars apart W args.toList ds gs before)
    (hres : ∀ (b : Nat) (sp : Nat → Bool) (hd : Bool), DataW.TrodAll enc P W' b sp hd f.resultTypes.toList (v.resultList f.resultTypes.size) (s.fn H (ds ++ gs)).results [])
    (hargs : ∀ sp : Nat → Bool, (∀ p ∈ before, sp p.block = true) → DataW.TrodAll enc P W' 0 sp true f.params.toList args.toList (s.fn H (ds ++ gs)).args pa)
    (hvars : ∀ sp : Nat → Bool, (∀ p ∈ before, sp p.block = true) → DataW.TrodVars enc P W' sp s.vars (s.fn H (ds ++ gs)).vars pv)
    (hps : before = pa ++ pv) (hb : Below W.heap.size W W')
    (hok : ∀ (j : Nat) (t : TypeId) (r : Value), f.resultTypes[j]? = some t → (v.resultList f.resultTypes.size)[j]? = some r → Value.okWide P W' .any 0 t r) :
    s.post enc P f apart fresh handsOn again W args v W' := by
  have hlt : ∀ p ∈ before, p.block < W.heap.size := fun p hp => hW.lt p hp
  have hold : ∀ p ∈ before, (fun b => decide (b < W.heap.size)) p.block = true := fun p hp => by simpa using hlt p hp
  refine ⟨ds, gs, before, [], pa, pv, hW, hres _ _ _, hargs _ hold, hvars _ hold, World.keptBut_mono (fun p hp => ⟨hp, ?_⟩) (hb.frame (· ∈ before)), fun _ => ?_⟩
  · rw [hps, List.mem_append] at hp;exact Or.inr hp
  · obtain ⟨_, _, _, _, _, hz, hn⟩ := hW;refine ⟨hok, _, _, ([] ++ pa) ++ pv, ⟨[] ++ pa, pv, trodAll_append (hargs _ (fun _ _ => rfl)) (hres _ _ _), hvars _ (fun _ _ => rfl), rfl, ?_, ?_⟩, ?_⟩
    · intro b off hp;have hin : MemPlace.cell b off ∈ before := by rw [hps]; simpa using hp
      rw [hb.frozen (hlt _ hin)];exact hz b off hin
    · intro ha;have := hn ha;rw [hps] at this
      simpa using this
    · intro p hp _;rw [hps]
      simpa using hp

theorem trodAll_stays {H : Type} {enc : TypeId × Value → H} {P : Program} (hl : laidOutB P = true) {W W' : World} {sp : Nat → Bool} : ∀ {ts : List TypeId} {vs : List Value} {ds : List (DataW H)} {ps : List MemPlace},
    (∀ t ∈ ts, P.readableRec t = true ∧ t < P.types.size) → DataW.TrodAll enc P W 0 (fun _ => true) true ts vs ds ps → (∀ p ∈ ps, W.sameAt W' p) → (∀ p ∈ ps, sp p.block = true) → DataW.TrodAll enc P W' 0 sp true ts vs ds ps
  | [], [], [], _, _, h, _, _ => h
  | t :: ts, v :: vs, d :: ds, ps, ht, h, hs, hsp => by
    obtain ⟨p, q, h1, h2, rfl⟩ := h
    exact ⟨p, q, WideElems.Trod_stays hl (ht t (by simp)).1 (ht t (by simp)).2 h1 (fun x hx => hs x (by simp [hx])) (fun x hx => hsp x (by simp [hx])),
      trodAll_stays hl (fun u hu => ht u (by simp [hu])) h2 (fun x hx => hs x (by simp [hx])) (fun x hx => hsp x (by simp [hx])), rfl⟩
  | [], _ :: _, _, _, _, h, _, _ => by simp [DataW.TrodAll] at h
  | [], [], _ :: _, _, _, h, _, _ => by simp [DataW.TrodAll] at h
  | _ :: _, [], _, _, _, h, _, _ => by simp [DataW.TrodAll] at h
  | _ :: _, _ :: _, [], _, _, h, _, _ => by simp [DataW.TrodAll] at h

/-- A law's walk closes its post: it returns true, and nothing that was there has turned. -/
theorem law_post {H : Type} {enc : TypeId × Value → H} {P : Program} {f : Func} {s : ChangeSpec} {apart fresh handsOn again : Bool} {W W' : World} {args : Array Value} {ds gs : List (DataW H)} {before : List MemPlace} {tb : TypeId}
    (hl : laidOutB P = true) (hr : (f.params.toList.all fun t => P.readableRec t && decide (t < P.types.size)) = true) (hrt : f.resultTypes = #[tb]) (htb : P.underlying tb = some .bool)
    (hW : DataW.Whole enc P f.params.toList s.vars apart W args.toList ds gs before) (hv : s.vars = [])
    (h1 : (s.fn H (ds ++ gs)).results = [.lit (.bool true)]) (h2 : (s.fn H (ds ++ gs)).args = ds) (h3 : (s.fn H (ds ++ gs)).vars = []) (hE : Ext W W') :
    s.post enc P f apart fresh handsOn again W args (.bool true) W' := by
  have hW' := hW;obtain ⟨p, q, hA, hV, hpq, -, -⟩ := hW'
  have hq : q = [] := by
    rw [hv] at hV
    cases gs with
    | nil => exact hV
    | cons _ _ => cases hV
  subst hq;refine post_below (pa := p) (pv := []) hW (fun b sp hd => ?_) (fun sp hsp => ?_) (fun sp _ => ?_) hpq hE.below (fun j t r hj hjr => ?_)
  · rw [hrt, h1];exact ⟨[], [], ⟨1, by simp [DataW.trod, htb, Value.cells]⟩, rfl, rfl⟩
  · rw [h2];refine trodAll_stays hl (fun t ht => ?_) hA (fun x hx => hE.below.same (hW.lt x (by rw [hpq]; simpa using hx))) (fun x hx => hsp x (by rw [hpq]; simpa using hx));have := (List.all_eq_true.1 hr) t ht
    simpa using this
  · rw [hv, h3];exact rfl
  · rw [hrt] at hj
    cases j with
    | zero =>
      simp at hj;subst hj
      have : r = .bool true := by
        rw [hrt] at hjr
        simpa [Value.resultList] using hjr.symm
      subst this;exact okWide_bool_mk htb true
    | succ j => simp at hj
end Go.Fw

namespace Go.Proofs.YtlgkdnmklgbhbaaGreatDoor
open Go.Fw
open _root_.Go.Proofs.YtlgkdnmklgbhbaaGreatDoor.Rows (uptoBulk uptoBulkAll)

/-- What a type's reading gives: an x for which the cells stand, and what its bulk says of it. -/
def Opens {α : Type} (T : TypeId) (R : World → α → List Value → Prop) (Q : Nat → α → Prop) : Prop :=
  ∀ (H : Type) (enc : TypeId × Value → H) (w : World) (fuel : Nat) (cs : List Value) (z : DataW H × List MemPlace), DataW.trod enc Tryz.prog w 0 (fun _ => true) true fuel T cs = some z → ∃ x, R w x cs ∧ Q (uptoBulk z.1) x
def RStr (_ : World) (s : ByteArray) (cs : List Value) : Prop := cs = [.string s]
def RBool (_ : World) (b : Bool) (cs : List Value) : Prop := cs = [.bool b]
theorem opens_string {T : TypeId} (h : Tryz.prog.underlying T = some .string) : Opens T RStr (fun n s => s.size + 1 = n) := by
  intro H enc w fuel cs z hz;obtain ⟨s, rfl, rfl, _⟩ := DataW.trod_string h hz;exact ⟨s, rfl, by simp [uptoBulk]⟩
def InK (k : IntKind) (n : Int) : Prop := k.min ≤ n ∧ n ≤ k.max
theorem opens_int {T : TypeId} {k : IntKind} (h : Tryz.prog.underlying T = some (.int k)) : Opens T (fun _ n cs => cs = [.int k n]) (fun _ n => InK k n) := by
  intro H enc w fuel cs z hz;obtain ⟨n, rfl, rfl, hw⟩ := DataW.trod_int h hz;exact ⟨n, rfl, by simpa [Lit.wf, InK] using hw⟩

theorem bulk_le {H : Type} {d : DataW H} {l : List (DataW H)} (h : d ∈ l) : uptoBulk d ≤ uptoBulkAll l := by
  induction l with
  | nil => cases h
  | cons x r ih =>
    simp only [uptoBulkAll]
    cases List.mem_cons.1 h with
    | inl e => subst e; omega
    | inr e => have := ih e; omega
theorem bulk_pos {H : Type} (d : DataW H) : 1 ≤ uptoBulk d := by
  cases d with
  | lit l => cases l <;> simp [uptoBulk]
  | nil => simp [uptoBulk]
  | ptr d => simp [uptoBulk]
  | slice elems spare => simp [uptoBulk]
  | agg parts => simp [uptoBulk]
  | iface t d => simp [uptoBulk]
  | map entries => simp [uptoBulk]
  | held h => simp [uptoBulk]
theorem bulk_len {H : Type} (l : List (DataW H)) : l.length ≤ uptoBulkAll l := by
  induction l with
  | nil => simp [uptoBulkAll]
  | cons x r ih => have := bulk_pos x; simp only [uptoBulkAll, List.length_cons]; omega

theorem cells_of {w : World} {a : Addr} {n : Nat} {cs : List Value} (h : w.cells? 0 a n = some cs) (hn : n ≠ 0) : ∃ b o, a = ⟨b, o, none⟩ ∧ Cells w b o cs ∧ cs.length = n := by
  unfold World.cells? at h;rw [if_pos (Nat.zero_le _)] at h
  have hlen : ∀ (l : List Nat) (cs : List Value), l.mapM (fun i => w.cell? (a.add i)) = some cs → cs.length = l.length ∧ ∀ (j : Nat) (v : Value), cs[j]? = some v → ∃ i : Nat, l[j]? = some i ∧ w.cell? (a.add i) = some v := by
    intro l
    induction l with
    | nil => intro cs e; simp at e; subst e; simp
    | cons i l ih =>
      intro cs e;rw [List.mapM_cons] at e;simp only [bind, Option.bind_eq_some_iff, pure, Option.some.injEq] at e;obtain ⟨v, hv, r, hr, rfl⟩ := e;obtain ⟨h1, h2⟩ := ih r hr;refine ⟨by simp [h1], fun j u hj => ?_⟩
      cases j with
      | zero => simp at hj; subst hj; exact ⟨i, by simp, hv⟩
      | succ j => obtain ⟨i', hi', hc⟩ := h2 j u (by simpa using hj); exact ⟨i', by simpa using hi', hc⟩
  obtain ⟨h1, h2⟩ := hlen _ _ h;simp at h1;obtain ⟨b, o, sp⟩ := a
  have hsp : sp = none := by
    obtain ⟨v, hv⟩ : ∃ v, cs[0]? = some v := ⟨cs[0]'(by omega), by simp⟩
    obtain ⟨i, hi, hc⟩ := h2 0 v hv
    have hi0 : i = 0 := by
      have : (List.range n)[0]? = some 0 := by rw [List.getElem?_range (by omega)]
      rw [this] at hi;exact (Option.some.inj hi).symm
    subst hi0;simp only [Addr.add, if_true] at hc;unfold World.cell? at hc;split at hc
    · split at hc
      · cases hc
      · rename_i hs; simpa using hs
    · cases hc
  subst hsp;refine ⟨b, o, rfl, fun j v hj => ?_, h1⟩;obtain ⟨i, hi, hc⟩ := h2 j v hj;have hjn : j < n := by have := (List.getElem?_eq_some_iff.1 hj).1; omega
  rw [List.getElem?_range hjn] at hi;cases hi
  rwa [Addr.add_mid] at hc

theorem opens_slice {α : Type} {T e : TypeId} {sz : Nat} {R : World → α → List Value → Prop} {Q : Nat → α → Prop} (h : Tryz.prog.underlying T = some (.slice e)) (hsz : Tryz.prog.cellsOf e = sz) (hpos : sz ≠ 0) (ho : Opens e R Q) :
    Opens T (fun w l cs => ∃ v, cs = [v] ∧ SlAt sz R w v l) (fun n l => l.length ≤ n ∧ ∀ x ∈ l, ∃ m, m ≤ n ∧ Q m x) := by
  intro H enc w fuel cs z hz;rcases Deep.open_slice h hz with ⟨rfl, rfl⟩ | ⟨a, len, cap, m, n, D, Pl, rfl, _, hlc, hcm, hm, rfl, hel⟩
  · exact ⟨[], ⟨_, rfl, sl_nil⟩, by simp⟩
  · simp only [if_true] at hm;subst hm;rw [hsz] at hel
    have hx : ∀ i, i < len → ∃ x, (∃ b o cs, some a = some ⟨b, o, none⟩ ∧ R w x cs ∧ Cells w b (o + i * sz) cs) ∧ Q (uptoBulk (D i)) x := by
      intro i hi;obtain ⟨cs', hc, ht⟩ := hel i (by omega);obtain ⟨x, hr, hq⟩ := ho H enc w n cs' _ ht;obtain ⟨b, o, ha, hcc, _⟩ := cells_of hc hpos;obtain ⟨b', o', sp⟩ := a
      have hsp : sp = none ∨ i * sz ≠ 0 := by
        by_cases e : i * sz = 0
        · left;simp [Addr.add, e] at ha;exact ha.2.2
        · exact .inr e
      have key : sp = none := by
        rcases hsp with h | h
        · exact h
        · obtain ⟨cs0, hc0, _⟩ := hel 0 (by omega);obtain ⟨b0, o0, ha0, _, _⟩ := cells_of hc0 hpos;simp [Addr.add] at ha0;exact ha0.2.2
      subst key;rw [Addr.add_mid] at ha;simp only [Addr.mk.injEq, and_true] at ha;obtain ⟨rfl, rfl⟩ := ha;exact ⟨x, ⟨b', o', cs', rfl, hr, hcc⟩, hq⟩
    by_cases hne : Nonempty α
    · have : Inhabited α := ⟨Classical.choice hne⟩
      obtain ⟨f, hf⟩ := Deep.choose_lt hx;refine ⟨(List.range len).map f, ⟨_, rfl, some a, m, by simp, fun i x hi => ?_⟩, ?_, fun x hx => ?_⟩
      · simp only [List.getElem?_map, Option.map_eq_some_iff] at hi;obtain ⟨j, hj, rfl⟩ := hi;have hil : i < len := by have := (List.getElem?_eq_some_iff.1 hj).1; simpa using this
        rw [List.getElem?_range hil] at hj;cases hj;exact (hf i hil).1
      · simp only [uptoBulk, List.length_map, List.length_range];have := bulk_len ((List.range len).map D);simp at this;omega
      · simp only [List.mem_map, List.mem_range] at hx;obtain ⟨i, hi, rfl⟩ := hx;refine ⟨_, ?_, (hf i hi).2⟩;have : uptoBulk (D i) ≤ uptoBulkAll ((List.range len).map D) := bulk_le (List.mem_map.2 ⟨i, by simpa using hi, rfl⟩);simp only [uptoBulk];omega
    · have h0 : len = 0 := by
        rcases Nat.eq_zero_or_pos len with h | h
        · exact h
        · obtain ⟨x, _⟩ := hx 0 h;exact absurd ⟨x⟩ hne
      subst h0;exact ⟨[], ⟨_, rfl, some a, m, rfl, fun i x hi => by simp at hi⟩, by simp⟩

/-- A digest. -/
theorem opens_hash {T e : TypeId} {n : Nat} (h : Tryz.prog.underlying T = some (.array n e)) (he : Tryz.prog.underlying e = some (.int .u8)) (hsz : Tryz.prog.cellsOf e = 1) (hT : Tryz.prog.cellsOf T = n) : Opens T (fun _ s cs => s.length = n ∧ cs = hcells s) (fun _ _ => True) := by
  intro H enc w fuel cs z hz;obtain ⟨xs, m, _, rfl, hl, hxl, hall⟩ := DataW.trod_array h hz;rw [hT] at hl
  have hx : ∀ i, i < n → ∃ b : UInt8, cs[i]? = some (.int .u8 b.toNat) := by
    intro i hi;have := hall i hi;rw [hsz, Nat.mul_one] at this;obtain ⟨y, hy⟩ : ∃ y, xs[i]? = some y := ⟨xs[i]'(by omega), by simp⟩
    rw [hy] at this;obtain ⟨k, hk, _, hw⟩ := DataW.trod_int he this
    have hd : cs[i]? = some (.int .u8 k) := by
      have h0 := congrArg (fun l => l[0]?) hk
      simpa using h0
    have hw' : 0 ≤ k ∧ k ≤ 255 := by simpa [Lit.wf, IntKind.min, IntKind.max, IntKind.signed, IntKind.bits] using hw
    have hk8 : ((UInt8.ofNat k.toNat).toNat : Int) = k := by
      rw [UInt8.toNat_ofNat'];omega
    exact ⟨UInt8.ofNat k.toNat, by rw [hd, hk8]⟩
  obtain ⟨f, hf⟩ := Deep.choose_lt hx;refine ⟨(List.range n).map f, ⟨by simp, ?_⟩, trivial⟩
  apply List.ext_getElem?
  intro i;by_cases hi : i < n
  · rw [hf i hi];simp [hcells, hi]
  · rw [List.getElem?_eq_none (show cs.length ≤ i by omega), List.getElem?_eq_none (show (hcells ((List.range n).map f)).length ≤ i by simp [hcells]; omega)]

/-- A struct, field by field. -/
theorem opens_fields {T : TypeId} {fs : Array Field} (h : Tryz.prog.underlying T = some (.struct fs)) {H : Type} {enc : TypeId × Value → H} {w : World} {fuel : Nat} {cs : List Value} {z : DataW H × List MemPlace}
    (hz : DataW.trod enc Tryz.prog w 0 (fun _ => true) true fuel T cs = some z) {i off sz : Nat} {f : Field} (hf : fs[i]? = some f) (hoff : f.offset = off) (hcs : Tryz.prog.cellsOf f.type = sz) {α : Type} {R : World → α → List Value → Prop} {Q : Nat → α → Prop} (ho : Opens f.type R Q) :
    ∃ x m, R w x ((cs.drop off).take sz) ∧ Q m x ∧ m < uptoBulk z.1 := by
  subst hoff hcs;obtain ⟨xs, n, _, rfl, hl, hxl, hall⟩ := DataW.trod_struct h hz;have h1 := hall i f hf;have hi : i < xs.length := by have := (Array.getElem?_eq_some_iff.1 hf).1; omega
  rw [List.getElem?_eq_getElem hi] at h1;obtain ⟨x, hr, hq⟩ := ho H enc w n _ _ h1;refine ⟨x, _, hr, hq, ?_⟩;have : uptoBulk xs[i].1 ≤ uptoBulkAll (xs.map (·.1)) := bulk_le (List.mem_map.2 ⟨xs[i], by simp, rfl⟩);simp only [uptoBulk];omega
theorem opens_len {T : TypeId} {fs : Array Field} (h : Tryz.prog.underlying T = some (.struct fs)) {H : Type} {enc : TypeId × Value → H} {w : World} {fuel : Nat} {cs : List Value} {z : DataW H × List MemPlace}
    (hz : DataW.trod enc Tryz.prog w 0 (fun _ => true) true fuel T cs = some z) : cs.length = Tryz.prog.cellsOf T := by
  obtain ⟨xs, n, _, rfl, hl, hxl, hall⟩ := DataW.trod_struct h hz;exact hl
theorem ds {l a : List Value} {i n : Nat} (h : (l.drop i).take n = a) : l.drop i = a ++ l.drop (i + n) := by
  rw [← h, ← List.drop_drop, List.take_append_drop]
end Go.Proofs.YtlgkdnmklgbhbaaGreatDoor
/- Targets as the claim reads them. -/
namespace Go.Proofs.YtlgkdnmklgbhbaaGreatDoor
open Go Go.Fw
open _root_.Go.Proofs.YtlgkdnmklgbhbaaGreatDoor.Rows (uptoBulk uptoBulkAll)
set_option maxRecDepth 100000
theorem opens_tgtN : Opens 82 RTgt (fun n t => t.name.size ≤ n ∧ t.hw.size ≤ n ∧ t.ecu.size ≤ n) := by
  intro H enc w fuel cs z hz;have hl := (opens_len Tryz.underlying82 hz).trans (by kernel_rfl : Tryz.prog.cellsOf 82 = 37);obtain ⟨nm, m0, h0, g0, k0⟩ := opens_fields Tryz.underlying82 hz (i := 0) (off := 0) (sz := 1) rfl rfl (by kernel_rfl) (opens_string Tryz.underlying9);obtain ⟨si, _, h1, _, _⟩ := opens_fields Tryz.underlying82 hz (i := 1) (off := 1) (sz := 1) rfl rfl (by kernel_rfl) (opens_int Tryz.underlying3);obtain ⟨su, _, ⟨h2l, h2⟩, _, _⟩ := opens_fields Tryz.underlying82 hz (i := 2) (off := 2) (sz := 32) rfl rfl (by kernel_rfl) (opens_hash Tryz.underlying25 Tryz.underlying5 (by kernel_rfl) (by kernel_rfl));obtain ⟨hw, m3, h3, g3, k3⟩ := opens_fields Tryz.underlying82 hz (i := 3) (off := 34) (sz := 1) rfl rfl (by kernel_rfl) (opens_string Tryz.underlying9);obtain ⟨ct, _, h4, _, _⟩ := opens_fields Tryz.underlying82 hz (i := 4) (off := 35) (sz := 1) rfl rfl (by kernel_rfl) (opens_int Tryz.underlying3);obtain ⟨ec, m5, h5, g5, k5⟩ := opens_fields Tryz.underlying82 hz (i := 5) (off := 36) (sz := 1) rfl rfl (by kernel_rfl) (opens_string Tryz.underlying9);refine ⟨⟨nm, si, su, hw, ct, ec⟩, ⟨h2l, ?_⟩, by show nm.size ≤ _; omega, by show hw.size ≤ _; omega, by show ec.size ≤ _; omega⟩;have hd : cs.drop 37 = [] := List.drop_eq_nil_of_le (by omega);rw [show cs = cs.drop 0 from rfl, ds h0, ds h1, ds h2, ds h3, ds h4, ds h5, hd];simp [Tgt.cells]
end Go.Proofs.YtlgkdnmklgbhbaaGreatDoor
/- A world for the witness of a card: the settled one, the two tables of utf8 holding what their initialisers lay. -/
namespace Go.Proofs.YtlgkdnmklgbhbaaGreatDoor
open Go
/-- A datum's leaves, in order. -/
noncomputable def leaves : Nat → DataW Unit → List Value
  | 0, _ => []
  | _ + 1, .lit (.int k z) => [.int k z]
  | n + 1, .agg ps => ps.flatMap (leaves n)
  | _ + 1, _ => []
noncomputable def laidHeap (hp : Array Obj) (name : String) (d : DataW Unit) : Array Obj :=
  match Tryz.prog.globalNamed name with
  | some g => hp.modify g fun
      | .cells _ t frozen => .cells (leaves 4 d).toArray t frozen
      | o => o
  | none => hp
noncomputable def laidWorld (os : Os) : World :=
  { World.holding Tryz.prog os ⟨#[], #[], []⟩ with heap := laidHeap (laidHeap (World.holding Tryz.prog os ⟨#[], #[], []⟩).heap "unicode/utf8.acceptRanges" Rows.laid_unicode_utf8_acceptRanges) "unicode/utf8.first" Rows.laid_unicode_utf8_first }
theorem own : ownKnob Tryz.prog.godebug = none := by kernel_rfl
end Go.Proofs.YtlgkdnmklgbhbaaGreatDoor
