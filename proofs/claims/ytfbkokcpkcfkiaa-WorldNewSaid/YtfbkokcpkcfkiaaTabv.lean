/- A story's tables and a world as plain data, and as abstract values. No program stands in this text. -/
import Derived.Test.YtfbkokcpkcfkiaaOj
namespace Go.Proofs.Ytfbkokcpkcfkiaa
open Go.RowKit
set_option linter.unusedVariables false

def slI (l : List Int) : Av := .sl 1 l.length fun j => vi (l.getD j 0)
def slS (l : List ByteArray) : Av := .sl 1 l.length fun j => vs (l.getD j ByteArray.empty)
structure WayP where
  dir : Int
  goal : Int
  cond : Int
  els : Int
def dWay : WayP := ⟨0, 0, 0, 0⟩
def wayAv (y : WayP) : Av := .agg [vi y.dir, vi y.goal, vi y.cond, vi y.els]
structure ThingP where
  title : Int
  text : Int
  parent : Int
  flags : Int
  room : Bool
  props : List Int
  words : List ByteArray
  adjs : List ByteArray
  ways : List WayP
def dThing : ThingP := ⟨0, 0, 0, 0, false, [], [], [], []⟩
def waysAv (l : List WayP) : Av := .sl 4 l.length fun j => wayAv (l.getD j dWay)
def thAv (x : ThingP) : Av := .agg [vi x.title, vi x.text, vi x.parent, vi x.flags, vb x.room, slI x.props, slS x.words, slS x.adjs, waysAv x.ways]
structure SlotP where
  kind : Int
  words : List ByteArray
def dSlot : SlotP := ⟨0, []⟩
def slotAv (x : SlotP) : Av := .agg [vi x.kind, slS x.words]
def lineAv (l : List SlotP) : Av := .sl 2 l.length fun j => slotAv (l.getD j dSlot)
structure VerbP where
  meta_ : Bool
  lines : List (List SlotP)
def dVerb : VerbP := ⟨false, []⟩
def linesAv (l : List (List SlotP)) : Av := .sl 1 l.length fun j => lineAv (l.getD j [])
def verbAv (x : VerbP) : Av := .agg [vb x.meta_, linesAv x.lines]
structure DeedP where
  verb : Int
  phase : Int
  noun : Int
  second : Int
  cond : Int
  body : Int
def dDeed : DeedP := ⟨0, 0, 0, 0, 0, 0⟩
def deedAv (x : DeedP) : Av := .agg [vi x.verb, vi x.phase, vi x.noun, vi x.second, vi x.cond, vi x.body]
structure TabP where
  title : Int
  by_ : Int
  release : Int
  max : Int
  texts : List ByteArray
  flags : Int
  props : List Int
  globals : List Int
  things : List ThingP
  acts : List VerbP
  deeds : List DeedP
  funcs : List Int
  daemons : List Int
  params : List Int
  locals : List Int
def thingsAv (l : List ThingP) : Av := .sl 9 l.length fun j => thAv (l.getD j dThing)
def actsAv (l : List VerbP) : Av := .sl 2 l.length fun j => verbAv (l.getD j dVerb)
def deedsAv (l : List DeedP) : Av := .sl 6 l.length fun j => deedAv (l.getD j dDeed)
def tabAv (t : TabP) : Av := .agg [vi t.title, vi t.by_, vi t.release, vi t.max, slS t.texts, vi t.flags, slI t.props, slI t.globals, thingsAv t.things, actsAv t.acts, deedsAv t.deeds, slI t.funcs, slI t.daemons, slI t.params, slI t.locals]
structure WorldP where
  globals : List Int
  parent : List Int
  child : List Int
  next : List Int
  flags : List Int
  props : List Int
  timers : List Int
  seed : Int
  score : Int
  turns : Int
  over : Int
  it : Int
  go : Int

def vu (n : Int) : Av := .val (.int .u64 n)
def worldAv (w : WorldP) : Av := .agg [slI w.globals, slI w.parent, slI w.child, slI w.next, slI w.flags, slI w.props, slI w.timers, vu w.seed, vi w.score, vi w.turns, vi w.over, vi w.it, vi w.go]
def WorldP.row (w : WorldP) (k : Nat) : List Int := [w.globals, w.parent, w.child, w.next, w.flags, w.props, w.timers].getD k []
def WorldP.fit (w : WorldP) : Prop := ∀ k, k < 7 → (w.row k).length ≤ 17592186044416
theorem pure_slI (l : List Int) : Pure (slI l) := by unfold slI; simp [Pure]
theorem pure_slS (l : List ByteArray) : Pure (slS l) := by unfold slS; simp [Pure]
theorem pure_way (y : WayP) : Pure (wayAv y) := by unfold wayAv; simp [Pure, PureL]
theorem pure_ways (l : List WayP) : Pure (waysAv l) := by unfold waysAv; simp [Pure, pure_way]
theorem pure_th (x : ThingP) : Pure (thAv x) := by unfold thAv; simp [Pure, PureL, pure_slI, pure_slS, pure_ways]
theorem pure_slot (x : SlotP) : Pure (slotAv x) := by unfold slotAv; simp [Pure, PureL, pure_slS]
theorem pure_line (l : List SlotP) : Pure (lineAv l) := by unfold lineAv; simp [Pure, pure_slot]
theorem pure_lines (l : List (List SlotP)) : Pure (linesAv l) := by unfold linesAv; simp [Pure, pure_line]
theorem pure_verb (x : VerbP) : Pure (verbAv x) := by unfold verbAv; simp [Pure, PureL, pure_lines]
theorem pure_deed (x : DeedP) : Pure (deedAv x) := by unfold deedAv; simp [Pure, PureL]
theorem pure_things (l : List ThingP) : Pure (thingsAv l) := by unfold thingsAv; simp [Pure, pure_th]
theorem pure_acts (l : List VerbP) : Pure (actsAv l) := by unfold actsAv; simp [Pure, pure_verb]
theorem pure_deeds (l : List DeedP) : Pure (deedsAv l) := by unfold deedsAv; simp [Pure, pure_deed]
theorem pure_tab (t : TabP) : Pure (tabAv t) := by unfold tabAv; simp [Pure, PureL, pure_slI, pure_slS, pure_things, pure_acts, pure_deeds]
theorem pure_world (w : WorldP) : Pure (worldAv w) := by unfold worldAv vu; simp [Pure, PureL, pure_slI]
/-- What a state says of its own accord. -/
theorem aw_fact {P : Program} {N : Nat} {D : List Nat} {c : Code} {Q : Exit → Ctx → Prop} {Γ : Ctx} {t : Nat} {x : Av} {φ : Prop} (hx : lkS Γ.s t = x) (hφ : ∀ E v, Rep E x v → φ) (h : φ → AW P N D c Q Γ) : AW P N D c Q Γ := fun E a hF => by
  have := hF.holds.1 t
  rw [hx] at this
  exact h (hφ E _ this) E a hF
theorem sl_le {k n : Nat} {row : Nat → Av} (E : Env) (v : Value) (h : Rep E (.sl k n row) v) : n ≤ 9223372036854775807 := by
  unfold Rep at h
  obtain ⟨A, c, _, h1, h2, _⟩ := h
  unfold maxLen at h2
  omega
/-- So many of each as memory holds. -/
structure TabP.Few (t : TabP) : Prop where
  texts : t.texts.length ≤ 9223372036854775807
  things : t.things.length ≤ 9223372036854775807
  acts : t.acts.length ≤ 9223372036854775807
  deeds : t.deeds.length ≤ 9223372036854775807
  funcs : t.funcs.length ≤ 9223372036854775807
  daemons : t.daemons.length ≤ 9223372036854775807
  params : t.params.length ≤ 9223372036854775807
  locals : t.locals.length ≤ 9223372036854775807
theorem RepL.at_ {E : Env} {xs : List Av} {vs : List Value} (h : RepL E xs vs) (i : Nat) (y : Av) (hy : xs[i]? = some y) : ∃ v, Rep E y v := by
  obtain ⟨u, _, h2⟩ := h.get i y hy
  exact ⟨u, h2⟩
theorem tab_few (t : TabP) (E : Env) (v : Value) (h : Rep E (tabAv t) v) : t.Few := by
  unfold tabAv Rep at h
  obtain ⟨vs, _, h, _⟩ := h
  have g := fun i y hy => h.at_ i y hy
  obtain ⟨_, h4⟩ := g 4 _ rfl
  obtain ⟨_, h8⟩ := g 8 _ rfl
  obtain ⟨_, h9⟩ := g 9 _ rfl
  obtain ⟨_, h10⟩ := g 10 _ rfl
  obtain ⟨_, h11⟩ := g 11 _ rfl
  obtain ⟨_, h12⟩ := g 12 _ rfl
  obtain ⟨_, h13⟩ := g 13 _ rfl
  obtain ⟨_, h14⟩ := g 14 _ rfl
  exact ⟨sl_le E _ h4, sl_le E _ h8, sl_le E _ h9, sl_le E _ h10, sl_le E _ h11, sl_le E _ h12, sl_le E _ h13, sl_le E _ h14⟩
/-! ### The small tests -/
def among (n lo hi : Int) : Bool := decide (lo ≤ n) && decide (n ≤ hi)
theorem among_iff {n lo hi : Int} : among n lo hi = true ↔ lo ≤ n ∧ n ≤ hi := by simp [among]
def isV16 (n : Int) : Bool := among n (-32768) 32767
def getZ (l : List Int) (n : Int) : Int := l.getD n.toNat 0
def freeB (t : TabP) (n : Int) : Bool := among n 0 ((t.params.length : Int) - 1) && (getZ t.params n == 0)
def textB (t : TabP) (n : Int) : Bool := among n 0 ((t.texts.length : Int) - 1)
def thingB (t : TabP) (n : Int) : Bool := among n 1 ((t.things.length : Int) - 1)
def TabP.at_ (t : TabP) (n : Int) : ThingP := t.things.getD n.toNat dThing
def roomB (t : TabP) (n : Int) : Bool := thingB t n && (t.at_ n).room
def smallC (n : Int) : Bool := decide (97 ≤ n) && decide (n ≤ 122)
def greatC (n : Int) : Bool := decide (65 ≤ n) && decide (n ≤ 90)
def digitC (n : Int) : Bool := decide (48 ≤ n) && decide (n ≤ 57)
def rowC (n : Int) : Bool := smallC n || greatC n || digitC n || n == 45 || n == 39
def textC (n : Int) : Bool := (decide (32 ≤ n) && decide (n ≤ 126)) || n == 10
theorem tB_at {s : ByteArray} {k : Nat} (h : k < s.size) : (tB s)[k]? = some (s[k].toNat : Int) := by
  rw [List.getElem?_eq_getElem (by rw [tB_len]; exact h), tB_get s k h]
theorem tB_mem {s : ByteArray} {k : Nat} (h : k < s.size) : (s[k].toNat : Int) ∈ tB s := List.mem_of_getElem? (tB_at h)
def isTextS (s : ByteArray) : Bool := (tB s).all textC && decide ((s.size : Int) ≤ 1024)
def wordC (c : Int) : Bool := smallC c || digitC c || c == 45 || c == 39
def wordHead (s : ByteArray) : Bool := decide (1 ≤ (s.size : Int)) && decide ((s.size : Int) ≤ 9) && (smallC ((tB s).getD 0 0) || digitC ((tB s).getD 0 0))
def isWordS (s : ByteArray) : Bool := wordHead s && (tB s).all wordC
theorem wordHead_not (s : ByteArray) : (decide ((s.size : Int) < 1) || decide (9 < (s.size : Int)) || (!smallC ((tB s).getD 0 0) && !digitC ((tB s).getD 0 0))) = !wordHead s := by
  unfold wordHead
  cases smallC ((tB s).getD 0 0) <;> cases digitC ((tB s).getD 0 0) <;> simp <;> rw [Bool.eq_iff_iff] <;> simp <;> omega
theorem textC_not (c : Int) : ((decide (c < 32) || decide (126 < c)) && c != 10) = !textC c := by
  unfold textC
  rw [Bool.eq_iff_iff]
  simp
  try omega
theorem wordC_not (c : Int) : (!rowC c || greatC c) = !wordC c := by
  unfold wordC rowC greatC smallC digitC
  rw [Bool.eq_iff_iff]
  simp
  try omega
end Go.Proofs.Ytfbkokcpkcfkiaa
