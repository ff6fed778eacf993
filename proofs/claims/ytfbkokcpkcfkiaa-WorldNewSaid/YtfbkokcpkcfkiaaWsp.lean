/- What the tables' tests answer, in plain words. No program stands in this text. -/
import Derived.Test.YtfbkokcpkcfkiaaTabv
namespace Go.Proofs.Ytfbkokcpkcfkiaa
open Go.RowKit
set_option linter.unusedVariables false

theorem rall_true {n : Nat} {p : Nat → Bool} (h : ∀ j, j < n → p j = true) : (List.range n).all p = true := by
  rw [List.all_eq_true]
  intro x hx
  exact h x (List.mem_range.1 hx)
theorem rall_false {n k : Nat} {p : Nat → Bool} (h : k < n) (hp : p k = false) : (List.range n).all p = false := by
  rw [List.all_eq_false]
  exact ⟨k, List.mem_range.2 h, by simp [hp]⟩
theorem rall_get {n k : Nat} {p : Nat → Bool} (h : (List.range n).all p = true) (hk : k < n) : p k = true := (List.all_eq_true.1 h) k (List.mem_range.2 hk)
theorem rall_step {k : Nat} {p : Nat → Bool} (h : ∀ j, j < k → p j = true) (hp : p k = true) : ∀ j, j < k + 1 → p j = true := fun j hj => by
  rcases Nat.lt_or_ge j k with h1 | h1
  · exact h j h1
  · obtain rfl : j = k := by omega
    exact hp
theorem rall_zero {p : Nat → Bool} : ∀ j, j < 0 → p j = true := fun j hj => absurd hj (by omega)
theorem rall_congr {n : Nat} {p q : Nat → Bool} (h : ∀ j, j < n → p j = q j) : (List.range n).all p = (List.range n).all q := by
  rw [Bool.eq_iff_iff, List.all_eq_true, List.all_eq_true]
  constructor <;> intro H x hx
  · rw [← h x (List.mem_range.1 hx)]; exact H x hx
  · rw [h x (List.mem_range.1 hx)]; exact H x hx
theorem all_range {α : Type} (d : α) (l : List α) (p : α → Bool) : (List.range l.length).all (fun i => p (l.getD i d)) = l.all p := by
  rw [Bool.eq_iff_iff, List.all_eq_true, List.all_eq_true]
  constructor
  · intro H x hx
    obtain ⟨i, hi, rfl⟩ := List.getElem_of_mem hx
    have := H i (List.mem_range.2 hi)
    simpa [hi] using this
  · intro H i hi
    have hi' : i < l.length := List.mem_range.1 hi
    have := H l[i] (List.getElem_mem hi')
    simpa [hi'] using this
theorem all_of {α : Type} {d : α} {l : List α} {p : α → Bool} (h : ∀ j, j < l.length → p (l.getD j d) = true) : l.all p = true := by rw [← all_range d]; exact rall_true h
theorem all_not {α : Type} {d : α} {l : List α} {p : α → Bool} {k : Nat} (hk : k < l.length) (h : p (l.getD k d) = false) : l.all p = false := by rw [← all_range d]; exact rall_false (p := fun i => p (l.getD i d)) hk h
theorem getD_mem {α : Type} {d : α} {l : List α} {k : Nat} (h : k < l.length) : l.getD k d ∈ l := by simp [h]

def allZ (l : List Int) (lo hi : Int) : Bool := l.all fun z => among z lo hi
/-- Strings as memory holds them. -/
def SW (l : List ByteArray) : Prop := ∀ s ∈ l, s.size ≤ 9223372036854775807
def SlotP.wf (x : SlotP) : Prop := SW x.words
def ThingP.wf (x : ThingP) : Prop := SW x.words ∧ SW x.adjs
def VerbP.wf (x : VerbP) : Prop := ∀ l ∈ x.lines, ∀ y ∈ l, SlotP.wf y
structure TabP.wf (t : TabP) : Prop where
  texts : SW t.texts
  things : ∀ x ∈ t.things, x.wf
  acts : ∀ x ∈ t.acts, x.wf

def wordsB (l : List ByteArray) (most : Int) : Bool := decide ((l.length : Int) ≤ most) && l.all isWordS
def numbersB (t : TabP) : Bool := decide ((t.texts.length : Int) ≤ 4096) && t.texts.all isTextS && textB t t.title && textB t t.by_ && among t.release 0 32767 && among t.max 0 32767 && among t.flags 4 16 && decide ((t.props.length : Int) ≤ 16) && decide ((t.globals.length : Int) ≤ 64) && t.props.all isV16 && t.globals.all isV16
def rtHead (t : TabP) : Bool := ((t.params.length : Int) != t.locals.length) || decide ((t.params.length : Int) > 2048)
def rtBad (t : TabP) (k : Nat) : Bool := !among (t.params.getD k 0) 0 8 || !among (t.locals.getD k 0) (t.params.getD k 0) 24
def routinesB (t : TabP) : Bool := !rtHead t && (List.range t.params.length).all fun k => !rtBad t k
def ThingP.sum (x : ThingP) : Int := IntKind.i64.wrap (IntKind.i64.wrap ((x.words.length : Int) + x.adjs.length) + x.ways.length)
def nothingB (x : ThingP) : Bool := x.title == 0 && x.text == -1 && x.parent == 0 && x.flags == 0 && !x.room && x.props.all (fun z => z == 0) && x.sum == 0
def lastDir (l : List WayP) : Nat → Int
  | 0 => 0
  | k + 1 => (l.getD k dWay).dir
def wayBad (t : TabP) (last : Int) (y : WayP) : Bool := decide (y.dir ≤ last) || decide (y.dir > 12) || !roomB t y.goal || (y.cond != -1 && !freeB t y.cond) || (y.els != -1 && !textB t y.els)
def waysB (t : TabP) (l : List WayP) : Bool := (List.range l.length).all fun k => !wayBad t (lastDir l k) (l.getD k dWay)
def aloneH (t : TabP) (x : ThingP) : Bool := !textB t x.title || (x.text != -1 && !textB t x.text) || decide (x.flags < 0) || decide (x.flags ≥ IntKind.i64.wrap (1 * 2 ^ (min t.flags.toNat IntKind.i64.bits))) || !x.props.all isV16 || !wordsB x.words 8 || !wordsB x.adjs 8
def aloneB (t : TabP) (x : ThingP) : Bool := !aloneH t x && (bif x.room then x.parent == 0 && waysB t x.ways else ((x.ways.length : Int) == 0 && (x.parent == 0 || thingB t x.parent)))
def topN (f : Int → Int) : Nat → Int → Int
  | 0, _ => 0
  | m + 1, n => if f n = 0 then n else topN f m (f n)
def upT (t : TabP) (n : Int) : Int := (t.at_ n).parent
def itN (f : Int → Int) : Nat → Int → Int
  | 0, n => n
  | k + 1, n => f (itN f k n)
theorem topN_step {f : Int → Int} {M k : Nat} {n : Int} (hk : k < M) (h : topN f M n = topN f (M - k) (itN f k n)) : topN f M n = if f (itN f k n) = 0 then itN f k n else topN f (M - (k + 1)) (itN f (k + 1) n) := by
  rw [h, show M - k = (M - (k + 1)) + 1 from by omega]
  rfl
theorem TabP.at_getD (t : TabP) (k : Nat) : t.at_ k = t.things.getD k dThing := by simp [TabP.at_]
def thBad (t : TabP) (k : Nat) : Bool := (((t.things.getD k dThing).props.length : Int) != t.props.length) || (decide ((k : Int) > 0) && !aloneB t (t.things.getD k dThing))
def thHead (t : TabP) : Bool := !among t.things.length 3 128 || !nothingB (t.things.getD 0 dThing)
def thingsB (t : TabP) : Bool := !thHead t && ((List.range t.things.length).all fun k => !thBad t k) && ((List.range t.things.length).all fun k => decide (k = 0) || topN (upT t) t.things.length k != 0) && (!(t.things.getD 1 dThing).room && roomB t (topN (upT t) t.things.length 1))
def slotBad (l : List SlotP) (k : Nat) : Bool := bif (l.getD k dSlot).kind == 1 then ((l.getD k dSlot).words.length : Int) == 0 || !wordsB (l.getD k dSlot).words 4 else !among (l.getD k dSlot).kind 2 5 || (decide (((l.getD k dSlot).words.length : Int) > 0) || ((k : Int) == 0 && (l.getD k dSlot).kind != 5))
def cntK (p : Int → Bool) (l : List SlotP) (k : Nat) : Int := ((l.take k).countP fun s => p s.kind : Nat)
def isNoun (k : Int) : Bool := k == 2 || k == 3
def lineB (l : List SlotP) : Bool := ((List.range l.length).all fun k => !slotBad l k) && (among l.length 1 8 && decide (cntK isNoun l l.length ≤ 2) && decide (cntK (fun k => k == 4) l l.length ≤ 1) && decide (cntK (fun k => k == 5) l l.length ≤ 1))
def nounB (t : TabP) (n : Int) : Bool := n == -1 || thingB t n
def verbB (v : VerbP) : Bool := among v.lines.length 1 8 && v.lines.all lineB
def deedB (t : TabP) (d : DeedP) : Bool := among d.verb 0 ((t.acts.length : Int) - 1) && among d.phase 1 3 && nounB t d.noun && nounB t d.second && (d.cond == -1 || freeB t d.cond) && freeB t d.body
def fitsHead (t : TabP) : Bool := !numbersB t || !routinesB t || !thingsB t || decide ((t.acts.length : Int) > 64) || decide ((t.deeds.length : Int) > 512) || decide ((t.funcs.length : Int) > 64) || decide ((t.daemons.length : Int) > 16)
def fitsB (t : TabP) : Bool := !fitsHead t && (t.acts.all verbB && t.deeds.all (deedB t) && t.funcs.all (fun n => among n 0 ((t.params.length : Int) - 1)) && t.daemons.all (freeB t))
theorem alone_parent {t : TabP} {x : ThingP} (h : aloneB t x = true) : x.parent = 0 ∨ thingB t x.parent = true := by
  unfold aloneB at h
  rw [Bool.and_eq_true] at h
  have h2 := h.2
  cases hr : x.room <;> simp [hr] at h2
  · exact h2.2
  · exact .inl h2.1
def rnHead (t : TabP) (x : ThingP) : Bool := x.title != 0 || x.text != -1 || x.parent != 0 || x.flags != 0 || x.room || (x.props.length : Int) != t.props.length || x.sum != 0
def rnothingB (t : TabP) (x : ThingP) : Bool := !rnHead t x && x.props.all (fun z => z == 0)
/-- All things are alright but for where they lead: each parent is a thing. -/
def Led (t : TabP) : Prop := ∀ k, k < t.things.length → 0 < k → aloneB t (t.things.getD k dThing) = true
theorem led_up {t : TabP} (h : Led t) {n : Int} (hn : thingB t n = true) : upT t n = 0 ∨ thingB t (upT t n) = true := by
  have h1 := among_iff.1 (show among n 1 _ = true from hn)
  have h2 := h n.toNat (by omega) (by omega)
  exact alone_parent h2
theorem thBad_led {t : TabP} (h : ∀ j, j < t.things.length → (!thBad t j) = true) : Led t := fun k hk h0 => by
  have h1 := h k hk
  unfold thBad at h1
  simp only [Bool.not_or, Bool.and_eq_true, Bool.not_eq_true', Bool.and_eq_false_iff, decide_eq_false_iff_not] at h1
  rcases h1.2 with h2 | h2
  · omega
  · simpa using h2
theorem slot_one {l : List SlotP} {k : Nat} (h : (l.getD k dSlot).kind = 1) : slotBad l k = (((l.getD k dSlot).words.length : Int) == 0 || !wordsB (l.getD k dSlot).words 4) := by
  unfold slotBad
  rw [h]
  rfl
theorem slot_other {l : List SlotP} {k : Nat} {n : Int} (h : (l.getD k dSlot).kind = n) (h1 : n ≠ 1) (h2 : among n 2 5 = true) : slotBad l k = (decide (((l.getD k dSlot).words.length : Int) > 0) || ((k : Int) == 0 && (l.getD k dSlot).kind != 5)) := by
  unfold slotBad
  have : ((l.getD k dSlot).kind == 1) = false := by rw [h]; simpa using h1
  rw [this, cond_false, h, h2, Bool.not_true, Bool.false_or]
theorem slot_none {l : List SlotP} {k : Nat} (h1 : (l.getD k dSlot).kind ≠ 1) (h2 : among (l.getD k dSlot).kind 2 5 = false) : slotBad l k = true := by
  unfold slotBad
  have : ((l.getD k dSlot).kind == 1) = false := by simpa using h1
  rw [this, cond_false, h2]
  rfl
theorem cntK_le (p : Int → Bool) (l : List SlotP) (k : Nat) : 0 ≤ cntK p l k ∧ cntK p l k ≤ k := by
  unfold cntK
  have h1 := List.countP_le_length (p := fun s : SlotP => p s.kind) (l := l.take k)
  have h2 : (l.take k).length ≤ k := by rw [List.length_take]; omega
  omega
theorem cntK_succ (p : Int → Bool) {l : List SlotP} {k : Nat} (h : k < l.length) : cntK p l (k + 1) = cntK p l k + (if p (l.getD k dSlot).kind = true then 1 else 0) := by
  unfold cntK
  have e : l.take (k + 1) = l.take k ++ [l.getD k dSlot] := by rw [List.take_add_one]; simp [h]
  rw [e, List.countP_append]
  cases hp : p (l.getD k dSlot).kind <;> simp_all
end Go.Proofs.Ytfbkokcpkcfkiaa
