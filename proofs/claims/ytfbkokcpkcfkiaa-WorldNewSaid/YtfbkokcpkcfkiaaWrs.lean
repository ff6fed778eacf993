/- What the document's tests of tables answer, in plain words. No program stands in this text. -/
import Derived.Test.YtfbkokcpkcfkiaaWsp
namespace Go.Proofs.Ytfbkokcpkcfkiaa
open Go.RowKit
set_option linter.unusedVariables false

def bitsZ (n : Int) : Int := 2 ^ (min n.toNat 16)
theorem pow_bd {k : Nat} (h : k ≤ 16) : 0 < (2 : Int) ^ k ∧ (2 : Int) ^ k ≤ 65536 := by
  have h1 : (2 : Int) ^ k ≤ 2 ^ 16 := by
    have : (2 : Nat) ^ k ≤ 2 ^ 16 := Nat.pow_le_pow_right (by decide) h
    exact_mod_cast this
  have h2 : 0 < (2 : Int) ^ k := Int.pow_pos (by decide)
  exact ⟨h2, by simpa using h1⟩
theorem bits_bd (n : Int) : 0 < bitsZ n ∧ bitsZ n ≤ 65536 := pow_bd (Nat.min_le_right _ _)
theorem pow_step (k : Nat) : (2 : Int) ^ (k + 1) = 2 * 2 ^ k := by rw [Int.pow_succ, Int.mul_comm]
def rh1 (t : TabP) : Bool := decide ((t.texts.length : Int) > 4096) || !(textB t t.title || (false && t.title == -1)) || !(textB t t.by_ || (false && t.by_ == -1)) || !among t.release 0 32767 || !among t.max 0 32767 || !among t.flags 4 16
def rh2 (t : TabP) : Bool := decide ((t.props.length : Int) > 16) || decide ((t.globals.length : Int) > 64) || !t.props.all isV16 || !t.globals.all isV16 || (t.params.length : Int) != t.locals.length || decide ((t.params.length : Int) > 2048)
def rheadB (t : TabP) : Bool := !rh1 t && !rh2 t && t.texts.all isTextS && (List.range t.params.length).all fun k => !rtBad t k
def roomN (t : TabP) : Nat → Int → Bool
  | 0, _ => false
  | m + 1, x => bif thingB t x then (bif (t.at_ x).room then true else roomN t m (upT t x)) else false
theorem roomN_step {t : TabP} {M k : Nat} {x : Int} (hk : k < M) (h : roomN t M x = roomN t (M - k) (itN (upT t) k x)) : roomN t M x = bif thingB t (itN (upT t) k x) then (bif (t.at_ (itN (upT t) k x)).room then true else roomN t (M - (k + 1)) (itN (upT t) (k + 1) x)) else false := by
  rw [h, show M - k = (M - (k + 1)) + 1 from by omega]
  rfl
def endsN (t : TabP) : Nat → Int → Bool
  | 0, _ => false
  | m + 1, x => if x = 0 then true else endsN t m (upT t x)
theorem endsN_step {t : TabP} {M k : Nat} {x : Int} (hk : k < M) (h : endsN t M x = endsN t (M - k) (itN (upT t) k x)) : endsN t M x = if itN (upT t) k x = 0 then true else endsN t (M - (k + 1)) (itN (upT t) (k + 1) x) := by
  rw [h, show M - k = (M - (k + 1)) + 1 from by omega]
  rfl
def rwayBad (t : TabP) (l : List WayP) (k : Nat) : Bool := !among (l.getD k dWay).dir 1 12 || (decide ((k : Int) > 0) && decide ((l.getD k dWay).dir ≤ (l.getD (k - 1) dWay).dir)) || !thingB t (l.getD k dWay).goal || !(t.at_ (l.getD k dWay).goal).room || !((true && (l.getD k dWay).cond == -1) || freeB t (l.getD k dWay).cond) || !(textB t (l.getD k dWay).els || (true && (l.getD k dWay).els == -1))
def rwaysB (t : TabP) (l : List WayP) : Bool := (List.range l.length).all fun k => !rwayBad t l k
def rtHeadB (t : TabP) : Bool := !among t.things.length 3 128 || !rnothingB t (t.things.getD 0 dThing) || (t.things.getD 1 dThing).room
def rth1 (t : TabP) (x : ThingP) : Bool := !(textB t x.title || (false && x.title == -1)) || !(textB t x.text || (true && x.text == -1)) || !among x.flags 0 (bitsZ t.flags - 1) || (x.props.length : Int) != t.props.length || !x.props.all isV16 || !wordsB x.words 8 || !wordsB x.adjs 8
def rth2 (t : TabP) (x : ThingP) : Bool := (x.parent != 0 && !thingB t x.parent) || (x.room && x.parent != 0) || (!x.room && decide ((x.ways.length : Int) > 0)) || !rwaysB t x.ways
def rthOk (t : TabP) (k : Nat) : Bool := decide (k = 0) || (!rth1 t (t.things.getD k dThing) && !rth2 t (t.things.getD k dThing))
def rthingsB (t : TabP) : Bool := !rtHeadB t && ((List.range t.things.length).all (rthOk t)) && ((List.range t.things.length).all fun k => decide (k = 0) || endsN t t.things.length k) && roomN t t.things.length 1
def rslotBad (l : List SlotP) (k : Nat) : Bool := !among (l.getD k dSlot).kind 1 5 || ((l.getD k dSlot).kind == 1 && ((l.getD k dSlot).words.length : Int) == 0) || ((l.getD k dSlot).kind != 1 && decide (((l.getD k dSlot).words.length : Int) > 0)) || !wordsB (l.getD k dSlot).words 4
def rlineB (l : List SlotP) : Bool := ((List.range l.length).all fun k => !rslotBad l k) && (among l.length 1 8 && ((l.getD 0 dSlot).kind == 1 || (l.getD 0 dSlot).kind == 5) && decide (cntK isNoun l l.length ≤ 2) && decide (cntK (fun k => k == 4) l l.length ≤ 1) && decide (cntK (fun k => k == 5) l l.length ≤ 1))
def rdeedBad (t : TabP) (d : DeedP) : Bool := !among d.verb 0 ((t.acts.length : Int) - 1) || !among d.phase 1 3 || (d.noun != -1 && !thingB t d.noun) || (d.second != -1 && !thingB t d.second) || !((true && d.cond == -1) || freeB t d.cond) || !((false && d.body == -1) || freeB t d.body)
def rrHead (t : TabP) : Bool := decide ((t.acts.length : Int) > 64) || decide ((t.deeds.length : Int) > 512) || decide ((t.funcs.length : Int) > 64) || decide ((t.daemons.length : Int) > 16)
def rverbOk (v : VerbP) : Bool := among v.lines.length 1 8 && v.lines.all rlineB
def rrulesB (t : TabP) : Bool := !rrHead t && t.acts.all rverbOk && t.deeds.all (fun d => !rdeedBad t d) && t.funcs.all (fun n => among n 0 ((t.params.length : Int) - 1)) && t.daemons.all (fun n => (false && n == -1) || freeB t n)
def rfitsB (t : TabP) : Bool := rheadB t && rthingsB t && rrulesB t
theorem rth_parent {t : TabP} {k : Nat} (h : rthOk t k = true) (h0 : 0 < k) : (t.things.getD k dThing).parent = 0 ∨ thingB t (t.things.getD k dThing).parent = true := by
  unfold rthOk rth2 at h
  rw [Bool.or_eq_true] at h
  rcases h with h | h
  · simp at h; omega
  · simp only [Bool.and_eq_true, Bool.not_eq_true', Bool.or_eq_false_iff, Bool.and_eq_false_iff] at h
    rcases h.2.1.1.1 with h1 | h1
    · exact .inl (by simpa using h1)
    · exact .inr (by simpa using h1)
def RLed (t : TabP) : Prop := ∀ k, k < t.things.length → 0 < k → (t.things.getD k dThing).parent = 0 ∨ thingB t (t.things.getD k dThing).parent = true
theorem rled_up {t : TabP} (h : RLed t) {n : Int} (hn : thingB t n = true) : upT t n = 0 ∨ thingB t (upT t n) = true := by
  have h1 := among_iff.1 (show among n 1 _ = true from hn)
  exact h n.toNat (by omega) (by omega)
theorem rled_it {t : TabP} (h : RLed t) {n : Int} (hn : n = 0 ∨ thingB t n = true) (h2 : n ≠ 0) : upT t n = 0 ∨ thingB t (upT t n) = true := rled_up h (hn.resolve_left h2)
end Go.Proofs.Ytfbkokcpkcfkiaa
