/- A story's tables and a world as plain data, and as abstract values. No program stands in this text. Contracts told by rows: readers, rows of numbers; an array's element. No program stands in this text. What the tables' tests answer, in plain words. No program stands in this text. Chapter 22 as plain data: a world as bytes; the world that bytes are. No program stands in this text. -/
import Derived.Test.YtjloemlnejndmaaOo
import Derived.Test.YtjloemlnejndmaaVwSpec2
namespace Go.Proofs.Ytjloemlnejndmaa
open Go.RowKit
set_option linter.unusedVariables false

def slI (l : List Int) : Av := .sl 1 l.length fun j => vi (l.getD j 0)
def slS (l : List ByteArray) : Av := .sl 1 l.length fun j => vs (l.getD j ByteArray.empty)
structure WayP where
  dir : Int
  goal : Int
  cond : Int
  els : Int
def dWay : WayP := ⟨0, 0, 0, 0⟩
def wayAv (y : WayP) : Av := .agg [vi y.dir, vi y.goal, vi y.cond, vi y.els]
structure ThingP where
  title : Int
  text : Int
  parent : Int
  flags : Int
  room : Bool
  props : List Int
  words : List ByteArray
  adjs : List ByteArray
  ways : List WayP
def dThing : ThingP := ⟨0, 0, 0, 0, false, [], [], [], []⟩
def waysAv (l : List WayP) : Av := .sl 4 l.length fun j => wayAv (l.getD j dWay)
def thAv (x : ThingP) : Av := .agg [vi x.title, vi x.text, vi x.parent, vi x.flags, vb x.room, slI x.props, slS x.words, slS x.adjs, waysAv x.ways]
structure SlotP where
  kind : Int
  words : List ByteArray
def dSlot : SlotP := ⟨0, []⟩
def slotAv (x : SlotP) : Av := .agg [vi x.kind, slS x.words]
def lineAv (l : List SlotP) : Av := .sl 2 l.length fun j => slotAv (l.getD j dSlot)
structure VerbP where
  meta_ : Bool
  lines : List (List SlotP)
def dVerb : VerbP := ⟨false, []⟩
def linesAv (l : List (List SlotP)) : Av := .sl 1 l.length fun j => lineAv (l.getD j [])
def verbAv (x : VerbP) : Av := .agg [vb x.meta_, linesAv x.lines]
structure DeedP where
  verb : Int
  phase : Int
  noun : Int
  second : Int
  cond : Int
  body : Int
def dDeed : DeedP := ⟨0, 0, 0, 0, 0, 0⟩
def deedAv (x : DeedP) : Av := .agg [vi x.verb, vi x.phase, vi x.noun, vi x.second, vi x.cond, vi x.body]
structure TabP where
  title : Int
  by_ : Int
  release : Int
  max : Int
  texts : List ByteArray
  flags : Int
  props : List Int
  globals : List Int
  things : List ThingP
  acts : List VerbP
  deeds : List DeedP
  funcs : List Int
  daemons : List Int
  params : List Int
  locals : List Int
def thingsAv (l : List ThingP) : Av := .sl 9 l.length fun j => thAv (l.getD j dThing)
def actsAv (l : List VerbP) : Av := .sl 2 l.length fun j => verbAv (l.getD j dVerb)
def deedsAv (l : List DeedP) : Av := .sl 6 l.length fun j => deedAv (l.getD j dDeed)
def tabAv (t : TabP) : Av := .agg [vi t.title, vi t.by_, vi t.release, vi t.max, slS t.texts, vi t.flags, slI t.props, slI t.globals, thingsAv t.things, actsAv t.acts, deedsAv t.deeds, slI t.funcs, slI t.daemons, slI t.params, slI t.locals]
structure WorldP where
  globals : List Int
  parent : List Int
  child : List Int
  next : List Int
  flags : List Int
  props : List Int
  timers : List Int
  seed : Int
  score : Int
  turns : Int
  over : Int
  it : Int
  go : Int

def vu (n : Int) : Av := .val (.int .u64 n)
def worldAv (w : WorldP) : Av := .agg [slI w.globals, slI w.parent, slI w.child, slI w.next, slI w.flags, slI w.props, slI w.timers, vu w.seed, vi w.score, vi w.turns, vi w.over, vi w.it, vi w.go]
def WorldP.row (w : WorldP) (k : Nat) : List Int := [w.globals, w.parent, w.child, w.next, w.flags, w.props, w.timers].getD k []
def WorldP.fit (w : WorldP) : Prop := ∀ k, k < 7 → (w.row k).length ≤ 17592186044416
theorem pure_slI (l : List Int) : Pure (slI l) := by unfold slI; simp [Pure]
theorem pure_slS (l : List ByteArray) : Pure (slS l) := by unfold slS; simp [Pure]
theorem pure_way (y : WayP) : Pure (wayAv y) := by unfold wayAv; simp [Pure, PureL]
theorem pure_ways (l : List WayP) : Pure (waysAv l) := by unfold waysAv; simp [Pure, pure_way]
theorem pure_th (x : ThingP) : Pure (thAv x) := by unfold thAv; simp [Pure, PureL, pure_slI, pure_slS, pure_ways]
theorem pure_slot (x : SlotP) : Pure (slotAv x) := by unfold slotAv; simp [Pure, PureL, pure_slS]
theorem pure_line (l : List SlotP) : Pure (lineAv l) := by unfold lineAv; simp [Pure, pure_slot]
theorem pure_lines (l : List (List SlotP)) : Pure (linesAv l) := by unfold linesAv; simp [Pure, pure_line]
theorem pure_verb (x : VerbP) : Pure (verbAv x) := by unfold verbAv; simp [Pure, PureL, pure_lines]
theorem pure_deed (x : DeedP) : Pure (deedAv x) := by unfold deedAv; simp [Pure, PureL]
theorem pure_things (l : List ThingP) : Pure (thingsAv l) := by unfold thingsAv; simp [Pure, pure_th]
theorem pure_acts (l : List VerbP) : Pure (actsAv l) := by unfold actsAv; simp [Pure, pure_verb]
theorem pure_deeds (l : List DeedP) : Pure (deedsAv l) := by unfold deedsAv; simp [Pure, pure_deed]
theorem pure_tab (t : TabP) : Pure (tabAv t) := by unfold tabAv; simp [Pure, PureL, pure_slI, pure_slS, pure_things, pure_acts, pure_deeds]
theorem pure_world (w : WorldP) : Pure (worldAv w) := by unfold worldAv vu; simp [Pure, PureL, pure_slI]
/-- What a state says of its own accord. -/
theorem aw_fact {P : Program} {N : Nat} {D : List Nat} {c : Code} {Q : Exit → Ctx → Prop} {Γ : Ctx} {t : Nat} {x : Av} {φ : Prop} (hx : lkS Γ.s t = x) (hφ : ∀ E v, Rep E x v → φ) (h : φ → AW P N D c Q Γ) : AW P N D c Q Γ := fun E a hF => by
  have := hF.holds.1 t
  rw [hx] at this
  exact h (hφ E _ this) E a hF
theorem sl_le {k n : Nat} {row : Nat → Av} (E : Env) (v : Value) (h : Rep E (.sl k n row) v) : n ≤ 9223372036854775807 := by
  unfold Rep at h
  obtain ⟨A, c, _, h1, h2, _⟩ := h
  unfold maxLen at h2
  omega
/-- So many of each as memory holds. -/
structure TabP.Few (t : TabP) : Prop where
  texts : t.texts.length ≤ 9223372036854775807
  things : t.things.length ≤ 9223372036854775807
  acts : t.acts.length ≤ 9223372036854775807
  deeds : t.deeds.length ≤ 9223372036854775807
  funcs : t.funcs.length ≤ 9223372036854775807
  daemons : t.daemons.length ≤ 9223372036854775807
  params : t.params.length ≤ 9223372036854775807
  locals : t.locals.length ≤ 9223372036854775807
theorem RepL.at_ {E : Env} {xs : List Av} {vs : List Value} (h : RepL E xs vs) (i : Nat) (y : Av) (hy : xs[i]? = some y) : ∃ v, Rep E y v := by
  obtain ⟨u, _, h2⟩ := h.get i y hy
  exact ⟨u, h2⟩
theorem tab_few (t : TabP) (E : Env) (v : Value) (h : Rep E (tabAv t) v) : t.Few := by
  unfold tabAv Rep at h
  obtain ⟨vs, _, h, _⟩ := h
  have g := fun i y hy => h.at_ i y hy
  obtain ⟨_, h4⟩ := g 4 _ rfl
  obtain ⟨_, h8⟩ := g 8 _ rfl
  obtain ⟨_, h9⟩ := g 9 _ rfl
  obtain ⟨_, h10⟩ := g 10 _ rfl
  obtain ⟨_, h11⟩ := g 11 _ rfl
  obtain ⟨_, h12⟩ := g 12 _ rfl
  obtain ⟨_, h13⟩ := g 13 _ rfl
  obtain ⟨_, h14⟩ := g 14 _ rfl
  exact ⟨sl_le E _ h4, sl_le E _ h8, sl_le E _ h9, sl_le E _ h10, sl_le E _ h11, sl_le E _ h12, sl_le E _ h13, sl_le E _ h14⟩
/-! ### The small tests -/
def among (n lo hi : Int) : Bool := decide (lo ≤ n) && decide (n ≤ hi)
theorem among_iff {n lo hi : Int} : among n lo hi = true ↔ lo ≤ n ∧ n ≤ hi := by simp [among]
def isV16 (n : Int) : Bool := among n (-32768) 32767
def getZ (l : List Int) (n : Int) : Int := l.getD n.toNat 0
def freeB (t : TabP) (n : Int) : Bool := among n 0 ((t.params.length : Int) - 1) && (getZ t.params n == 0)
def textB (t : TabP) (n : Int) : Bool := among n 0 ((t.texts.length : Int) - 1)
def thingB (t : TabP) (n : Int) : Bool := among n 1 ((t.things.length : Int) - 1)
def TabP.at_ (t : TabP) (n : Int) : ThingP := t.things.getD n.toNat dThing
def roomB (t : TabP) (n : Int) : Bool := thingB t n && (t.at_ n).room
def smallC (n : Int) : Bool := decide (97 ≤ n) && decide (n ≤ 122)
def greatC (n : Int) : Bool := decide (65 ≤ n) && decide (n ≤ 90)
def digitC (n : Int) : Bool := decide (48 ≤ n) && decide (n ≤ 57)
def rowC (n : Int) : Bool := smallC n || greatC n || digitC n || n == 45 || n == 39
def textC (n : Int) : Bool := (decide (32 ≤ n) && decide (n ≤ 126)) || n == 10
theorem tB_at {s : ByteArray} {k : Nat} (h : k < s.size) : (tB s)[k]? = some (s[k].toNat : Int) := by
  rw [List.getElem?_eq_getElem (by rw [tB_len]; exact h), tB_get s k h]
theorem tB_mem {s : ByteArray} {k : Nat} (h : k < s.size) : (s[k].toNat : Int) ∈ tB s := List.mem_of_getElem? (tB_at h)
def isTextS (s : ByteArray) : Bool := (tB s).all textC && decide ((s.size : Int) ≤ 1024)
def wordC (c : Int) : Bool := smallC c || digitC c || c == 45 || c == 39
def wordHead (s : ByteArray) : Bool := decide (1 ≤ (s.size : Int)) && decide ((s.size : Int) ≤ 9) && (smallC ((tB s).getD 0 0) || digitC ((tB s).getD 0 0))
def isWordS (s : ByteArray) : Bool := wordHead s && (tB s).all wordC
theorem wordHead_not (s : ByteArray) : (decide ((s.size : Int) < 1) || decide (9 < (s.size : Int)) || (!smallC ((tB s).getD 0 0) && !digitC ((tB s).getD 0 0))) = !wordHead s := by
  unfold wordHead
  cases smallC ((tB s).getD 0 0) <;> cases digitC ((tB s).getD 0 0) <;> simp <;> rw [Bool.eq_iff_iff] <;> simp <;> omega
theorem textC_not (c : Int) : ((decide (c < 32) || decide (126 < c)) && c != 10) = !textC c := by
  unfold textC
  rw [Bool.eq_iff_iff]
  simp
  try omega
theorem wordC_not (c : Int) : (!rowC c || greatC c) = !wordC c := by
  unfold wordC rowC greatC smallC digitC
  rw [Bool.eq_iff_iff]
  simp
  try omega
end Go.Proofs.Ytjloemlnejndmaa
namespace Go.Proofs.Ytjloemlnejndmaa
open Go.RowKit
set_option linter.unusedVariables false
set_option linter.unusedSimpArgs false
theorem rd_of_slI {E : Env} {xs : List Int} {v : Value} (h : Rep E (slI xs) v) : ∃ A c, v = .slice A xs.length c ∧ xs.length ≤ c ∧ c ≤ maxLen ∧ Rd E.w E.w.heap.size A (cb .i64 xs) := by
  unfold slI Rep at h
  obtain ⟨A, c, h1, h2, h3, h4⟩ := h
  refine ⟨A, c, h1, h2, h3, fun hl => ?_⟩
  rw [cb_length] at hl
  obtain ⟨b, o, h5, h6, h7⟩ := h4 hl
  refine ⟨b, o, h5, h6.1, fun j u hu => ?_⟩
  have hj : j < xs.length := by have := (List.getElem?_eq_some_iff.1 hu).1; rwa [cb_length] at this
  obtain ⟨u', h8, h9, h10⟩ := h7 j hj
  unfold Rep at h8
  subst h8
  have := h10 0 (.int .i64 (xs.getD j 0)) (by simp [Value.cells])
  have hu' : u = .int .i64 (xs.getD j 0) := by
    unfold cb at hu
    rw [List.getElem?_map, List.getElem?_eq_getElem hj] at hu
    simp at hu
    rw [← hu]
    simp [List.getD, hj]
  rw [hu']
  simpa using this
theorem slI_of_rd {E : Env} {xs : List Int} {A : Option Addr} {c : Nat} (h : 0 < xs.length → ∃ b o, A = some ⟨b, o, none⟩ ∧ E.ok b ∧ ∀ j u, (cb .i64 xs)[j]? = some u → E.w.cell? ⟨b, o + j, none⟩ = some u) (h1 : xs.length ≤ c) (h2 : c ≤ maxLen) : Rep E (slI xs) (.slice A xs.length c) := by
  unfold slI Rep
  refine ⟨A, c, rfl, h1, h2, fun hl => ?_⟩
  obtain ⟨b, o, h3, h4, h5⟩ := h hl
  refine ⟨b, o, h3, h4, fun j hj => ⟨.int .i64 (xs.getD j 0), by unfold Rep; rfl, rfl, fun i u hu => ?_⟩⟩
  have hi : i = 0 := by
    cases i with
    | zero => rfl
    | succ i => simp [Value.cells] at hu
  subst hi
  simp [Value.cells] at hu
  subst hu
  have := h5 j (.int .i64 (xs.getD j 0)) (by unfold cb; rw [List.getElem?_map, List.getElem?_eq_getElem hj]; simp [List.getD, hj])
  simpa using this
theorem slI_of_own {E : Env} (hG : Good E) {w' : World} {e : TypeId} {A : Option Addr} {n c : Nat} {zs : List Int} (ho : Own w' E.w.heap.size e (.slice A n c) (cb .i64 zs)) (hb : Below E.w.heap.size E.w w') : Rep { E with w := w' } (slI zs) (.slice A n c) := by
  obtain ⟨h1, h2, h3⟩ := ho.rd
  rw [cb_length] at h1
  subst h1
  rcases ho.2 with ⟨h4, _⟩ | ⟨g, cap, cur, h4, h5, h6, h7, h8, _⟩
  · injection h4 with h4 h5 h6
    subst h6
    exact slI_of_rd (fun hl => by omega) h2 (Nat.zero_le _)
  · injection h4 with h4 h9 h10
    subst h10
    refine slI_of_rd (fun hl => ?_) h2 h8
    obtain ⟨b, o, h11, _, h12⟩ := h3 (by rwa [cb_length])
    rw [h4] at h11
    injection h11 with h11
    injection h11 with h11 h13
    subst h11; subst h13
    exact ⟨g, 0, h4, ⟨(Array.getElem?_eq_some_iff.1 h6).1, fun hbad => by have := hG.old g hbad; omega, fun n hn => by have := (hG.lt n g hn).1; omega⟩, h12⟩
/-- A row of bytes and a scalar in, a row of bytes out. -/
theorem pc_put {f : FuncId} {e : TypeId} {u : Value} {xs zs : List Int} {P : Program} (h : ∀ A c w, Rd w w.heap.size A (cb .u8 xs) → xs.length ≤ c → Calls P f #[.slice A xs.length c, u] w (RetOwn w e (cb .u8 zs))) : PC P f [bs xs, .val u] (bs zs) := by
  intro E vs hG hA _ _ _
  unfold RepL RepL RepL at hA
  obtain ⟨v, us, rfl, hv, v', us', rfl, hv', rfl⟩ := hA
  obtain ⟨A, c, rfl, h1, _, h2⟩ := rd_of_bs hv
  unfold Rep at hv'
  subst hv'
  refine (h A c E.w h2 h1).mono ?_
  rintro en w' ⟨B, n, cc, rfl, hown, hb⟩
  exact ⟨{ E with w := w' }, _, rfl, rfl, hG.grow hb, (Step.grow hG hb).kept (by simp), bs_of_own hG hown hb, fun n y hn => by simp [lkH] at hn⟩
/-- A row of bytes and one of numbers in, a row of bytes out. -/
theorem pc_puts {f : FuncId} {e : TypeId} {xs ls zs : List Int} {P : Program} (h : ∀ A c L d w, Rd w w.heap.size A (cb .u8 xs) → xs.length ≤ c → Rd w w.heap.size L (cb .i64 ls) → ls.length ≤ d → Calls P f #[.slice A xs.length c, .slice L ls.length d] w (RetOwn w e (cb .u8 zs))) : PC P f [bs xs, slI ls] (bs zs) := by
  intro E vs hG hA _ _ _
  unfold RepL RepL RepL at hA
  obtain ⟨v, us, rfl, hv, v', us', rfl, hv', rfl⟩ := hA
  obtain ⟨A, c, rfl, h1, _, h2⟩ := rd_of_bs hv
  obtain ⟨L, d, rfl, h1', _, h2'⟩ := rd_of_slI hv'
  refine (h A c L d E.w h2 h1 h2' h1').mono ?_
  rintro en w' ⟨B, n, cc, rfl, hown, hb⟩
  exact ⟨{ E with w := w' }, _, rfl, rfl, hG.grow hb, (Step.grow hG hb).kept (by simp), bs_of_own hG hown hb, fun n y hn => by simp [lkH] at hn⟩
/-! ### Readers -/
def rdAv (xs : List Int) (s : Int × Int) : Av := .agg [bs xs, vi s.1, vi s.2]
theorem rd_open {E : Env} {xs : List Int} {s : Int × Int} {v : Value} (h : Rep E (rdAv xs s) v) : ∃ A c, v = .agg #[.slice A xs.length c, .int .i64 s.1, .int .i64 s.2] ∧ Rep E (bs xs) (.slice A xs.length c) ∧ xs.length ≤ c ∧ Rd E.w E.w.heap.size A (cb .u8 xs) := by
  unfold rdAv Rep at h
  obtain ⟨vs, rfl, h1, _⟩ := h
  unfold RepL RepL RepL RepL at h1
  obtain ⟨v, us, rfl, h2, v1, us1, rfl, h3, v2, us2, rfl, h4, rfl⟩ := h1
  obtain ⟨A, c, rfl, h5, _, h6⟩ := rd_of_bs h2
  unfold Rep at h3 h4
  subst h3; subst h4
  exact ⟨A, c, rfl, h2, h5, h6⟩
theorem rd_shut {E : Env} {xs : List Int} {s : Int × Int} {A : Option Addr} {c : Nat} (h : Rep E (bs xs) (.slice A xs.length c)) : Rep E (rdAv xs s) (.agg #[.slice A xs.length c, .int .i64 s.1, .int .i64 s.2]) := by
  unfold rdAv Rep
  refine ⟨[_, _, _], rfl, ?_, by simp [Value.oneCell']⟩
  unfold RepL RepL RepL RepL
  exact ⟨_, _, rfl, h, _, _, rfl, by unfold Rep; rfl, _, _, rfl, by unfold Rep; rfl, rfl⟩
/-- A number is taken. -/
theorem pc_take {f : FuncId} {xs : List Int} {s s' : Int × Int} {u : Value} {P : Program} (h : ∀ A c w, Rd w w.heap.size A (cb .u8 xs) → xs.length ≤ c → Calls P f #[.agg #[.slice A xs.length c, .int .i64 s.1, .int .i64 s.2]] w fun e w' => e = .returned (.tuple #[u, .agg #[.slice A xs.length c, .int .i64 s'.1, .int .i64 s'.2]]) ∧ Below w.heap.size w w') : PC P f [rdAv xs s] (.tup [.val u, rdAv xs s']) := by
  intro E vs hG hA _ _ _
  unfold RepL RepL at hA
  obtain ⟨v, us, rfl, hv, rfl⟩ := hA
  obtain ⟨A, c, rfl, h1, h2, h3⟩ := rd_open hv
  refine (h A c E.w h3 h2).mono ?_
  rintro en w' ⟨rfl, hb⟩
  refine ⟨{ E with w := w' }, _, rfl, rfl, hG.grow hb, (Step.grow hG hb).kept (by simp), ?_, fun n y hn => by simp [lkH] at hn⟩
  unfold Rep
  refine ⟨[_, _], rfl, ?_⟩
  unfold RepL RepL RepL
  exact ⟨_, _, rfl, by unfold Rep; rfl, _, _, rfl, rd_shut (Rep.step (Step.grow hG hb) _ _ h1), rfl⟩
/-- Numbers are taken. -/
theorem pc_takes {f : FuncId} {e : TypeId} {xs zs : List Int} {s s' : Int × Int} {u : Value} {P : Program} (h : ∀ A c w, Rd w w.heap.size A (cb .u8 xs) → xs.length ≤ c → Calls P f #[.agg #[.slice A xs.length c, .int .i64 s.1, .int .i64 s.2], u] w fun en w' => ∃ A' m' c', en = .returned (.tuple #[.slice A' m' c', .agg #[.slice A xs.length c, .int .i64 s'.1, .int .i64 s'.2]]) ∧ Own w' w.heap.size e (.slice A' m' c') (cb .i64 zs) ∧ Below w.heap.size w w') : PC P f [rdAv xs s, .val u] (.tup [slI zs, rdAv xs s']) := by
  intro E vs hG hA _ _ _
  unfold RepL RepL RepL at hA
  obtain ⟨v, us, rfl, hv, v', us', rfl, hv', rfl⟩ := hA
  obtain ⟨A, c, rfl, h1, h2, h3⟩ := rd_open hv
  unfold Rep at hv'
  subst hv'
  refine (h A c E.w h3 h2).mono ?_
  rintro en w' ⟨A', m', c', rfl, hown, hb⟩
  refine ⟨{ E with w := w' }, _, rfl, rfl, hG.grow hb, (Step.grow hG hb).kept (by simp), ?_, fun n y hn => by simp [lkH] at hn⟩
  unfold Rep
  refine ⟨[_, _], rfl, ?_⟩
  unfold RepL RepL RepL
  exact ⟨_, _, rfl, slI_of_own hG hown hb, _, _, rfl, rd_shut (Rep.step (Step.grow hG hb) _ _ h1), rfl⟩
/-- The end. -/
theorem pc_end {f : FuncId} {xs : List Int} {s : Int × Int} {u : Value} {P : Program} (h : ∀ A c w, Calls P f #[.agg #[.slice A xs.length c, .int .i64 s.1, .int .i64 s.2]] w fun e w' => e = .returned u ∧ Below w.heap.size w w') : PC P f [rdAv xs s] (.val u) := by
  intro E vs hG hA _ _ _
  unfold RepL RepL at hA
  obtain ⟨v, us, rfl, hv, rfl⟩ := hA
  obtain ⟨A, c, rfl, h1, h2, h3⟩ := rd_open hv
  refine (h A c E.w).mono ?_
  rintro en w' ⟨rfl, hb⟩
  exact ⟨{ E with w := w' }, _, rfl, rfl, hG.grow hb, (Step.grow hG hb).kept (by simp), by unfold Rep; rfl, fun n y hn => by simp [lkH] at hn⟩
/-! ### An array's element -/
section
variable {P : Program} {o : Oper} {x y : Av} {R U : List (Nat × Hs)} {ρ : Operand → Av} {p q : Operand} {T : TypeId}
theorem run_index_agg1 {P : Program} (w : World) (t e : TypeId) (n : Nat) (cs : Array Value) (k : IntKind) (i : Nat) (v : Value) (h : P.underlying t = some (.array n e)) (hs : (sizeOf e).run P w = .ok 1 w) (ha : (isAgg e).run P w = .ok false w) (hi : i < n) (hv : cs[i]? = some v) :
    (Instr.index t (.agg cs) (.int k i)).run P w = .ok v w := by
  have hn : (0 ≤ (i : Int) ∧ (i : Int) < (n : Int)) := by omega
  simp [Instr.index, run_underlying h, asIntOf, hs, ha, hi, go_sem]
  rw [hv]
  rfl
def arrB (P : Program) (T : TypeId) : Option (Nat × TypeId) := match P.underlying T with | some (.array n e) => some (n, e) | _ => none
theorem arrB_some {n : Nat} {e : TypeId} (h : arrB P T = some (n, e)) : P.underlying T = some (.array n e) := by
  unfold arrB at h
  split at h
  · injection h with h; injection h with h1 h2; subst h1; subst h2; assumption
  · cases h
theorem oc_arrIndex {e : TypeId} {n by_ : Nat} {zs : List Value} {cs : List Av} {kk : IntKind} (i : Nat) (ho : o.op = .index T p q) (hp : ρ p = .agg cs) (hq : ρ q = .val (.int kk (i : Int))) (hT : arrB P T = some (n, e)) (hi : infoB P e = some (1, by_, zs)) (ha : rowB P e = some false) (hlt : i < n) (hy : cs[i]? = some y) : OC P o ρ [] y [] := oc_read fun E a hG hr _ => by
  have h1 := hr p (by simp [ho, Op.operands])
  have h2 := hr q (by simp [ho, Op.operands])
  rw [hp] at h1
  rw [hq] at h2
  unfold Rep at h1 h2
  obtain ⟨vs, h3, h4, _⟩ := h1
  obtain ⟨v, h5, h6⟩ := h4.get i y hy
  obtain ⟨i', z, i1, i2, i3, i4, i5⟩ := infoB_some hi
  refine ⟨v, ?_, h6⟩
  unfold execOp
  simp only [ho, h2, h3, Sem.run_bind, run_index_agg1 E.w T e n vs.toArray kk i v (arrB_some hT) (by simp [sizeOf, typeInfo, i1, i3, Sem.run_bind]) (isAgg_run ha E.w) hlt (by simpa using h5), Result.andThen_ok, Sem.run_pure]
/-- An array out of its parts. -/
theorem oc_buildArr {parts : List (Nat × Operand)} {k n by_ : Nat} {e : TypeId} {zs ez : List Value} {ds : List Av} (ho : o.op = .build T parts.toArray) (hz : zeroB P T = some zs) (ha : zs.all atomB = true) (hT : arrB P T = some (n, e)) (hi : infoB P e = some (k, by_, ez)) (hp : partsB (fun i => some (i * k, k)) zs.length (parts.map fun ip => (ip.1, ρ ip.2)) = true)
    (hds : fillA (fun i => some (i * k, k)) (zs.map .val) (parts.map fun ip => (ip.1, ρ ip.2)) = ds) : OC P o ρ [] (.agg ds) [] := oc_read fun E a hG hr _ => by
  obtain ⟨ie, ze, j1, j2, j3, j4, j5⟩ := infoB_some hi
  cases hi0 : P.info? T with
  | none => simp [zeroB, hi0] at hz
  | some i =>
    cases hz0 : i.zero with
    | none => simp [zeroB, hi0, hz0] at hz
    | some z =>
      simp [zeroB, hi0, hz0] at hz
      subst hz
      have hRC : RepC E (z.cells.toList.map .val) z.cells := ⟨by simp, fun k y hy => by
        rw [List.getElem?_map] at hy
        cases hk : z.cells.toList[k]? with
        | none => simp [hk] at hy
        | some u =>
          simp [hk] at hy
          subst hy
          exact ⟨u, by simpa using hk, atomB_one ((List.all_eq_true.1 ha) u (List.mem_of_getElem? hk)), by unfold Rep; rfl⟩⟩
      obtain ⟨cells', h1, h2⟩ := fill_ok (a := a) (N := z.cells.toList.length) parts _ _ hRC (by simp) (fun ip hip => hr ip.2 (by simp [ho, Op.operands]; exact ⟨_, hip⟩)) (by simpa using hp)
      rw [hds] at h2
      refine ⟨.agg cells', ?_, ?_⟩
      · have hfill : Instr.fill (fun i => some (i * k, k)) z.cells ((parts.toArray.map fun (i, x) => (i, a.eval x)).toList) = some cells' := by
          rw [← h1]
          congr 1
          simp
        unfold execOp
        simp only [ho, Instr.build, Sem.run_bind]
        have hzv : (zeroValue T).run P E.w = .ok z E.w := by simp [zeroValue, typeInfo, hi0, hz0, Sem.run_bind]
        have hsz : (sizeOf e).run P E.w = .ok k E.w := by simp [sizeOf, typeInfo, j1, j3, Sem.run_bind]
        simp only [hzv, Result.andThen_ok, run_underlying (arrB_some hT), Sem.run_bind, hsz, Sem.run_pure, hfill]
      · unfold Rep
        refine ⟨cells'.toList, by simp, ?_, ?_⟩
        · have gen : ∀ (ds : List Av) (vs : List Value), ds.length = vs.length → (∀ (i : Nat) (y : Av), ds[i]? = some y → ∃ u : Value, vs[i]? = some u ∧ Rep E y u) → RepL E ds vs := by
            intro ds
            induction ds with
            | nil => intro vs hl _; unfold RepL; cases vs with | nil => rfl | cons => simp at hl
            | cons d ds ih =>
              intro vs hl hh
              cases vs with
              | nil => simp at hl
              | cons v vs =>
                unfold RepL
                refine ⟨v, vs, rfl, ?_, ih vs (by simpa using hl) fun i y hy => by simpa using hh (i + 1) y (by simpa using hy)⟩
                obtain ⟨u, hu, h3⟩ := hh 0 d rfl
                simp at hu
                subst hu
                exact h3
          refine gen ds _ (by simpa using h2.1) fun i y hy => ?_
          obtain ⟨u, h3, h4, h5⟩ := h2.2 i y hy
          exact ⟨u, by simpa using h3, h5⟩
        · intro u hu
          obtain ⟨i, hi', rfl⟩ := List.getElem_of_mem hu
          have hlt : i < ds.length := by have := h2.1; simp at hi'; omega
          obtain ⟨u', h3, h4, h5⟩ := h2.2 i ds[i] (List.getElem?_eq_getElem hlt)
          have : cells'[i]? = some cells'.toList[i] := by simp at hi' ⊢
          rw [this] at h3
          injection h3 with h3
          rw [h3]; exact h4
end
end Go.Proofs.Ytjloemlnejndmaa
namespace Go.Proofs.Ytjloemlnejndmaa
open Go.RowKit
set_option linter.unusedVariables false

theorem rall_true {n : Nat} {p : Nat → Bool} (h : ∀ j, j < n → p j = true) : (List.range n).all p = true := by
  rw [List.all_eq_true]
  intro x hx
  exact h x (List.mem_range.1 hx)
theorem rall_false {n k : Nat} {p : Nat → Bool} (h : k < n) (hp : p k = false) : (List.range n).all p = false := by
  rw [List.all_eq_false]
  exact ⟨k, List.mem_range.2 h, by simp [hp]⟩
theorem rall_step {k : Nat} {p : Nat → Bool} (h : ∀ j, j < k → p j = true) (hp : p k = true) : ∀ j, j < k + 1 → p j = true := fun j hj => by
  rcases Nat.lt_or_ge j k with h1 | h1
  · exact h j h1
  · obtain rfl : j = k := by omega
    exact hp
theorem rall_zero {p : Nat → Bool} : ∀ j, j < 0 → p j = true := fun j hj => absurd hj (by omega)
theorem rall_congr {n : Nat} {p q : Nat → Bool} (h : ∀ j, j < n → p j = q j) : (List.range n).all p = (List.range n).all q := by
  rw [Bool.eq_iff_iff, List.all_eq_true, List.all_eq_true]
  constructor <;> intro H x hx
  · rw [← h x (List.mem_range.1 hx)]; exact H x hx
  · rw [h x (List.mem_range.1 hx)]; exact H x hx
theorem all_range {α : Type} (d : α) (l : List α) (p : α → Bool) : (List.range l.length).all (fun i => p (l.getD i d)) = l.all p := by
  rw [Bool.eq_iff_iff, List.all_eq_true, List.all_eq_true]
  constructor
  · intro H x hx
    obtain ⟨i, hi, rfl⟩ := List.getElem_of_mem hx
    have := H i (List.mem_range.2 hi)
    simpa [hi] using this
  · intro H i hi
    have hi' : i < l.length := List.mem_range.1 hi
    have := H l[i] (List.getElem_mem hi')
    simpa [hi'] using this
theorem all_of {α : Type} {d : α} {l : List α} {p : α → Bool} (h : ∀ j, j < l.length → p (l.getD j d) = true) : l.all p = true := by rw [← all_range d]; exact rall_true h
theorem all_not {α : Type} {d : α} {l : List α} {p : α → Bool} {k : Nat} (hk : k < l.length) (h : p (l.getD k d) = false) : l.all p = false := by rw [← all_range d]; exact rall_false (p := fun i => p (l.getD i d)) hk h
theorem getD_mem {α : Type} {d : α} {l : List α} {k : Nat} (h : k < l.length) : l.getD k d ∈ l := by simp [h]
def allZ (l : List Int) (lo hi : Int) : Bool := l.all fun z => among z lo hi
/-- Strings as memory holds them. -/
def SW (l : List ByteArray) : Prop := ∀ s ∈ l, s.size ≤ 9223372036854775807
def SlotP.wf (x : SlotP) : Prop := SW x.words
def ThingP.wf (x : ThingP) : Prop := SW x.words ∧ SW x.adjs
def VerbP.wf (x : VerbP) : Prop := ∀ l ∈ x.lines, ∀ y ∈ l, SlotP.wf y
structure TabP.wf (t : TabP) : Prop where
  texts : SW t.texts
  things : ∀ x ∈ t.things, x.wf
  acts : ∀ x ∈ t.acts, x.wf
def wordsB (l : List ByteArray) (most : Int) : Bool := decide ((l.length : Int) ≤ most) && l.all isWordS
def numbersB (t : TabP) : Bool := decide ((t.texts.length : Int) ≤ 4096) && t.texts.all isTextS && textB t t.title && textB t t.by_ && among t.release 0 32767 && among t.max 0 32767 && among t.flags 4 16 && decide ((t.props.length : Int) ≤ 16) && decide ((t.globals.length : Int) ≤ 64) && t.props.all isV16 && t.globals.all isV16
def rtHead (t : TabP) : Bool := ((t.params.length : Int) != t.locals.length) || decide ((t.params.length : Int) > 2048)
def rtBad (t : TabP) (k : Nat) : Bool := !among (t.params.getD k 0) 0 8 || !among (t.locals.getD k 0) (t.params.getD k 0) 24
def routinesB (t : TabP) : Bool := !rtHead t && (List.range t.params.length).all fun k => !rtBad t k
def ThingP.sum (x : ThingP) : Int := IntKind.i64.wrap (IntKind.i64.wrap ((x.words.length : Int) + x.adjs.length) + x.ways.length)
def nothingB (x : ThingP) : Bool := x.title == 0 && x.text == -1 && x.parent == 0 && x.flags == 0 && !x.room && x.props.all (fun z => z == 0) && x.sum == 0
def lastDir (l : List WayP) : Nat → Int
  | 0 => 0
  | k + 1 => (l.getD k dWay).dir
def wayBad (t : TabP) (last : Int) (y : WayP) : Bool := decide (y.dir ≤ last) || decide (y.dir > 12) || !roomB t y.goal || (y.cond != -1 && !freeB t y.cond) || (y.els != -1 && !textB t y.els)
def waysB (t : TabP) (l : List WayP) : Bool := (List.range l.length).all fun k => !wayBad t (lastDir l k) (l.getD k dWay)
def aloneH (t : TabP) (x : ThingP) : Bool := !textB t x.title || (x.text != -1 && !textB t x.text) || decide (x.flags < 0) || decide (x.flags ≥ IntKind.i64.wrap (1 * 2 ^ (min t.flags.toNat IntKind.i64.bits))) || !x.props.all isV16 || !wordsB x.words 8 || !wordsB x.adjs 8
def aloneB (t : TabP) (x : ThingP) : Bool := !aloneH t x && (bif x.room then x.parent == 0 && waysB t x.ways else ((x.ways.length : Int) == 0 && (x.parent == 0 || thingB t x.parent)))
def topN (f : Int → Int) : Nat → Int → Int
  | 0, _ => 0
  | m + 1, n => if f n = 0 then n else topN f m (f n)
def upT (t : TabP) (n : Int) : Int := (t.at_ n).parent
def itN (f : Int → Int) : Nat → Int → Int
  | 0, n => n
  | k + 1, n => f (itN f k n)
theorem topN_step {f : Int → Int} {M k : Nat} {n : Int} (hk : k < M) (h : topN f M n = topN f (M - k) (itN f k n)) : topN f M n = if f (itN f k n) = 0 then itN f k n else topN f (M - (k + 1)) (itN f (k + 1) n) := by
  rw [h, show M - k = (M - (k + 1)) + 1 from by omega]
  rfl
theorem TabP.at_getD (t : TabP) (k : Nat) : t.at_ k = t.things.getD k dThing := by simp [TabP.at_]
def thBad (t : TabP) (k : Nat) : Bool := (((t.things.getD k dThing).props.length : Int) != t.props.length) || (decide ((k : Int) > 0) && !aloneB t (t.things.getD k dThing))
def thHead (t : TabP) : Bool := !among t.things.length 3 128 || !nothingB (t.things.getD 0 dThing)
def thingsB (t : TabP) : Bool := !thHead t && ((List.range t.things.length).all fun k => !thBad t k) && ((List.range t.things.length).all fun k => decide (k = 0) || topN (upT t) t.things.length k != 0) && (!(t.things.getD 1 dThing).room && roomB t (topN (upT t) t.things.length 1))
def slotBad (l : List SlotP) (k : Nat) : Bool := bif (l.getD k dSlot).kind == 1 then ((l.getD k dSlot).words.length : Int) == 0 || !wordsB (l.getD k dSlot).words 4 else !among (l.getD k dSlot).kind 2 5 || (decide (((l.getD k dSlot).words.length : Int) > 0) || ((k : Int) == 0 && (l.getD k dSlot).kind != 5))
def cntK (p : Int → Bool) (l : List SlotP) (k : Nat) : Int := ((l.take k).countP fun s => p s.kind : Nat)
def isNoun (k : Int) : Bool := k == 2 || k == 3
def lineB (l : List SlotP) : Bool := ((List.range l.length).all fun k => !slotBad l k) && (among l.length 1 8 && decide (cntK isNoun l l.length ≤ 2) && decide (cntK (fun k => k == 4) l l.length ≤ 1) && decide (cntK (fun k => k == 5) l l.length ≤ 1))
def nounB (t : TabP) (n : Int) : Bool := n == -1 || thingB t n
def verbB (v : VerbP) : Bool := among v.lines.length 1 8 && v.lines.all lineB
def deedB (t : TabP) (d : DeedP) : Bool := among d.verb 0 ((t.acts.length : Int) - 1) && among d.phase 1 3 && nounB t d.noun && nounB t d.second && (d.cond == -1 || freeB t d.cond) && freeB t d.body
def fitsHead (t : TabP) : Bool := !numbersB t || !routinesB t || !thingsB t || decide ((t.acts.length : Int) > 64) || decide ((t.deeds.length : Int) > 512) || decide ((t.funcs.length : Int) > 64) || decide ((t.daemons.length : Int) > 16)
def fitsB (t : TabP) : Bool := !fitsHead t && (t.acts.all verbB && t.deeds.all (deedB t) && t.funcs.all (fun n => among n 0 ((t.params.length : Int) - 1)) && t.daemons.all (freeB t))
def rnHead (t : TabP) (x : ThingP) : Bool := x.title != 0 || x.text != -1 || x.parent != 0 || x.flags != 0 || x.room || (x.props.length : Int) != t.props.length || x.sum != 0
def rnothingB (t : TabP) (x : ThingP) : Bool := !rnHead t x && x.props.all (fun z => z == 0)
/-- All things are alright but for where they lead: each parent is a thing. -/
def Led (t : TabP) : Prop := ∀ k, k < t.things.length → 0 < k → aloneB t (t.things.getD k dThing) = true
theorem thBad_led {t : TabP} (h : ∀ j, j < t.things.length → (!thBad t j) = true) : Led t := fun k hk h0 => by
  have h1 := h k hk
  unfold thBad at h1
  simp only [Bool.not_or, Bool.and_eq_true, Bool.not_eq_true', Bool.and_eq_false_iff, decide_eq_false_iff_not] at h1
  rcases h1.2 with h2 | h2
  · omega
  · simpa using h2
theorem cntK_le (p : Int → Bool) (l : List SlotP) (k : Nat) : 0 ≤ cntK p l k ∧ cntK p l k ≤ k := by
  unfold cntK
  have h1 := List.countP_le_length (p := fun s : SlotP => p s.kind) (l := l.take k)
  have h2 : (l.take k).length ≤ k := by rw [List.length_take]; omega
  omega
theorem cntK_succ (p : Int → Bool) {l : List SlotP} {k : Nat} (h : k < l.length) : cntK p l (k + 1) = cntK p l k + (if p (l.getD k dSlot).kind = true then 1 else 0) := by
  unfold cntK
  have e : l.take (k + 1) = l.take k ++ [l.getD k dSlot] := by rw [List.take_add_one]; simp [h]
  rw [e, List.countP_append]
  cases hp : p (l.getD k dSlot).kind <;> simp_all
end Go.Proofs.Ytjloemlnejndmaa
namespace Go.Proofs.Ytjloemlnejndmaa
set_option linter.unusedVariables false
open Go.RowKit
theorem u32_is (n : Int) : IntKind.u32.wrap n = n % 4294967296 := by simp [IntKind.wrap, IntKind.bits, IntKind.signed]
theorem u16_is (n : Int) : IntKind.u16.wrap n = n % 65536 := by simp [IntKind.wrap, IntKind.bits, IntKind.signed]
def packK (w : WorldP) : Nat → List Int
  | 0 => []
  | k + 1 => packK w k ++ sInts (w.row k)
def packP (w : WorldP) : List Int := packK w 7 ++ sHuge w.seed ++ sWord w.score ++ sLong (w.turns % 4294967296) ++ sByte w.over ++ sByte w.it ++ sByte w.go
/-- Rows that a contract takes. -/
def WorldP.small (w : WorldP) : Prop := ∀ k, k < 7 → (w.row k).length ≤ 1000000
theorem flatWord_len (l : List Int) : (l.flatMap sWord).length = 2 * l.length := by
  induction l with
  | nil => rfl
  | cons x l ih => rw [List.flatMap_cons, List.length_append, ih]; simp [sWord]; omega
theorem sInts_len (l : List Int) (h : l.length ≤ 1000000) : (sInts l).length ≤ 9 + 2 * l.length := by
  unfold sInts
  have := sSize_len (l.length : Int) (by omega)
  rw [List.length_append, flatWord_len]
  omega
theorem packK_len {w : WorldP} (hw : w.small) : ∀ k, k ≤ 7 → (packK w k).length ≤ k * 2000009
  | 0, _ => by simp [packK]
  | k + 1, hk => by
    have h1 := packK_len hw k (by omega)
    have h2 := hw k (by omega)
    have h3 := sInts_len _ h2
    rw [packK, List.length_append]
    omega
/-! ### The world that bytes are -/
def tI (xs : List Int) (s : Int × Int) : List Int × (Int × Int) := (sPairs (sOf xs s.1 s.2 32767 2).1, ((sOf xs s.1 s.2 32767 2).2.1, (sOf xs s.1 s.2 32767 2).2.2))
def tN (xs : List Int) (k : Nat) (s : Int × Int) : Int × (Int × Int) := (sNum (sTk xs s.1 s.2 k).1, ((sTk xs s.1 s.2 k).2.1, (sTk xs s.1 s.2 k).2.2))
def rdK (xs : List Int) : Nat → Int × Int
  | 0 => (0, 0)
  | k + 1 => (tI xs (rdK xs k)).2
def liK (xs : List Int) (k : Nat) : List Int := (tI xs (rdK xs k)).1
def sA (xs : List Int) : Int × Int := (tN xs 8 (rdK xs 7)).2
def sB (xs : List Int) : Int × Int := (tN xs 2 (sA xs)).2
def sC (xs : List Int) : Int × Int := (tN xs 4 (sB xs)).2
/-- The bytes at the end. -/
def rbK (xs : List Int) : Nat → Int × Int
  | 0 => sC xs
  | k + 1 => (tN xs 1 (rbK xs k)).2
def byK (xs : List Int) (k : Nat) : Int := (tN xs 1 (rbK xs k)).1
def readW (xs : List Int) : WorldP :=
  { globals := liK xs 0, parent := liK xs 1, child := liK xs 2, next := liK xs 3, flags := (liK xs 4).map (· % 65536), props := liK xs 5, timers := liK xs 6,
    seed := (tN xs 8 (rdK xs 7)).1, score := wrap16 (tN xs 2 (sA xs)).1, turns := (tN xs 4 (sB xs)).1, over := byK xs 0, it := byK xs 1, go := byK xs 2 }
def readE (xs : List Int) : Int := sEnd xs.length (rbK xs 3).1 (rbK xs 3).2
theorem li_len (xs : List Int) (k : Nat) : (liK xs k).length ≤ xs.length := by
  have h1 := sPairs_le (sOf xs (rdK xs k).1 (rdK xs k).2 32767 2).1
  have h2 := sOf_len xs (rdK xs k).1 (rdK xs k).2 32767 2
  show (sPairs _).length ≤ _
  omega
def nilA : Av := .val (.slice none 0 0)
def ck (xs : List Int) (k i : Nat) : Av := if i < k then slI (liK xs i) else nilA
def cellsK (xs : List Int) (k : Nat) : List Av := [ck xs k 0, ck xs k 1, ck xs k 2, ck xs k 3, ck xs k 4, ck xs k 5, ck xs k 6, vu 0, vi 0, vi 0, vi 0, vi 0, vi 0]
theorem cells_set (xs : List Int) {k : Nat} (h : k < 7) : (cellsK xs k).set k (slI (liK xs k)) = cellsK xs (k + 1) := by
  rcases k with _ | _ | _ | _ | _ | _ | _ | k <;> first | rfl | omega
theorem own_at7 {k : Nat} (h : k < 7) : ([.own 0 0, .own 0 1, .own 0 2, .own 0 3, .own 0 4, .own 0 5, .own 0 6] : List Av)[k]? = some (.own 0 k) := by
  rcases k with _ | _ | _ | _ | _ | _ | _ | k <;> first | rfl | omega
theorem row_at7 (w : WorldP) {k : Nat} (h : k < 7) : ([.ptr (slI w.globals), .ptr (slI w.parent), .ptr (slI w.child), .ptr (slI w.next), .ptr (slI w.flags), .ptr (slI w.props), .ptr (slI w.timers)] : List Av)[k]? = some (.ptr (slI (w.row k))) := by
  rcases k with _ | _ | _ | _ | _ | _ | _ | k <;> first | rfl | omega
end Go.Proofs.Ytjloemlnejndmaa
