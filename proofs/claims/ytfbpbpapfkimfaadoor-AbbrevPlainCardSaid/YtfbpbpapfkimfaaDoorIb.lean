/- A story's tables and a world as plain data, and as abstract values. No program stands in this text. Contracts told by rows: readers, rows of numbers; an array's element. No program stands in this text. -/
import Derived.Test.YtfbpbpapfkimfaaDoorOo
namespace Go.Proofs.YtfbpbpapfkimfaaDoor
open Go.RowKit
set_option linter.unusedVariables false

def slI (l : List Int) : Av := .sl 1 l.length fun j => vi (l.getD j 0)
def slS (l : List ByteArray) : Av := .sl 1 l.length fun j => vs (l.getD j ByteArray.empty)
structure WayP where
  dir : Int
  goal : Int
  cond : Int
  els : Int
def dWay : WayP := ⟨0, 0, 0, 0⟩
def wayAv (y : WayP) : Av := .agg [vi y.dir, vi y.goal, vi y.cond, vi y.els]
structure ThingP where
  title : Int
  text : Int
  parent : Int
  flags : Int
  room : Bool
  props : List Int
  words : List ByteArray
  adjs : List ByteArray
  ways : List WayP
def dThing : ThingP := ⟨0, 0, 0, 0, false, [], [], [], []⟩
def waysAv (l : List WayP) : Av := .sl 4 l.length fun j => wayAv (l.getD j dWay)
def thAv (x : ThingP) : Av := .agg [vi x.title, vi x.text, vi x.parent, vi x.flags, vb x.room, slI x.props, slS x.words, slS x.adjs, waysAv x.ways]
structure SlotP where
  kind : Int
  words : List ByteArray
def dSlot : SlotP := ⟨0, []⟩
def slotAv (x : SlotP) : Av := .agg [vi x.kind, slS x.words]
def lineAv (l : List SlotP) : Av := .sl 2 l.length fun j => slotAv (l.getD j dSlot)
structure VerbP where
  meta_ : Bool
  lines : List (List SlotP)
def dVerb : VerbP := ⟨false, []⟩
def linesAv (l : List (List SlotP)) : Av := .sl 1 l.length fun j => lineAv (l.getD j [])
def verbAv (x : VerbP) : Av := .agg [vb x.meta_, linesAv x.lines]
structure DeedP where
  verb : Int
  phase : Int
  noun : Int
  second : Int
  cond : Int
  body : Int
def dDeed : DeedP := ⟨0, 0, 0, 0, 0, 0⟩
def deedAv (x : DeedP) : Av := .agg [vi x.verb, vi x.phase, vi x.noun, vi x.second, vi x.cond, vi x.body]
structure TabP where
  title : Int
  by_ : Int
  release : Int
  max : Int
  texts : List ByteArray
  flags : Int
  props : List Int
  globals : List Int
  things : List ThingP
  acts : List VerbP
  deeds : List DeedP
  funcs : List Int
  daemons : List Int
  params : List Int
  locals : List Int
def thingsAv (l : List ThingP) : Av := .sl 9 l.length fun j => thAv (l.getD j dThing)
def actsAv (l : List VerbP) : Av := .sl 2 l.length fun j => verbAv (l.getD j dVerb)
def deedsAv (l : List DeedP) : Av := .sl 6 l.length fun j => deedAv (l.getD j dDeed)
def tabAv (t : TabP) : Av := .agg [vi t.title, vi t.by_, vi t.release, vi t.max, slS t.texts, vi t.flags, slI t.props, slI t.globals, thingsAv t.things, actsAv t.acts, deedsAv t.deeds, slI t.funcs, slI t.daemons, slI t.params, slI t.locals]
structure WorldP where
  globals : List Int
  parent : List Int
  child : List Int
  next : List Int
  flags : List Int
  props : List Int
  timers : List Int
  seed : Int
  score : Int
  turns : Int
  over : Int
  it : Int
  go : Int

def vu (n : Int) : Av := .val (.int .u64 n)
def worldAv (w : WorldP) : Av := .agg [slI w.globals, slI w.parent, slI w.child, slI w.next, slI w.flags, slI w.props, slI w.timers, vu w.seed, vi w.score, vi w.turns, vi w.over, vi w.it, vi w.go]
def WorldP.row (w : WorldP) (k : Nat) : List Int := [w.globals, w.parent, w.child, w.next, w.flags, w.props, w.timers].getD k []
def WorldP.fit (w : WorldP) : Prop := ∀ k, k < 7 → (w.row k).length ≤ 17592186044416
theorem pure_slI (l : List Int) : Pure (slI l) := by unfold slI; simp [Pure]
theorem pure_slS (l : List ByteArray) : Pure (slS l) := by unfold slS; simp [Pure]
theorem pure_way (y : WayP) : Pure (wayAv y) := by unfold wayAv; simp [Pure, PureL]
theorem pure_ways (l : List WayP) : Pure (waysAv l) := by unfold waysAv; simp [Pure, pure_way]
theorem pure_th (x : ThingP) : Pure (thAv x) := by unfold thAv; simp [Pure, PureL, pure_slI, pure_slS, pure_ways]
theorem pure_slot (x : SlotP) : Pure (slotAv x) := by unfold slotAv; simp [Pure, PureL, pure_slS]
theorem pure_line (l : List SlotP) : Pure (lineAv l) := by unfold lineAv; simp [Pure, pure_slot]
theorem pure_lines (l : List (List SlotP)) : Pure (linesAv l) := by unfold linesAv; simp [Pure, pure_line]
theorem pure_verb (x : VerbP) : Pure (verbAv x) := by unfold verbAv; simp [Pure, PureL, pure_lines]
theorem pure_deed (x : DeedP) : Pure (deedAv x) := by unfold deedAv; simp [Pure, PureL]
theorem pure_things (l : List ThingP) : Pure (thingsAv l) := by unfold thingsAv; simp [Pure, pure_th]
theorem pure_acts (l : List VerbP) : Pure (actsAv l) := by unfold actsAv; simp [Pure, pure_verb]
theorem pure_deeds (l : List DeedP) : Pure (deedsAv l) := by unfold deedsAv; simp [Pure, pure_deed]
theorem pure_tab (t : TabP) : Pure (tabAv t) := by unfold tabAv; simp [Pure, PureL, pure_slI, pure_slS, pure_things, pure_acts, pure_deeds]
theorem pure_world (w : WorldP) : Pure (worldAv w) := by unfold worldAv vu; simp [Pure, PureL, pure_slI]
/-- What a state says of its own accord. -/
theorem aw_fact {P : Program} {N : Nat} {D : List Nat} {c : Code} {Q : Exit → Ctx → Prop} {Γ : Ctx} {t : Nat} {x : Av} {φ : Prop} (hx : lkS Γ.s t = x) (hφ : ∀ E v, Rep E x v → φ) (h : φ → AW P N D c Q Γ) : AW P N D c Q Γ := fun E a hF => by
  have := hF.holds.1 t
  rw [hx] at this
  exact h (hφ E _ this) E a hF
theorem sl_le {k n : Nat} {row : Nat → Av} (E : Env) (v : Value) (h : Rep E (.sl k n row) v) : n ≤ 9223372036854775807 := by
  unfold Rep at h
  obtain ⟨A, c, _, h1, h2, _⟩ := h
  unfold maxLen at h2
  omega
/-- So many of each as memory holds. -/
structure TabP.Few (t : TabP) : Prop where
  texts : t.texts.length ≤ 9223372036854775807
  things : t.things.length ≤ 9223372036854775807
  acts : t.acts.length ≤ 9223372036854775807
  deeds : t.deeds.length ≤ 9223372036854775807
  funcs : t.funcs.length ≤ 9223372036854775807
  daemons : t.daemons.length ≤ 9223372036854775807
  params : t.params.length ≤ 9223372036854775807
  locals : t.locals.length ≤ 9223372036854775807
theorem RepL.at_ {E : Env} {xs : List Av} {vs : List Value} (h : RepL E xs vs) (i : Nat) (y : Av) (hy : xs[i]? = some y) : ∃ v, Rep E y v := by
  obtain ⟨u, _, h2⟩ := h.get i y hy
  exact ⟨u, h2⟩
theorem tab_few (t : TabP) (E : Env) (v : Value) (h : Rep E (tabAv t) v) : t.Few := by
  unfold tabAv Rep at h
  obtain ⟨vs, _, h, _⟩ := h
  have g := fun i y hy => h.at_ i y hy
  obtain ⟨_, h4⟩ := g 4 _ rfl
  obtain ⟨_, h8⟩ := g 8 _ rfl
  obtain ⟨_, h9⟩ := g 9 _ rfl
  obtain ⟨_, h10⟩ := g 10 _ rfl
  obtain ⟨_, h11⟩ := g 11 _ rfl
  obtain ⟨_, h12⟩ := g 12 _ rfl
  obtain ⟨_, h13⟩ := g 13 _ rfl
  obtain ⟨_, h14⟩ := g 14 _ rfl
  exact ⟨sl_le E _ h4, sl_le E _ h8, sl_le E _ h9, sl_le E _ h10, sl_le E _ h11, sl_le E _ h12, sl_le E _ h13, sl_le E _ h14⟩
/-! ### The small tests -/
def among (n lo hi : Int) : Bool := decide (lo ≤ n) && decide (n ≤ hi)
theorem among_iff {n lo hi : Int} : among n lo hi = true ↔ lo ≤ n ∧ n ≤ hi := by simp [among]
def isV16 (n : Int) : Bool := among n (-32768) 32767
def getZ (l : List Int) (n : Int) : Int := l.getD n.toNat 0
def freeB (t : TabP) (n : Int) : Bool := among n 0 ((t.params.length : Int) - 1) && (getZ t.params n == 0)
def textB (t : TabP) (n : Int) : Bool := among n 0 ((t.texts.length : Int) - 1)
def thingB (t : TabP) (n : Int) : Bool := among n 1 ((t.things.length : Int) - 1)
def TabP.at_ (t : TabP) (n : Int) : ThingP := t.things.getD n.toNat dThing
def roomB (t : TabP) (n : Int) : Bool := thingB t n && (t.at_ n).room
def smallC (n : Int) : Bool := decide (97 ≤ n) && decide (n ≤ 122)
def greatC (n : Int) : Bool := decide (65 ≤ n) && decide (n ≤ 90)
def digitC (n : Int) : Bool := decide (48 ≤ n) && decide (n ≤ 57)
def rowC (n : Int) : Bool := smallC n || greatC n || digitC n || n == 45 || n == 39
def textC (n : Int) : Bool := (decide (32 ≤ n) && decide (n ≤ 126)) || n == 10
theorem tB_at {s : ByteArray} {k : Nat} (h : k < s.size) : (tB s)[k]? = some (s[k].toNat : Int) := by
  rw [List.getElem?_eq_getElem (by rw [tB_len]; exact h), tB_get s k h]
theorem tB_mem {s : ByteArray} {k : Nat} (h : k < s.size) : (s[k].toNat : Int) ∈ tB s := List.mem_of_getElem? (tB_at h)
def isTextS (s : ByteArray) : Bool := (tB s).all textC && decide ((s.size : Int) ≤ 1024)
def wordC (c : Int) : Bool := smallC c || digitC c || c == 45 || c == 39
def wordHead (s : ByteArray) : Bool := decide (1 ≤ (s.size : Int)) && decide ((s.size : Int) ≤ 9) && (smallC ((tB s).getD 0 0) || digitC ((tB s).getD 0 0))
def isWordS (s : ByteArray) : Bool := wordHead s && (tB s).all wordC
theorem wordHead_not (s : ByteArray) : (decide ((s.size : Int) < 1) || decide (9 < (s.size : Int)) || (!smallC ((tB s).getD 0 0) && !digitC ((tB s).getD 0 0))) = !wordHead s := by
  unfold wordHead
  cases smallC ((tB s).getD 0 0) <;> cases digitC ((tB s).getD 0 0) <;> simp <;> rw [Bool.eq_iff_iff] <;> simp <;> omega
theorem textC_not (c : Int) : ((decide (c < 32) || decide (126 < c)) && c != 10) = !textC c := by
  unfold textC
  rw [Bool.eq_iff_iff]
  simp
  try omega
theorem wordC_not (c : Int) : (!rowC c || greatC c) = !wordC c := by
  unfold wordC rowC greatC smallC digitC
  rw [Bool.eq_iff_iff]
  simp
  try omega
end Go.Proofs.YtfbpbpapfkimfaaDoor
namespace Go.Proofs.YtfbpbpapfkimfaaDoor
open Go.RowKit
set_option linter.unusedVariables false
set_option linter.unusedSimpArgs false
theorem rd_of_slI {E : Env} {xs : List Int} {v : Value} (h : Rep E (slI xs) v) : ∃ A c, v = .slice A xs.length c ∧ xs.length ≤ c ∧ c ≤ maxLen ∧ Rd E.w E.w.heap.size A (cb .i64 xs) := by
  unfold slI Rep at h
  obtain ⟨A, c, h1, h2, h3, h4⟩ := h
  refine ⟨A, c, h1, h2, h3, fun hl => ?_⟩
  rw [cb_length] at hl
  obtain ⟨b, o, h5, h6, h7⟩ := h4 hl
  refine ⟨b, o, h5, h6.1, fun j u hu => ?_⟩
  have hj : j < xs.length := by have := (List.getElem?_eq_some_iff.1 hu).1; rwa [cb_length] at this
  obtain ⟨u', h8, h9, h10⟩ := h7 j hj
  unfold Rep at h8
  subst h8
  have := h10 0 (.int .i64 (xs.getD j 0)) (by simp [Value.cells])
  have hu' : u = .int .i64 (xs.getD j 0) := by
    unfold cb at hu
    rw [List.getElem?_map, List.getElem?_eq_getElem hj] at hu
    simp at hu
    rw [← hu]
    simp [List.getD, hj]
  rw [hu']
  simpa using this
theorem slI_of_rd {E : Env} {xs : List Int} {A : Option Addr} {c : Nat} (h : 0 < xs.length → ∃ b o, A = some ⟨b, o, none⟩ ∧ E.ok b ∧ ∀ j u, (cb .i64 xs)[j]? = some u → E.w.cell? ⟨b, o + j, none⟩ = some u) (h1 : xs.length ≤ c) (h2 : c ≤ maxLen) : Rep E (slI xs) (.slice A xs.length c) := by
  unfold slI Rep
  refine ⟨A, c, rfl, h1, h2, fun hl => ?_⟩
  obtain ⟨b, o, h3, h4, h5⟩ := h hl
  refine ⟨b, o, h3, h4, fun j hj => ⟨.int .i64 (xs.getD j 0), by unfold Rep; rfl, rfl, fun i u hu => ?_⟩⟩
  have hi : i = 0 := by
    cases i with
    | zero => rfl
    | succ i => simp [Value.cells] at hu
  subst hi
  simp [Value.cells] at hu
  subst hu
  have := h5 j (.int .i64 (xs.getD j 0)) (by unfold cb; rw [List.getElem?_map, List.getElem?_eq_getElem hj]; simp [List.getD, hj])
  simpa using this
theorem slI_of_own {E : Env} (hG : Good E) {w' : World} {e : TypeId} {A : Option Addr} {n c : Nat} {zs : List Int} (ho : Own w' E.w.heap.size e (.slice A n c) (cb .i64 zs)) (hb : Below E.w.heap.size E.w w') : Rep { E with w := w' } (slI zs) (.slice A n c) := by
  obtain ⟨h1, h2, h3⟩ := ho.rd
  rw [cb_length] at h1
  subst h1
  rcases ho.2 with ⟨h4, _⟩ | ⟨g, cap, cur, h4, h5, h6, h7, h8, _⟩
  · injection h4 with h4 h5 h6
    subst h6
    exact slI_of_rd (fun hl => by omega) h2 (Nat.zero_le _)
  · injection h4 with h4 h9 h10
    subst h10
    refine slI_of_rd (fun hl => ?_) h2 h8
    obtain ⟨b, o, h11, _, h12⟩ := h3 (by rwa [cb_length])
    rw [h4] at h11
    injection h11 with h11
    injection h11 with h11 h13
    subst h11; subst h13
    exact ⟨g, 0, h4, ⟨(Array.getElem?_eq_some_iff.1 h6).1, fun hbad => by have := hG.old g hbad; omega, fun n hn => by have := (hG.lt n g hn).1; omega⟩, h12⟩
/-- A row of bytes and a scalar in, a row of bytes out. -/
theorem pc_put {f : FuncId} {e : TypeId} {u : Value} {xs zs : List Int} {P : Program} (h : ∀ A c w, Rd w w.heap.size A (cb .u8 xs) → xs.length ≤ c → Calls P f #[.slice A xs.length c, u] w (RetOwn w e (cb .u8 zs))) : PC P f [bs xs, .val u] (bs zs) := by
  intro E vs hG hA _ _ _
  unfold RepL RepL RepL at hA
  obtain ⟨v, us, rfl, hv, v', us', rfl, hv', rfl⟩ := hA
  obtain ⟨A, c, rfl, h1, _, h2⟩ := rd_of_bs hv
  unfold Rep at hv'
  subst hv'
  refine (h A c E.w h2 h1).mono ?_
  rintro en w' ⟨B, n, cc, rfl, hown, hb⟩
  exact ⟨{ E with w := w' }, _, rfl, rfl, hG.grow hb, (Step.grow hG hb).kept (by simp), bs_of_own hG hown hb, fun n y hn => by simp [lkH] at hn⟩
/-- A row of bytes and one of numbers in, a row of bytes out. -/
theorem pc_puts {f : FuncId} {e : TypeId} {xs ls zs : List Int} {P : Program} (h : ∀ A c L d w, Rd w w.heap.size A (cb .u8 xs) → xs.length ≤ c → Rd w w.heap.size L (cb .i64 ls) → ls.length ≤ d → Calls P f #[.slice A xs.length c, .slice L ls.length d] w (RetOwn w e (cb .u8 zs))) : PC P f [bs xs, slI ls] (bs zs) := by
  intro E vs hG hA _ _ _
  unfold RepL RepL RepL at hA
  obtain ⟨v, us, rfl, hv, v', us', rfl, hv', rfl⟩ := hA
  obtain ⟨A, c, rfl, h1, _, h2⟩ := rd_of_bs hv
  obtain ⟨L, d, rfl, h1', _, h2'⟩ := rd_of_slI hv'
  refine (h A c L d E.w h2 h1 h2' h1').mono ?_
  rintro en w' ⟨B, n, cc, rfl, hown, hb⟩
  exact ⟨{ E with w := w' }, _, rfl, rfl, hG.grow hb, (Step.grow hG hb).kept (by simp), bs_of_own hG hown hb, fun n y hn => by simp [lkH] at hn⟩
/-! ### Readers -/
def rdAv (xs : List Int) (s : Int × Int) : Av := .agg [bs xs, vi s.1, vi s.2]
theorem rd_open {E : Env} {xs : List Int} {s : Int × Int} {v : Value} (h : Rep E (rdAv xs s) v) : ∃ A c, v = .agg #[.slice A xs.length c, .int .i64 s.1, .int .i64 s.2] ∧ Rep E (bs xs) (.slice A xs.length c) ∧ xs.length ≤ c ∧ Rd E.w E.w.heap.size A (cb .u8 xs) := by
  unfold rdAv Rep at h
  obtain ⟨vs, rfl, h1, _⟩ := h
  unfold RepL RepL RepL RepL at h1
  obtain ⟨v, us, rfl, h2, v1, us1, rfl, h3, v2, us2, rfl, h4, rfl⟩ := h1
  obtain ⟨A, c, rfl, h5, _, h6⟩ := rd_of_bs h2
  unfold Rep at h3 h4
  subst h3; subst h4
  exact ⟨A, c, rfl, h2, h5, h6⟩
theorem rd_shut {E : Env} {xs : List Int} {s : Int × Int} {A : Option Addr} {c : Nat} (h : Rep E (bs xs) (.slice A xs.length c)) : Rep E (rdAv xs s) (.agg #[.slice A xs.length c, .int .i64 s.1, .int .i64 s.2]) := by
  unfold rdAv Rep
  refine ⟨[_, _, _], rfl, ?_, by simp [Value.oneCell']⟩
  unfold RepL RepL RepL RepL
  exact ⟨_, _, rfl, h, _, _, rfl, by unfold Rep; rfl, _, _, rfl, by unfold Rep; rfl, rfl⟩
/-- A number is taken. -/
theorem pc_take {f : FuncId} {xs : List Int} {s s' : Int × Int} {u : Value} {P : Program} (h : ∀ A c w, Rd w w.heap.size A (cb .u8 xs) → xs.length ≤ c → Calls P f #[.agg #[.slice A xs.length c, .int .i64 s.1, .int .i64 s.2]] w fun e w' => e = .returned (.tuple #[u, .agg #[.slice A xs.length c, .int .i64 s'.1, .int .i64 s'.2]]) ∧ Below w.heap.size w w') : PC P f [rdAv xs s] (.tup [.val u, rdAv xs s']) := by
  intro E vs hG hA _ _ _
  unfold RepL RepL at hA
  obtain ⟨v, us, rfl, hv, rfl⟩ := hA
  obtain ⟨A, c, rfl, h1, h2, h3⟩ := rd_open hv
  refine (h A c E.w h3 h2).mono ?_
  rintro en w' ⟨rfl, hb⟩
  refine ⟨{ E with w := w' }, _, rfl, rfl, hG.grow hb, (Step.grow hG hb).kept (by simp), ?_, fun n y hn => by simp [lkH] at hn⟩
  unfold Rep
  refine ⟨[_, _], rfl, ?_⟩
  unfold RepL RepL RepL
  exact ⟨_, _, rfl, by unfold Rep; rfl, _, _, rfl, rd_shut (Rep.step (Step.grow hG hb) _ _ h1), rfl⟩
/-- Numbers are taken. -/
theorem pc_takes {f : FuncId} {e : TypeId} {xs zs : List Int} {s s' : Int × Int} {u : Value} {P : Program} (h : ∀ A c w, Rd w w.heap.size A (cb .u8 xs) → xs.length ≤ c → Calls P f #[.agg #[.slice A xs.length c, .int .i64 s.1, .int .i64 s.2], u] w fun en w' => ∃ A' m' c', en = .returned (.tuple #[.slice A' m' c', .agg #[.slice A xs.length c, .int .i64 s'.1, .int .i64 s'.2]]) ∧ Own w' w.heap.size e (.slice A' m' c') (cb .i64 zs) ∧ Below w.heap.size w w') : PC P f [rdAv xs s, .val u] (.tup [slI zs, rdAv xs s']) := by
  intro E vs hG hA _ _ _
  unfold RepL RepL RepL at hA
  obtain ⟨v, us, rfl, hv, v', us', rfl, hv', rfl⟩ := hA
  obtain ⟨A, c, rfl, h1, h2, h3⟩ := rd_open hv
  unfold Rep at hv'
  subst hv'
  refine (h A c E.w h3 h2).mono ?_
  rintro en w' ⟨A', m', c', rfl, hown, hb⟩
  refine ⟨{ E with w := w' }, _, rfl, rfl, hG.grow hb, (Step.grow hG hb).kept (by simp), ?_, fun n y hn => by simp [lkH] at hn⟩
  unfold Rep
  refine ⟨[_, _], rfl, ?_⟩
  unfold RepL RepL RepL
  exact ⟨_, _, rfl, slI_of_own hG hown hb, _, _, rfl, rd_shut (Rep.step (Step.grow hG hb) _ _ h1), rfl⟩
/-- The end. -/
theorem pc_end {f : FuncId} {xs : List Int} {s : Int × Int} {u : Value} {P : Program} (h : ∀ A c w, Calls P f #[.agg #[.slice A xs.length c, .int .i64 s.1, .int .i64 s.2]] w fun e w' => e = .returned u ∧ Below w.heap.size w w') : PC P f [rdAv xs s] (.val u) := by
  intro E vs hG hA _ _ _
  unfold RepL RepL at hA
  obtain ⟨v, us, rfl, hv, rfl⟩ := hA
  obtain ⟨A, c, rfl, h1, h2, h3⟩ := rd_open hv
  refine (h A c E.w).mono ?_
  rintro en w' ⟨rfl, hb⟩
  exact ⟨{ E with w := w' }, _, rfl, rfl, hG.grow hb, (Step.grow hG hb).kept (by simp), by unfold Rep; rfl, fun n y hn => by simp [lkH] at hn⟩
/-! ### An array's element -/
section
variable {P : Program} {o : Oper} {x y : Av} {R U : List (Nat × Hs)} {ρ : Operand → Av} {p q : Operand} {T : TypeId}
theorem run_index_agg1 {P : Program} (w : World) (t e : TypeId) (n : Nat) (cs : Array Value) (k : IntKind) (i : Nat) (v : Value) (h : P.underlying t = some (.array n e)) (hs : (sizeOf e).run P w = .ok 1 w) (ha : (isAgg e).run P w = .ok false w) (hi : i < n) (hv : cs[i]? = some v) :
    (Instr.index t (.agg cs) (.int k i)).run P w = .ok v w := by
  have hn : (0 ≤ (i : Int) ∧ (i : Int) < (n : Int)) := by omega
  simp [Instr.index, run_underlying h, asIntOf, hs, ha, hi, go_sem]
  rw [hv]
  rfl
def arrB (P : Program) (T : TypeId) : Option (Nat × TypeId) := match P.underlying T with | some (.array n e) => some (n, e) | _ => none
theorem arrB_some {n : Nat} {e : TypeId} (h : arrB P T = some (n, e)) : P.underlying T = some (.array n e) := by
  unfold arrB at h
  split at h
  · injection h with h; injection h with h1 h2; subst h1; subst h2; assumption
  · cases h
theorem oc_arrIndex {e : TypeId} {n by_ : Nat} {zs : List Value} {cs : List Av} {kk : IntKind} (i : Nat) (ho : o.op = .index T p q) (hp : ρ p = .agg cs) (hq : ρ q = .val (.int kk (i : Int))) (hT : arrB P T = some (n, e)) (hi : infoB P e = some (1, by_, zs)) (ha : rowB P e = some false) (hlt : i < n) (hy : cs[i]? = some y) : OC P o ρ [] y [] := oc_read fun E a hG hr _ => by
  have h1 := hr p (by simp [ho, Op.operands])
  have h2 := hr q (by simp [ho, Op.operands])
  rw [hp] at h1
  rw [hq] at h2
  unfold Rep at h1 h2
  obtain ⟨vs, h3, h4, _⟩ := h1
  obtain ⟨v, h5, h6⟩ := h4.get i y hy
  obtain ⟨i', z, i1, i2, i3, i4, i5⟩ := infoB_some hi
  refine ⟨v, ?_, h6⟩
  unfold execOp
  simp only [ho, h2, h3, Sem.run_bind, run_index_agg1 E.w T e n vs.toArray kk i v (arrB_some hT) (by simp [sizeOf, typeInfo, i1, i3, Sem.run_bind]) (isAgg_run ha E.w) hlt (by simpa using h5), Result.andThen_ok, Sem.run_pure]
/-- An array out of its parts. -/
theorem oc_buildArr {parts : List (Nat × Operand)} {k n by_ : Nat} {e : TypeId} {zs ez : List Value} {ds : List Av} (ho : o.op = .build T parts.toArray) (hz : zeroB P T = some zs) (ha : zs.all atomB = true) (hT : arrB P T = some (n, e)) (hi : infoB P e = some (k, by_, ez)) (hp : partsB (fun i => some (i * k, k)) zs.length (parts.map fun ip => (ip.1, ρ ip.2)) = true)
    (hds : fillA (fun i => some (i * k, k)) (zs.map .val) (parts.map fun ip => (ip.1, ρ ip.2)) = ds) : OC P o ρ [] (.agg ds) [] := oc_read fun E a hG hr _ => by
  obtain ⟨ie, ze, j1, j2, j3, j4, j5⟩ := infoB_some hi
  cases hi0 : P.info? T with
  | none => simp [zeroB, hi0] at hz
  | some i =>
    cases hz0 : i.zero with
    | none => simp [zeroB, hi0, hz0] at hz
    | some z =>
      simp [zeroB, hi0, hz0] at hz
      subst hz
      have hRC : RepC E (z.cells.toList.map .val) z.cells := ⟨by simp, fun k y hy => by
        rw [List.getElem?_map] at hy
        cases hk : z.cells.toList[k]? with
        | none => simp [hk] at hy
        | some u =>
          simp [hk] at hy
          subst hy
          exact ⟨u, by simpa using hk, atomB_one ((List.all_eq_true.1 ha) u (List.mem_of_getElem? hk)), by unfold Rep; rfl⟩⟩
      obtain ⟨cells', h1, h2⟩ := fill_ok (a := a) (N := z.cells.toList.length) parts _ _ hRC (by simp) (fun ip hip => hr ip.2 (by simp [ho, Op.operands]; exact ⟨_, hip⟩)) (by simpa using hp)
      rw [hds] at h2
      refine ⟨.agg cells', ?_, ?_⟩
      · have hfill : Instr.fill (fun i => some (i * k, k)) z.cells ((parts.toArray.map fun (i, x) => (i, a.eval x)).toList) = some cells' := by
          rw [← h1]
          congr 1
          simp
        unfold execOp
        simp only [ho, Instr.build, Sem.run_bind]
        have hzv : (zeroValue T).run P E.w = .ok z E.w := by simp [zeroValue, typeInfo, hi0, hz0, Sem.run_bind]
        have hsz : (sizeOf e).run P E.w = .ok k E.w := by simp [sizeOf, typeInfo, j1, j3, Sem.run_bind]
        simp only [hzv, Result.andThen_ok, run_underlying (arrB_some hT), Sem.run_bind, hsz, Sem.run_pure, hfill]
      · unfold Rep
        refine ⟨cells'.toList, by simp, ?_, ?_⟩
        · have gen : ∀ (ds : List Av) (vs : List Value), ds.length = vs.length → (∀ (i : Nat) (y : Av), ds[i]? = some y → ∃ u : Value, vs[i]? = some u ∧ Rep E y u) → RepL E ds vs := by
            intro ds
            induction ds with
            | nil => intro vs hl _; unfold RepL; cases vs with | nil => rfl | cons => simp at hl
            | cons d ds ih =>
              intro vs hl hh
              cases vs with
              | nil => simp at hl
              | cons v vs =>
                unfold RepL
                refine ⟨v, vs, rfl, ?_, ih vs (by simpa using hl) fun i y hy => by simpa using hh (i + 1) y (by simpa using hy)⟩
                obtain ⟨u, hu, h3⟩ := hh 0 d rfl
                simp at hu
                subst hu
                exact h3
          refine gen ds _ (by simpa using h2.1) fun i y hy => ?_
          obtain ⟨u, h3, h4, h5⟩ := h2.2 i y hy
          exact ⟨u, by simpa using h3, h5⟩
        · intro u hu
          obtain ⟨i, hi', rfl⟩ := List.getElem_of_mem hu
          have hlt : i < ds.length := by have := h2.1; simp at hi'; omega
          obtain ⟨u', h3, h4, h5⟩ := h2.2 i ds[i] (List.getElem?_eq_getElem hlt)
          have : cells'[i]? = some cells'.toList[i] := by simp at hi' ⊢
          rw [this] at h3
          injection h3 with h3
          rw [h3]; exact h4
end
end Go.Proofs.YtfbpbpapfkimfaaDoor
