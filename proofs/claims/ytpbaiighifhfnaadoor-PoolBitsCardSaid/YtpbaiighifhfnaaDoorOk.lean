/- What came in, opened into abstract values. No program stands in this text. -/
import Derived.Test.YtpbaiighifhfnaaDoorOl
import Derived.Lib.SmallJoins
import Derived.Deep.Fields
import Derived.Below
import Derived.SizedLaws
namespace Go.Proofs.YtpbaiighifhfnaaDoor
open Go.Joins Go.ChangeShapes Go.WideShapes Go.RowKit Go.Deep
set_option linter.unusedVariables false
/-- A world with no named block. -/
def E0 (w : World) : Env := ⟨w, fun _ => .unborn, fun _ => False⟩
theorem E0.good (w : World) (hs : Shp (E0 w)) : Good (E0 w) := ⟨fun b h => h.elim, fun n m b h => (by cases h), fun n b h => (by cases h), hs⟩
theorem E0.ok {w : World} {b : Nat} (h : b < w.heap.size) : (E0 w).ok b := ⟨h, fun h => h, fun n h => (by cases h)⟩
section
variable {H : Type} {enc : TypeId × Value → H} {P : Program} {w : World} {base : Nat} {spare : Nat → Bool} {held : Bool}
/-- Whatever reads as a T is such data. -/
def Opn (enc : TypeId × Value → H) (P : Program) (w : World) (base : Nat) (spare : Nat → Bool) (held : Bool) (T : TypeId) (α : Type) (av : α → List Av) (wf : α → Prop) : Prop :=
  ∀ (fuel : Nat) (cs : List Value) (y : DataW H × List MemPlace), DataW.trod enc P w base spare held fuel T cs = some y → (∀ n ∈ DataW.weights P T y.1, n ≤ reachBytes) → ∃ d : α, wf d ∧ RepL (E0 w) (av d) cs ∧ ∀ u ∈ cs, u.oneCell' = true
theorem Opn.map {T : TypeId} {α γ : Type} {av : α → List Av} {wf : α → Prop} (h : Opn enc P w base spare held T α av wf) (g : α → γ) (av' : γ → List Av) (wf' : γ → Prop) (h1 : ∀ d, av' (g d) = av d) (h2 : ∀ d, wf d → wf' (g d)) : Opn enc P w base spare held T γ av' wf' := fun fuel cs y hy hz => by
  obtain ⟨d, h3, h4, h5⟩ := h fuel cs y hy hz
  exact ⟨g d, h2 d h3, by rw [h1]; exact h4, h5⟩
theorem opn_int {T : TypeId} {k : IntKind} (hT : P.underlying T = some (.int k)) : Opn enc P w base spare held T Int (fun n => [.val (.int k n)]) (fun n => (Lit.int k n).wf = true) := fun fuel cs y hy _ => by
  obtain ⟨n, rfl, _, h⟩ := DataW.trod_int hT hy
  exact ⟨n, h, by unfold RepL; exact ⟨_, _, rfl, by unfold Rep; rfl, by unfold RepL; rfl⟩, by simp [Value.oneCell']⟩
theorem opn_bool {T : TypeId} (hT : P.underlying T = some .bool) : Opn enc P w base spare held T Bool (fun n => [vb n]) (fun _ => True) := fun fuel cs y hy _ => by
  obtain ⟨n, rfl, _⟩ := DataW.trod_bool hT hy
  exact ⟨n, trivial, by unfold RepL; exact ⟨_, _, rfl, by unfold Rep; rfl, by unfold RepL; rfl⟩, by simp [Value.oneCell']⟩
theorem opn_str {T : TypeId} (hT : P.underlying T = some .string) : Opn enc P w base spare held T ByteArray (fun s => [vs s]) (fun s => s.size ≤ 140737488351232) := fun fuel cs y hy hz => by
  obtain ⟨s, rfl, rfl, h⟩ := DataW.trod_string hT hy
  have h2 := hz s.data.toList.length (by simp [DataW.weights])
  have h3 : reachBytes = 140737488351232 := rfl
  have h4 : s.data.toList.length = s.size := by simp
  exact ⟨s, by omega, by unfold RepL; exact ⟨_, _, rfl, by unfold Rep; rfl, by unfold RepL; rfl⟩, by simp [Value.oneCell']⟩
theorem mapM_get {α β : Type} {f : α → Option β} : ∀ {l : List α} {r : List β}, l.mapM f = some r → r.length = l.length ∧ ∀ (i : Nat) (x : α), l[i]? = some x → f x = r[i]?
  | [], r, h => by simp at h; subst h; simp
  | a :: l, r, h => by
    rw [List.mapM_cons] at h
    cases ha : f a with
    | none => rw [ha] at h; simp at h
    | some b =>
      rw [ha] at h
      cases hl : l.mapM f with
      | none => rw [hl] at h; simp at h
      | some r' =>
        rw [hl] at h
        simp at h
        subst h
        obtain ⟨h1, h2⟩ := mapM_get hl
        refine ⟨by simp [h1], fun i x hx => ?_⟩
        cases i with
        | zero => simp at hx; subst hx; simpa using ha
        | succ i => simpa using h2 i x (by simpa using hx)
theorem cells_each {a : Addr} {n : Nat} {cs : List Value} (h : w.cells? base a n = some cs) : cs.length = n ∧ ∀ i, i < n → w.cell? (a.add i) = cs[i]? := by
  unfold World.cells? at h
  split at h
  · obtain ⟨h1, h2⟩ := mapM_get h
    exact ⟨by simpa using h1, fun i hi => h2 i i (by rw [List.getElem?_range hi])⟩
  · cases h
theorem cell_spot {a : Addr} {v : Value} (h : w.cell? a = some v) : a.spot = none ∧ a.block < w.heap.size := by
  unfold World.cell? at h
  split at h
  · rename_i c _ _ hb
    refine ⟨?_, ?_⟩
    · cases hs : a.spot with
      | none => rfl
      | some s => rw [hs] at h; simp at h
    · exact (Array.getElem?_eq_some_iff.1 hb).1
  · cases h
theorem weightsAll_mem {e : TypeId} : ∀ {ds : List (DataW H)} {d : DataW H} {n : Nat}, d ∈ ds → n ∈ DataW.weights P e d → n ∈ DataW.weightsAll P e ds
  | x :: r, d, n, hd, hn => by
    unfold DataW.weightsAll
    rcases List.mem_cons.1 hd with rfl | hd
    · exact List.mem_append.2 (.inl hn)
    · exact List.mem_append.2 (.inr (weightsAll_mem hd hn))
theorem opn_slice {T e : TypeId} {α : Type} {av : α → List Av} {wf : α → Prop} (d0 : α) (k b : Nat) (row : α → Av) (hT : P.underlying T = some (.slice e)) (hk : P.cellsOf e = k) (hb : P.bytesOf e = b) (h0 : 0 < k) (he : Opn enc P w base spare held e α av wf)
    (hrow : ∀ (d : α) (cs : List Value), RepL (E0 w) (av d) cs → (∀ u ∈ cs, u.oneCell' = true) → ∃ u : Value, Rep (E0 w) (row d) u ∧ u.cells.toList = cs) :
    Opn enc P w base spare held T (List α) (fun l => [.sl k l.length fun j => row (l.getD j d0)]) (fun l => (∀ d ∈ l, wf d) ∧ l.length * b ≤ 140737488351232) := fun fuel cs y hy hz => by
  rcases DataW.trod_slice hT hy with ⟨rfl, _⟩ | ⟨a, len, cap, elems, rest, n, _, rfl, rfl, _, hl, hm, hlen, hel, _, _⟩
  · exact ⟨[], ⟨by simp, by simp⟩, by unfold RepL; exact ⟨_, _, rfl, rep_nil (Nat.zero_le _) _ _ (by unfold Rep; rfl), by unfold RepL; rfl⟩, by simp [Value.oneCell']⟩
  · have hz' : (elems.length + rest.length) * b ≤ 140737488351232 ∧ ∀ x ∈ elems, ∀ n ∈ DataW.weights P e x.1, n ≤ reachBytes := by
      unfold DataW.weights at hz
      simp only [hT] at hz
      refine ⟨?_, fun x hx n hn => hz n (List.mem_cons_of_mem _ (List.mem_append.2 (.inl (weightsAll_mem (List.mem_map.2 ⟨x, hx, rfl⟩) hn))))⟩
      have := hz _ (List.mem_cons_self)
      rw [hb] at this
      have hr : reachBytes = 140737488351232 := rfl
      simpa [hr] using this
    have hlb : len * b ≤ 140737488351232 := Nat.le_trans (Nat.mul_le_mul_right b (by omega)) hz'.1
    rw [hk] at hel
    have each : ∀ i, i < len → ∃ d : α, wf d ∧ ∃ ds : List Value, w.cells? base (a.add (i * k)) k = some ds ∧ RepL (E0 w) (av d) ds ∧ ∀ u ∈ ds, u.oneCell' = true := fun i hi => by
      have h1 := hel i hi
      rw [List.getElem?_eq_getElem (by omega), Option.bind_eq_some_iff] at h1
      obtain ⟨ds, h2, h3⟩ := h1
      obtain ⟨d, h4, h5, h6⟩ := he n ds _ h3 (hz'.2 _ (List.getElem_mem _))
      exact ⟨d, h4, ds, h2, h5, h6⟩
    let f : Nat → α := fun i => if h : i < len then Classical.choose (each i h) else d0
    have hf : ∀ i, i < len → wf (f i) ∧ ∃ ds : List Value, w.cells? base (a.add (i * k)) k = some ds ∧ RepL (E0 w) (av (f i)) ds ∧ ∀ u ∈ ds, u.oneCell' = true := fun i hi => by
      have : f i = Classical.choose (each i hi) := by simp [f, hi]
      rw [this]
      exact Classical.choose_spec (each i hi)
    have hg : ∀ j, j < len → ((List.range len).map f).getD j d0 = f j := fun j hj => by simp [hj]
    refine ⟨(List.range len).map f, ⟨fun d hd => ?_, by simpa using hlb⟩, ?_, by simp [Value.oneCell']⟩
    · obtain ⟨i, hi, rfl⟩ := List.mem_map.1 hd
      exact (hf i (List.mem_range.1 hi)).1
    · unfold RepL
      refine ⟨_, _, rfl, ?_, by unfold RepL; rfl⟩
      unfold Rep
      refine ⟨some a, cap, by simp, by simpa using hl, hm, fun hpos => ?_⟩
      have hp : 0 < len := by simpa using hpos
      obtain ⟨_, ds, h2, h3, _⟩ := hf 0 hp
      rw [Nat.zero_mul] at h2
      obtain ⟨hl2, h4⟩ := cells_each h2
      have h5 := h4 0 h0
      rw [List.getElem?_eq_getElem (by omega)] at h5
      obtain ⟨h6, h7⟩ := cell_spot h5
      have ha : a.add 0 = a := rfl
      have hspot : a.spot = none := by simpa [Addr.add] using h6
      have hblk : a.block < w.heap.size := by simpa [Addr.add] using h7
      refine ⟨a.block, a.off, by cases a; simp at hspot; subst hspot; rfl, E0.ok hblk, fun j hj => ?_⟩
      have hj' : j < len := by simpa using hj
      obtain ⟨_, ds', k2, k3, k4⟩ := hf j hj'
      obtain ⟨u, k5, k6⟩ := hrow _ _ k3 k4
      obtain ⟨kl, k7⟩ := cells_each k2
      simp only [hg j hj']
      refine ⟨u, k5, by rw [← Array.length_toList, k6, kl], fun i v hv => ?_⟩
      rw [k6] at hv
      have hi : i < k := by rw [← kl]; exact (List.getElem?_eq_some_iff.1 hv).1
      have := k7 i hi
      rw [hv] at this
      show w.cell? ⟨a.block, a.off + j * k + i, none⟩ = some v
      rw [← this]
      congr 1
      unfold Addr.add
      cases a
      simp at hspot
      subst hspot
      by_cases e1 : i = 0
      · subst e1
        by_cases e2 : j * k = 0 <;> simp [e2]
      · by_cases e2 : j * k = 0 <;> simp [e1, e2]
/-- Elements of one cell. -/
theorem row_cell {α : Type} {f : α → Av} (d : α) (cs : List Value) (h : RepL (E0 w) [f d] cs) (h1 : ∀ u ∈ cs, u.oneCell' = true) : ∃ u : Value, Rep (E0 w) (f d) u ∧ u.cells.toList = cs := by
  unfold RepL at h
  obtain ⟨v, us, rfl, h2, h3⟩ := h
  unfold RepL at h3
  subst h3
  exact ⟨v, h2, by rw [cells_one (h1 v (by simp))]⟩
/-- Structs. -/
theorem row_agg {α : Type} {f : α → List Av} (d : α) (cs : List Value) (h : RepL (E0 w) (f d) cs) (h1 : ∀ u ∈ cs, u.oneCell' = true) : ∃ u : Value, Rep (E0 w) (.agg (f d)) u ∧ u.cells.toList = cs :=
  ⟨.agg cs.toArray, by unfold Rep; exact ⟨cs, rfl, h, h1⟩, by simp [Value.cells]⟩
/-- Fields one after another. -/
def OpnF (enc : TypeId × Value → H) (P : Program) (w : World) (base : Nat) (spare : Nat → Bool) (held : Bool) (o : Nat) (fs : List Field) (m : Nat) (β : Type) (av : β → List Av) (wf : β → Prop) : Prop :=
  ∀ (fuel : Nat) (cs : List Value), (∀ f ∈ fs, ∃ y, DataW.trod enc P w base spare held fuel f.type ((cs.drop f.offset).take (P.cellsOf f.type)) = some y ∧ ∀ n ∈ DataW.weights P f.type y.1, n ≤ reachBytes) → ∃ d : β, wf d ∧ RepL (E0 w) (av d) ((cs.drop o).take m) ∧ ∀ u ∈ (cs.drop o).take m, u.oneCell' = true
theorem opnF_nil {o : Nat} : OpnF enc P w base spare held o [] 0 Unit (fun _ => []) (fun _ => True) := fun fuel cs _ => ⟨(), trivial, by unfold RepL; simp, by simp⟩
theorem opnF_cons {o k m : Nat} {f : Field} {fs : List Field} {α β : Type} {av : α → List Av} {wf : α → Prop} {avs : β → List Av} {wfs : β → Prop} (ho : f.offset = o) (hk : P.cellsOf f.type = k) (h : Opn enc P w base spare held f.type α av wf) (hs : OpnF enc P w base spare held (o + k) fs m β avs wfs) :
    OpnF enc P w base spare held o (f :: fs) (k + m) (α × β) (fun d => av d.1 ++ avs d.2) (fun d => wf d.1 ∧ wfs d.2) := fun fuel cs hf => by
  obtain ⟨y, hy, hz⟩ := hf f (by simp)
  rw [ho, hk] at hy
  obtain ⟨a, h1, h2, h3⟩ := h _ _ _ hy hz
  obtain ⟨b, h4, h5, h6⟩ := hs fuel cs fun g hg => hf g (by simp [hg])
  have e : (cs.drop o).take (k + m) = (cs.drop o).take k ++ (cs.drop (o + k)).take m := by rw [List.take_add, List.drop_drop]
  refine ⟨(a, b), ⟨h1, h4⟩, by rw [e]; exact RepL.append h2 h5, fun u hu => ?_⟩
  rw [e] at hu
  rcases List.mem_append.1 hu with hu | hu
  · exact h3 u hu
  · exact h6 u hu
theorem opn_struct {T : TypeId} {fs : List Field} {m : Nat} {β : Type} {av : β → List Av} {wf : β → Prop} (hT : P.underlying T = some (.struct fs.toArray)) (hm : P.cellsOf T = m) (h : OpnF enc P w base spare held 0 fs m β av wf) : Opn enc P w base spare held T β av wf := fun fuel cs y hy hz => by
  obtain ⟨xs, n, _, rfl, hl, hlen, hg⟩ := DataW.trod_struct hT hy
  obtain ⟨d, h1, h2, h3⟩ := h n cs fun f hf => by
    obtain ⟨i, hi⟩ := List.getElem?_of_mem hf
    have hlt := (List.getElem?_eq_some_iff.1 hi).1
    have := hg i f (by simpa using hi)
    have hx : i < xs.length := by rw [hlen]; simpa using hlt
    rw [List.getElem?_eq_getElem hx] at this
    refine ⟨_, this, fun k hk => hz k ?_⟩
    unfold DataW.weights
    simp only [hT]
    exact DataW.weights_mem_each (j := i) (by simp [hi]) (by simp [hx]) k hk
  have e : (cs.drop 0).take m = cs := by rw [List.drop_zero, List.take_of_length_le (by omega)]
  rw [e] at h2 h3
  exact ⟨d, h1, h2, h3⟩
/-- A struct that came in. -/
theorem opn_arg {r : Reach} {b0 : Nat} {T : TypeId} {fs : Array Field} {β : Type} {av : β → List Av} {wf : β → Prop} {v : Value} {d : DataW H} {p : List MemPlace} (hT : P.underlying T = some (.struct fs)) (ho : Opn enc P w base spare held T β av wf) (hv : Value.okWide P w r b0 T v) (h : DataW.Trod enc P w base spare held T v d p) (hz : ∀ n ∈ DataW.weights P T d, n ≤ reachBytes) : ∃ x : β, wf x ∧ Rep (E0 w) (.agg (av x)) v := by
  obtain ⟨cs, rfl, _⟩ := okWide_struct hT hv
  obtain ⟨fuel, hf⟩ := h
  obtain ⟨x, h1, h2, h3⟩ := ho _ _ _ hf hz
  have e : (Value.agg cs).cells.toList = cs.toList := by simp [Value.cells]
  rw [e] at h2 h3
  exact ⟨x, h1, by unfold Rep; exact ⟨cs.toList, by simp, h2, h3⟩⟩
theorem opn_arg1 {T : TypeId} {β : Type} {f : β → Av} {wf : β → Prop} {v : Value} {d : DataW H} {p : List MemPlace} (ho : Opn enc P w base spare held T β (fun x => [f x]) wf) (h1c : v.cells = #[v]) (h : DataW.Trod enc P w base spare held T v d p) (hz : ∀ n ∈ DataW.weights P T d, n ≤ reachBytes) : ∃ x : β, wf x ∧ Rep (E0 w) (f x) v := by
  obtain ⟨fuel, hf⟩ := h
  obtain ⟨x, h1, h2, h3⟩ := ho _ _ _ hf hz
  rw [h1c] at h2
  unfold RepL at h2
  obtain ⟨v', us, e, h4, _⟩ := h2
  simp at e
  obtain ⟨rfl, _⟩ := e
  exact ⟨x, h1, h4⟩
end
/-- A law's function, from outside. -/
theorem PC.law {P : Program} {f : FuncId} {xs : List Av} {vs : List Value} {w : World} (h : PC P f xs (vb true)) (hv : RepL (E0 w) xs vs) (hs : Shp (E0 w) := by intro g hg; simp [gsOf] at hg) : Calls P f vs.toArray w fun e w' => e = .returned (.bool true) ∧ Below w.heap.size w w' :=
  (h (E0 w) vs (E0.good w hs) hv (fun n y hn => by simp [lkH] at hn) (fun n hn => by simp at hn) (fun n _ => rfl)).mono fun e w' ⟨E', v, he, hw, hG, hK, hr, _⟩ => by
    unfold Rep at hr
    subst hr
    subst hw
    exact ⟨he, ⟨hK.os, hK.tape, hK.output, hK.size, fun k hk => hK.keep k hk fun n h => (by cases h)⟩⟩
end Go.Proofs.YtpbaiighifhfnaaDoor
