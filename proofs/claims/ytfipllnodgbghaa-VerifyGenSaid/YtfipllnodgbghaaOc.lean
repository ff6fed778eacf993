/- Regions over abstract values, in whatever order is drawn. No program stands in this text. Statements and functions over abstract values. No program stands in this text. More plain words on memory: a row of the call's own, read and written at a place; blocks of different element types. No program stands in this text. Plain words on strings as lists of numbers. No program stands in this text. The operations over abstract values. No program stands in this text. -/
import Derived.Test.YtfipllnodgbghaaAch
import Derived.OrdersIn
import Derived.Sort.LoopGhostIn
import Derived.TacticsIn
import Derived.RangeFuncLeaves
import Derived.RangeFuncRecord
import Derived.Deep.MidRow
namespace Go.Proofs.Ytfipllnodgbghaa
open Go.RowKit
set_option linter.unusedVariables false

def maskOf (ms : List Nat) (o : Oper) : Nat := o.after.toList.foldl (fun acc e => bif Region.binds .any e then acc ||| (1 <<< e.on) ||| ms.getD e.on 0 else acc) 0
def masks : List Oper → List Nat → List Nat
  | [], ms => ms
  | o :: l, ms => masks l (ms ++ [maskOf ms o])
def bitOf (ms : List Nat) (i k : Nat) : Bool := (ms.getD i 0).testBit k
theorem foldMask {ms : List Nat} {k : Nat} : ∀ (l : List Edge) (acc : Nat), (l.foldl (fun acc e => bif Region.binds .any e then acc ||| (1 <<< e.on) ||| ms.getD e.on 0 else acc) acc).testBit k = true →
    acc.testBit k = true ∨ ∃ e ∈ l, Region.binds .any e = true ∧ (e.on = k ∨ bitOf ms e.on k = true)
  | [], acc, h => .inl h
  | e :: l, acc, h => by
    simp only [List.foldl_cons] at h
    rcases foldMask l _ h with h1 | ⟨e', he, h1⟩
    · cases hb : Region.binds .any e with
      | false => rw [hb] at h1; exact .inl h1
      | true =>
        rw [hb, cond_true, Nat.testBit_or, Nat.testBit_or, Bool.or_eq_true, Bool.or_eq_true] at h1
        rcases h1 with (h1 | h1) | h1
        · exact .inl h1
        · refine .inr ⟨e, by simp, hb, .inl ?_⟩
          rw [Nat.one_shiftLeft, Nat.testBit_two_pow] at h1
          simpa using h1
        · exact .inr ⟨e, by simp, hb, .inr h1⟩
    · exact .inr ⟨e', by simp [he], h1⟩
/-- A bit stands for a way down the edges. -/
def MP (l0 : List Oper) (ms : List Nat) : Prop := ∀ i, i < ms.length → ∃ o, l0[i]? = some o ∧ ∀ k, bitOf ms i k = true → ∃ e ∈ o.after.toList, Region.binds .any e = true ∧ (e.on = k ∨ (e.on < i ∧ bitOf ms e.on k = true))
theorem masks_ok {l0 : List Oper} : ∀ (l : List Oper) (ms : List Nat), (∀ j, l[j]? = l0[ms.length + j]?) → MP l0 ms → MP l0 (masks l ms)
  | [], ms, _, h => h
  | o :: l, ms, hl, h => by
    unfold masks
    refine masks_ok l _ (fun j => by have := hl (j + 1); simp at this; rw [this]; simp; congr 1; omega) fun i hi => ?_
    have hb : ∀ j k, j < ms.length → bitOf (ms ++ [maskOf ms o]) j k = bitOf ms j k := fun j k hj => by
      unfold bitOf
      rw [List.getD_eq_getElem?_getD, List.getD_eq_getElem?_getD, List.getElem?_append_left hj]
    rcases Nat.lt_or_ge i ms.length with h1 | h1
    · obtain ⟨o', h2, h3⟩ := h i h1
      refine ⟨o', h2, fun k hk => ?_⟩
      rw [hb i k h1] at hk
      obtain ⟨e, he, h4, h5⟩ := h3 k hk
      refine ⟨e, he, h4, ?_⟩
      rcases h5 with h5 | ⟨h5, h6⟩
      · exact .inl h5
      · exact .inr ⟨h5, by rw [hb _ _ (by omega)]; exact h6⟩
    · have hi' : i = ms.length := by simp at hi; omega
      subst hi'
      refine ⟨o, by have := hl 0; simpa using this.symm, fun k hk => ?_⟩
      unfold bitOf at hk
      rw [List.getD_eq_getElem?_getD, List.getElem?_append_right (Nat.le_refl _)] at hk
      simp at hk
      unfold maskOf at hk
      rcases foldMask _ _ hk with h2 | ⟨e, he, h2, h3⟩
      · simp at h2
      · refine ⟨e, he, h2, ?_⟩
        rcases h3 with h3 | h3
        · exact .inl h3
        · have hlt : e.on < ms.length := by
            rcases Nat.lt_or_ge e.on ms.length with h4 | h4
            · exact h4
            · unfold bitOf at h3
              rw [List.getD_eq_getElem?_getD, List.getElem?_eq_none h4] at h3
              simp at h3
          exact .inr ⟨hlt, by rw [hb _ _ hlt]; exact h3⟩
/-- p writes what o reads or writes. -/
def conf (ops : Array Oper) (o : Oper) (F : List Nat × List Nat) (p : Oper) (G : List Nat × List Nat) : Bool :=
  (match p.dst with | some d => (readsOf ops o).contains d || o.dst == some d | none => false) || G.2.any fun n => F.1.contains n || F.2.contains n
def chk (l : List Oper) (F : List (List Nat × List Nat)) : Bool :=
  let Z := (l.zip F).zipIdx
  let ms := masks l []
  Z.all fun x => Z.all fun y => x.2 == y.2 || !conf l.toArray x.1.1 x.1.2 y.1.1 y.1.2 || (if y.2 < x.2 then bitOf ms x.2 y.2 else bitOf ms y.2 x.2)
theorem chk_get {l : List Oper} {F : List (List Nat × List Nat)} (h : chk l F = true) {i k : Nat} {o p : Oper} {f g : List Nat × List Nat} (ho : l[i]? = some o) (hf : F[i]? = some f) (hp : l[k]? = some p) (hg : F[k]? = some g) (hne : i ≠ k) (hc : conf l.toArray o f p g = true) :
    (k < i ∧ bitOf (masks l []) i k = true) ∨ (i < k ∧ bitOf (masks l []) k i = true) := by
  unfold chk at h
  rw [List.all_eq_true] at h
  have hx : ((o, f), i) ∈ (l.zip F).zipIdx := by
    rw [List.mem_zipIdx_iff_getElem?]
    simp [List.getElem?_zip_eq_some, ho, hf]
  have hy : ((p, g), k) ∈ (l.zip F).zipIdx := by
    rw [List.mem_zipIdx_iff_getElem?]
    simp [List.getElem?_zip_eq_some, hp, hg]
  have := h _ hx
  rw [List.all_eq_true] at this
  have := this _ hy
  simp only [hc, Bool.not_true, Bool.or_false, Bool.or_eq_true, beq_iff_eq] at this
  rcases this with h1 | h1
  · exact absurd h1 hne
  · split at h1
    · exact .inl ⟨by assumption, h1⟩
    · exact .inr ⟨by omega, h1⟩
theorem stL_congr {L L' : Nat → Bool} : ∀ (l : List Spec) (k : Nat) (Γ : Ctx), (∀ j, j < l.length → L (k + j) = L' (k + j)) → stL L l k Γ = stL L' l k Γ
  | [], _, _, _ => rfl
  | e :: l, k, Γ, h => by
    unfold stL
    have := h 0 (by simp)
    simp only [Nat.add_zero] at this
    rw [this]
    exact stL_congr l (k + 1) _ fun j hj => by rw [show k + 1 + j = k + (j + 1) from by omega]; exact h (j + 1) (by simp; omega)
section
variable {P : Program} {Q : Exit → Act → World → Prop} {l : List Oper} {Γ Γ' : Ctx} {F : List (List Nat × List Nat)} {N : Nat}
def Down (l : List Oper) (L : Nat → Bool) : Prop := ∀ i o, l[i]? = some o → L i = true → ∀ e ∈ o.after.toList, Region.binds .any e = true → L e.on = true
theorem bit_listed {L : Nat → Bool} (hD : Down l L) : ∀ (i : Nat) (o : Oper), l[i]? = some o → (∀ e ∈ o.after.toList, Region.binds .any e = true → L e.on = true) → ∀ k, bitOf (masks l []) i k = true → L k = true := by
  have hM : MP l (masks l []) := masks_ok l [] (fun j => by simp) (fun i hi => by simp at hi)
  intro i
  induction i using Nat.strongRecOn with
  | _ i ih =>
    intro o ho hdep k hk
    have hlen : i < (masks l []).length := by
      rcases Nat.lt_or_ge i (masks l []).length with h | h
      · exact h
      · unfold bitOf at hk
        rw [List.getD_eq_getElem?_getD, List.getElem?_eq_none h] at hk
        simp at hk
    obtain ⟨o', ho', h1⟩ := hM i hlen
    rw [ho] at ho'
    injection ho' with ho'
    subst ho'
    obtain ⟨e, he, h2, h3⟩ := h1 k hk
    have h4 := hdep e he h2
    rcases h3 with h3 | ⟨h3, h5⟩
    · rw [← h3]; exact h4
    · have hlen' : e.on < (masks l []).length := by omega
      obtain ⟨o2, ho2, _⟩ := hM e.on hlen'
      exact ih e.on h3 o2 ho2 (fun e' he' hb' => hD e.on o2 ho2 h4 e' he' hb') k h5
theorem Ch.any {bb : Bool} {ro : Option Nat} {kk : Nat} (h : Ch bb P l.toArray l Γ Γ' F) (hd : dstLt N l = true) (hl : lexB .any l 0 = true) (hc : chk l F = true) (E0 : Env) (df : List Deferred)
    (hk : ∀ (E' : Env) (a' : Act) (M : List Nat), Good E' → Step E0 E' M → Holds E' a'.tmps Γ' → a'.tmps.size = N → a'.defers = df → Q .normal a' E'.w) :
    ∀ (s : List Spec), SpA bb P l.toArray l s Γ → s.map fp = F → stL (fun _ => true) s 0 Γ = Γ' → ∀ (fuel : Nat) (listed : Array Bool) (E : Env) (a : Act) (M : List Nat), listed.size = l.length → left listed = fuel → Down l (fun k => listed.getD k false) → Good E → Step E0 E M →
      Holds E a.tmps (stL (fun k => listed.getD k false) s 0 Γ) → a.tmps.size = N → a.defers = df → wpAnyIn (wideAt ro) kk P .any l.toArray Q fuel listed a E.w := by
  intro s hs hF hE fuel
  have hlen := hs.len
  have fin : ∀ (listed : Array Bool) (E : Env) (a : Act) (M : List Nat), (∀ j, j < l.length → listed.getD j false = true) → Good E → Step E0 E M → Holds E a.tmps (stL (fun k => listed.getD k false) s 0 Γ) → a.tmps.size = N → a.defers = df → Q .normal a E.w := by
    intro listed E a M hall hG hS hH hN hdf
    refine hk E a M hG hS ?_ hN hdf
    rw [← hE, stL_congr (L := fun _ => true) (L' := fun k => listed.getD k false) s 0 Γ fun j hj => by rw [Nat.zero_add]; exact (hall j (by omega)).symm]
    exact hH
  induction fuel with
  | zero =>
    intro listed E a M hsz h0 hD hG hS hH hN hdf
    have hall := left_zero h0
    refine ⟨?_, fin listed E a M (fun j hj => hall j (by omega)) hG hS hH hN hdf⟩
    apply List.eq_nil_iff_forall_not_mem.2
    intro j hj
    obtain ⟨h1, o, ho, _⟩ := mem_ready.1 hj
    have hjl : j < l.length := by
      simp at ho
      exact (List.getElem?_eq_some_iff.1 ho).1
    have h2 := hall j (by omega)
    have hj' : j < listed.size := by omega
    simp [hj'] at h1 h2
    rw [h1] at h2
    cases h2
  | succ fuel ih =>
    intro listed E a M hsz h0 hD hG hS hH hN hdf
    refine ⟨fun hnil => fin listed E a M (fun j hj => ready_nil hsz hl hnil j hj) hG hS hH hN hdf, fun i hi => ?_⟩
    obtain ⟨h1, o, ho, hdeps⟩ := mem_ready.1 hi
    have ho' : l[i]? = some o := by simpa using ho
    have hil : i < l.length := (List.getElem?_eq_some_iff.1 ho').1
    have hi' : i < listed.size := by omega
    have hno : listed.getD i false = false := by simpa [Array.getD, hi'] using h1
    have hdeps' : ∀ e ∈ o.after.toList, Region.binds .any e = true → listed.getD e.on false = true := fun e he hb => hdeps e (by simpa using he) hb
    obtain ⟨e, he⟩ : ∃ e, s[i]? = some e := ⟨s[i], List.getElem?_eq_getElem (by omega)⟩
    have hFi : F[i]? = some (fp e) := by rw [← hF]; simp [he]
    obtain ⟨hed, hOS, hR⟩ := hs.get 0 i o e ho' he
    simp only [Nat.zero_add] at hOS hR
    have before : ∀ j p g, l[j]? = some p → F[j]? = some g → j ≠ i → conf l.toArray o (fp e) p g = true → listed.getD j false = decide (j < i) := by
      intro j p g hp hg hne hcf
      rcases chk_get hc ho' hFi hp hg (Ne.symm hne) hcf with ⟨h2, h3⟩ | ⟨h2, h3⟩
      · rw [show decide (j < i) = true from by simpa using h2]
        exact bit_listed (L := fun k => listed.getD k false) hD i o ho' hdeps' j h3
      · rw [show decide (j < i) = false from by simp; omega]
        cases hj : listed.getD j false with
        | false => rfl
        | true =>
          have := bit_listed (L := fun k => listed.getD k false) hD j p hp (hD j p hp hj) i h3
          rw [show listed.getD i false = true from this] at hno
          cases hno
    have spec : ∀ (j : Nat) (e' : Spec), s[j]? = some e' → ∃ p : Oper, l[j]? = some p ∧ F[j]? = some (fp e') ∧ e'.d = p.dst := by
      intro j e' he'
      have hj : j < l.length := by rw [← hlen]; exact (List.getElem?_eq_some_iff.1 he').1
      exact ⟨l[j], List.getElem?_eq_getElem hj, by rw [← hF]; simp [he'], (hs.get 0 j _ e' (List.getElem?_eq_getElem hj) he').1⟩
    have rdS : ∀ t, t ∈ readsOf l.toArray o → lkS (stL (fun k => listed.getD k false) s 0 Γ).s t = lkS (stL (fun j => decide (j < i)) s 0 Γ).s t := by
      intro t ht
      refine stL_s s 0 Γ Γ (fun j e' he' hw => ?_) rfl
      rw [Nat.zero_add]
      obtain ⟨p, hp, hg, hd'⟩ := spec j e' he'
      by_cases hji : j = i
      · subst hji; rw [hno]; simp
      · refine before j p _ hp hg hji ?_
        unfold Spec.wS at hw
        unfold conf
        rw [← hd', hw]
        simp [ht]
    have rdH : ∀ n, n ∈ e.R.map (·.1) → lkH (stL (fun k => listed.getD k false) s 0 Γ).h n = lkH (stL (fun j => decide (j < i)) s 0 Γ).h n := by
      intro n hn
      refine stL_h s 0 Γ Γ (fun j e' he' hw => ?_) rfl
      rw [Nat.zero_add]
      obtain ⟨p, hp, hg, hd'⟩ := spec j e' he'
      by_cases hji : j = i
      · subst hji; rw [hno]; simp
      · refine before j p _ hp hg hji ?_
        unfold conf
        rw [Bool.or_eq_true]
        refine .inr ?_
        rw [List.any_eq_true]
        exact ⟨n, hw, by rw [Bool.or_eq_true]; exact .inl (by simpa [fp] using hn)⟩
    have hop := hOS E a hG (fun t ht => by rw [← rdS t ht]; exact hH.1 t) (fun n y hn => hH.2 n y (by rw [rdH n (List.mem_map.2 ⟨_, hn, rfl⟩)]; exact hR n y hn))
    let L' : Nat → Bool := fun k => (listed.setIfInBounds i true).getD k false
    have hL' : ∀ k, L' k = (if k = i then true else listed.getD k false) := fun k => by
      by_cases hk : k = i
      · subst hk; simp [L', Array.getD, hi']
      · rw [if_neg hk]; exact getD_set_ne false (fun e => hk e.symm)
    have go : ∀ v w', Post E e.x e.U v w' → wpAnyIn (wideAt ro) kk P .any l.toArray Q fuel (listed.setIfInBounds i true) (a.put o.dst v) w' := by
      rintro v w' ⟨E', rfl, hSt, hG', hx, hU⟩
      refine ih _ E' _ (M ++ e.U.map (·.1)) (by simpa using hsz) (by have := left_set h1; omega) ?_ hG' (hS.trans hSt) ⟨fun t => ?_, fun n y hn => ?_⟩ (by rw [put_size, hN]) (by rw [put_defers, hdf])
      · intro j p hp hj e' he' hb'
        have hj : L' j = true := hj
        show L' e'.on = true
        rw [hL'] at hj ⊢
        by_cases hji : j = i
        · subst hji
          rw [ho'] at hp
          injection hp with hp
          subst hp
          rw [hdeps' e' he' hb']
          simp
        · rw [if_neg hji] at hj
          have := hD j p hp hj e' he' hb'
          simp only at this
          rw [this]
          simp
      · show Rep E' (lkS (stL L' s 0 Γ).s t) _
        by_cases hw : e.wS t
        · have := (stL_last (L := L') s 0 Γ i e he (by rw [Nat.zero_add, hL', if_pos rfl])).1 t hw fun j e' he' hj hw' => by
            obtain ⟨p, hp, hg, hd'⟩ := spec j e' he'
            rw [Nat.zero_add, hL', if_neg (by omega)]
            have := before j p _ hp hg (by omega) (by
              unfold Spec.wS at hw hw'
              unfold conf
              rw [← hd', hw', ← hed, hw]
              simp)
            rw [this]
            simp
            omega
          rw [this]
          unfold Spec.wS at hw
          rw [← hed, hw]
          show Rep E' e.x ((a.tmps.setIfInBounds t v).getD t undef)
          rw [getD_set_eq' _ _ _ (by
            rw [hN]
            unfold dstLt at hd
            rw [List.all_eq_true] at hd
            have := hd o (List.mem_of_getElem? ho')
            rw [← hed, hw] at this
            simpa using this)]
          exact hx
        · have : lkS (stL L' s 0 Γ).s t = lkS (stL (fun k => listed.getD k false) s 0 Γ).s t := by
            refine stL_s s 0 Γ Γ (fun j e' he' hw' => ?_) rfl
            rw [Nat.zero_add, hL']
            by_cases hji : j = i
            · subst hji
              rw [he] at he'
              injection he' with he'
              subst he'
              exact absurd hw' hw
            · rw [if_neg hji]
          rw [this]
          have hv : (a.put o.dst v).tmps.getD t undef = a.tmps.getD t undef := by
            unfold Spec.wS at hw
            rw [← hed]
            cases hd2 : e.d with
            | none => rfl
            | some d => exact getD_set_ne' _ _ fun e2 => hw (by rw [hd2, e2])
          rw [hv]
          exact Rep.step hSt _ _ (hH.1 t)
      · have hn : lkH (stL L' s 0 Γ).h n = some y := hn
        by_cases hw : e.wH n
        · obtain ⟨z, hz⟩ := lkH_some hw
          have := (stL_last (L := L') s 0 Γ i e he (by rw [Nat.zero_add, hL', if_pos rfl])).2 n z hz fun j e' he' hj hw' => by
            obtain ⟨p, hp, hg, hd'⟩ := spec j e' he'
            rw [Nat.zero_add, hL', if_neg (by omega)]
            have := before j p _ hp hg (by omega) (by
              unfold conf
              rw [Bool.or_eq_true]
              refine .inr ?_
              rw [List.any_eq_true]
              exact ⟨n, hw', by rw [Bool.or_eq_true]; exact .inr (by simpa [fp, Spec.wH] using hw)⟩)
            rw [this]
            simp
            omega
          rw [this] at hn
          injection hn with hn
          subst hn
          exact hU n z hz
        · have : lkH (stL L' s 0 Γ).h n = lkH (stL (fun k => listed.getD k false) s 0 Γ).h n := by
            refine stL_h s 0 Γ Γ (fun j e' he' hw' => ?_) rfl
            rw [Nat.zero_add, hL']
            by_cases hji : j = i
            · subst hji
              rw [he] at he'
              injection he' with he'
              subst he'
              exact absurd hw' hw
            · rw [if_neg hji]
          rw [this] at hn
          exact HAt.step hSt hw (hH.2 n y hn)
    unfold wpOpIn
    simp only [ho]
    split
    · rename_i hw
      rw [if_pos hw] at hop
      exact wpIn_of_growsB (hop.mono go)
    · rename_i hw
      rw [if_neg hw] at hop
      exact ⟨fun _ _ => trivial, go _ _ hop⟩
end
end Go.Proofs.Ytfipllnodgbghaa
namespace Go.Proofs.Ytfipllnodgbghaa
open Go.RowKit
set_option linter.unusedVariables false

/-- What a run leaves of memory: only blocks of its own names have been written to; the names D are where they were. -/
structure Kept (D : List Nat) (E E' : Env) : Prop where
  os : E'.w.os = E.w.os
  tape : E'.w.tape = E.w.tape
  output : E'.w.output = E.w.output
  size : E.w.heap.size ≤ E'.w.heap.size
  bad : E'.bad = E.bad
  keep : ∀ b, b < E.w.heap.size → (∀ n, E.loc n ≠ .at b) → E'.w.heap[b]? = E.w.heap[b]?
  from_ : ∀ n b, E'.loc n = .at b → E.w.heap.size ≤ b ∨ ∃ m, E.loc m = .at b
  born : ∀ n ∈ D, E'.loc n ≠ .unborn
  nil_ : ∀ n ∈ D, E'.loc n = .nil → E.loc n = .nil
  same : ∀ n ∈ D, ∀ b, E'.loc n = .at b → E.loc n = .at b ∧ ∀ cur t, E.w.heap[b]? = some (.cells cur t (0, 0)) → ∃ cur', E'.w.heap[b]? = some (.cells cur' t (0, 0)) ∧ cur'.size = cur.size
theorem Kept.refl {D : List Nat} {E : Env} (h : ∀ n ∈ D, E.loc n ≠ .unborn) : Kept D E E :=
  ⟨rfl, rfl, rfl, Nat.le_refl _, rfl, fun _ _ _ => rfl, fun n b h => .inr ⟨n, h⟩, h, fun n _ h => h, fun n _ b hb => ⟨hb, fun cur t hc => ⟨cur, hc, rfl⟩⟩⟩
theorem Kept.trans {D : List Nat} {E E' E'' : Env} (h : Kept D E E') (k : Kept D E' E'') : Kept D E E'' where
  os := k.os.trans h.os
  tape := k.tape.trans h.tape
  output := k.output.trans h.output
  size := Nat.le_trans h.size k.size
  bad := k.bad.trans h.bad
  keep b hb hn := by
    refine (k.keep b (Nat.lt_of_lt_of_le hb h.size) fun n hn' => ?_).trans (h.keep b hb hn)
    rcases h.from_ n b hn' with h1 | ⟨m, h1⟩
    · omega
    · exact hn m h1
  from_ n b hb := by
    rcases k.from_ n b hb with h1 | ⟨m, h1⟩
    · exact .inl (Nat.le_trans h.size h1)
    · exact h.from_ m b h1
  born := k.born
  nil_ n hn hl := h.nil_ n hn (k.nil_ n hn hl)
  same n hn b hb := by
    obtain ⟨h1, h2⟩ := k.same n hn b hb
    obtain ⟨h3, h4⟩ := h.same n hn b h1
    refine ⟨h3, fun cur t hc => ?_⟩
    obtain ⟨cur', h5, h6⟩ := h4 cur t hc
    obtain ⟨cur'', h7, h8⟩ := h2 cur' t h5
    exact ⟨cur'', h7, h8.trans h6⟩
theorem Step.kept {D N : List Nat} {E E' : Env} (h : Step E E' N) (hD : ∀ n ∈ D, E.loc n ≠ .unborn) : Kept D E E' where
  os := h.os
  tape := h.tape
  output := h.output
  size := h.size
  bad := h.bad
  keep := h.keep
  from_ n b hb := by
    rcases h.from_ n b hb with h1 | ⟨_, h1⟩
    · exact .inr ⟨n, h1⟩
    · exact h1
  born n hn := h.born n (hD n hn)
  nil_ n hn hl := by
    rcases h.nil_ n hl with h1 | h1
    · exact h1
    · exact absurd h1 (hD n hn)
  same n hn b hb := by
    rcases h.from_ n b hb with h1 | ⟨h1, _⟩
    · exact ⟨h1, fun cur t hc => h.shape n b cur t hb h1 hc⟩
    · exact absurd h1 (hD n hn)
/-- A state fits the context. -/
structure Fit (N : Nat) (D : List Nat) (E : Env) (a : Act) (Γ : Ctx) : Prop where
  good : Good E
  size : a.tmps.size = N
  born : ∀ n ∈ D, E.loc n ≠ .unborn
  holds : Holds E a.tmps Γ
/-- From the context Γ the code ends by Q; ro: in a round of a loop over a function, or in none. -/
def AWo (ro : Option Nat) (P : Program) (N : Nat) (D : List Nat) (c : Code) (Q : Exit → Ctx → Prop) (Γ : Ctx) : Prop :=
  ∀ (E : Env) (a : Act), Fit N D E a Γ → c.wpIn (wideAt ro) 0 P (fun e a' w' => ∃ E' Γ', E'.w = w' ∧ Kept D E E' ∧ Fit N D E' a' Γ' ∧ a'.defers = a.defers ∧ Q e Γ') a E.w
abbrev AW := AWo none
section
variable {P : Program} {N : Nat} {D : List Nat} {Q : Exit → Ctx → Prop} {Γ : Ctx} {ro : Option Nat}
theorem aw_skip (h : Q .normal Γ) : AWo ro P N D .skip Q Γ := fun E a hF => wpIn_skip ⟨E, Γ, rfl, Kept.refl hF.born, hF, rfl, h⟩
theorem aw_exit {id : Nat} (h : Q (.exit id) Γ) : AWo ro P N D (.exit id) Q Γ := fun E a hF => wpIn_exit ⟨E, Γ, rfl, Kept.refl hF.born, hF, rfl, h⟩
theorem aw_ret (h : Q .ret Γ) : AWo ro P N D .ret Q Γ := fun E a hF => wpIn_ret ⟨E, Γ, rfl, Kept.refl hF.born, hF, rfl, h⟩
def thenA (next : Ctx → Prop) (Q : Exit → Ctx → Prop) : Exit → Ctx → Prop
  | .normal, Γ => next Γ
  | e, Γ => Q e Γ
theorem aw_seq {x y : Code} (h : AWo ro P N D x (thenA (AWo ro P N D y Q) Q) Γ) : AWo ro P N D (.seq x y) Q Γ := fun E a hF => by
  refine wpIn_seq (wpIn_mono (h E a hF) ?_)
  rintro e a' w' ⟨E', Γ', rfl, hK, hF', hd, hq⟩
  cases e
  case normal =>
    exact wpIn_mono ((show AWo ro P N D y Q Γ' from hq) E' a' hF') fun e a'' w'' ⟨E'', Γ'', h1, h2, h3, h5, h4⟩ => ⟨E'', Γ'', h1, hK.trans h2, h3, h5.trans hd, h4⟩
  all_goals exact ⟨E', Γ', rfl, hK, hF', hd, hq⟩
def inBlockA (id : Nat) (Q : Exit → Ctx → Prop) : Exit → Ctx → Prop
  | .exit id', Γ => bif Nat.beq id' id then Q .normal Γ else Q (.exit id') Γ
  | e, Γ => Q e Γ
theorem aw_block {id : Nat} {c : Code} (h : AWo ro P N D c (inBlockA id Q) Γ) : AWo ro P N D (.block id c) Q Γ := fun E a hF => by
  refine wpIn_block (wpIn_mono (h E a hF) ?_)
  rintro e a' w' ⟨E', Γ', rfl, hK, hF', hd, hq⟩
  cases e
  case exit id' =>
    by_cases hid : id' = id
    · subst hid
      simp only [Exit.inBlock, if_true]
      exact ⟨E', Γ', rfl, hK, hF', hd, by simpa [inBlockA] using hq⟩
    · simp only [Exit.inBlock, hid, if_false]
      exact ⟨E', Γ', rfl, hK, hF', hd, by simpa [inBlockA, beqF hid] using hq⟩
  all_goals exact ⟨E', Γ', rfl, hK, hF', hd, hq⟩
/-- An operand's value. -/
def evA (σ : List (Nat × Av)) : Operand → Av
  | .tmp t => lkS σ t
  | .const v => .val v
  | .func f => .clo f []
  | .global _ => .any
theorem rep_eval {E : Env} {a : Act} (h : ∀ t, Rep E (lkS Γ.s t) (a.tmps.getD t undef)) (p : Operand) : Rep E (evA Γ.s p) (a.eval p) := by
  cases p with
  | tmp t => exact h t
  | const v => unfold evA Rep; rfl
  | func f => unfold evA Rep; exact ⟨[], rfl, by unfold RepL; rfl⟩
  | global g => unfold evA Rep; trivial
theorem aw_cond {p : Operand} {x y : Code} {b : Bool} (hp : evA Γ.s p = .val (.bool b)) (h1 : b = true → AWo ro P N D x Q Γ) (h2 : b = false → AWo ro P N D y Q Γ) : AWo ro P N D (.cond p x y) Q Γ := fun E a hF => by
  have := rep_eval hF.holds.1 p
  rw [hp] at this
  unfold Rep at this
  exact wpIn_cond_split this (fun hb => h1 hb E a hF) (fun hb => h2 hb E a hF)
/-- The operations l, and then K of the state and the footprints. -/
def Ck (bb : Bool) (P : Program) (ops : Array Oper) (l : List Oper) (Γ : Ctx) (K : Ctx → List (List Nat × List Nat) → Prop) : Prop := ∃ Γ' F, Ch bb P ops l Γ Γ' F ∧ K Γ' F
theorem ck_nil {bb : Bool} {ops : Array Oper} {K : Ctx → List (List Nat × List Nat) → Prop} (h : K Γ []) : Ck bb P ops [] Γ K := ⟨Γ, [], Ch.nil Γ, h⟩
theorem aw_text {l : List Oper} {id : Nat} (hd : dstLt N l = true) (hc : Ck true P l.toArray l Γ fun Γ' _ => Q .normal Γ') : AWo ro P N D (.region id l.toArray false) Q Γ := fun E a hF => by
  obtain ⟨Γ', F, h, hq⟩ := hc
  refine wpIn_region_lit (l := l) ?_
  exact h.text hd E a hF.good hF.holds hF.size fun E' a' M hG hS hH hN hdf => ⟨E', Γ', rfl, hS.kept hF.born, ⟨hG, hN, fun n hn => (hS.kept hF.born).born n hn, hH⟩, hdf, hq⟩
def drawChk (N : Nat) (l : List Oper) (F : List (List Nat × List Nat)) : Bool := dstLt N l && lexB .any l 0 && chk l F
theorem aw_draw {l : List Oper} {id : Nat} (hm : P.follows .mixedOrders = true) (hck : Ck true P l.toArray l Γ fun Γ' F => drawChk N l F = true ∧ Q .normal Γ') : AWo ro P N D (.region id l.toArray true) Q Γ := fun E a hF => by
  obtain ⟨Γ', F, h, hc, hq⟩ := hck
  unfold drawChk at hc
  rw [Bool.and_eq_true, Bool.and_eq_true] at hc
  obtain ⟨⟨hd, hl⟩, hc⟩ := hc
  obtain ⟨s, hs, hF', hE⟩ := h.specs
  have hb : Below E.w.heap.size E.w E.w.drew := (Below.refl _ _).drew
  have hS := Step.grow hF.good hb
  have := h.any (ro := ro) (kk := 0) (Q := fun e a' w' => ∃ E' Γ', E'.w = w' ∧ Kept D E E' ∧ Fit N D E' a' Γ' ∧ a'.defers = a.defers ∧ Q e Γ') hd hl hc { E with w := E.w.drew } a.defers (fun E' a' M hG hS' hH hN hdf => by
    have hK := (hS.trans hS').kept hF.born
    exact ⟨E', Γ', rfl, hK, ⟨hG, hN, fun n hn => hK.born n hn, hH⟩, hdf, hq⟩) s hs hF' hE l.toArray.size (Array.replicate l.toArray.size false) { E with w := E.w.drew } a [] (by simp) (by simp [left, List.countP_replicate])
      (fun i o _ hi => by by_cases h : i < l.length <;> simp [Array.getD, h] at hi) (hF.good.grow hb) (Step.refl _) (by
        rw [stL_none _ _ _ _ fun j hj => by by_cases h : j < l.length <;> simp [Array.getD, h]]
        exact ⟨fun t => Rep.step hS _ _ (hF.holds.1 t), fun n x hx => HAt.step hS (by simp) (hF.holds.2 n x hx)⟩) hF.size rfl
  exact wpIn_region_any hm this
/-- What fits the one context fits the other, memory being as it is. -/
def Le (N : Nat) (D : List Nat) (Γ τ : Ctx) : Prop := ∀ (E : Env) (a : Act), Fit N D E a Γ → ∃ E', E'.w = E.w ∧ Kept D E E' ∧ Fit N D E' a τ
theorem Le.refl : Le N D Γ Γ := fun E a h => ⟨E, rfl, Kept.refl h.born, h⟩
theorem aw_le {τ : Ctx} {c : Code} (hl : Le N D Γ τ) (h : AWo ro P N D c Q τ) : AWo ro P N D c Q Γ := fun E a hF => by
  obtain ⟨E', hw, hK, hF'⟩ := hl E a hF
  rw [← hw]
  exact wpIn_mono (h E' a hF') fun e a' w' ⟨E'', Γ', h1, h2, h3, h4⟩ => ⟨E'', Γ', h1, hK.trans h2, h3, h4⟩
/-- A loop: the states by an index. -/
theorem aw_loop {ι : Type} {c : Code} (F : ι → Ctx) (I : ι → Prop) (μ : ι → Nat) (i0 : ι) (h0 : I i0) (hl : Le N D Γ (F i0))
    (round : ∀ i, I i → AWo ro P N D c (thenA (fun Γ' => ∃ j, I j ∧ μ j < μ i ∧ Le N D Γ' (F j)) Q) (F i)) : AWo ro P N D (.loop c) Q Γ := fun E a hF => by
  obtain ⟨E0, hw0, hK0, hF0⟩ := hl E a hF
  refine wpIn_loop_ghost (fun n b w => ∃ E' i, E'.w = w ∧ I i ∧ μ i = n ∧ Kept D E E' ∧ Fit N D E' b (F i) ∧ b.defers = a.defers) (μ i0) ⟨E0, i0, hw0, h0, rfl, hK0, hF0, rfl⟩ ?_
  rintro n b w ⟨E', i, rfl, hi, rfl, hK, hF', hd⟩
  refine wpIn_mono (round i hi E' b hF') ?_
  rintro e a' w' ⟨E'', Γ', rfl, hK', hF'', hd', hq⟩
  cases e
  case normal =>
    obtain ⟨j, hj, hlt, hle⟩ := hq
    obtain ⟨E3, h1, h2, h3⟩ := hle E'' a' hF''
    exact ⟨μ j, hlt, E3, j, h1, hj, rfl, (hK.trans hK').trans h2, h3, hd'.trans hd⟩
  all_goals exact ⟨E'', Γ', rfl, hK.trans hK', hF'', hd'.trans hd, hq⟩
/-- Less is known. -/
def subS (σ : List (Nat × Av)) : List (Nat × Av) → Prop
  | [] => True
  | (t, x) :: r => (x = .any ∨ lkS σ t = x) ∧ subS σ r
def subH (η : List (Nat × Hs)) : List (Nat × Hs) → Prop
  | [] => True
  | (n, y) :: r => lkH η n = some y ∧ subH η r
theorem subS_get {σ : List (Nat × Av)} : ∀ {τ : List (Nat × Av)}, subS σ τ → ∀ t, lkS τ t = .any ∨ lkS σ t = lkS τ t
  | [], _, t => .inl rfl
  | (u, x) :: r, h, t => by
    by_cases e : u = t
    · subst e; rw [lkS_eq]; exact h.1
    · rw [lkS_ne _ _ e]; exact subS_get h.2 t
theorem subH_get {η : List (Nat × Hs)} : ∀ {τ : List (Nat × Hs)}, subH η τ → ∀ n y, lkH τ n = some y → lkH η n = some y
  | [], _, n, y, h => by simp [lkH] at h
  | (u, x) :: r, h, n, y, hy => by
    by_cases e : u = n
    · subst e
      simp [lkH] at hy
      subst hy
      exact h.1
    · simp only [lkH, beqF e, cond_false] at hy
      exact subH_get h.2 n y hy
theorem Holds.weaken {E : Env} {tm : Array Value} {τ : Ctx} (h : Holds E tm Γ) (hs : subS Γ.s τ.s) (hh : subH Γ.h τ.h) : Holds E tm τ := by
  refine ⟨fun t => ?_, fun n y hy => h.2 n y (subH_get hh n y hy)⟩
  rcases subS_get hs t with h1 | h1
  · rw [h1]; unfold Rep; trivial
  · rw [← h1]; exact h.1 t
theorem Le.sub {τ : Ctx} (hs : subS Γ.s τ.s) (hh : subH Γ.h τ.h) : Le N D Γ τ := fun E a h => ⟨E, rfl, Kept.refl h.born, ⟨h.good, h.size, h.born, h.holds.weaken hs hh⟩⟩
theorem Le.trans {τ υ : Ctx} (h : Le N D Γ τ) (k : Le N D τ υ) : Le N D Γ υ := fun E a hF => by
  obtain ⟨E1, h1, h2, h3⟩ := h E a hF
  obtain ⟨E2, k1, k2, k3⟩ := k E1 a h3
  exact ⟨E2, k1.trans h1, h2.trans k2, k3⟩
end

/-! ### Functions -/
/-- Called with arguments that read so, the function returns what reads as x; of the named blocks it finds R and leaves U. -/
def FC (P : Program) (f : FuncId) (args : List Av) (R : List (Nat × Hs)) (x : Av) (U : List (Nat × Hs)) : Prop :=
  ∀ (E : Env) (vs : List Value), Good E → RepL E args vs → (∀ n y, lkH R n = some y → HAt E n y) → (∀ n ∈ R.map (·.1), E.loc n ≠ .unborn) → (∀ n, n ∉ R.map (·.1) → E.loc n = .unborn) →
    Calls P f vs.toArray E.w fun e w' => ∃ E' v, e = .returned v ∧ E'.w = w' ∧ Good E' ∧ Kept (R.map (·.1)) E E' ∧ Rep E' x v ∧ ∀ n y, lkH U n = some y → HAt E' n y
/-- The function's result. -/
def ResOk (P : Program) (fn : Func) (Γ : Ctx) (x : Av) : Prop := ∀ (E : Env) (a : Act), Good E → Holds E a.tmps Γ → ∃ v, (results fn a.tmps).run P E.w = .ok v E.w ∧ Rep E x v
def argS : List Av → Nat → List (Nat × Av)
  | [], _ => []
  | x :: r, k => (k, x) :: argS r (k + 1)
def unb : Nat → List (Nat × Hs)
  | 0 => []
  | n + 1 => (n, .unborn) :: unb n
theorem argS_rep {E : Env} : ∀ (xs : List Av) (vs : List Value) (k : Nat) (tm : Array Value), RepL E xs vs → (∀ i v, vs[i]? = some v → tm.getD (k + i) undef = v) → ∀ t, Rep E (lkS (argS xs k) t) (tm.getD t undef)
  | [], vs, k, tm, _, _, t => by unfold argS lkS Rep; trivial
  | x :: xs, vs, k, tm, h, hv, t => by
    unfold RepL at h
    obtain ⟨v, us, rfl, h1, h2⟩ := h
    unfold argS
    by_cases e : k = t
    · subst e
      rw [lkS_eq]
      have := hv 0 v rfl
      rw [Nat.add_zero] at this
      rw [this]
      exact h1
    · rw [lkS_ne _ _ e]
      exact argS_rep xs us (k + 1) tm h2 (fun i u hu => by have := hv (i + 1) u (by simpa using hu); rwa [show k + 1 + i = k + (i + 1) from by omega]) t
theorem unb_get {n : Nat} {y : Hs} : ∀ {K : Nat}, lkH (unb K) n = some y → y = .unborn
  | 0, h => by simp [unb, lkH] at h
  | K + 1, h => by
    unfold unb lkH at h
    cases hb : Nat.beq K n with
    | true => rw [hb, cond_true] at h; injection h with h; exact h.symm
    | false => rw [hb, cond_false] at h; exact unb_get h
theorem RepL.length {E : Env} : ∀ {xs : List Av} {vs : List Value}, RepL E xs vs → vs.length = xs.length
  | [], vs, h => by unfold RepL at h; subst h; rfl
  | x :: xs, vs, h => by
    unfold RepL at h
    obtain ⟨v, us, rfl, _, h2⟩ := h
    simp [h2.length]
/-- **A function from its body.** K: so many names may be used beside those that came. -/
theorem FC.body {P : Program} {f : FuncId} {fn : Func} {c : Code} {args : List Av} {R U : List (Nat × Hs)} {x : Av} (K : Nat) (N : Nat) (hf : P.funcs[f]? = some fn) (hb : fn.body = some c) (hN : max fn.ntmps args.length = N)
    (h : AW P N (R.map (·.1)) c (fun e Γ => (e = .ret ∨ e = .normal) ∧ ResOk P fn Γ x ∧ subH Γ.h U) ⟨argS args 0, R ++ unb K⟩) : FC P f args R x U := by
  intro E vs hG hA hR hB hU
  refine calls_of_wp hf hb ?_
  have hlen := hA.length
  refine wp_mono (wpIn_wide.1 (h E _ ⟨hG, ?_, hB, fun t => argS_rep args vs 0 _ hA (fun i v hv => ?_) t, fun n y hn => ?_⟩)) ?_
  · simp [hlen]; omega
  · have hi := (List.getElem?_eq_some_iff.1 hv)
    obtain ⟨hi1, hi2⟩ := hi
    rw [Array.getD_eq_getD_getElem?, Nat.zero_add, Array.getElem?_append_left (by simpa using hi1)]
    simp [hv]
  · rw [lkH_app] at hn
    by_cases hm : n ∈ R.map (·.1)
    · obtain ⟨z, hz⟩ := lkH_some hm
      rw [hz] at hn
      simp at hn
      subst hn
      exact hR n z hz
    · rw [lkH_none hm] at hn
      have := unb_get (n := n) (y := y) (K := K) (by simpa using hn)
      subst this
      exact hU n hm
  · rintro e a' w' ⟨E', Γ', rfl, hK, hF, hdf, he, hres, hsub⟩
    obtain ⟨v, hr, hx⟩ := hres E' a' hF.good hF.holds
    have fin : ∃ E'' v', Ending.returned v = .returned v' ∧ E''.w = E'.w ∧ Good E'' ∧ Kept (R.map (·.1)) E E'' ∧ Rep E'' x v' ∧ ∀ n y, lkH U n = some y → HAt E'' n y :=
      ⟨E', v, rfl, rfl, hF.good, hK, hx, fun n y hy => hF.holds.2 n y (subH_get hsub n y hy)⟩
    rcases he with rfl | rfl
    · exact ⟨hdf, v, hr, fin⟩
    · exact ⟨hdf, v, hr, fin⟩
theorem ResOk.tmp {P : Program} {fn : Func} {Γ : Ctx} {x : Av} {t : Nat} (h : fn.results = #[.tmp t]) (hx : lkS Γ.s t = x) : ResOk P fn Γ x := fun E a hG hH => by
  subst hx
  exact ⟨_, results_tmp h _ _ _, hH.1 t⟩
end Go.Proofs.Ytfipllnodgbghaa
namespace Go.Proofs.Ytfipllnodgbghaa
open Go.RowKit

theorem Blk.grown {w w' : World} {g : Nat} {t : TypeId} {cs : List Value} {row : Option Nat} (h : Blk w g t cs) (hg : w.grownBy w' row) (hne : row ≠ some g) : Blk w' g t cs :=
  (hg.block g h.lt (fun e => hne e.symm)).trans h
section
variable {w : World} {base : Nat} {e : TypeId} {A : Option Addr} {n c g : Nat} {xs : List Value}
end
/-- Two rows in different blocks. -/
def Apart (v v' : Value) : Prop := ∀ g, v.ownBlock = some g → v'.ownBlock ≠ some g
theorem Apart.grown {w w' : World} {base' : Nat} {e' : TypeId} {v v' v2 : Value} {xs' : List Value} (h : Apart v v') (hg : v2.ownBlock = v.ownBlock ∨ v2.ownBlock = some w.heap.size) (h' : Own w' base' e' v' xs') (hb : w'.heap.size ≤ w.heap.size) : Apart v2 v' := by
  intro g hg1 hg2
  rcases hg with he | he
  · exact h g (he ▸ hg1) hg2
  · have h2 := (h'.block g hg2).2
    rw [he] at hg1
    injection hg1 with hg1
    omega
theorem Apart.symm {v v' : Value} (h : Apart v v') : Apart v' v := fun g h1 h2 => h g h2 h1
/-- How long a slice is. -/
def lenOf (v : Value) : Nat := match v with | .slice _ n _ => n | _ => 0
end Go.Proofs.Ytfipllnodgbghaa
namespace Go.Proofs.Ytfipllnodgbghaa

/-- The bytes of a text. -/
def tB (s : ByteArray) : List Int := s.data.toList.map fun b => (b.toNat : Int)
theorem tB_len (s : ByteArray) : (tB s).length = s.size := by
  rw [tB, List.length_map, Array.length_toList]
  rfl
theorem tB_get (s : ByteArray) (k : Nat) (h : k < s.size) (h' : k < (tB s).length) : (tB s)[k] = (s[k].toNat : Int) := by
  simp [tB]
  rfl
theorem tB_getD (s : ByteArray) (k : Nat) (h : k < s.size) : (tB s).getD k 0 = (s[k].toNat : Int) := by
  have h' : k < (tB s).length := by rw [tB_len]; exact h
  simp only [List.getD, List.getElem?_eq_getElem h', Option.getD_some]
  exact tB_get s k h h'
/-- All are bytes. -/
def Bts (xs : List Int) : Prop := ∀ x ∈ xs, 0 ≤ x ∧ x < 256
theorem tB_inj {s t : ByteArray} (h : tB s = tB t) : s = t := by
  have : s.data.toList = t.data.toList := by
    unfold tB at h
    refine List.map_inj_right (fun a b hab => ?_) |>.1 h
    have : a.toNat = b.toNat := Int.ofNat.inj hab
    exact UInt8.toNat_inj.1 this
  cases s; cases t
  simp at this
  simp [this]
theorem Bts.nil : Bts [] := fun x hx => by cases hx
theorem Bts.append {xs ys : List Int} (h : Bts xs) (k : Bts ys) : Bts (xs ++ ys) := fun x hx => by
  rcases List.mem_append.1 hx with hx | hx
  · exact h x hx
  · exact k x hx
theorem Bts.take {xs : List Int} (h : Bts xs) (n : Nat) : Bts (xs.take n) := fun x hx => h x (List.mem_of_mem_take hx)
theorem Bts.drop {xs : List Int} (h : Bts xs) (n : Nat) : Bts (xs.drop n) := fun x hx => h x (List.mem_of_mem_drop hx)
theorem Bts.get {xs : List Int} (h : Bts xs) {i : Nat} (hi : i < xs.length) : 0 ≤ xs[i] ∧ xs[i] < 256 := h _ (List.getElem_mem hi)
theorem toList_inj {s t : ByteArray} : s.toList = t.toList ↔ tB s = tB t := by
  rw [ByteArray.toList_eq, ByteArray.toList_eq]
  constructor
  · intro h; unfold tB; rw [h]
  · intro h; rw [tB_inj h]
theorem toList_beq (s t : ByteArray) : (s.toList == t.toList) = (tB s == tB t) := by
  rw [Bool.eq_iff_iff, beq_iff_eq, beq_iff_eq, toList_inj]
end Go.Proofs.Ytfipllnodgbghaa
namespace Go.Proofs.Ytfipllnodgbghaa
open Go.RowKit
set_option linter.unusedVariables false

theorem i64_in (x : Int) (h : -9223372036854775808 ≤ x) (h' : x < 9223372036854775808) : IntKind.i64.wrap x = x := by
  simp only [IntKind.wrap, IntKind.bits, IntKind.signed]
  simp
  omega
def OC (P : Program) (o : Oper) (ρ : Operand → Av) (R : List (Nat × Hs)) (x : Av) (U : List (Nat × Hs)) : Prop :=
  ∀ (E : Env) (a : Act), Good E → (∀ p ∈ o.op.operands.toList, Rep E (ρ p) (a.eval p)) → (∀ n y, (n, y) ∈ R → HAt E n y) → grows P o a E.w (Post E x U)
section
variable {bb : Bool} {P : Program} {ops : Array Oper} {o : Oper} {l : List Oper} {s : List (Nat × Av)} {h : List (Nat × Hs)} {K : Ctx → List (List Nat × List Nat) → Prop} {x : Av} {R U : List (Nat × Hs)} {d : Nat} {ρ : Operand → Av}
theorem subH_mem {η : List (Nat × Hs)} : ∀ {R : List (Nat × Hs)}, subH η R → ∀ n y, (n, y) ∈ R → lkH η n = some y
  | [], _, n, y, h => by simp at h
  | (m, z) :: R, h, n, y, hm => by
    simp only [List.mem_cons, Prod.mk.injEq] at hm
    rcases hm with ⟨rfl, rfl⟩ | hm
    · exact h.1
    · exact subH_mem h.2 n y hm
theorem rep_slots {E : Env} {a : Act} (ht : ∀ t ∈ readsOf ops o, Rep E (lkS s t) (a.tmps.getD t undef)) : ∀ p ∈ o.op.operands.toList, Rep E (evA s p) (a.eval p) := by
  intro p hp
  cases p with
  | tmp t =>
    refine ht t ?_
    unfold readsOf
    rw [List.mem_append, List.mem_flatMap]
    exact .inl ⟨_, hp, by simp [slotOf]⟩
  | const v => unfold evA Rep; rfl
  | func f => unfold evA Rep; exact ⟨[], rfl, by unfold RepL; rfl⟩
  | global g => unfold evA Rep; trivial
theorem os_plain (hg : o.guard = none) (h : OC P o (evA s) R x U) : OS bb P ops o s R x U := by
  intro E a hG ht hR
  have hw : Region.wanted o (yielded ops a.tmps) = true := by simp [Region.wanted, hg]
  rw [if_pos hw]
  exact .inl (h E a hG (rep_slots ht) hR)
/-- The guard lets by just where C is so. -/
def Gate (G : Av) (pol : Bool) (C : Bool) : Prop := ∀ (E : Env) (v : Value), Rep E G v → ((match v with | .bool b => some b | _ => none) == some pol) = C
theorem gate_t {B : Bool} : Gate (.val (.bool B)) true B := fun E v h => by unfold Rep at h; subst h; cases B <;> rfl
theorem gate_f {B : Bool} : Gate (.val (.bool B)) false (!B) := fun E v h => by unfold Rep at h; subst h; cases B <;> rfl
theorem gate_gt {C B : Bool} : Gate (.gd C (.val (.bool B))) true (C && B) := fun E v h => by
  unfold Rep Rep at h
  cases C with
  | true => rw [h.1 rfl]; cases B <;> rfl
  | false => rw [h.2 rfl]; rfl
theorem gate_gf {C B : Bool} : Gate (.gd C (.val (.bool B))) false (C && !B) := fun E v h => by
  unfold Rep Rep at h
  cases C with
  | true => rw [h.1 rfl]; cases B <;> rfl
  | false => rw [h.2 rfl]; rfl
def stripA : Av → Av
  | .gd _ y => y
  | y => y
def condA : Av → Bool
  | .gd c _ => c
  | _ => true
theorem rep_strip {E : Env} {y : Av} {v : Value} (h : Rep E y v) (hc : condA y = true) : Rep E (stripA y) v := by
  cases y
  case gd c y => unfold Rep at h; exact h.1 hc
  all_goals exact h
def condL (s : List (Nat × Av)) : List Operand → Prop
  | [] => True
  | p :: l => condA (evA s p) = true ∧ condL s l
theorem condL_get {s : List (Nat × Av)} : ∀ {l : List Operand}, condL s l → ∀ p ∈ l, condA (evA s p) = true
  | q :: l, h, p, hp => by
    rcases List.mem_cons.1 hp with rfl | hp
    · exact h.1
    · exact condL_get h.2 p hp
theorem os_guard {g t : Nat} {pol C : Bool} (hg : o.guard = some (g, pol)) (hs : (ops[g]?).bind (·.dst) = some t) (hG : Gate (lkS s t) pol C) (hC : C = true → OC P o ρ R x []) (hρ : ∀ (E : Env) (a : Act), C = true → ∀ p ∈ o.op.operands.toList, Rep E (evA s p) (a.eval p) → Rep E (ρ p) (a.eval p)) : OS bb P ops o s R (.gd C x) [] := by
  intro E a hGd ht hR
  have hgt : Rep E (lkS s t) (a.tmps.getD t undef) := ht t (by simp [readsOf, gslot, hg, hs])
  have hy : (yielded ops a.tmps g == some pol) = C := by
    have h1 := hG E _ hgt
    unfold yielded
    rw [hs, Option.bind_some]
    rw [← h1]
    by_cases hlt : t < a.tmps.size
    · simp [Array.getD, hlt]
      split <;> simp_all
    · simp [Array.getD, hlt, undef]
  have hw : Region.wanted o (yielded ops a.tmps) = C := by simp only [Region.wanted, hg]; exact hy
  rw [hw]
  cases C with
  | false =>
    rw [if_neg (by simp)]
    exact ⟨E, rfl, Step.refl E, hGd, by unfold Rep; exact ⟨fun h => (by cases h), fun _ => rfl⟩, fun n y hn => by simp [lkH] at hn⟩
  | true =>
    rw [if_pos rfl]
    have := hC rfl E a hGd (fun p hp => hρ E a rfl p hp (rep_slots ht p hp)) hR
    refine .inl ?_
    unfold grows at this ⊢
    generalize (execOp a.eval o).run P E.w = r at *
    have go : ∀ v w', Post E x [] v w' → Post E (.gd true x) [] v w' := by
      rintro v w' ⟨E', h1, h2, h3, h4, h5⟩
      exact ⟨E', h1, h2, h3, by unfold Rep; exact ⟨fun _ => h4, fun h => (by cases h)⟩, h5⟩
    cases r with
    | ok n w' =>
      cases n <;> simp only [growUpon] at this ⊢
      case value u => exact go _ _ this
      case skip => exact go _ _ this
      case enter f args => exact this.mono fun e w'' ⟨v, he, hh⟩ => ⟨v, he, go _ _ hh⟩
    | halt x w' => simp only [growUpon] at this
/-- An operation that leaves a value alone. -/
theorem ch_v (hg : o.guard = none) (hd : o.dst = some d) (hop : OC P o (evA s) R x []) (hR : subH h R) (h' : Ck bb P ops l ⟨(d, x) :: s, h⟩ fun Γ' F => K Γ' ((R.map (·.1), []) :: F)) : Ck bb P ops (o :: l) ⟨s, h⟩ K :=
  let ⟨Γ', F, h1, h2⟩ := h'
  ⟨Γ', _, Ch.cons (U := []) (os_plain hg hop) (subH_mem hR) (by rw [hd]; exact h1), h2⟩
/-- An operation that leaves a value and blocks. -/
theorem ch_u (hg : o.guard = none) (hd : o.dst = some d) (hop : OC P o (evA s) R x U) (hR : subH h R) (h' : Ck bb P ops l ⟨(d, x) :: s, U ++ h⟩ fun Γ' F => K Γ' ((R.map (·.1), U.map (·.1)) :: F)) : Ck bb P ops (o :: l) ⟨s, h⟩ K :=
  let ⟨Γ', F, h1, h2⟩ := h'
  ⟨Γ', _, Ch.cons (os_plain hg hop) (subH_mem hR) (by rw [hd]; exact h1), h2⟩
/-- A store. -/
theorem ch_n (hg : o.guard = none) (hd : o.dst = none) (hop : OC P o (evA s) R x U) (hR : subH h R) (h' : Ck bb P ops l ⟨s, U ++ h⟩ fun Γ' F => K Γ' ((R.map (·.1), U.map (·.1)) :: F)) : Ck bb P ops (o :: l) ⟨s, h⟩ K :=
  let ⟨Γ', F, h1, h2⟩ := h'
  ⟨Γ', _, Ch.cons (os_plain hg hop) (subH_mem hR) (by rw [hd]; exact h1), h2⟩
/-- An operation behind a guard. -/
theorem ch_g {g t : Nat} {pol C : Bool} (hg : o.guard = some (g, pol)) (hs : (ops[g]?).bind (·.dst) = some t) (hd : o.dst = some d) (hG : Gate (lkS s t) pol C) (hop : C = true → OC P o (fun p => stripA (evA s p)) R x []) (hc : C = true → condL s o.op.operands.toList) (hR : subH h R) (h' : Ck bb P ops l ⟨(d, .gd C x) :: s, h⟩ fun Γ' F => K Γ' ((R.map (·.1), []) :: F)) :
    Ck bb P ops (o :: l) ⟨s, h⟩ K :=
  let ⟨Γ', F, h1, h2⟩ := h'
  ⟨Γ', _, Ch.cons (U := []) (os_guard hg hs hG hop fun E a hC p hp hr => rep_strip hr (condL_get (hc hC) p hp)) (subH_mem hR) (by rw [hd]; exact h1), h2⟩
theorem tt2 {a b : Bool} (h : a = true) (k : b = true) : (a && b) = true := by rw [h, k]; rfl
/-- The same where the operation itself looks at what is not there: '&&', '||' within '&&', '||'. -/
theorem ch_gp {g t : Nat} {pol C A : Bool} {c p q : Operand} (ho : o.op = .pick c p q) (hg : o.guard = some (g, pol)) (hs : (ops[g]?).bind (·.dst) = some t) (hd : o.dst = some d) (hG : Gate (lkS s t) pol C) (hcc : C = true → condA (evA s c) = true) (hA : stripA (evA s c) = .val (.bool A))
    (hop : C = true → ∀ (E : Env) (a : Act), Rep E (evA s p) (a.eval p) → Rep E (evA s q) (a.eval q) → Rep E x (if A = true then a.eval p else a.eval q)) (h' : Ck bb P ops l ⟨(d, .gd C x) :: s, h⟩ fun Γ' F => K Γ' (([], []) :: F)) :
    Ck bb P ops (o :: l) ⟨s, h⟩ K := by
  obtain ⟨Γ', F, h1, h2⟩ := h'
  refine ⟨Γ', _, ?_, h2⟩
  refine Ch.cons (R := []) (U := []) (os_guard (R := []) (ρ := evA s) hg hs hG (fun hC => ?_) fun E a hC p hp hr => hr) (fun n y hn => by simp at hn) (by rw [hd]; exact h1)
  intro E a hGd hp _
  have h1 := rep_strip (hp c (by simp [ho, Op.operands])) (hcc hC)
  rw [hA] at h1
  unfold Rep at h1
  have h2 := hop hC E a (hp p (by simp [ho, Op.operands])) (hp q (by simp [ho, Op.operands]))
  unfold grows execOp
  simp only [ho, h1, Sem.run_bind, asBool, Sem.run_pure, Result.andThen_ok, growUpon]
  exact ⟨E, rfl, Step.refl E, hGd, h2, fun n y hn => by simp [lkH] at hn⟩
theorem post_refl {E : Env} (hG : Good E) {v : Value} (h : Rep E x v) : Post E x [] v E.w := ⟨E, rfl, Step.refl E, hG, h, fun n y hn => by simp [lkH] at hn⟩
theorem oc_read (h : ∀ (E : Env) (a : Act), Good E → (∀ p ∈ o.op.operands.toList, Rep E (ρ p) (a.eval p)) → (∀ n y, (n, y) ∈ R → HAt E n y) → ∃ v, (execOp a.eval o).run P E.w = .ok (.value v) E.w ∧ Rep E x v) : OC P o ρ R x [] := by
  intro E a hG hp hR
  obtain ⟨v, h1, h2⟩ := h E a hG hp hR
  unfold grows
  rw [h1]
  exact post_refl hG h2
theorem oc_grow (h : ∀ (E : Env) (a : Act), Good E → (∀ p ∈ o.op.operands.toList, Rep E (ρ p) (a.eval p)) → ∃ v w', (execOp a.eval o).run P E.w = .ok (.value v) w' ∧ Below E.w.heap.size E.w w' ∧ Rep { E with w := w' } x v) : OC P o ρ R x [] := by
  intro E a hG hp _
  obtain ⟨v, w', h1, h2, h3⟩ := h E a hG hp
  unfold grows
  rw [h1]
  exact ⟨{ E with w := w' }, rfl, Step.grow hG h2, hG.grow h2, h3, fun n y hn => by simp [lkH] at hn⟩
theorem oc_move {p : Operand} (ho : o.op = .move p) (hx : ρ p = x) : OC P o ρ [] x [] := oc_read fun E a hG hp _ => by
  subst hx
  exact ⟨a.eval p, by simp [execOp, ho], hp p (by simp [ho, Op.operands])⟩
theorem oc_assign {p : Operand} (ho : o.op = .assign p) (hx : ρ p = x) : OC P o ρ [] x [] := oc_read fun E a hG hp _ => by
  subst hx
  exact ⟨a.eval p, by simp [execOp, ho], hp p (by simp [ho, Op.operands])⟩
/-- '&&'. -/
theorem oc_and {c p : Operand} {A C B : Bool} (ho : o.op = .pick c p (.const (.bool false))) (hq : ρ (.const (.bool false)) = .val (.bool false)) (hc : ρ c = .val (.bool A)) (hp : ρ p = .gd C (.val (.bool B))) (hi : A = true → C = true) : OC P o ρ [] (.val (.bool (A && B))) [] := oc_read fun E a hG hr _ => by
  have h1 := hr c (by simp [ho, Op.operands])
  have h2 := hr p (by simp [ho, Op.operands])
  rw [hc] at h1
  rw [hp] at h2
  unfold Rep at h1
  unfold Rep Rep at h2
  have h3 : a.eval (.const (.bool false)) = .bool false := rfl
  refine ⟨if A = true then a.eval p else .bool false, by simp [execOp, ho, h1, asBool, h3], ?_⟩
  unfold Rep
  cases A with
  | false => rfl
  | true => rw [if_pos rfl, h2.1 (hi rfl)]; rfl
theorem oc_or {c p : Operand} {A C B : Bool} (ho : o.op = .pick c (.const (.bool true)) p) (hc : ρ c = .val (.bool A)) (hp : ρ p = .gd C (.val (.bool B))) (hi : (!A) = true → C = true) : OC P o ρ [] (.val (.bool (A || B))) [] := oc_read fun E a hG hr _ => by
  have h1 := hr c (by simp [ho, Op.operands])
  have h2 := hr p (by simp [ho, Op.operands])
  rw [hc] at h1
  rw [hp] at h2
  unfold Rep at h1
  unfold Rep Rep at h2
  have h3 : a.eval (.const (.bool true)) = .bool true := rfl
  refine ⟨if A = true then .bool true else a.eval p, by simp [execOp, ho, h1, asBool, h3], ?_⟩
  unfold Rep
  cases A with
  | true => rfl
  | false => rw [if_neg (by simp), h2.1 (hi rfl)]; rfl
/-- What '&&' leaves behind a guard; '||'. -/
theorem pk_and {E : Env} {a : Act} {A C B : Bool} {p : Operand} {y : Av} (hy : y = .gd C (.val (.bool B))) (hi : A = true → C = true) (h : Rep E y (a.eval p)) : Rep E (.val (.bool (A && B))) (if A = true then a.eval p else a.eval (.const (.bool false))) := by
  subst hy
  unfold Rep Rep at h
  have h3 : a.eval (.const (.bool false)) = .bool false := rfl
  unfold Rep
  cases A with
  | false => exact h3
  | true => rw [if_pos rfl, h.1 (hi rfl)]; rfl
theorem pk_or {E : Env} {a : Act} {A C B : Bool} {p : Operand} {y : Av} (hy : y = .gd C (.val (.bool B))) (hi : (!A) = true → C = true) (h : Rep E y (a.eval p)) : Rep E (.val (.bool (A || B))) (if A = true then a.eval (.const (.bool true)) else a.eval p) := by
  subst hy
  unfold Rep Rep at h
  have h3 : a.eval (.const (.bool true)) = .bool true := rfl
  unfold Rep
  cases A with
  | true => exact h3
  | false => rw [if_neg (by simp), h.1 (hi rfl)]; rfl
theorem oc_not {p : Operand} {T : TypeId} {B : Bool} (ho : o.op = .unOp .not T p) (hp : ρ p = .val (.bool B)) : OC P o ρ [] (.val (.bool (!B))) [] := oc_read fun E a hG hr _ => by
  have h1 := hr p (by simp [ho, Op.operands])
  rw [hp] at h1
  unfold Rep at h1
  exact ⟨.bool (!B), by simp [execOp, ho, h1, Op.unary], by unfold Rep; rfl⟩
/-- Two numbers. -/
def binZ (op : BinOp) (k : IntKind) (x y : Int) : Option Value :=
  match op with
  | .add => some (.int k (k.wrap (x + y)))
  | .sub => some (.int k (k.wrap (x - y)))
  | .mul => some (.int k (k.wrap (x * y)))
  | .eql => some (.bool (x == y))
  | .neq => some (.bool (x != y))
  | .lss => some (.bool (decide (x < y)))
  | .leq => some (.bool (decide (x ≤ y)))
  | .gtr => some (.bool (decide (x > y)))
  | .geq => some (.bool (decide (x ≥ y)))
  | _ => none
theorem oc_binZ {p q : Operand} {T T' : TypeId} {op : BinOp} {k : IntKind} {m n : Int} {z : Value} (ho : o.op = .binOp op T p q T') (hp : ρ p = .val (.int k m)) (hq : ρ q = .val (.int k n)) (hz : binZ op k m n = some z) : OC P o ρ [] (.val z) [] := oc_read fun E a hG hr _ => by
  have h1 := hr p (by simp [ho, Op.operands])
  have h2 := hr q (by simp [ho, Op.operands])
  rw [hp] at h1
  rw [hq] at h2
  unfold Rep at h1 h2
  refine ⟨z, ?_, by unfold Rep; rfl⟩
  cases op <;> simp only [binZ, Option.some.injEq, reduceCtorEq] at hz <;> subst hz <;> simp [execOp, ho, h1, h2, eqGuard, binOp, Op.intArith, Op.intCmp]
theorem binW_add {m n : Int} (h : -9223372036854775808 ≤ m + n) (h' : m + n < 9223372036854775808) : binZ .add .i64 m n = some (.int .i64 (m + n)) := by simp only [binZ, i64_in _ h h']
theorem binW_sub {m n : Int} (h : -9223372036854775808 ≤ m - n) (h' : m - n < 9223372036854775808) : binZ .sub .i64 m n = some (.int .i64 (m - n)) := by simp only [binZ, i64_in _ h h']
theorem binW_mul {m n : Int} (h : -9223372036854775808 ≤ m * n) (h' : m * n < 9223372036854775808) : binZ .mul .i64 m n = some (.int .i64 (m * n)) := by simp only [binZ, i64_in _ h h']
end
abbrev vi (n : Int) : Av := .val (.int .i64 n)
abbrev vb (b : Bool) : Av := .val (.bool b)
theorem vi_eq {a b : Int} (h : a = b) : vi a = vi b := by rw [h]
theorem vb_eq {a b : Bool} (h : a = b) : vb a = vb b := by rw [h]
abbrev vs (s : ByteArray) : Av := .val (.string s)
end Go.Proofs.Ytfipllnodgbghaa
