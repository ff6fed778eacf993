/- Regions over abstract values, in whatever order is drawn. No program stands in this text. -/
import Derived.Test.YtjjgdjcapfenpaaAch
namespace Go.Proofs.Ytjjgdjcapfenpaa
open Go.RowKit
set_option linter.unusedVariables false

def maskOf (ms : List Nat) (o : Oper) : Nat := o.after.toList.foldl (fun acc e => bif Region.binds .any e then acc ||| (1 <<< e.on) ||| ms.getD e.on 0 else acc) 0
def masks : List Oper → List Nat → List Nat
  | [], ms => ms
  | o :: l, ms => masks l (ms ++ [maskOf ms o])
def bitOf (ms : List Nat) (i k : Nat) : Bool := (ms.getD i 0).testBit k
theorem foldMask {ms : List Nat} {k : Nat} : ∀ (l : List Edge) (acc : Nat), (l.foldl (fun acc e => bif Region.binds .any e then acc ||| (1 <<< e.on) ||| ms.getD e.on 0 else acc) acc).testBit k = true →
    acc.testBit k = true ∨ ∃ e ∈ l, Region.binds .any e = true ∧ (e.on = k ∨ bitOf ms e.on k = true)
  | [], acc, h => .inl h
  | e :: l, acc, h => by
    simp only [List.foldl_cons] at h
    rcases foldMask l _ h with h1 | ⟨e', he, h1⟩
    · cases hb : Region.binds .any e with
      | false => rw [hb] at h1; exact .inl h1
      | true =>
        rw [hb, cond_true, Nat.testBit_or, Nat.testBit_or, Bool.or_eq_true, Bool.or_eq_true] at h1
        rcases h1 with (h1 | h1) | h1
        · exact .inl h1
        · refine .inr ⟨e, by simp, hb, .inl ?_⟩
          rw [Nat.one_shiftLeft, Nat.testBit_two_pow] at h1
          simpa using h1
        · exact .inr ⟨e, by simp, hb, .inr h1⟩
    · exact .inr ⟨e', by simp [he], h1⟩
/-- A bit stands for a way down the edges. -/
def MP (l0 : List Oper) (ms : List Nat) : Prop := ∀ i, i < ms.length → ∃ o, l0[i]? = some o ∧ ∀ k, bitOf ms i k = true → ∃ e ∈ o.after.toList, Region.binds .any e = true ∧ (e.on = k ∨ (e.on < i ∧ bitOf ms e.on k = true))
theorem masks_ok {l0 : List Oper} : ∀ (l : List Oper) (ms : List Nat), (∀ j, l[j]? = l0[ms.length + j]?) → MP l0 ms → MP l0 (masks l ms)
  | [], ms, _, h => h
  | o :: l, ms, hl, h => by
    unfold masks
    refine masks_ok l _ (fun j => by have := hl (j + 1); simp at this; rw [this]; simp; congr 1; omega) fun i hi => ?_
    have hb : ∀ j k, j < ms.length → bitOf (ms ++ [maskOf ms o]) j k = bitOf ms j k := fun j k hj => by
      unfold bitOf
      rw [List.getD_eq_getElem?_getD, List.getD_eq_getElem?_getD, List.getElem?_append_left hj]
    rcases Nat.lt_or_ge i ms.length with h1 | h1
    · obtain ⟨o', h2, h3⟩ := h i h1
      refine ⟨o', h2, fun k hk => ?_⟩
      rw [hb i k h1] at hk
      obtain ⟨e, he, h4, h5⟩ := h3 k hk
      refine ⟨e, he, h4, ?_⟩
      rcases h5 with h5 | ⟨h5, h6⟩
      · exact .inl h5
      · exact .inr ⟨h5, by rw [hb _ _ (by omega)]; exact h6⟩
    · have hi' : i = ms.length := by simp at hi; omega
      subst hi'
      refine ⟨o, by have := hl 0; simpa using this.symm, fun k hk => ?_⟩
      unfold bitOf at hk
      rw [List.getD_eq_getElem?_getD, List.getElem?_append_right (Nat.le_refl _)] at hk
      simp at hk
      unfold maskOf at hk
      rcases foldMask _ _ hk with h2 | ⟨e, he, h2, h3⟩
      · simp at h2
      · refine ⟨e, he, h2, ?_⟩
        rcases h3 with h3 | h3
        · exact .inl h3
        · have hlt : e.on < ms.length := by
            rcases Nat.lt_or_ge e.on ms.length with h4 | h4
            · exact h4
            · unfold bitOf at h3
              rw [List.getD_eq_getElem?_getD, List.getElem?_eq_none h4] at h3
              simp at h3
          exact .inr ⟨hlt, by rw [hb _ _ hlt]; exact h3⟩
/-- p writes what o reads or writes. -/
def conf (ops : Array Oper) (o : Oper) (F : List Nat × List Nat) (p : Oper) (G : List Nat × List Nat) : Bool :=
  (match p.dst with | some d => (readsOf ops o).contains d || o.dst == some d | none => false) || G.2.any fun n => F.1.contains n || F.2.contains n
def chk (l : List Oper) (F : List (List Nat × List Nat)) : Bool :=
  let Z := (l.zip F).zipIdx
  let ms := masks l []
  Z.all fun x => Z.all fun y => x.2 == y.2 || !conf l.toArray x.1.1 x.1.2 y.1.1 y.1.2 || (if y.2 < x.2 then bitOf ms x.2 y.2 else bitOf ms y.2 x.2)
theorem chk_get {l : List Oper} {F : List (List Nat × List Nat)} (h : chk l F = true) {i k : Nat} {o p : Oper} {f g : List Nat × List Nat} (ho : l[i]? = some o) (hf : F[i]? = some f) (hp : l[k]? = some p) (hg : F[k]? = some g) (hne : i ≠ k) (hc : conf l.toArray o f p g = true) :
    (k < i ∧ bitOf (masks l []) i k = true) ∨ (i < k ∧ bitOf (masks l []) k i = true) := by
  unfold chk at h
  rw [List.all_eq_true] at h
  have hx : ((o, f), i) ∈ (l.zip F).zipIdx := by
    rw [List.mem_zipIdx_iff_getElem?]
    simp [List.getElem?_zip_eq_some, ho, hf]
  have hy : ((p, g), k) ∈ (l.zip F).zipIdx := by
    rw [List.mem_zipIdx_iff_getElem?]
    simp [List.getElem?_zip_eq_some, hp, hg]
  have := h _ hx
  rw [List.all_eq_true] at this
  have := this _ hy
  simp only [hc, Bool.not_true, Bool.or_false, Bool.or_eq_true, beq_iff_eq] at this
  rcases this with h1 | h1
  · exact absurd h1 hne
  · split at h1
    · exact .inl ⟨by assumption, h1⟩
    · exact .inr ⟨by omega, h1⟩

theorem stL_congr {L L' : Nat → Bool} : ∀ (l : List Spec) (k : Nat) (Γ : Ctx), (∀ j, j < l.length → L (k + j) = L' (k + j)) → stL L l k Γ = stL L' l k Γ
  | [], _, _, _ => rfl
  | e :: l, k, Γ, h => by
    unfold stL
    have := h 0 (by simp)
    simp only [Nat.add_zero] at this
    rw [this]
    exact stL_congr l (k + 1) _ fun j hj => by rw [show k + 1 + j = k + (j + 1) from by omega]; exact h (j + 1) (by simp; omega)

section
variable {P : Program} {Q : Exit → Act → World → Prop} {l : List Oper} {Γ Γ' : Ctx} {F : List (List Nat × List Nat)} {N : Nat}
def Down (l : List Oper) (L : Nat → Bool) : Prop := ∀ i o, l[i]? = some o → L i = true → ∀ e ∈ o.after.toList, Region.binds .any e = true → L e.on = true
theorem bit_listed {L : Nat → Bool} (hD : Down l L) : ∀ (i : Nat) (o : Oper), l[i]? = some o → (∀ e ∈ o.after.toList, Region.binds .any e = true → L e.on = true) → ∀ k, bitOf (masks l []) i k = true → L k = true := by
  have hM : MP l (masks l []) := masks_ok l [] (fun j => by simp) (fun i hi => by simp at hi)
  intro i
  induction i using Nat.strongRecOn with
  | _ i ih =>
    intro o ho hdep k hk
    have hlen : i < (masks l []).length := by
      rcases Nat.lt_or_ge i (masks l []).length with h | h
      · exact h
      · unfold bitOf at hk
        rw [List.getD_eq_getElem?_getD, List.getElem?_eq_none h] at hk
        simp at hk
    obtain ⟨o', ho', h1⟩ := hM i hlen
    rw [ho] at ho'
    injection ho' with ho'
    subst ho'
    obtain ⟨e, he, h2, h3⟩ := h1 k hk
    have h4 := hdep e he h2
    rcases h3 with h3 | ⟨h3, h5⟩
    · rw [← h3]; exact h4
    · have hlen' : e.on < (masks l []).length := by omega
      obtain ⟨o2, ho2, _⟩ := hM e.on hlen'
      exact ih e.on h3 o2 ho2 (fun e' he' hb' => hD e.on o2 ho2 h4 e' he' hb') k h5

theorem Ch.any (h : Ch false P l.toArray l Γ Γ' F) (hd : dstLt N l = true) (hl : lexB .any l 0 = true) (hc : chk l F = true) (E0 : Env) (df : List Deferred)
    (hk : ∀ (E' : Env) (a' : Act) (M : List Nat), Good E' → Step E0 E' M → Holds E' a'.tmps Γ' → a'.tmps.size = N → a'.defers = df → Q .normal a' E'.w) :
    ∀ (s : List Spec), SpA false P l.toArray l s Γ → s.map fp = F → stL (fun _ => true) s 0 Γ = Γ' → ∀ (fuel : Nat) (listed : Array Bool) (E : Env) (a : Act) (M : List Nat), listed.size = l.length → left listed = fuel → Down l (fun k => listed.getD k false) → Good E → Step E0 E M →
      Holds E a.tmps (stL (fun k => listed.getD k false) s 0 Γ) → a.tmps.size = N → a.defers = df → wpAny P .any l.toArray Q fuel listed a E.w := by
  intro s hs hF hE fuel
  have hlen := hs.len
  have fin : ∀ (listed : Array Bool) (E : Env) (a : Act) (M : List Nat), (∀ j, j < l.length → listed.getD j false = true) → Good E → Step E0 E M → Holds E a.tmps (stL (fun k => listed.getD k false) s 0 Γ) → a.tmps.size = N → a.defers = df → Q .normal a E.w := by
    intro listed E a M hall hG hS hH hN hdf
    refine hk E a M hG hS ?_ hN hdf
    rw [← hE, stL_congr (L := fun _ => true) (L' := fun k => listed.getD k false) s 0 Γ fun j hj => by rw [Nat.zero_add]; exact (hall j (by omega)).symm]
    exact hH
  induction fuel with
  | zero =>
    intro listed E a M hsz h0 hD hG hS hH hN hdf
    have hall := left_zero h0
    refine ⟨?_, fin listed E a M (fun j hj => hall j (by omega)) hG hS hH hN hdf⟩
    apply List.eq_nil_iff_forall_not_mem.2
    intro j hj
    obtain ⟨h1, o, ho, _⟩ := mem_ready.1 hj
    have hjl : j < l.length := by
      simp at ho
      exact (List.getElem?_eq_some_iff.1 ho).1
    have h2 := hall j (by omega)
    have hj' : j < listed.size := by omega
    simp [hj'] at h1 h2
    rw [h1] at h2
    cases h2
  | succ fuel ih =>
    intro listed E a M hsz h0 hD hG hS hH hN hdf
    refine ⟨fun hnil => fin listed E a M (fun j hj => ready_nil hsz hl hnil j hj) hG hS hH hN hdf, fun i hi => ?_⟩
    obtain ⟨h1, o, ho, hdeps⟩ := mem_ready.1 hi
    have ho' : l[i]? = some o := by simpa using ho
    have hil : i < l.length := (List.getElem?_eq_some_iff.1 ho').1
    have hi' : i < listed.size := by omega
    have hno : listed.getD i false = false := by simpa [Array.getD, hi'] using h1
    have hdeps' : ∀ e ∈ o.after.toList, Region.binds .any e = true → listed.getD e.on false = true := fun e he hb => hdeps e (by simpa using he) hb
    obtain ⟨e, he⟩ : ∃ e, s[i]? = some e := ⟨s[i], List.getElem?_eq_getElem (by omega)⟩
    have hFi : F[i]? = some (fp e) := by rw [← hF]; simp [he]
    obtain ⟨hed, hOS, hR⟩ := hs.get 0 i o e ho' he
    simp only [Nat.zero_add] at hOS hR
    have before : ∀ j p g, l[j]? = some p → F[j]? = some g → j ≠ i → conf l.toArray o (fp e) p g = true → listed.getD j false = decide (j < i) := by
      intro j p g hp hg hne hcf
      rcases chk_get hc ho' hFi hp hg (Ne.symm hne) hcf with ⟨h2, h3⟩ | ⟨h2, h3⟩
      · rw [show decide (j < i) = true from by simpa using h2]
        exact bit_listed (L := fun k => listed.getD k false) hD i o ho' hdeps' j h3
      · rw [show decide (j < i) = false from by simp; omega]
        cases hj : listed.getD j false with
        | false => rfl
        | true =>
          have := bit_listed (L := fun k => listed.getD k false) hD j p hp (hD j p hp hj) i h3
          rw [show listed.getD i false = true from this] at hno
          cases hno
    have spec : ∀ (j : Nat) (e' : Spec), s[j]? = some e' → ∃ p : Oper, l[j]? = some p ∧ F[j]? = some (fp e') ∧ e'.d = p.dst := by
      intro j e' he'
      have hj : j < l.length := by rw [← hlen]; exact (List.getElem?_eq_some_iff.1 he').1
      exact ⟨l[j], List.getElem?_eq_getElem hj, by rw [← hF]; simp [he'], (hs.get 0 j _ e' (List.getElem?_eq_getElem hj) he').1⟩
    have rdS : ∀ t, t ∈ readsOf l.toArray o → lkS (stL (fun k => listed.getD k false) s 0 Γ).s t = lkS (stL (fun j => decide (j < i)) s 0 Γ).s t := by
      intro t ht
      refine stL_s s 0 Γ Γ (fun j e' he' hw => ?_) rfl
      rw [Nat.zero_add]
      obtain ⟨p, hp, hg, hd'⟩ := spec j e' he'
      by_cases hji : j = i
      · subst hji; rw [hno]; simp
      · refine before j p _ hp hg hji ?_
        unfold Spec.wS at hw
        unfold conf
        rw [← hd', hw]
        simp [ht]
    have rdH : ∀ n, n ∈ e.R.map (·.1) → lkH (stL (fun k => listed.getD k false) s 0 Γ).h n = lkH (stL (fun j => decide (j < i)) s 0 Γ).h n := by
      intro n hn
      refine stL_h s 0 Γ Γ (fun j e' he' hw => ?_) rfl
      rw [Nat.zero_add]
      obtain ⟨p, hp, hg, hd'⟩ := spec j e' he'
      by_cases hji : j = i
      · subst hji; rw [hno]; simp
      · refine before j p _ hp hg hji ?_
        unfold conf
        rw [Bool.or_eq_true]
        refine .inr ?_
        rw [List.any_eq_true]
        exact ⟨n, hw, by rw [Bool.or_eq_true]; exact .inl (by simpa [fp] using hn)⟩
    have hop := hOS E a hG (fun t ht => by rw [← rdS t ht]; exact hH.1 t) (fun n y hn => hH.2 n y (by rw [rdH n (List.mem_map.2 ⟨_, hn, rfl⟩)]; exact hR n y hn))
    let L' : Nat → Bool := fun k => (listed.setIfInBounds i true).getD k false
    have hL' : ∀ k, L' k = (if k = i then true else listed.getD k false) := fun k => by
      by_cases hk : k = i
      · subst hk; simp [L', Array.getD, hi']
      · rw [if_neg hk]; exact getD_set_ne false (fun e => hk e.symm)
    have go : ∀ v w', Post E e.x e.U v w' → wpAny P .any l.toArray Q fuel (listed.setIfInBounds i true) (a.put o.dst v) w' := by
      rintro v w' ⟨E', rfl, hSt, hG', hx, hU⟩
      refine ih _ E' _ (M ++ e.U.map (·.1)) (by simpa using hsz) (by have := left_set h1; omega) ?_ hG' (hS.trans hSt) ⟨fun t => ?_, fun n y hn => ?_⟩ (by rw [put_size, hN]) (by rw [put_defers, hdf])
      · intro j p hp hj e' he' hb'
        have hj : L' j = true := hj
        show L' e'.on = true
        rw [hL'] at hj ⊢
        by_cases hji : j = i
        · subst hji
          rw [ho'] at hp
          injection hp with hp
          subst hp
          rw [hdeps' e' he' hb']
          simp
        · rw [if_neg hji] at hj
          have := hD j p hp hj e' he' hb'
          simp only at this
          rw [this]
          simp
      · show Rep E' (lkS (stL L' s 0 Γ).s t) _
        by_cases hw : e.wS t
        · have := (stL_last (L := L') s 0 Γ i e he (by rw [Nat.zero_add, hL', if_pos rfl])).1 t hw fun j e' he' hj hw' => by
            obtain ⟨p, hp, hg, hd'⟩ := spec j e' he'
            rw [Nat.zero_add, hL', if_neg (by omega)]
            have := before j p _ hp hg (by omega) (by
              unfold Spec.wS at hw hw'
              unfold conf
              rw [← hd', hw', ← hed, hw]
              simp)
            rw [this]
            simp
            omega
          rw [this]
          unfold Spec.wS at hw
          rw [← hed, hw]
          show Rep E' e.x ((a.tmps.setIfInBounds t v).getD t undef)
          rw [getD_set_eq' _ _ _ (by
            rw [hN]
            unfold dstLt at hd
            rw [List.all_eq_true] at hd
            have := hd o (List.mem_of_getElem? ho')
            rw [← hed, hw] at this
            simpa using this)]
          exact hx
        · have : lkS (stL L' s 0 Γ).s t = lkS (stL (fun k => listed.getD k false) s 0 Γ).s t := by
            refine stL_s s 0 Γ Γ (fun j e' he' hw' => ?_) rfl
            rw [Nat.zero_add, hL']
            by_cases hji : j = i
            · subst hji
              rw [he] at he'
              injection he' with he'
              subst he'
              exact absurd hw' hw
            · rw [if_neg hji]
          rw [this]
          have hv : (a.put o.dst v).tmps.getD t undef = a.tmps.getD t undef := by
            unfold Spec.wS at hw
            rw [← hed]
            cases hd2 : e.d with
            | none => rfl
            | some d => exact getD_set_ne' _ _ fun e2 => hw (by rw [hd2, e2])
          rw [hv]
          exact Rep.step hSt _ _ (hH.1 t)
      · have hn : lkH (stL L' s 0 Γ).h n = some y := hn
        by_cases hw : e.wH n
        · obtain ⟨z, hz⟩ := lkH_some hw
          have := (stL_last (L := L') s 0 Γ i e he (by rw [Nat.zero_add, hL', if_pos rfl])).2 n z hz fun j e' he' hj hw' => by
            obtain ⟨p, hp, hg, hd'⟩ := spec j e' he'
            rw [Nat.zero_add, hL', if_neg (by omega)]
            have := before j p _ hp hg (by omega) (by
              unfold conf
              rw [Bool.or_eq_true]
              refine .inr ?_
              rw [List.any_eq_true]
              exact ⟨n, hw', by rw [Bool.or_eq_true]; exact .inr (by simpa [fp, Spec.wH] using hw)⟩)
            rw [this]
            simp
            omega
          rw [this] at hn
          injection hn with hn
          subst hn
          exact hU n z hz
        · have : lkH (stL L' s 0 Γ).h n = lkH (stL (fun k => listed.getD k false) s 0 Γ).h n := by
            refine stL_h s 0 Γ Γ (fun j e' he' hw' => ?_) rfl
            rw [Nat.zero_add, hL']
            by_cases hji : j = i
            · subst hji
              rw [he] at he'
              injection he' with he'
              subst he'
              exact absurd hw' hw
            · rw [if_neg hji]
          rw [this] at hn
          exact HAt.step hSt hw (hH.2 n y hn)
    unfold wpOp
    simp only [ho]
    split
    · rename_i hw
      rw [if_pos hw] at hop
      replace hop := hop.resolve_right fun h => by simp at h
      refine .inl (wp_of_grows ?_)
      unfold grows at hop ⊢
      generalize (execOp a.eval o).run P E.w = r at *
      cases r with
      | ok n w' =>
        cases n <;> simp only [growUpon] at hop ⊢
        case value u => exact go _ _ hop
        case skip => exact go _ _ hop
        case enter f args => exact hop.mono fun e w'' ⟨v, he, hh⟩ => ⟨v, he, go _ _ hh⟩
      | halt x w' => simp only [growUpon] at hop
    · rename_i hw
      rw [if_neg hw] at hop
      exact go _ _ hop
end
end Go.Proofs.Ytjjgdjcapfenpaa
