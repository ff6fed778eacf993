/- How a story begins: the given world and the document's alike, and right. No program is walked in this text. -/
import Derived.Test.YtfbkokcpkcfkiaaWq
namespace Go.Proofs.Ytfbkokcpkcfkiaa
open Go.RowKit
set_option linter.unusedVariables false
/-! ### Alike -/
theorem list_eq {l m : List Int} (h : l.length = m.length) (h2 : ∀ j, j < l.length → l.getD j 0 = m.getD j 0) : l = m := by
  refine List.ext_getElem h fun i h3 h4 => ?_
  have := h2 i h3
  simpa [h3, h4] using this
theorem getD_set {l : List Int} {i j : Nat} {x : Int} (hi : i < l.length) : (l.set i x).getD j 0 = if i = j then x else l.getD j 0 := by
  simp only [List.getD, List.getElem?_set]
  by_cases e : i = j
  · subst e; simp [hi]
  · simp [e]
/-- What d rounds from the last thing down leave. -/
theorem lk_is {par : List Int} {N : Nat} (hp : ∀ k, k < N → 0 ≤ par.getD k 0 ∧ par.getD k 0 < N) : ∀ d, d < N →
    (∀ j : Nat, j < N → 0 < j → (lk par N d).1.getD j 0 = afterN par (j : Int) d (N - d)) ∧ (lk par N d).1.getD 0 0 = 0 ∧
    (∀ j : Nat, j < N → (lk par N d).2.getD j 0 = if N - d ≤ j ∧ par.getD j 0 ≠ 0 then afterN par (par.getD j 0) (N - (j + 1)) (j + 1) else 0)
  | 0, h => by
    unfold lk
    have e : ∀ j, (List.replicate N (0 : Int)).getD j 0 = 0 := fun j => by
      simp only [List.getD, List.getElem?_replicate]
      split <;> rfl
    refine ⟨fun j hj h0 => by rw [e]; rfl, e 0, fun j hj => ?_⟩
    rw [e, if_neg (by omega)]
  | d + 1, h => by
    obtain ⟨h1, h2, h3⟩ := lk_is hp d (by omega)
    obtain ⟨l1, l2⟩ := lk_len par N d
    have hk := hp (N - 1 - d) (by omega)
    have hN : N - (d + 1) = N - 1 - d := by omega
    have hN2 : N - 1 - d + 1 = N - d := by omega
    unfold lk lkStep
    by_cases hz : par.getD (N - 1 - d) 0 = 0
    · rw [if_pos hz]
      refine ⟨fun j hj h0 => ?_, h2, fun j hj => ?_⟩
      · rw [h1 j hj h0, hN, after_step (m := d + 1) (i := N - 1 - d) (by omega) (by rw [hz]; omega), hN2]
        rfl
      · rw [h3 j hj]
        by_cases hj2 : N - d ≤ j
        · by_cases hpj : par.getD j 0 = 0
          · rw [if_neg (fun h => h.2 hpj), if_neg (fun h => h.2 hpj)]
          · rw [if_pos ⟨hj2, hpj⟩, if_pos ⟨by omega, hpj⟩]
        · rw [if_neg (by omega)]
          by_cases hj3 : j = N - 1 - d
          · rw [if_neg (fun h => h.2 (by rw [hj3]; exact hz))]
          · rw [if_neg (by omega)]
    · rw [if_neg hz]
      have hpn : (par.getD (N - 1 - d) 0).toNat < N := by omega
      have hp0 : 0 < (par.getD (N - 1 - d) 0).toNat := by omega
      refine ⟨fun j hj h0 => ?_, ?_, fun j hj => ?_⟩
      · show ((lk par N d).1.set _ _).getD j 0 = _
        rw [getD_set (by omega), hN]
        by_cases e : (par.getD (N - 1 - d) 0).toNat = j
        · rw [if_pos e, after_hit (by omega) (by omega)]
        · rw [if_neg e, h1 j hj h0, after_step (m := d + 1) (i := N - 1 - d) (by omega) (by omega), hN2]
          rfl
      · show ((lk par N d).1.set _ _).getD 0 0 = _
        rw [getD_set (by omega), if_neg (by omega), h2]
      · show ((lk par N d).2.set _ _).getD j 0 = _
        rw [getD_set (by omega)]
        by_cases e : N - 1 - d = j
        · rw [if_pos e, h1 _ hpn hp0, if_pos ⟨by omega, by rw [← e]; exact hz⟩, ← e, hN2, show N - (N - d) = d from by omega, show (((par.getD (N - 1 - d) 0).toNat : Nat) : Int) = par.getD (N - 1 - d) 0 from by omega]
        · rw [if_neg e, h3 j hj]
          by_cases hj2 : N - d ≤ j
          · by_cases hpj : par.getD j 0 = 0
            · rw [if_neg (fun h => h.2 hpj), if_neg (fun h => h.2 hpj)]
            · rw [if_pos ⟨hj2, hpj⟩, if_pos ⟨by omega, hpj⟩]
          · rw [if_neg (by omega), if_neg (by omega)]
theorem new_eq {t : TabP} (hk : NewOk t) (h0 : t.par.getD 0 0 = 0) : newW t = rnewW t := by
  have hlo := hk.low
  have hp : ∀ k, k < t.things.length → 0 ≤ t.par.getD k 0 ∧ t.par.getD k 0 < t.things.length := fun k h => by
    rw [par_at h]
    exact hk.up _ (getD_mem h)
  obtain ⟨h1, h2, h3⟩ := lk_is hp (t.things.length - 1) (by omega)
  obtain ⟨l1, l2⟩ := lk_len t.par t.things.length (t.things.length - 1)
  have e1 : (lk t.par t.things.length (t.things.length - 1)).1 = t.rc := list_eq (by rw [l1, rc_len]) fun j hj => by
    rw [l1] at hj
    rw [rc_at hj]
    unfold rchild
    rcases Nat.eq_zero_or_pos j with rfl | hj0
    · rw [if_neg (by omega)]; exact h2
    · rw [if_pos hj0, h1 j hj hj0, show t.things.length - (t.things.length - 1) = 1 from by omega]
  have e2 : (lk t.par t.things.length (t.things.length - 1)).2 = t.rx := list_eq (by rw [l2, rx_len]) fun j hj => by
    rw [l2] at hj
    rw [rx_at hj, h3 j hj]
    unfold rnext
    rcases Nat.eq_zero_or_pos j with rfl | hj0
    · rw [if_neg (fun h => h.2 h0), if_neg (fun h => h h0)]
    · by_cases hz : t.par.getD j 0 = 0
      · rw [if_neg (fun h => h.2 hz), if_neg (fun h => h hz)]
      · rw [if_pos ⟨by omega, hz⟩, if_pos hz]
  unfold newW rnewW
  rw [e1, e2]
/-! ### Right -/
def flt (par : List Int) (i : Int) : Nat → Nat → List Int
  | 0, _ => []
  | m + 1, k => if par.getD k 0 = i then (k : Int) :: flt par i m (k + 1) else flt par i m (k + 1)
theorem flt_mem {par : List Int} {i : Int} : ∀ (m k : Nat) (a : Int), a ∈ flt par i m k ↔ (k : Int) ≤ a ∧ a < k + m ∧ par.getD a.toNat 0 = i
  | 0, k, a => by simp [flt]; omega
  | m + 1, k, a => by
    unfold flt
    by_cases h : par.getD k 0 = i
    · rw [if_pos h, List.mem_cons, flt_mem m (k + 1) a]
      constructor
      · rintro (rfl | ⟨h1, h2, h3⟩)
        · exact ⟨by omega, by omega, by simpa using h⟩
        · exact ⟨by omega, by omega, h3⟩
      · rintro ⟨h1, h2, h3⟩
        by_cases e : a = k
        · exact .inl e
        · exact .inr ⟨by omega, by omega, h3⟩
    · rw [if_neg h, flt_mem m (k + 1) a]
      constructor
      · rintro ⟨h1, h2, h3⟩; exact ⟨by omega, by omega, h3⟩
      · rintro ⟨h1, h2, h3⟩
        refine ⟨?_, by omega, h3⟩
        by_cases e : a = k
        · subst e; simp at h3; exact absurd h3 h
        · omega
theorem flt_nodup {par : List Int} {i : Int} : ∀ (m k : Nat), (flt par i m k).Nodup
  | 0, k => List.nodup_nil
  | m + 1, k => by
    unfold flt
    split
    · refine List.nodup_cons.2 ⟨fun h => ?_, flt_nodup m (k + 1)⟩
      have := (flt_mem m (k + 1) k).1 h
      omega
    · exact flt_nodup m (k + 1)
theorem flt_path {par : List Int} {i : Int} {X : Int → Int} {N : Nat} (hi : i ≠ 0) (hX : ∀ k : Nat, k < N → par.getD k 0 = i → X k = afterN par i (N - (k + 1)) (k + 1)) : ∀ (m k : Nat), k + m = N → pathR X (afterN par i m k) (flt par i m k)
  | 0, k, _ => rfl
  | m + 1, k, h => by
    unfold flt
    by_cases hp : par.getD k 0 = i
    · rw [if_pos hp, after_hit (by omega) hp]
      refine ⟨rfl, ?_⟩
      rw [hX k (by omega) hp, show N - (k + 1) = m from by omega]
      exact flt_path hi hX m (k + 1) (by omega)
    · rw [if_neg hp, after_step (by omega) hp]
      exact flt_path hi hX m (k + 1) (by omega)
theorem pz_up (t : TabP) : (rnewW t).pz = upT t := by
  funext x
  show t.par.getD x.toNat 0 = (t.things.getD x.toNat dThing).parent
  unfold TabP.par
  simp only [List.getD, List.getElem?_map]
  cases t.things[x.toNat]? <;> rfl
theorem new_good {t : TabP} (hF : FitsF t) : HeadW (rnewW t) ∧ GoodW (rnewW t) := by
  have hn := hF.few
  have hpl : (rnewW t).parent.length = t.things.length := par_len t
  have h0 : (t.things.getD 0 dThing).parent = 0 := by
    have := hF.nothing
    unfold nothingB at this
    simp only [Bool.and_eq_true, beq_iff_eq] at this
    exact this.1.1.1.1.2
  have hp0 : t.par.getD 0 0 = 0 := by rw [par_at (by omega)]; exact h0
  have hgz : ∀ (l : List Int) (x : Int), 0 ≤ x → getZ l x = l.getD x.toNat 0 := fun l x _ => rfl
  have hup : ∀ x, isW (rnewW t) x = true → (rnewW t).pz x = 0 ∨ isW (rnewW t) ((rnewW t).pz x) = true := fun x hx => by
    have hb := isW_iff.1 hx
    rw [pz_up]
    rcases led_up hF.led (n := x) (by unfold thingB; rw [among_iff]; omega) with h | h
    · exact .inl h
    · have := among_iff.1 (show among _ 1 _ = true from h)
      exact .inr (isW_iff.2 ⟨by omega, by omega⟩)
  refine ⟨⟨by omega, by rw [hpl]; exact rc_len t, by rw [hpl]; exact rx_len t, ?_, ?_, ?_⟩, ⟨hup, fun x hx hz => ?_, fun i hi => ?_, fun x hx => ?_⟩⟩
  · rw [pz_up]; exact h0
  · show t.rc.getD 0 0 = 0
    rw [rc_at (by omega)]
    rfl
  · show t.rx.getD 0 0 = 0
    rw [rx_at (by omega)]
    unfold rnext
    rw [if_neg (fun h => h hp0)]
  · have hb := isW_iff.1 hx
    show t.rx.getD x.toNat 0 = 0
    rw [rx_at (by omega)]
    unfold rnext
    rw [if_neg (fun h => h hz)]
  · have hb := isW_iff.1 hi
    refine ⟨flt t.par i (t.things.length - 1) 1, ?_, flt_nodup _ _, fun a => ?_⟩
    · have e : (rnewW t).cz i = afterN t.par i (t.things.length - 1) 1 := by
        show t.rc.getD i.toNat 0 = _
        rw [rc_at (by omega)]
        unfold rchild
        rw [if_pos (by omega), show ((i.toNat : Nat) : Int) = i from by omega]
      rw [e]
      refine flt_path (N := t.things.length) (by omega) (fun k hk hpk => ?_) _ _ (by omega)
      show t.rx.getD ((k : Int)).toNat 0 = _
      rw [show ((k : Int)).toNat = k from by omega, rx_at hk]
      unfold rnext
      rw [hpk, if_pos (by omega)]
    · rw [flt_mem, isW_iff]
      constructor
      · rintro ⟨h1, h2, h3⟩; exact ⟨⟨by omega, by omega⟩, h3⟩
      · rintro ⟨⟨h1, h2⟩, h3⟩; exact ⟨by omega, by omega, h3⟩
  · have hb := isW_iff.1 hx
    have := hF.ends x.toNat (by omega) (by omega)
    rw [show ((x.toNat : Nat) : Int) = x from by omega, topN_iff _ _ (by omega)] at this
    obtain ⟨i, _, e⟩ := this
    exact ⟨i + 1, by rw [pz_up]; exact e⟩
theorem new_ok {t : TabP} (hF : FitsF t) : NewOk t := by
  have hn := hF.few
  have hg := hF.globals
  have hp := hF.props
  refine ⟨hg.1, by omega, hn.2, hF.daemons, fun x hx => ?_, fun x hx => ?_⟩
  · obtain ⟨k, hk, rfl⟩ := List.getElem_of_mem hx
    have := hF.prop k hk
    simp [hk] at this
    omega
  · obtain ⟨k, hk, rfl⟩ := List.getElem_of_mem hx
    have e : t.things[k] = t.things.getD k dThing := by simp [hk]
    rw [e]
    rcases Nat.eq_zero_or_pos k with rfl | h0
    · have := hF.nothing
      unfold nothingB at this
      simp only [Bool.and_eq_true, beq_iff_eq] at this
      rw [this.1.1.1.1.2]
      omega
    · rcases alone_parent (hF.led k hk h0) with h | h
      · rw [h]; omega
      · have := among_iff.1 (show among _ 1 _ = true from h)
        omega
theorem prK_all {t : TabP} {p : Int → Bool} (h : ∀ x ∈ t.things, x.props.all p = true) (k : Nat) : (prK t k).all p = true := by
  unfold prK
  rw [List.all_eq_true]
  intro z hz
  obtain ⟨x, hx, hzx⟩ := List.mem_flatMap.1 hz
  exact List.all_eq_true.1 (h x (List.mem_of_mem_take hx)) z hzx
theorem prK_count {t : TabP} (hF : FitsF t) : ∀ k, k ≤ t.things.length → (prK t k).length = k * t.props.length
  | 0, _ => by simp [prK]
  | k + 1, hk => by
    rw [prK_succ (by omega), List.length_append, prK_count hF k (by omega), hF.prop k (by omega), Nat.succ_mul]
theorem new_right {t : TabP} (hF : FitsF t) : rightB t (rnewW t) = true := by
  have hn := hF.few
  have hp := hF.props
  have each : ∀ k, k < t.things.length → (t.things.getD k dThing).props.all isV16 = true ∧ flagB t (t.things.getD k dThing).flags = true ∧ ((t.things.getD k dThing).room = true → (t.things.getD k dThing).parent = 0) := fun k hk => by
    rcases Nat.eq_zero_or_pos k with rfl | h0
    · have := hF.nothing
      unfold nothingB at this
      simp only [Bool.and_eq_true, beq_iff_eq, Bool.not_eq_true'] at this
      obtain ⟨⟨⟨⟨⟨⟨_, _⟩, h3⟩, h4⟩, h5⟩, h6⟩, _⟩ := this
      refine ⟨?_, ?_, fun h => h3⟩
      · rw [List.all_eq_true] at h6 ⊢
        intro z hz
        have := h6 z hz
        simp only [beq_iff_eq] at this
        rw [this]
        rfl
      · unfold flagB
        rw [h4, flag_eq hF.flags]
        have := bits_bd t.flags
        simp
        omega
    · have := hF.led k hk h0
      unfold aloneB aloneH at this
      simp only [Bool.and_eq_true, Bool.not_eq_true', Bool.or_eq_false_iff, Bool.not_eq_false', decide_eq_false_iff_not] at this
      obtain ⟨⟨⟨⟨⟨⟨⟨_, _⟩, h3⟩, h4⟩, h5⟩, _⟩, _⟩, h6⟩ := this
      refine ⟨h5, ?_, fun h => ?_⟩
      · unfold flagB
        simp only [Bool.and_eq_true, decide_eq_true_eq]
        omega
      · rw [h] at h6
        simp at h6
        exact h6.1
  have allx : ∀ (q : ThingP → Bool), (∀ k, k < t.things.length → q (t.things.getD k dThing) = true) → ∀ x ∈ t.things, q x = true := fun q h x hx => by
    obtain ⟨k, hk, rfl⟩ := List.getElem_of_mem hx
    have := h k hk
    simpa [hk] using this
  have hm : mulN t = ((t.things.length * t.props.length : Nat) : Int) := by
    unfold mulN
    have : t.things.length * t.props.length ≤ 128 * 16 := Nat.mul_le_mul hn.2 hp
    rw [show (t.things.length : Int) * (t.props.length : Int) = ((t.things.length * t.props.length : Nat) : Int) from by push_cast; rfl]
    exact i64_in _ (by omega) (by omega)
  have hc : countsB t (rnewW t) = true := by
    unfold countsB
    rw [hm]
    simp only [Bool.and_eq_true, beq_iff_eq]
    refine ⟨⟨⟨⟨⟨⟨rfl, ?_⟩, ?_⟩, ?_⟩, ?_⟩, ?_⟩, ?_⟩
    · exact congrArg Nat.cast (par_len t)
    · exact congrArg Nat.cast (rc_len t)
    · exact congrArg Nat.cast (rx_len t)
    · exact congrArg Nat.cast (fl_len t)
    · exact congrArg Nat.cast (prK_count hF _ (Nat.le_refl _))
    · show ((List.replicate t.daemons.length (0 : Int)).length : Int) = _
      rw [List.length_replicate]
  have h1 : right1 t (rnewW t) = false := by
    unfold right1
    rw [hc, nested_iff.2 (new_good hF), show (rnewW t).globals.all isV16 = true from hF.globals.2, show (rnewW t).props.all isV16 = true from prK_all (allx (fun x => x.props.all isV16) fun k hk => (each k hk).1) _]
    rfl
  have h2 : right2 t (rnewW t) = false := by
    unfold right2
    have a : (rnewW t).flags.all (flagB t) = true := by
      show t.fl.all (flagB t) = true
      unfold TabP.fl
      rw [List.all_map, List.all_eq_true]
      exact fun x hx => allx (fun x => flagB t x.flags) (fun k hk => (each k hk).2.1) x hx
    have b : (rnewW t).timers.all timeB = true := by
      show (List.replicate t.daemons.length (0 : Int)).all timeB = true
      rw [List.all_eq_true]
      intro x hx
      rw [(List.mem_replicate.1 hx).2]
      rfl
    rw [a, b]
    rfl
  unfold rightB
  rw [h1, h2, Bool.not_false, Bool.true_and, Bool.true_and, Bool.and_eq_true]
  constructor
  · rw [List.all_eq_true]
    intro k hk
    have hk' := List.mem_range.1 hk
    unfold roomBad
    cases hr : (t.things.getD k dThing).room with
    | false => rfl
    | true =>
      have e : (rnewW t).pz (k : Int) = 0 := by
        show t.par.getD ((k : Int)).toNat 0 = 0
        rw [show ((k : Int)).toNat = k from by omega, par_at hk']
        exact (each k hk').2.2 hr
      rw [e]
      rfl
  · rw [pz_up]; exact hF.top
end Go.Proofs.Ytfbkokcpkcfkiaa
