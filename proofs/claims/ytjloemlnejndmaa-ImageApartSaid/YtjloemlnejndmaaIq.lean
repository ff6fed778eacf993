/- Chapter 22 as plain data: bytes that are a world are the world's bytes. No program is walked in this text. Chapter 22 as plain data: a world that is right comes back. No program is walked in this text. -/
import Derived.Test.YtjloemlnejndmaaIi
import Derived.Test.YtjloemlnejndmaaVwBk
namespace Go.Proofs.Ytjloemlnejndmaa
set_option linter.unusedVariables false
open Go.RowKit
theorem sGrp_canon {xs : List Int} (hb : Byt xs) (at0 : Nat) (most : Int) : ∀ (f k : Nat) (n s p : Int), sGrp xs at0 most f k n = (s, p, 0) →
    ∃ m : Nat, s = n + m * 128 ^ k ∧ (k = 0 ∨ 0 < m) ∧ p = ((at0 + k + (sSizeN m).length : Nat) : Int) ∧ (xs.drop (at0 + k)).take (sSizeN m).length = sSizeN m ∧ at0 + k + (sSizeN m).length ≤ xs.length ∧ s ≤ most
  | 0, k, n, s, p, h => by simp [sGrp] at h
  | f + 1, k, n, s, p, h => by
    have ht : ((at0 : Int) + (k : Int)).toNat = at0 + k := by omega
    rw [sGrp, ht] at h
    split at h
    · simp at h
    · rename_i h1
      split at h
      · simp at h
      · rename_i h2
        have hlt : at0 + k < xs.length := by unfold sLacks at h1; omega
        have hg : xs.getD (at0 + k) 0 = xs[at0 + k] := by simp [List.getD, hlt]
        have hbb := hb _ (List.getElem_mem hlt)
        rw [hg] at h h2
        have hdrop : xs.drop (at0 + k) = xs[at0 + k] :: xs.drop (at0 + k + 1) := List.drop_eq_getElem_cons hlt
        generalize hB : xs[at0 + k] = B at *
        split at h
        · rename_i h3
          split at h
          · simp at h
          · rename_i h4
            simp only [Prod.mk.injEq, and_true] at h
            obtain ⟨rfl, rfl⟩ := h
            have hm : B % 128 = ((B.toNat : Nat) : Int) := by omega
            refine ⟨B.toNat, by rw [hm], ?_, ?_, ?_, ?_, by omega⟩
            · rcases Nat.eq_zero_or_pos k with h5 | h5
              · exact .inl h5
              · refine .inr ?_
                have : ¬ B = 0 := fun e => h2 (.inr ⟨h5, e⟩)
                omega
            · rw [sSizeN_small (by omega)]
              simp
            · rw [sSizeN_small (by omega), hdrop]
              simp
              omega
            · rw [sSizeN_small (by omega)]
              simp
              omega
        · rename_i h3
          obtain ⟨m, e1, e2, e3, e4, e5, e6⟩ := sGrp_canon hb at0 most f (k + 1) _ s p h
          have hm0 : 0 < m := by omega
          have hbig : ¬ (B % 128).toNat + 128 * m < 128 := by omega
          have hd : ((B % 128).toNat + 128 * m) / 128 = m := by omega
          have hmo : ((B % 128).toNat + 128 * m) % 128 = (B % 128).toNat := by omega
          have hsz : sSizeN ((B % 128).toNat + 128 * m) = B :: sSizeN m := by
            rw [sSizeN_big hbig, hd, hmo]
            congr 1
            omega
          refine ⟨(B % 128).toNat + 128 * m, ?_, .inr (by omega), ?_, ?_, ?_, e6⟩
          · rw [e1, Int.pow_succ]
            have : (((B % 128).toNat + 128 * m : Nat) : Int) = B % 128 + 128 * (m : Int) := by omega
            rw [this, Int.add_mul]
            have e : (m : Int) * (128 ^ k * 128) = 128 * (m : Int) * 128 ^ k := by rw [Int.mul_comm ((128 : Int) ^ k) 128, ← Int.mul_assoc, Int.mul_comm (m : Int) 128]
            rw [e]
            omega
          · rw [e3, hsz, List.length_cons]
            congr 1
            omega
          · rw [hsz, hdrop, List.length_cons, List.take_succ_cons]
            congr 1
          · rw [hsz, List.length_cons]
            omega
theorem sTS_canon {xs : List Int} (hb : Byt xs) (a : Nat) (most s p : Int) (h : sTS xs a 0 most = (s, p, 0)) : ∃ m : Nat, s = m ∧ p = ((a + (sSize m).length : Nat) : Int) ∧ (xs.drop a).take (sSize m).length = sSize m ∧ a + (sSize m).length ≤ xs.length ∧ s ≤ most := by
  unfold sTS at h
  rw [if_neg (by omega)] at h
  obtain ⟨m, e1, _, e3, e4, e5, e6⟩ := sGrp_canon hb a most 6 0 0 s p h
  refine ⟨m, by rw [e1]; simp, ?_, ?_, ?_, e6⟩
  · rw [e3]; unfold sSize; rw [Int.toNat_natCast]; rfl
  · unfold sSize; rw [Int.toNat_natCast]; exact e4
  · unfold sSize; rw [Int.toNat_natCast]; exact e5
/-- Where all is well, so much has been read. -/
def OkS (xs : List Int) (s : Int × Int) (B : List Int) : Prop := s.2 = 0 → ∃ a : Nat, s.1 = a ∧ a ≤ xs.length ∧ xs.take a = B
theorem take_more2 {xs : List Int} {a k : Nat} {B : List Int} (h : xs.take a = B) : xs.take (a + k) = B ++ (xs.drop a).take k := by rw [← h, List.take_add]
theorem sTk_err {xs : List Int} {at_ err : Int} {k : Nat} (h : (sTk xs at_ err k).2.2 = 0) : err = 0 := by
  unfold sTk at h
  split at h
  · rename_i he; exact absurd h he
  · rename_i he; omega
theorem sTk_canon {xs : List Int} {a k : Nat} (h : (sTk xs a 0 k).2.2 = 0) : (sTk xs a 0 k).1 = (xs.drop a).take k ∧ (sTk xs a 0 k).2.1 = ((a + k : Nat) : Int) ∧ a + k ≤ xs.length := by
  unfold sTk at h ⊢
  rw [if_neg (by omega)] at h ⊢
  split at h
  · simp at h
  · rename_i h1
    rw [if_neg h1]
    unfold sLacks at h1
    refine ⟨by rw [Int.toNat_natCast], by simp, by omega⟩
theorem tN_ok {xs : List Int} {s : Int × Int} {B : List Int} (k : Nat) (h : OkS xs s B) : OkS xs (tN xs k s).2 (B ++ (sTk xs s.1 s.2 k).1) ∧ ((tN xs k s).2.2 = 0 → (sTk xs s.1 s.2 k).1.length = k) := by
  have key : (tN xs k s).2.2 = 0 → ∃ a : Nat, s.1 = a ∧ s.2 = 0 ∧ xs.take a = B ∧ (sTk xs a 0 k).2.2 = 0 := fun he => by
    have h1 : (sTk xs s.1 s.2 k).2.2 = 0 := he
    have h2 := sTk_err h1
    obtain ⟨a, h3, h4, h5⟩ := h h2
    rw [h2, h3] at h1
    exact ⟨a, h3, h2, h5, h1⟩
  refine ⟨fun he => ?_, fun he => ?_⟩
  · obtain ⟨a, h3, h2, h5, h6⟩ := key he
    obtain ⟨c1, c2, c3⟩ := sTk_canon h6
    refine ⟨a + k, ?_, c3, ?_⟩
    · show (sTk xs s.1 s.2 k).2.1 = _
      rw [h3, h2]; exact c2
    · rw [h3, h2, c1]
      exact take_more2 h5
  · obtain ⟨a, h3, h2, h5, h6⟩ := key he
    obtain ⟨c1, c2, c3⟩ := sTk_canon h6
    rw [h3, h2, c1]
    simp
    omega
theorem word_pair {x y : Int} (hx : 0 ≤ x ∧ x < 256) (hy : 0 ≤ y ∧ y < 256) : sWord (wrap16 (sNum [x, y])) = [x, y] := by
  have e : sNum [x, y] = x * 256 + y := by simp [sNum]
  rw [e]
  unfold sWord wrap16
  congr 1
  · omega
  · congr 1
    omega
theorem pairs_words : ∀ (m : Nat) {bs : List Int}, Byt bs → bs.length = 2 * m → (sPairs bs).length = m ∧ (sPairs bs).flatMap sWord = bs
  | 0, bs, hb, hl => by
    obtain rfl : bs = [] := List.eq_nil_of_length_eq_zero (by omega)
    exact ⟨rfl, rfl⟩
  | m + 1, bs, hb, hl => by
    rcases bs with _ | ⟨x, _ | ⟨y, r⟩⟩
    · simp at hl
    · simp at hl; omega
    · obtain ⟨h1, h2⟩ := pairs_words m (bs := r) (fun z hz => hb z (by simp [hz])) (by simp at hl; omega)
      refine ⟨by simp [sPairs, h1], ?_⟩
      rw [sPairs, List.flatMap_cons, h2, word_pair (hb x (by simp)) (hb y (by simp))]
      rfl
theorem tI_ok {xs : List Int} (hb : Byt xs) {s : Int × Int} {B : List Int} (h : OkS xs s B) : OkS xs (tI xs s).2 (B ++ sInts (tI xs s).1) := fun he => by
  have h1 : (sOf xs s.1 s.2 32767 2).2.2 = 0 := he
  have hof : (sTk xs (sTS xs s.1 s.2 32767).2.1 (sTS xs s.1 s.2 32767).2.2 ((sTS xs s.1 s.2 32767).1.toNat * 2)).2.2 = 0 := by
    unfold sOf at h1
    split at h1
    · assumption
    · exact h1
  have h2 := sTk_err hof
  have h3 : s.2 = 0 := by
    unfold sTS at h2
    split at h2
    · exact h2
    · rename_i h; omega
  obtain ⟨a, e1, e2, e3⟩ := h h3
  obtain ⟨sz, p, hS⟩ : ∃ sz p, sTS xs s.1 s.2 32767 = (sz, p, 0) := ⟨_, _, Prod.ext rfl (Prod.ext rfl h2)⟩
  have hS' := hS
  rw [e1, h3] at hS'
  obtain ⟨m, f1, f2, f3, f4, f5⟩ := sTS_canon hb a 32767 sz p hS'
  rw [hS] at hof
  have hof' : (sTk xs ((a + (sSize m).length : Nat) : Int) 0 (2 * m)).2.2 = 0 := by
    have := hof
    simp only [f1, f2, Int.toNat_natCast] at this
    rw [Nat.mul_comm m 2] at this
    exact this
  obtain ⟨c1, c2, c3⟩ := sTk_canon hof'
  have hO : sOf xs s.1 s.2 32767 2 = ((xs.drop (a + (sSize m).length)).take (2 * m), ((a + (sSize m).length + 2 * m : Nat) : Int), 0) := by
    unfold sOf
    rw [hS, if_pos hof]
    show sTk xs p 0 (sz.toNat * 2) = _
    rw [f1, f2, Int.toNat_natCast, Nat.mul_comm m 2]
    exact Prod.ext c1 (Prod.ext c2 hof')
  have hbb : Byt ((xs.drop (a + (sSize m).length)).take (2 * m)) := (hb.drop _).take _
  have hlen : ((xs.drop (a + (sSize m).length)).take (2 * m)).length = 2 * m := by simp; omega
  obtain ⟨g1, g2⟩ := pairs_words m hbb hlen
  refine ⟨a + (sSize m).length + 2 * m, ?_, c3, ?_⟩
  · show (sOf xs s.1 s.2 32767 2).2.1 = _
    rw [hO]
  · show _ = B ++ sInts (sPairs (sOf xs s.1 s.2 32767 2).1)
    rw [hO]
    unfold sInts
    rw [g1, g2, take_more2 (take_more2 e3), f3, List.append_assoc]
theorem byte_of {b : List Int} (hb : Byt b) (hl : b.length = 1) : sByte (sNum b) = b := by
  obtain ⟨x, rfl⟩ := List.length_eq_one_iff.1 hl
  have := hb x (by simp)
  simp [sNum, sByte]
  omega
theorem word_of {b : List Int} (hb : Byt b) (hl : b.length = 2) : sWord (wrap16 (sNum b)) = b := by
  rcases b with _ | ⟨x, _ | ⟨y, _ | ⟨z, r⟩⟩⟩ <;> simp at hl
  exact word_pair (hb x (by simp)) (hb y (by simp))
theorem long_of {b : List Int} (hb : Byt b) (hl : b.length = 4) : sLong (sNum b % 4294967296) = b := by
  rcases b with _ | ⟨x, _ | ⟨y, _ | ⟨z, _ | ⟨u, _ | ⟨v, r⟩⟩⟩⟩⟩ <;> simp at hl
  have hx := hb x (by simp)
  have hy := hb y (by simp)
  have hz := hb z (by simp)
  have hu := hb u (by simp)
  simp only [sNum, List.foldl_cons, List.foldl_nil, sLong]
  congr 1
  · omega
  · congr 1
    · omega
    · congr 1
      · omega
      · congr 1
        omega
theorem huge_of {b : List Int} (hb : Byt b) (hl : b.length = 8) : sHuge (sNum b) = b := by
  rcases b with _ | ⟨x, _ | ⟨y, _ | ⟨z, _ | ⟨u, _ | ⟨x', _ | ⟨y', _ | ⟨z', _ | ⟨u', _ | ⟨v, r⟩⟩⟩⟩⟩⟩⟩⟩⟩ <;> simp at hl
  have hx := hb x (by simp)
  have hy := hb y (by simp)
  have hz := hb z (by simp)
  have hu := hb u (by simp)
  have hx' := hb x' (by simp)
  have hy' := hb y' (by simp)
  have hz' := hb z' (by simp)
  have hu' := hb u' (by simp)
  have h1 := long_of (b := [x, y, z, u]) (fun w hw => hb w (by simp at hw ⊢; omega)) rfl
  have h2 := long_of (b := [x', y', z', u']) (fun w hw => hb w (by simp at hw ⊢; omega)) rfl
  have e : sNum [x, y, z, u, x', y', z', u'] = sNum [x, y, z, u] * 4294967296 + sNum [x', y', z', u'] := by simp only [sNum, List.foldl_cons, List.foldl_nil]; omega
  have b1 : 0 ≤ sNum [x, y, z, u] ∧ sNum [x, y, z, u] < 4294967296 := by simp only [sNum, List.foldl_cons, List.foldl_nil]; omega
  have b2 : 0 ≤ sNum [x', y', z', u'] ∧ sNum [x', y', z', u'] < 4294967296 := by simp only [sNum, List.foldl_cons, List.foldl_nil]; omega
  have e1 : (sNum [x, y, z, u] * 4294967296 + sNum [x', y', z', u']) / 4294967296 = sNum [x, y, z, u] % 4294967296 := by omega
  have e2 : (sNum [x, y, z, u] * 4294967296 + sNum [x', y', z', u']) % 4294967296 = sNum [x', y', z', u'] % 4294967296 := by omega
  unfold sHuge
  rw [e, e1, e2, h1, h2]
  rfl
theorem sInts_low (l : List Int) : sInts (l.map (· % 65536)) = sInts l := by
  unfold sInts
  rw [List.length_map]
  congr 1
  induction l with
  | nil => rfl
  | cons x l ih =>
    rw [List.map_cons, List.flatMap_cons, List.flatMap_cons, ih]
    congr 1
    unfold sWord
    congr 1
    · omega
    · congr 1
      omega
theorem row_bytes (xs : List Int) {k : Nat} (h : k < 7) : sInts ((readW xs).row k) = sInts (liK xs k) := by
  rcases k with _ | _ | _ | _ | _ | _ | _ | k
  · rfl
  · rfl
  · rfl
  · rfl
  · exact sInts_low (liK xs 4)
  · rfl
  · rfl
  · omega
theorem rd_ok {xs : List Int} (hb : Byt xs) : ∀ k, k ≤ 7 → OkS xs (rdK xs k) (packK (readW xs) k)
  | 0, _ => fun _ => ⟨0, rfl, Nat.zero_le _, rfl⟩
  | k + 1, hk => by
    have := tI_ok hb (rd_ok hb k (by omega))
    rw [packK, row_bytes xs (by omega)]
    exact this
theorem OkS.to {xs : List Int} {s : Int × Int} {B C : List Int} (h : OkS xs s B) (e : s.2 = 0 → B = C) : OkS xs s C := fun he => by
  obtain ⟨a, h1, h2, h3⟩ := h he
  exact ⟨a, h1, h2, h3.trans (e he)⟩
/-- **Bytes that are a world are that world's bytes.** -/
theorem pack_read {xs : List Int} (hb : Byt xs) (h : readE xs = 0) : packP (readW xs) = xs := by
  have b := fun s k => sTk_byt xs (s : Int × Int).1 s.2 k hb
  have h7 := rd_ok hb 7 (Nat.le_refl _)
  have g1 := tN_ok 8 h7
  have k1 : OkS xs (sA xs) (packK (readW xs) 7 ++ sHuge (readW xs).seed) := g1.1.to fun he => congrArg (packK (readW xs) 7 ++ ·) (huge_of (b (rdK xs 7) 8) (g1.2 he)).symm
  have g2 := tN_ok 2 k1
  have k2 : OkS xs (sB xs) (packK (readW xs) 7 ++ sHuge (readW xs).seed ++ sWord (readW xs).score) := g2.1.to fun he => congrArg (packK (readW xs) 7 ++ sHuge (readW xs).seed ++ ·) (word_of (b (sA xs) 2) (g2.2 he)).symm
  have g3 := tN_ok 4 k2
  have k3 : OkS xs (rbK xs 0) (pk3 (readW xs) 0) := g3.1.to fun he => congrArg (packK (readW xs) 7 ++ sHuge (readW xs).seed ++ sWord (readW xs).score ++ ·) (long_of (b (sB xs) 4) (g3.2 he)).symm
  have step : ∀ k, k < 3 → OkS xs (rbK xs k) (pk3 (readW xs) k) → OkS xs (rbK xs (k + 1)) (pk3 (readW xs) (k + 1)) := fun k hk h => by
    have g := tN_ok 1 h
    refine g.1.to fun he => ?_
    show _ = pk3 (readW xs) k ++ sByte (b3 (readW xs) k)
    have e : b3 (readW xs) k = (tN xs 1 (rbK xs k)).1 := by rcases k with _ | _ | _ | k <;> first | rfl | omega
    rw [e]
    exact congrArg (pk3 (readW xs) k ++ ·) (byte_of (b (rbK xs k) 1) (g.2 he)).symm
  have k6 := step 2 (by omega) (step 1 (by omega) (step 0 (by omega) k3))
  unfold readE sEnd at h
  split at h
  · simp at h
  · rename_i hn
    obtain ⟨a, e1, e2, e3⟩ := k6 h
    have : a = xs.length := by rw [e1, h] at hn; omega
    rw [← pk3_is, ← e3, this, List.take_length]
end Go.Proofs.Ytjloemlnejndmaa
namespace Go.Proofs.Ytjloemlnejndmaa
set_option linter.unusedVariables false
open Go.RowKit
/-- What of a world's being right its bytes need. -/
structure WR (w : WorldP) : Prop where
  few : ∀ k, k < 7 → (w.row k).length ≤ 32767
  v16 : ∀ k, k < 7 → k ≠ 4 → ∀ x ∈ w.row k, -32768 ≤ x ∧ x ≤ 32767
  fl : ∀ x ∈ w.flags, 0 ≤ x ∧ x ≤ 65535
  score : -32768 ≤ w.score ∧ w.score ≤ 32767
  turns : 0 ≤ w.turns ∧ w.turns ≤ 2147483647
  over : 0 ≤ w.over ∧ w.over ≤ 3
  it : 0 ≤ w.it ∧ w.it ≤ 127
  go : 0 ≤ w.go ∧ w.go ≤ 12
  seed : 0 ≤ w.seed ∧ w.seed < 18446744073709551616
theorem all_v16 {l : List Int} (h : l.all isV16 = true) : ∀ x ∈ l, -32768 ≤ x ∧ x ≤ 32767 := fun x hx => among_iff.1 (List.all_eq_true.1 h x hx)
theorem inR_v16 {w : WorldP} {l : List Int} (h : inR w l = true) (hp : w.parent.length ≤ 128) : ∀ x ∈ l, -32768 ≤ x ∧ x ≤ 32767 := fun x hx => by
  have := among_iff.1 (List.all_eq_true.1 h x hx)
  omega
theorem flag_in {t : TabP} (ht : among t.flags 4 16 = true) {x : Int} (h : flagB t x = true) : 0 ≤ x ∧ x ≤ 65535 := by
  have h1 := among_iff.1 ht
  unfold flagB at h
  rw [Bool.and_eq_true, decide_eq_true_eq, decide_eq_true_eq] at h
  refine ⟨h.1, ?_⟩
  have h2 := h.2
  have hb : min t.flags.toNat IntKind.i64.bits = t.flags.toNat := by
    have : IntKind.i64.bits = 64 := rfl
    omega
  rw [hb] at h2
  generalize hm : t.flags.toNat = m at h2
  have hm16 : m ≤ 16 := by omega
  have key : IntKind.i64.wrap (1 * 2 ^ m) ≤ 65536 := by
    rcases (show m = 0 ∨ m = 1 ∨ m = 2 ∨ m = 3 ∨ m = 4 ∨ m = 5 ∨ m = 6 ∨ m = 7 ∨ m = 8 ∨ m = 9 ∨ m = 10 ∨ m = 11 ∨ m = 12 ∨ m = 13 ∨ m = 14 ∨ m = 15 ∨ m = 16 by omega) with rfl | rfl | rfl | rfl | rfl | rfl | rfl | rfl | rfl | rfl | rfl | rfl | rfl | rfl | rfl | rfl | rfl <;> decide
  omega
theorem mulN_le {t : TabP} (hF : FitsF t) : mulN t = (t.things.length : Int) * (t.props.length : Int) ∧ (t.things.length : Int) * (t.props.length : Int) ≤ 2048 := by
  have h1 := hF.few
  have h2 := hF.props
  have h3 : t.things.length * t.props.length ≤ 128 * 16 := Nat.mul_le_mul h1.2 h2
  have h4 : (t.things.length : Int) * (t.props.length : Int) ≤ 2048 := by
    have : ((t.things.length * t.props.length : Nat) : Int) ≤ 2048 := by omega
    rwa [Int.natCast_mul] at this
  have h5 : 0 ≤ (t.things.length : Int) * (t.props.length : Int) := Int.mul_nonneg (by omega) (by omega)
  refine ⟨?_, h4⟩
  unfold mulN
  generalize (t.things.length : Int) * (t.props.length : Int) = z at *
  have e : ∀ z, IntKind.i64.wrap z = (z + 9223372036854775808) % 18446744073709551616 - 9223372036854775808 := fun z => by
    simp only [IntKind.wrap, IntKind.bits, IntKind.signed]
    simp
    omega
  rw [e]
  omega
theorem right_wr {t : TabP} (hF : FitsF t) {w : WorldP} (hs : 0 ≤ w.seed ∧ w.seed < 18446744073709551616) (h : rightB t w = true) : WR w := by
  unfold rightB right1 right2 at h
  simp only [Bool.and_eq_true, Bool.not_eq_true', Bool.or_eq_false_iff, Bool.not_eq_false'] at h
  obtain ⟨⟨⟨⟨hc, hg⟩, hp⟩, hn⟩, ⟨⟨⟨⟨⟨⟨⟨hfl, htm⟩, hsc⟩, htu⟩, hov⟩, hit⟩, hgo⟩, _⟩⟩ := h
  unfold countsB at hc
  simp only [Bool.and_eq_true, beq_iff_eq] at hc
  obtain ⟨⟨⟨⟨⟨⟨c0, c1⟩, c2⟩, c3⟩, c4⟩, c5⟩, c6⟩ := hc
  unfold nestedB at hn
  simp only [Bool.and_eq_true] at hn
  obtain ⟨⟨_, ⟨n1, n2⟩, n3⟩, _⟩ := hn
  have m := mulN_le hF
  have f1 := hF.few
  have f2 := hF.globals.1
  have f3 := hF.daemons
  have hpl : w.parent.length ≤ 128 := by omega
  refine ⟨fun k hk => ?_, fun k hk h4 => ?_, fun x hx => flag_in hF.flags (List.all_eq_true.1 hfl x hx), among_iff.1 hsc, among_iff.1 htu, among_iff.1 hov, ?_, among_iff.1 hgo, hs⟩
  · rcases k with _ | _ | _ | _ | _ | _ | _ | k
    · show w.globals.length ≤ _; omega
    · show w.parent.length ≤ _; omega
    · show w.child.length ≤ _; omega
    · show w.next.length ≤ _; omega
    · show w.flags.length ≤ _; omega
    · show w.props.length ≤ _; omega
    · show w.timers.length ≤ _; omega
    · omega
  · rcases k with _ | _ | _ | _ | _ | _ | _ | k
    · exact all_v16 hg
    · exact inR_v16 n1 hpl
    · exact inR_v16 n2 hpl
    · exact inR_v16 n3 hpl
    · exact absurd rfl h4
    · exact all_v16 hp
    · intro x hx
      have := among_iff.1 (List.all_eq_true.1 htm x hx)
      omega
    · omega
  · rw [Bool.and_eq_false_iff] at hit
    rcases hit with h1 | h1
    · have : w.it = 0 := by simpa using h1
      omega
    · have h2 : thingB t w.it = true := by simpa using h1
      unfold thingB at h2
      have := among_iff.1 h2
      omega
/-! ### Taking back -/
theorem tI_at {xs pre post l : List Int} (hx : xs = pre ++ (sInts l ++ post)) (hl : l.length ≤ 32767) {s : Int × Int} (hs : s = (((pre.length : Nat) : Int), 0)) : tI xs s = (l.map wrap16, ((((pre ++ sInts l).length : Nat) : Int), 0)) := by
  have h := sOf_back pre (l.flatMap sWord) post l.length 2 32767 (by omega) (by omega) (by rw [words_len]; omega)
  have e : xs = pre ++ (sSize l.length ++ (l.flatMap sWord ++ post)) := by rw [hx]; unfold sInts; rw [List.append_assoc]
  subst hs
  unfold tI
  rw [e, h]
  refine Prod.ext (sPairs_words l) (Prod.ext ?_ rfl)
  show ((pre.length + (sSize l.length).length + l.length * 2 : Nat) : Int) = _
  unfold sInts
  rw [List.length_append, List.length_append, words_len]
  congr 1
  omega
theorem tN_at {xs pre post b : List Int} {k : Nat} (hx : xs = pre ++ (b ++ post)) (hb : b.length = k) {s : Int × Int} (hs : s = (((pre.length : Nat) : Int), 0)) : tN xs k s = (sNum b, ((((pre ++ b).length : Nat) : Int), 0)) := by
  subst hs
  have h : sTk xs (pre.length : Int) 0 k = (b, (((pre ++ b).length : Nat) : Int), 0) := by
    unfold sTk
    rw [if_neg (by omega), if_neg (by unfold sLacks; rw [hx, List.length_append, List.length_append]; omega), Int.toNat_natCast, hx, List.drop_left, ← hb, List.take_left]
    refine Prod.ext rfl (Prod.ext ?_ rfl)
    show (pre.length : Int) + (b.length : Int) = (((pre ++ b).length : Nat) : Int)
    rw [List.length_append]
    omega
  unfold tN
  rw [h]
theorem tN_short {xs : List Int} {s : Int × Int} {k : Nat} (hk : 0 < k) (hs : s = (((xs.length : Nat) : Int), 0)) : (tN xs k s).2.2 = 2 := by
  subst hs
  show (sTk xs (xs.length : Int) 0 k).2.2 = 2
  rw [sTk_lack xs _ k (by unfold sLacks; omega)]
theorem packK_pre (w : WorldP) (k : Nat) : ∀ d, ∃ r, packK w (k + d) = packK w k ++ r
  | 0 => ⟨[], by simp⟩
  | d + 1 => by
    obtain ⟨r, h⟩ := packK_pre w k d
    refine ⟨r ++ sInts (w.row (k + d)), ?_⟩
    rw [← Nat.add_assoc, packK, h, List.append_assoc]
theorem rd_at (w : WorldP) (hw : ∀ k, k < 7 → (w.row k).length ≤ 32767) (post : List Int) : ∀ k, k ≤ 7 → rdK (packK w 7 ++ post) k = ((((packK w k).length : Nat) : Int), 0) ∧ ∀ j, j < k → liK (packK w 7 ++ post) j = (w.row j).map wrap16
  | 0, _ => ⟨rfl, fun j hj => absurd hj (by omega)⟩
  | k + 1, hk => by
    obtain ⟨h1, h2⟩ := rd_at w hw post k (by omega)
    obtain ⟨r, hr⟩ := packK_pre w (k + 1) (7 - (k + 1))
    rw [show k + 1 + (7 - (k + 1)) = 7 from by omega] at hr
    have e : packK w 7 ++ post = packK w k ++ (sInts (w.row k) ++ (r ++ post)) := by rw [hr, packK]; simp only [List.append_assoc]
    have h3 := tI_at e (hw k (by omega)) h1
    refine ⟨congrArg Prod.snd h3, fun j hj => ?_⟩
    rcases Nat.lt_or_ge j k with h4 | h4
    · exact h2 j h4
    · obtain rfl : j = k := by omega
      exact congrArg Prod.fst h3
theorem num_byte {x : Int} (h : 0 ≤ x ∧ x < 256) : sNum (sByte x) = x := by simp [sNum, sByte]; omega
theorem num_word {x : Int} (h : -32768 ≤ x ∧ x ≤ 32767) : wrap16 (sNum (sWord x)) = x := by
  have := sWord_num x
  unfold sWord
  rw [this]
  unfold wrap16
  omega
theorem num_long {x : Int} (h : 0 ≤ x ∧ x < 4294967296) : sNum (sLong x) = x := by simp only [sNum, sLong, List.foldl_cons, List.foldl_nil]; omega
theorem num_huge {x : Int} (h : 0 ≤ x ∧ x < 18446744073709551616) : sNum (sHuge x) = x := by
  have h1 := num_long (x := x / 4294967296) (by omega)
  have h2 := num_long (x := x % 4294967296) (by omega)
  have e : sNum (sHuge x) = sNum (sLong (x / 4294967296)) * 4294967296 + sNum (sLong (x % 4294967296)) := by
    simp only [sNum, sHuge, sLong, List.cons_append, List.nil_append, List.foldl_cons, List.foldl_nil]; omega
  rw [e, h1, h2]
  omega
/-- The bytes but the last. -/
def packQ (w : WorldP) : List Int := packK w 7 ++ sHuge w.seed ++ sWord w.score ++ sLong (w.turns % 4294967296) ++ sByte w.over ++ sByte w.it
theorem packP_Q (w : WorldP) : packP w = packQ w ++ sByte w.go := rfl
theorem st_at (w : WorldP) (hw : ∀ k, k < 7 → (w.row k).length ≤ 32767) (post : List Int) :
    (∀ j, j < 7 → liK (packQ w ++ post) j = (w.row j).map wrap16) ∧ (tN (packQ w ++ post) 8 (rdK (packQ w ++ post) 7)).1 = sNum (sHuge w.seed) ∧ (tN (packQ w ++ post) 2 (sA (packQ w ++ post))).1 = sNum (sWord w.score) ∧
    (tN (packQ w ++ post) 4 (sB (packQ w ++ post))).1 = sNum (sLong (w.turns % 4294967296)) ∧ byK (packQ w ++ post) 0 = sNum (sByte w.over) ∧ byK (packQ w ++ post) 1 = sNum (sByte w.it) ∧ rbK (packQ w ++ post) 2 = ((((packQ w).length : Nat) : Int), 0) := by
  have e0 : packQ w ++ post = packK w 7 ++ (sHuge w.seed ++ (sWord w.score ++ (sLong (w.turns % 4294967296) ++ (sByte w.over ++ (sByte w.it ++ post))))) := by unfold packQ; simp only [List.append_assoc]
  obtain ⟨h1, h2⟩ := rd_at w hw (sHuge w.seed ++ (sWord w.score ++ (sLong (w.turns % 4294967296) ++ (sByte w.over ++ (sByte w.it ++ post))))) 7 (Nat.le_refl _)
  rw [← e0] at h1 h2
  have a1 := tN_at (k := 8) e0 rfl h1
  have e1 : packQ w ++ post = (packK w 7 ++ sHuge w.seed) ++ (sWord w.score ++ (sLong (w.turns % 4294967296) ++ (sByte w.over ++ (sByte w.it ++ post)))) := by rw [e0]; simp only [List.append_assoc]
  have a2 := tN_at (k := 2) e1 rfl (s := sA (packQ w ++ post)) (congrArg Prod.snd a1)
  have e2 : packQ w ++ post = (packK w 7 ++ sHuge w.seed ++ sWord w.score) ++ (sLong (w.turns % 4294967296) ++ (sByte w.over ++ (sByte w.it ++ post))) := by rw [e0]; simp only [List.append_assoc]
  have a3 := tN_at (k := 4) e2 rfl (s := sB (packQ w ++ post)) (congrArg Prod.snd a2)
  have e3 : packQ w ++ post = (packK w 7 ++ sHuge w.seed ++ sWord w.score ++ sLong (w.turns % 4294967296)) ++ (sByte w.over ++ (sByte w.it ++ post)) := by rw [e0]; simp only [List.append_assoc]
  have a4 := tN_at (k := 1) e3 rfl (s := rbK (packQ w ++ post) 0) (congrArg Prod.snd a3)
  have e4 : packQ w ++ post = (packK w 7 ++ sHuge w.seed ++ sWord w.score ++ sLong (w.turns % 4294967296) ++ sByte w.over) ++ (sByte w.it ++ post) := by rw [e0]; simp only [List.append_assoc]
  have a5 := tN_at (k := 1) e4 rfl (s := rbK (packQ w ++ post) 1) (congrArg Prod.snd a4)
  exact ⟨h2, congrArg Prod.fst a1, congrArg Prod.fst a2, congrArg Prod.fst a3, congrArg Prod.fst a4, congrArg Prod.fst a5, congrArg Prod.snd a5⟩
theorem read_ok (w : WorldP) (hw : ∀ k, k < 7 → (w.row k).length ≤ 32767) : readE (packP w) = 0 := by
  rw [packP_Q]
  obtain ⟨_, _, _, _, _, _, h⟩ := st_at w hw (sByte w.go)
  have a := tN_at (xs := packQ w ++ sByte w.go) (pre := packQ w) (b := sByte w.go) (post := []) (k := 1) (by simp) rfl h
  have e : rbK (packQ w ++ sByte w.go) 3 = ((((packQ w ++ sByte w.go).length : Nat) : Int), 0) := congrArg Prod.snd a
  unfold readE
  rw [e]
  unfold sEnd
  rw [if_neg (by simp)]
theorem read_short (w : WorldP) (hw : ∀ k, k < 7 → (w.row k).length ≤ 32767) : readE (packQ w) = 2 := by
  obtain ⟨_, _, _, _, _, _, h⟩ := st_at w hw []
  rw [List.append_nil] at h
  have a := tN_short (xs := packQ w) (k := 1) (by omega) h
  have e : (rbK (packQ w) 3).2 = 2 := a
  unfold readE sEnd
  rw [e, if_neg (by simp)]
theorem read_long (w : WorldP) (hw : ∀ k, k < 7 → (w.row k).length ≤ 32767) (z : Int) : readE (packP w ++ [z]) = 3 := by
  rw [packP_Q, List.append_assoc]
  obtain ⟨_, _, _, _, _, _, h⟩ := st_at w hw (sByte w.go ++ [z])
  have a := tN_at (xs := packQ w ++ (sByte w.go ++ [z])) (pre := packQ w) (b := sByte w.go) (post := [z]) (k := 1) rfl rfl h
  have e : rbK (packQ w ++ (sByte w.go ++ [z])) 3 = ((((packQ w ++ sByte w.go).length : Nat) : Int), 0) := congrArg Prod.snd a
  unfold readE
  rw [e]
  unfold sEnd
  rw [if_pos ⟨rfl, by simp [sByte]⟩]
theorem map_wrap {l : List Int} (h : ∀ x ∈ l, -32768 ≤ x ∧ x ≤ 32767) : l.map wrap16 = l := by
  rw [List.map_congr_left (g := id)]
  · simp
  · intro x hx
    have := h x hx
    show wrap16 x = x
    unfold wrap16
    omega
theorem map_flag {l : List Int} (h : ∀ x ∈ l, 0 ≤ x ∧ x ≤ 65535) : (l.map wrap16).map (· % 65536) = l := by
  rw [List.map_map, List.map_congr_left (g := id)]
  · simp
  · intro x hx
    have := h x hx
    show wrap16 x % 65536 = x
    rw [wrap16_mod]
    omega
/-- **A world that is right comes back.** -/
theorem read_pack {w : WorldP} (h : WR w) : readW (packP w) = w := by
  rw [packP_Q]
  obtain ⟨h1, h2, h3, h4, h5, h6, h7⟩ := st_at w h.few (sByte w.go)
  have a := tN_at (xs := packQ w ++ sByte w.go) (pre := packQ w) (b := sByte w.go) (post := []) (k := 1) (by simp) rfl h7
  have h8 : byK (packQ w ++ sByte w.go) 2 = sNum (sByte w.go) := congrArg Prod.fst a
  have e : ∀ k, k < 7 → k ≠ 4 → liK (packQ w ++ sByte w.go) k = w.row k := fun k hk h9 => (h1 k hk).trans (map_wrap (h.v16 k hk h9))
  have ht := h.turns
  have ho := h.over
  have hi := h.it
  have hg := h.go
  unfold readW
  rw [e 0 (by omega) (by omega), e 1 (by omega) (by omega), e 2 (by omega) (by omega), e 3 (by omega) (by omega), h1 4 (by omega), e 5 (by omega) (by omega), e 6 (by omega) (by omega), h2, h3, h4, h5, h6, h8, num_huge h.seed, num_word h.score, num_long (by omega), num_byte (by omega), num_byte (by omega), num_byte (by omega), show (w.row 4).map wrap16 = w.flags.map wrap16 from rfl, map_flag h.fl, Int.emod_eq_of_lt (by omega) (by omega)]
  rfl
theorem unp_back {t : TabP} {w : WorldP} (h : WR w) (hr : rightB t w = true) : unpP t (packP w) = (w, 0) := by
  have e := read_pack h
  have ht := h.turns
  have ho := h.over
  have hg := h.go
  rw [unp_ok (by rw [read_ok w h.few]; omega) (by rw [e]; unfold bigB; simp; omega) (by rw [e]; exact hr), e]
theorem pack_inj {v w : WorldP} (hv : WR v) (hw : WR w) (h : packP v = packP w) : v = w := by
  rw [← read_pack hv, h, read_pack hw]
theorem sameW_iff {v w : WorldP} : sameW v w = true ↔ v = w := by
  constructor
  · intro h
    unfold sameW at h
    simp only [Bool.and_eq_true, beq_iff_eq] at h
    cases v
    cases w
    simp_all
  · rintro rfl
    exact sameW_refl v
theorem packK_byt (w : WorldP) : ∀ k, Byt (packK w k)
  | 0 => Byt.nil
  | k + 1 => (packK_byt w k).append (sInts_byt _)
theorem word_byt (x : Int) : Byt (sWord x) := fun y hy => by simp [sWord] at hy; omega
theorem byte_byt (x : Int) : Byt (sByte x) := fun y hy => by simp [sByte] at hy; omega
theorem long_byt (x : Int) : Byt (sLong x) := fun y hy => by simp [sLong] at hy; omega
theorem packQ_byt (w : WorldP) : Byt (packQ w) := (((((packK_byt w 7).append ((long_byt _).append (long_byt _))).append (word_byt _)).append (long_byt _)).append (byte_byt _)).append (byte_byt _)
theorem packP_byt (w : WorldP) : Byt (packP w) := (packQ_byt w).append (byte_byt _)
theorem packQ_len {w : WorldP} (h : WR w) : (packQ w).length ≤ 500000 := by
  have hk : ∀ k, k ≤ 7 → (packK w k).length ≤ k * 65543 := by
    intro k
    induction k with
    | zero => intro _; simp [packK]
    | succ k ih =>
      intro hk
      have h1 := ih (by omega)
      have h2 := h.few k (by omega)
      have h3 := sInts_len _ (show (w.row k).length ≤ 1000000 by omega)
      rw [packK, List.length_append]
      omega
  have := hk 7 (Nat.le_refl _)
  unfold packQ
  simp only [List.length_append]
  simp [sHuge, sLong, sWord, sByte]
  omega
end Go.Proofs.Ytjloemlnejndmaa
