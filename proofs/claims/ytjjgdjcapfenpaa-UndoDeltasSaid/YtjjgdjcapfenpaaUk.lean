/- Histories of images that were pushed, as plain data. No program stands in this text. -/
import Derived.Test.YtjjgdjcapfenpaaUs
namespace Go.Proofs.Ytjjgdjcapfenpaa
set_option linter.unusedVariables false
open Go.RowKit

/-- What changes each image into the next. -/
def dl : List Int → List (List Int) → List (List Int)
  | _, [] => []
  | x, y :: ys => dMake x y :: dl y ys
/-- The history of these images, the newest first. -/
def chainH (m : Int) : List (List Int) → HistP
  | [] => ⟨m, [], []⟩
  | x :: xs => ⟨m, x, dl x xs⟩
theorem dl_len : ∀ (xs : List (List Int)) (x : List Int), (dl x xs).length = xs.length
  | [], _ => rfl
  | y :: ys, x => by simp [dl, dl_len ys y]
theorem dl_take : ∀ (ys : List (List Int)) (x : List Int) (n : Nat), dl x (ys.take n) = (dl x ys).take n
  | [], x, n => by simp [dl]
  | y :: ys, x, 0 => by simp [dl]
  | y :: ys, x, n + 1 => by simp [dl, dl_take ys y n]
/-- Images that may be. -/
def ImgOk (B : Nat) (l : List (List Int)) : Prop := ∀ d ∈ l, d.length ≠ 0 ∧ d.length ≤ B ∧ Byt d
theorem dl_ok {B : Nat} (hB : B ≤ 3000) : ∀ (xs : List (List Int)) (x : List Int), ImgOk B xs → ∀ d ∈ dl x xs, d.length ≤ 100000 ∧ Byt d
  | [], x, _, d, hd => by simp [dl] at hd
  | y :: ys, x, h, d, hd => by
    have hy := h y (by simp)
    rcases List.mem_cons.1 hd with rfl | hd
    · have := dMake_len x y (by omega)
      exact ⟨by omega, dMake_byt _ _ hy.2.2⟩
    · exact dl_ok hB ys y (fun d hd => h d (by simp [hd])) d hd
theorem chain_ok {B : Nat} (hB : B ≤ 3000) {m : Int} (hm : -9223372036854775808 ≤ m ∧ m < 9223372036854775808) {l : List (List Int)} (h : ImgOk B l) (hl : l.length ≤ 1000) : HOk (chainH m l) := by
  cases l with
  | nil => exact ⟨hm, by simp [chainH], Byt.nil, by simp [chainH], by simp [chainH]⟩
  | cons x xs =>
    have hx := h x (by simp)
    refine ⟨hm, by show x.length ≤ _; omega, hx.2.2, dl_ok hB xs x fun d hd => h d (by simp [hd]), ?_⟩
    show (dl x xs).length ≤ _
    rw [dl_len]
    simp at hl
    omega
theorem chain_now {B : Nat} {m : Int} {l : List (List Int)} (h : ImgOk B l) : (chainH m l).now.length ≤ B := by
  cases l with
  | nil => simp [chainH]
  | cons x xs => exact (h x (by simp)).2.1
theorem chain_len {B : Nat} {m : Int} {l : List (List Int)} (h : ImgOk B l) : lenP (chainH m l) = l.length := by
  cases l with
  | nil => simp [chainH, lenP]
  | cons x xs =>
    have hx := (h x (by simp)).1
    unfold lenP
    rw [if_neg (show ¬ (chainH m (x :: xs)).now.length = 0 from hx)]
    show 1 + ((dl x xs).length : Int) = _
    rw [dl_len]
    simp
    omega
theorem chain_pop {B : Nat} (hB : B ≤ 3000) {m : Int} {x : List Int} {xs : List (List Int)} (h : ImgOk B (x :: xs)) : popP (chainH m (x :: xs)) = (x, chainH m xs, 0) := by
  have hx := (h x (by simp)).1
  unfold popP
  rw [if_neg (show ¬ (chainH m (x :: xs)).now.length = 0 from hx)]
  cases xs with
  | nil => rw [if_pos (show (chainH m [x]).ds.length = 0 from rfl)]; rfl
  | cons y ys =>
    have hy := h y (by simp)
    have hb : dApp (chainH m (x :: y :: ys)).now ((chainH m (x :: y :: ys)).ds.getD 0 []) = (y, 0) := dApp_back x y hy.2.2 (by omega)
    rw [if_neg (show ¬ (chainH m (x :: y :: ys)).ds.length = 0 by simp [chainH, dl]), hb, if_neg (by simp), if_neg hy.1]
    rfl
theorem chain_push {B : Nat} {m : Int} {b : List Int} {l : List (List Int)} (h : ImgOk B l) (hb : b.length ≠ 0) (hm : remN m ≠ 0) : pushP (chainH m l) b = chainH m ((b :: l).take (remN m).toNat) := by
  have hr := rem_pos m
  obtain ⟨k, hk⟩ : ∃ k, (remN m).toNat = k + 1 := ⟨(remN m).toNat - 1, by omega⟩
  have hk' : (remN m - 1).toNat = k := by omega
  have hmost : (chainH m l).most = m := by cases l <;> rfl
  unfold pushP
  rw [hmost, if_neg (by simp [hb, hm]), hk, List.take_succ_cons]
  cases l with
  | nil => rw [if_pos (show (chainH m []).now.length = 0 from rfl)]; simp [chainH, dl]
  | cons x xs =>
    rw [if_neg (show ¬ (chainH m (x :: xs)).now.length = 0 from (h x (by simp)).1), hk']
    show HistP.mk m b ((dMake b x :: dl x xs).take k) = HistP.mk m b (dl b ((x :: xs).take k))
    rw [dl_take]
    rfl
/-- The first k images pushed. -/
def pushN (n : Int) (l : List (List Int)) : Nat → HistP
  | 0 => newP n
  | k + 1 => pushP (pushN n l k) (l.getD k [])
def imgsK (n : Int) (l : List (List Int)) (k : Nat) : List (List Int) := ((l.take k).reverse).take (remN n).toNat
theorem take_cons_take {α : Type} (x : α) (l : List α) : ∀ n, (x :: l.take n).take n = (x :: l).take n
  | 0 => rfl
  | n + 1 => by rw [List.take_succ_cons, List.take_succ_cons, List.take_take]; congr 2; omega
theorem rem_rem (n : Int) : remN (remN n) = remN n := by unfold remN; omega
theorem imgs_ok {B : Nat} {n : Int} {l : List (List Int)} (h : ImgOk B l) (k : Nat) : ImgOk B (imgsK n l k) := fun d hd => h d (List.mem_of_mem_take (List.mem_reverse.1 (List.mem_of_mem_take hd)))
theorem imgs_len (n : Int) {l : List (List Int)} {k : Nat} (hk : k ≤ l.length) : (imgsK n l k).length = min (remN n).toNat k := by
  unfold imgsK
  rw [List.length_take, List.length_reverse, List.length_take, Nat.min_eq_left hk]
theorem pushN_is {B : Nat} (n : Int) {l : List (List Int)} (h : ImgOk B l) : ∀ k, k ≤ l.length → pushN n l k = chainH (remN n) (imgsK n l k)
  | 0, _ => by simp [pushN, imgsK, chainH, newP]
  | k + 1, hk => by
    have hg : l.getD k [] = l[k] := by simp [List.getD, show k < l.length from hk]
    have hb := (h l[k] (List.getElem_mem hk)).1
    rw [pushN, pushN_is n h k (by omega), hg]
    have htk : (l.take (k + 1)).reverse = l[k] :: (l.take k).reverse := by
      rw [List.take_add_one, List.getElem?_eq_getElem hk]
      simp
    by_cases hr : remN n = 0
    · have h0 : ∀ k, imgsK n l k = [] := fun k => by unfold imgsK; rw [hr]; rfl
      rw [h0, h0]
      unfold pushP
      rw [if_pos]
      right
      show remN (remN n) = 0
      rw [rem_rem, hr]
    · rw [chain_push (imgs_ok h k) hb (by rw [rem_rem]; exact hr), rem_rem]
      unfold imgsK
      rw [htk, take_cons_take]
theorem imgs_at {n : Int} {l : List (List Int)} {i : Nat} (hi : i < (imgsK n l l.length).length) : imgsK n l l.length = (imgsK n l l.length).take i ++ l.getD (l.length - 1 - i) [] :: (imgsK n l l.length).drop (i + 1) := by
  have hl : i < l.length := by rw [imgs_len n (Nat.le_refl _)] at hi; omega
  have e : (imgsK n l l.length)[i]'hi = l.getD (l.length - 1 - i) [] := by
    simp only [imgsK, List.take_length, List.getElem_take, List.getElem_reverse]
    simp [List.getD, show l.length - 1 - i < l.length by omega]
  rw [← e]
  simp
theorem drop_at {n : Int} {l : List (List Int)} {i : Nat} (hi : i < (imgsK n l l.length).length) : (imgsK n l l.length).drop i = l.getD (l.length - 1 - i) [] :: (imgsK n l l.length).drop (i + 1) := by
  have hl : i < l.length := by rw [imgs_len n (Nat.le_refl _)] at hi; omega
  have e : (imgsK n l l.length)[i]'hi = l.getD (l.length - 1 - i) [] := by
    simp only [imgsK, List.take_length, List.getElem_take, List.getElem_reverse]
    simp [List.getD, show l.length - 1 - i < l.length by omega]
  rw [← e, List.drop_eq_getElem_cons hi]
theorem img_drop {B : Nat} {l : List (List Int)} (h : ImgOk B l) (i : Nat) : ImgOk B (l.drop i) := fun d hd => h d (List.mem_of_mem_drop hd)
/-! ### The sum of the lengths -/
def wsumL (l : List (List Int)) : Nat → Int
  | 0 => 0
  | k + 1 => IntKind.i64.wrap (wsumL l k + (l.getD k []).length)
theorem wsumL_is {l : List (List Int)} (hw : ∀ d ∈ l, d.length ≤ 140737488355328) (hn : l.length ≤ 60) : ∀ k, k ≤ l.length → wsumL l k = sumP l k ∧ sumP l k ≤ k * 140737488355328
  | 0, _ => by simp [wsumL, sumP]
  | k + 1, hk => by
    obtain ⟨h1, h2⟩ := wsumL_is hw hn k (by omega)
    have h3 : ((l.getD k []).length : Int) ≤ 140737488355328 := by
      have := hw (l.getD k []) (by rw [List.getD, List.getElem?_eq_getElem (by omega)]; exact List.getElem_mem _)
      omega
    have h4 := sum_bound l k
    rw [wsumL, h1, sum_step (by omega)]
    refine ⟨?_, by rw [Int.natCast_add, Int.add_mul]; omega⟩
    have h6 : (k : Int) * 140737488355328 ≤ 60 * 140737488355328 := by
      have : (k : Int) ≤ 60 := by omega
      omega
    rw [i64_in _ (by omega) (by omega)]
theorem sum_each {l : List (List Int)} {i : Nat} (hi : i < l.length) : ∀ m, m ≤ l.length → i < m → ((l.getD i []).length : Int) ≤ sumP l m := by
  intro m
  induction m with
  | zero => intro _ h; omega
  | succ m ih =>
    intro h5 h6
    rw [sum_step (by omega)]
    rcases Nat.lt_or_ge i m with h7 | h7
    · have := ih (by omega) h7; omega
    · obtain rfl : i = m := by omega
      have := sum_bound l i
      omega
theorem imgs_of {l : List (List Int)} (hw : ∀ d ∈ l, d.length ≤ 140737488355328 ∧ Byt d) (hn : l.length ≤ 60) (hs : wsumL l l.length ≤ 2000) (h0 : ∀ j, j < l.length → (l.getD j []).length ≠ 0) : ImgOk 2000 l := fun d hd => by
  obtain ⟨i, hi⟩ := List.getElem?_of_mem hd
  have hl := (List.getElem?_eq_some_iff.1 hi).1
  have hg : l.getD i [] = d := by rw [List.getD, hi]; rfl
  have h1 := (wsumL_is (fun d hd => (hw d hd).1) hn _ (Nat.le_refl _)).1
  have h2 := sum_each hl _ (Nat.le_refl _) hl
  have h3 := h0 i hl
  rw [hg] at h2 h3
  exact ⟨h3, by omega, (hw d hd).2⟩
end Go.Proofs.Ytjjgdjcapfenpaa
