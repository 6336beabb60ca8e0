
/-
Lists of rings: their samples in a row, and sums of squares.
-/
import Derived.Test.YtfhegjjgfaeinaaRa
import Derived.Test.YtfhegjjgfaeinaaPf
import Derived.Test.YtfhegjjgfaeinaaQu
namespace Go.Proofs.Ytfhegjjgfaeinaa
open Go Go.RowKit Fl
theorem rgsTo_nth {rs : List Rg} : ∀ {n : Nat}, rgsTo rs n = true → ∀ j, j < n → (rat rs j).ok = true
  | 0, _, j, h => absurd h (by omega)
  | n + 1, h, j, hj => by
    rw [rgsTo, Bool.and_eq_true] at h
    by_cases e : j = n
    · subst e; exact h.2
    · exact rgsTo_nth h.1 j (by omega)
theorem ok_ring {r : Rg} (h : r.ok = true) : ringB r.n r.i = true := by
  unfold Rg.ok at h; rw [Bool.and_eq_true] at h; exact h.1
theorem ok_n {r : Rg} (h : r.ok = true) : 1 ≤ r.n ∧ r.n ≤ 1024 ∧ 0 ≤ r.i ∧ r.i < r.n := by
  have h := ok_ring h
  unfold ringB at h
  rw [Bool.and_eq_true] at h
  have h1 := inB_yes h.1
  have h2 := inB_yes h.2
  omega
theorem rgSum_le {rs : List Rg} {n : Nat} (h : ∀ j, j < n → (rat rs j).ok = true) : ∀ k, k ≤ n → rgSum rs k ≤ 1024 * k
  | 0, _ => Nat.le_refl _
  | k + 1, hk => by
    have := rgSum_le h k (by omega)
    have := (ok_n (h k (by omega))).2.1
    rw [rgSum]; omega
def cat (qs : List Rg) : Nat → List Nat
  | 0 => []
  | k + 1 => cat qs k ++ (rat qs k).xs
theorem cat_len {qs : List Rg} {n : Nat} (h : ∀ j, j < n → (rat qs j).xs.length = (rat qs j).n) : ∀ k, k ≤ n → (cat qs k).length = rgSum qs k
  | 0, _ => rfl
  | k + 1, hk => by rw [cat, List.length_append, cat_len h k (by omega), h k (by omega), rgSum]
theorem nth_left {xs ys : List Nat} {i : Nat} (h : i < xs.length) : nth (xs ++ ys) i = nth xs i := by
  unfold nth; rw [List.getD_eq_getElem?_getD, List.getD_eq_getElem?_getD, List.getElem?_append_left h]
theorem nth_right {xs ys : List Nat} {i : Nat} : nth (xs ++ ys) (xs.length + i) = nth ys i := by
  unfold nth; rw [List.getD_eq_getElem?_getD, List.getD_eq_getElem?_getD, List.getElem?_append_right (by omega)]; congr 2; omega
theorem cat_nth {qs : List Rg} {n : Nat} (h : ∀ j, j < n → (rat qs j).xs.length = (rat qs j).n) : ∀ m, m ≤ n → ∀ k i, k < m → i < (rat qs k).n → nth (cat qs m) (rgSum qs k + i) = nth (rat qs k).xs i
  | 0, _, k, i, hk, _ => absurd hk (by omega)
  | m + 1, hm, k, i, hk, hi => by
    have hl := cat_len h m (by omega)
    rw [cat]
    by_cases e : k = m
    · subst e; rw [← hl, nth_right]
    · have := rgSum_mono qs (show k + 1 ≤ m by omega)
      have e2 : rgSum qs (k + 1) = rgSum qs k + (rat qs k).n := rfl
      rw [nth_left (by omega), cat_nth h m (by omega) k i (by omega) hi]
theorem cat_fin {qs : List Rg} {n : Nat} (h : ∀ j, j < n → (rat qs j).xs.length = (rat qs j).n) (hf : ∀ j, j < n → ∀ i, i < (rat qs j).n → finB (nth (rat qs j).xs i) = true) : ∀ k, k ≤ n → ∀ i, i < rgSum qs k → finB (nth (cat qs k) i) = true
  | 0, _, i, hi => absurd hi (by simp [rgSum])
  | k + 1, hk, i, hi => by
    have hl := cat_len h k (by omega)
    rw [rgSum] at hi
    rw [cat]
    by_cases hlt : i < rgSum qs k
    · rw [nth_left (by omega)]; exact cat_fin h hf k (by omega) i hlt
    · obtain ⟨d, rfl⟩ : ∃ d, i = rgSum qs k + d := ⟨i - rgSum qs k, by omega⟩
      rw [← hl, nth_right]
      exact hf k (by omega) d (by omega)
theorem ok_fin {r : Rg} (h : r.ok = true) : ∀ i, i < r.n → finB (nth r.xs i) = true := by
  unfold Rg.ok at h; rw [Bool.and_eq_true] at h
  exact finTo_nth h.2
end Go.Proofs.Ytfhegjjgfaeinaa
