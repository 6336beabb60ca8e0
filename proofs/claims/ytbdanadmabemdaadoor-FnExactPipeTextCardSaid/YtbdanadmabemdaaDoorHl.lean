
/-
Texts of rings and of new lists of samples.
-/
import Derived.Test.YtbdanadmabemdaaDoorHk
import Derived.Test.YtbdanadmabemdaaDoorLi
import Derived.Test.YtbdanadmabemdaaDoorBs
namespace Go.Proofs.YtbdanadmabemdaaDoor
open Go Go.RowKit Fl
theorem txt_cons (x : Nat) (xs : List Nat) : txtL (x :: xs) = 32 :: (txtL (x :: xs)).tail := by
  unfold txtL Lib.joinTail
  simp
theorem ring_line {n i : Nat} {xs : List Nat} (hx : xs ≠ []) : ringL n (i : Int) xs ++ [10] = lineL n i xs := by
  cases xs with
  | nil => exact absurd rfl hx
  | cons x xs =>
    unfold ringL lineL
    rw [itoa_nat, itoa_nat, txt_cons]
    simp
theorem xs_ne {n : Nat} {xs : List Nat} (h : xs.length = n) (h1 : 1 ≤ n) : xs ≠ [] := by
  intro e
  subst e
  simp at h
  omega
theorem lineL_len (n i : Nat) (xs : List Nat) (hn : n ≤ 1024) (hi : i ≤ 9223372036854775807) (hx : xs.length = n) : (lineL n i xs).length ≤ 20000 := by
  unfold lineL
  have h1 := dec_len n 19 (by omega)
  have h2 := dec_len i 19 (by omega)
  simp only [List.length_append, txt_len, hx]
  simp
  omega
theorem ringL_len (n i : Nat) (xs : List Nat) (hn : n ≤ 1024) (hi : i ≤ 9223372036854775807) (hx : xs.length = n) : (ringL n i xs).length ≤ 20000 := by
  unfold ringL
  have h1 := dec_len n 19 (by omega)
  have h2 := dec_len i 19 (by omega)
  rw [itoa_nat, itoa_nat]
  simp only [List.length_append, List.length_tail, txt_len, hx]
  simp
  omega
theorem filtL_len (k : Nat) (c0 c1 c2 s0 s1 : Nat) (hk : k ≤ 10) : (filtL k [c0, c1, c2] [s0, s1]).length ≤ 200 := by
  unfold filtL
  have h1 := dec_len k 19 (by omega)
  rw [itoa_nat]
  simp only [List.length_append, List.length_tail, txt_len]
  simp
  omega
theorem new2 {W : World} {g x1 x2 : Nat} {T : TypeId} (hg : W.heap[g]? = some (.cells #[.float .f32 x1, .float .f32 x2] T)) : FS W (some ⟨g, 0, none⟩) 2 2 [x1, x2] :=
  ⟨rfl, Nat.le_refl _, by omega, fun _ => ⟨g, 0, rfl, (Array.getElem?_eq_some_iff.1 hg).1, two _ (cell_block hg _) (cell_block hg _)⟩⟩
theorem lt2 {x1 x2 : Nat} (h1 : x1 < 4294967296) (h2 : x2 < 4294967296) : ∀ i, nth [x1, x2] i < 4294967296 := fun i => by
  match i with
  | 0 => exact h1
  | 1 => exact h2
  | i + 2 => exact Nat.zero_lt_of_lt h1
theorem c_sam2 (W : World) (g x1 x2 : Nat) {T : TypeId} (h1 : x1 < 4294967296) (h2 : x2 < 4294967296) (hg : W.heap[g]? = some (.cells #[.float .f32 x1, .float .f32 x2] T)) :
    Calls Tryd.prog 50 #[.slice (some ⟨g, 0, none⟩) 2 2] W (RetS (txtL [x1, x2]) W) := c_l04Samples _ 2 2 _ W (new2 hg) (lt2 h1 h2) (by omega)
theorem c_isam2 (W : World) (g x1 x2 : Nat) {T : TypeId} (h1 : x1 < 4294967296) (h2 : x2 < 4294967296) (hg : W.heap[g]? = some (.cells #[.float .f32 x1, .float .f32 x2] T)) (hT : Tb W) :
    Calls Tryd.prog 27 #[.slice (some ⟨g, 0, none⟩) 2 2] W (RetS (txtL [x1, x2]).tail W) := c_samplesText _ 2 2 _ W (new2 hg) (lt2 h1 h2) (by omega) hT
end Go.Proofs.YtbdanadmabemdaaDoor
