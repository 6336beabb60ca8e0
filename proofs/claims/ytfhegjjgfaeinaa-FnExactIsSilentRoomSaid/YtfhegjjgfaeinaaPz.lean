
/-
Slices of pointers to rings: are they quiet.
-/
import Derived.Test.YtfhegjjgfaeinaaAg
import Derived.Test.YtfhegjjgfaeinaaRa
import Derived.Test.YtfhegjjgfaeinaaQu
namespace Go.Proofs.Ytfhegjjgfaeinaa
open Go Go.RowKit Fl
/-- a slice of pointers to rings -/
structure PS (w : World) (g m c : Nat) (qs : List Rg) : Prop where
  lt : g < w.heap.size
  cap : m ≤ c
  big : c ≤ 9223372036854775807
  at_ : ∀ j, j < m → ∃ b o, w.cell? ⟨g, j, none⟩ = some (.pointer (some ⟨b, o, none⟩)) ∧ b < w.heap.size ∧ RAt w b o (rat qs j)
theorem PS.below {w w' : World} {g m c B : Nat} {qs : List Rg} (h : PS w g m c qs) (hb : Below B w w') (hB : w.heap.size ≤ B) : PS w' g m c qs :=
  ⟨Nat.lt_of_lt_of_le h.lt hb.size, h.cap, h.big, fun j hj => by
    obtain ⟨b, o, h1, h2, h3⟩ := h.at_ j hj
    exact ⟨b, o, by rw [hb.cell (p := ⟨g, j, none⟩) (Nat.lt_of_lt_of_le h.lt hB)]; exact h1, Nat.lt_of_lt_of_le h2 hb.size, h3.below hb hB h2⟩⟩
/-! ### are rings quiet -/
theorem c_notQuiet (b o : Nat) (r : Rg) (w : World) (h : RAt w b o r) (hr : ringB r.n r.i = true) :
    Calls Try.prog 139 #[.pointer (some ⟨b, o, none⟩)] w (RetV (.bool (!zeroTo r.xs r.n)) w) := by
  have HF := Lib.hid h.fs
  have HR := Lib.hid hr
  have e0 := h.c0
  have e1 := h.c1
  clear h hr
  go_enter Try.func139, Try.ntmps139
  go_wp2_with fail
  refine (c_isQuiet _ _ _ _ _ _ HF.out HR.out).mono ?_
  rintro e w1 ⟨rfl, hb1⟩
  go_wp2
  go_ret
  exact ⟨rfl, hb1⟩
def RetIdxV (b : Bool) (w : World) (e : Ending) (w' : World) : Prop := ∃ i : Int, e = .returned (.int .i64 i) ∧ decide (0 ≤ i) = b ∧ Below w.heap.size w w'
theorem c_IndexFuncQ (g m c : Nat) (qs : List Rg) (w : World) (h : PS w g m c qs) (hr : ∀ j, j < m → ringB (rat qs j).n (rat qs j).i = true) :
    Calls Try.prog 157 #[.slice (some ⟨g, 0, none⟩) m c, .func (.func 139) #[] #[]] w (RetIdxV (!rgsZero qs m) w) := by
  have H := Lib.hid h
  have hcap := h.cap
  have hbig := h.big
  have HR := Lib.hid hr
  clear h hr
  go_enter Try.func157, Try.ntmps157
  go_wp2
  go_loopw [8] (fun i wr => ∃ k : Nat, k ≤ m ∧ i = .int .i64 k ∧ Hid (rgsZero qs k = true) ∧ Below w.heap.size w wr) (fun i _ => m - (intOf i).toNat)
  case atStart => exact ⟨0, by omega, rfl, rfl, Below.refl _ _⟩
  case round =>
    obtain ⟨k, hk, rfl, hall, hbe⟩ := hrel
    have HB := Lib.hid hbe
    by_cases hlt : k < m
    · obtain ⟨b, o, hc, hbl, hra⟩ := (H.out.below hbe (Nat.le_refl _)).at_ k hlt
      have HC := Lib.hid (c_notQuiet b o _ wr hra (HR.out k hlt))
      clear hra hbe
      cases hf : zeroTo (rat qs k).xs (rat qs k).n
      · rw [hf] at HC
        have HU := Lib.hid (rgsZero_false hf m hlt)
        clear hf
        go_wp2_with fail
        refine HC.out.mono ?_
        rintro e w1 ⟨rfl, hb1⟩
        go_wp2
        go_ret
        exact ⟨k, rfl, by rw [HU.out]; simp, HB.out.trans (hb1.mono HB.out.size)⟩
      · rw [hf] at HC
        have HU : Hid (rgsZero qs (k + 1) = true) := by rw [rgsZero, hall.out, hf]; rfl
        clear hf
        go_wp2_with fail
        refine HC.out.mono ?_
        rintro e w1 ⟨rfl, hb1⟩
        go_wp2
        go_roundw
        case rel => exact ⟨k + 1, by omega, by go_num, HU, HB.out.trans (hb1.mono HB.out.size)⟩
        case measure => simp [intOf]; omega
    · obtain rfl : m = k := by omega
      go_wp2
      go_ret
      exact ⟨-1, rfl, by rw [hall.out]; rfl, HB.out⟩
theorem c_areQuiet (g m c : Nat) (qs : List Rg) (w : World) (h : PS w g m c qs) (hr : ∀ j, j < m → ringB (rat qs j).n (rat qs j).i = true) :
    Calls Try.prog 92 #[.slice (some ⟨g, 0, none⟩) m c] w (RetV (.bool (rgsZero qs m)) w) := by
  have HC : Calls Try.prog 138 #[.slice (some ⟨g, 0, none⟩) m c, .func (.func 139) #[] #[]] w (RetV (.bool (!rgsZero qs m)) w) := by
    have H := Lib.hid (c_IndexFuncQ g m c qs w h hr)
    clear h hr
    go_enter Try.func138, Try.ntmps138
    go_wp2_with fail
    refine H.out.mono ?_
    rintro e w' ⟨i, rfl, hi, hb1⟩
    go_wp2
    go_ret
    exact ⟨by rw [← hi]; simp, hb1⟩
  have H := Lib.hid HC
  clear h hr HC
  go_enter Try.func92, Try.ntmps92
  go_wp2_with fail
  refine H.out.mono ?_
  rintro e w' ⟨rfl, hb1⟩
  go_wp2
  go_ret
  exact ⟨by simp, hb1⟩
end Go.Proofs.Ytfhegjjgfaeinaa
