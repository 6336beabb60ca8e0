
/-
Lists of rings in memory.
-/
import Derived.Test.YtbdanadmabemdaaDoorRg
import Derived.Outline
namespace Go.Proofs.YtbdanadmabemdaaDoor
open Go Go.RowKit Fl
theorem c_l04Rings (b o : Nat) (rs : List Rg) (c : Nat) (w : World) (hs : rs.length ≤ 1048576) (h : ∀ j, j < rs.length → RAt w b (o + j * 2) (rat rs j)) :
    Calls Tryd.prog 47 #[.slice (some ⟨b, o, none⟩) rs.length c] w (RetB (rgsTo rs rs.length) w) := by
  generalize hn : rs.length = n at *
  have HA := Lib.hid h
  clear h hn
  go_enter Tryd.func47, Tryd.ntmps47
  go_wp2
  go_loopw [3] (fun i wr => ∃ k : Nat, k ≤ n ∧ i = .int .i64 k ∧ Hid (rgsTo rs k = true) ∧ ∃ q, wr = w.drewN q) (fun i _ => n - (intOf i).toNat)
  case atStart => exact ⟨0, by omega, rfl, rfl, 0, rfl⟩
  case round =>
    obtain ⟨k, hk, rfl, hall, q, rfl⟩ := hrel
    by_cases hlt : k < n
    · have hr := HA.out k hlt
      have e0 : (rat rs k).ok = (ringB (rat rs k).n (rat rs k).i && finTo (rat rs k).xs (rat rs k).n) := rfl
      have HF : ∀ m, Calls Tryd.prog 49 #[.slice (rat rs k).a (rat rs k).n (rat rs k).c] (w.drewN m) (RetB (finTo (rat rs k).xs (rat rs k).n) (w.drewN m)) := fun m => c_l04All _ _ _ _ _ hr.fs.draw
      have HR : ∀ m, Calls Tryd.prog 72 #[.pointer (some ⟨b, o + k * 2, none⟩)] (w.drewN m) (RetB (ringB (rat rs k).n (rat rs k).i) (w.drewN m)) := fun m => c_l02Ring _ _ _ _ _ _ _ (Nat.le_trans hr.fs.cap hr.fs.big) hr.draw.c0 hr.draw.c1
      have HF' := Lib.hid HF
      have HR' := Lib.hid HR
      have hc0 := hr.c0
      clear HF HR
      cases h1 : ringB (rat rs k).n (rat rs k).i
      · rw [h1] at HR'
        have HU : Hid (rgsTo rs n = false) := rgsTo_false (by rw [e0, h1]; rfl) n hlt
        clear e0 h1 hr
        go_wp2_with (go_at_call 72; refine (HR'.out _).mono ?_; rintro e w' ⟨rfl, n1, rfl⟩)
        go_ret
        exact ⟨by rw [HU.out]; rfl, same1 _ _⟩
      · rw [h1] at HR'
        cases h2 : finTo (rat rs k).xs (rat rs k).n
        · rw [h2] at HF'
          have HU : Hid (rgsTo rs n = false) := rgsTo_false (by rw [e0, h1, h2]; rfl) n hlt
          clear e0 h1 h2 hr
          go_wp2_with (first | (go_at_call 72; refine (HR'.out _).mono ?_; rintro e w' ⟨rfl, n1, rfl⟩) | (go_at_call 49; refine (HF'.out _).mono ?_; rintro e w' ⟨rfl, n2, rfl⟩))
          go_ret
          exact ⟨by rw [HU.out]; rfl, same1 _ _⟩
        · rw [h2] at HF'
          have HU : Hid (rgsTo rs (k + 1) = true) := by rw [rgsTo, hall.out, e0, h1, h2]; rfl
          clear e0 h1 h2 hr
          go_wp2_with (first | (go_at_call 72; refine (HR'.out _).mono ?_; rintro e w' ⟨rfl, n1, rfl⟩) | (go_at_call 49; refine (HF'.out _).mono ?_; rintro e w' ⟨rfl, n2, rfl⟩))
          go_roundw
          case rel => exact ⟨k + 1, by omega, by go_num, HU, same1 _ _⟩
          case measure => simp [intOf]; omega
    · obtain rfl : k = n := by omega
      go_wp2
      go_ret
      exact ⟨by rw [hall.out]; rfl, same1 _ _⟩
end Go.Proofs.YtbdanadmabemdaaDoor
