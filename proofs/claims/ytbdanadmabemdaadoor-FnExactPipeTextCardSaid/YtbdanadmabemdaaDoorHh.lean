
/-
The texts of samples: the reference.
-/
import Derived.Test.YtbdanadmabemdaaDoorHg
namespace Go.Proofs.YtbdanadmabemdaaDoor
open Go Go.RowKit Fl
theorem txt_succ {xs : List Nat} {k : Nat} (h : k < xs.length) : txtL (xs.take (k + 1)) = txtL (xs.take k) ++ ([32] ++ hexL (can .f32 (nth xs k))) := by
  unfold txtL
  have hg : (xs.map hx)[k]? = some (hexL (can .f32 (nth xs k))) := by
    rw [List.getElem?_map, List.getElem?_eq_getElem h]
    simp [nth, h, hx]
  rw [List.map_take, List.map_take, Lib.joinTail_take_succ [32] (xs.map hx) k _ hg, List.append_assoc]
set_option maxHeartbeats 1000000 in
theorem c_l04Samples (a : Option Addr) (n c : Nat) (xs : List Nat) (w : World) (h : FS w a n c xs) (hx' : ∀ i, nth xs i < 4294967296) (hn : n ≤ 100000) :
    Calls Tryd.prog 50 #[.slice a n c] w (RetS (txtL xs) w) := by
  have H := Lib.hid h
  have HX := Lib.hid hx'
  have hl := h.len
  have hbig : n ≤ 9223372036854775807 := Nat.le_trans h.cap h.big
  clear h hx'
  go_enter Tryd.func50, Tryd.ntmps50
  go_wp2
  go_loopw [3, 4] (fun v i wr => ∃ k : Nat, k ≤ n ∧ i = .int .i64 k ∧ v = .string ⟨(txtL (xs.take k)).toArray⟩ ∧ Below w.heap.size w wr) (fun _ i _ => n - (intOf i).toNat)
  case atStart => exact ⟨0, by omega, rfl, rfl, Below.refl _ _⟩
  case round =>
    obtain ⟨k, hk, rfl, rfl, hbe⟩ := hrel
    by_cases hlt : k < n
    · obtain ⟨b, o, rfl, hbl, hc⟩ := H.out.at_ (by omega)
      have x0 := (hbe.cell (p := ⟨b, o + k, none⟩) hbl).trans (hc k hlt)
      have HBE := Lib.hid hbe
      have hs := txt_succ (xs := xs) (k := k) (by omega)
      have hlen : (txtL (xs.take k)).length ≤ 900000 := by rw [txt_len, List.length_take]; omega
      have h8 : (hexL (can .f32 (nth xs k))).length = 8 := rfl
      have C : Hid (∀ W, Calls Tryd.prog 77 #[.float .f32 (nth xs k)] W (RetS (hexL (can .f32 (nth xs k))) W)) := fun W => c_l01Hex _ W (can_lt (HX.out k))
      have HS : Hid ((⟨(txtL (xs.take k)).toArray⟩ : ByteArray) ++ (⟨#[32]⟩ ++ ⟨(hexL (can .f32 (nth xs k))).toArray⟩) = ⟨(txtL (xs.take (k + 1))).toArray⟩) := by
        show _ = _
        rw [hs, show (⟨#[32]⟩ : ByteArray) = ⟨([32] : List UInt8).toArray⟩ from rfl, ba_app, ba_app]
      obtain ⟨LN, hLN⟩ : ∃ LN, LN = txtL (xs.take (k + 1)) := ⟨_, rfl⟩
      have HN := Lib.hid hLN
      rw [← hLN] at HS
      clear hc hbe hs hLN
      generalize txtL (xs.take k) = LT at *
      generalize hexL (can .f32 (nth xs k)) = LH at *
      have f1 : ¬ 9223372036854775807 < 1 + LH.length := by omega
      have f2 : ¬ 9223372036854775807 < LT.length + (1 + LH.length) := by omega
      clear hlen h8
      go_wp2_with fail
      refine (C.out _).mono ?_
      rintro e w1 ⟨rfl, hb1⟩
      have hb2 := HBE.out.trans (hb1.mono HBE.out.size)
      clear hb1
      go_wp2
      go_roundw
      case rel => exact ⟨k + 1, by omega, by go_num, by rw [HS.out, HN.out], hb2⟩
      case measure => simp [intOf]; omega
    · obtain rfl : n = k := by omega
      rw [List.take_of_length_le (by omega)]
      go_wp2
      go_ret
      exact ⟨rfl, hbe⟩
end Go.Proofs.YtbdanadmabemdaaDoor
