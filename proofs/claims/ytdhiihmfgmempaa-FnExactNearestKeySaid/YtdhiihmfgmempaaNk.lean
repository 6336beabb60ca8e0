
/-
The key with the nearest frequency.
-/
import Derived.Test.YtdhiihmfgmempaaHz
namespace Go.Proofs.Ytdhiihmfgmempaa
open Go Go.RowKit Fl
def nkRun (K : Nat → Bool) (D : Nat → Nat) : Nat → Bool × Int × Nat
  | 0 => (false, 0, 0)
  | i + 1 => if K i = true ∧ ((nkRun K D i).1 = false ∨ (FloatKind.f32.format.order (D i) (nkRun K D i).2.2 == some .lt) = true) then (true, -100 + (i : Int), D i) else nkRun K D i
def nkD (H : Nat → Nat) (hz : Nat) (i : Nat) : Nat := ab .f32 (fop .sub .f32 (H i) hz)
def nkV (R : Bool × Int × Nat) : Int := if R.1 = true then R.2.1 else 0
def nkC (R : Bool × Int × Nat) : Int := if R.1 = true then 0 else 6
theorem nk_skip {K : Nat → Bool} {D : Nat → Nat} {i : Nat} {R : Bool × Int × Nat} (h : Hid (nkRun K D i = R)) (hk : K i = false) : Hid (nkRun K D (i + 1) = R) := by
  show _ = _
  rw [nkRun, if_neg (by rw [hk]; simp)]; exact h.out
theorem nk_first {K : Nat → Bool} {D : Nat → Nat} {i : Nat} {B : Int} {L : Nat} (h : Hid (nkRun K D i = (false, B, L))) (hk : K i = true) : Hid (nkRun K D (i + 1) = (true, -100 + (i : Int), D i)) := by
  show _ = _
  rw [nkRun, if_pos ⟨hk, .inl (by rw [h.out])⟩]
theorem nk_less {K : Nat → Bool} {D : Nat → Nat} {i : Nat} {F : Bool} {B : Int} {L : Nat} (h : Hid (nkRun K D i = (F, B, L))) (hk : K i = true) (hl : (FloatKind.f32.format.order (D i) L == some .lt) = true) : Hid (nkRun K D (i + 1) = (true, -100 + (i : Int), D i)) := by
  show _ = _
  rw [nkRun, if_pos ⟨hk, .inr (by rw [h.out]; exact hl)⟩]
theorem nk_more {K : Nat → Bool} {D : Nat → Nat} {i : Nat} {B : Int} {L : Nat} (h : Hid (nkRun K D i = (true, B, L))) (hl : (FloatKind.f32.format.order (D i) L == some .lt) = false) : Hid (nkRun K D (i + 1) = (true, B, L)) := by
  show _ = _
  rw [nkRun, if_neg (by rw [h.out]; simp [hl])]; exact h.out
set_option maxHeartbeats 1000000 in
theorem nk_impl (ba oc : Nat) (a : Option Addr) (n c hz : Nat) (w : World) (H : Nat → Nat) (K : Nat → Bool)
    (K1 : Hid (∀ W, Below w.heap.size w W → Calls Try.prog 29 #[.agg #[.float .f32 ba, .float .f32 oc, .slice a n c]] W (RetV (.bool true) W)))
    (K2 : Hid (∀ W (i : Nat), i ≤ 200 → Below w.heap.size w W → Calls Try.prog 106 #[.agg #[.float .f32 ba, .float .f32 oc, .slice a n c], .int .i64 (-100 + (i : Int))] W (RetFC (H i) (if K i = true then 0 else 2) W)))
    (hf : finB hz = true) :
    Calls Try.prog 62 #[.agg #[.float .f32 ba, .float .f32 oc, .slice a n c], .float .f32 hz] w (RetV (.tuple #[.int .i64 (nkV (nkRun K (nkD H hz) 201)), .int .i64 (nkC (nkRun K (nkD H hz) 201))]) w) := by
  go_enter Try.func62, Try.ntmps62
  go_wp2_with fail
  refine (K1.out _ (by (repeat (first | (with_reducible refine Below.drewN ?_) | (with_reducible refine Below.drew ?_) | ((with_reducible refine Below.alloc ?_ ?_ _); rotate_left; (first | omega | (simp <;> omega))) | ((with_reducible refine Below.setCell ?_ ?_ _); rotate_left; (first | omega | (simp <;> omega))) | (with_reducible exact Below.refl _ _) | (with_reducible assumption))))).mono ?_
  rintro e w1 ⟨rfl, hb1⟩
  obtain ⟨hc1, hf1, hz1⟩ := bcell hb1
  try simp at hz1
  have zb1 : w.heap.size ≤ w1.heap.size := by omega
  try (have z1_0 : w.heap.size < w1.heap.size := by omega)
  try (have z1_1 : w.heap.size + 1 < w1.heap.size := by omega)
  try (have z1_2 : w.heap.size + 1 + 1 < w1.heap.size := by omega)
  try (have z1_3 : w.heap.size + 1 + 1 + 1 < w1.heap.size := by omega)
  have b1 : Below w.heap.size w w1 := Below.trans (by (repeat (first | (with_reducible refine Below.drewN ?_) | (with_reducible refine Below.drew ?_) | ((with_reducible refine Below.alloc ?_ ?_ _); rotate_left; (first | omega | (simp <;> omega))) | ((with_reducible refine Below.setCell ?_ ?_ _); rotate_left; (first | omega | (simp <;> omega))) | (with_reducible exact Below.refl _ _) | (with_reducible assumption)))) (hb1.mono (by first | omega | (simp <;> omega)))
  clear K1
  go_wp2_with (go_at_call 69; refine (c_isFinite _ _).mono ?_; rw [hf]; rintro e w' ⟨rfl, n1, rfl⟩)
  go_loopw [6, 7, 8, 9] (fun f b l k wr => ∃ (i : Nat) (F : Bool) (B : Int) (L u : Nat), i ≤ 201 ∧ k = .int .i64 (-100 + (i : Int)) ∧ f = .bool F ∧ b = .int .i64 B ∧ l = .float .f32 (nv .f32 L u) ∧ Hid (nkRun K (nkD H hz) i = (F, B, L)) ∧ Below w1.heap.size w1 wr) (fun _ _ _ k _ => (101 - intOf k).toNat)
  case atStart => exact ⟨0, false, 0, 0, 0, by omega, by simp, rfl, rfl, rfl, rfl, by (repeat (first | (with_reducible refine Below.drewN ?_) | (with_reducible refine Below.drew ?_) | ((with_reducible refine Below.alloc ?_ ?_ _); rotate_left; (first | omega | (simp <;> omega))) | ((with_reducible refine Below.setCell ?_ ?_ _); rotate_left; (first | omega | (simp <;> omega))) | (with_reducible exact Below.refl _ _) | (with_reducible assumption)))⟩
  case round =>
    obtain ⟨i, F, B, L, u, hi, rfl, rfl, rfl, rfl, HR, hbr⟩ := hrel
    obtain ⟨hcr, hfr, hzr⟩ := bcell hbr
    have zr : w.heap.size < wr.heap.size := by omega
    have br : Below w.heap.size w wr := b1.trans (hbr.mono (by omega))
    by_cases hlt : i < 201
    · have hle : (-100 + (i : Int) ≤ 100) := by omega
      have g : IntKind.i64.wrap (-100 + (i : Int) + 1) = -100 + (i : Int) + 1 := IntWalk.i64_in _ (by omega)
      have HD : ∀ t, ab .f32 (fop .sub .f32 (nv .f32 (H i) t) hz) = nkD H hz i := fun t => by rw [fop_nvl]; rfl
      have HD2 : ab .f32 (fop .sub .f32 (H i) hz) = nkD H hz i := rfl
      have K3 := Lib.hid (K2.out wr i (by omega) br)
      cases hk : K i
      · rw [hk] at K3
        simp only [Bool.false_eq_true, if_false] at K3
        have HN := nk_skip HR hk
        generalize nkD H hz i = DD at *
        generalize H i = HH at *
        clear hk
        go_wp2_with fail
        refine (K3.out).mono ?_
        rintro e w2 ⟨t, rfl, hb2⟩
        obtain ⟨hc2, hf2, hz2⟩ := bcell hb2
        have b2 : Below w1.heap.size w1 w2 := hbr.trans (hb2.mono (by omega))
        go_wp2_with (go_at_call 96; refine (c_absolute _ _).mono ?_; rintro e w' ⟨t2, n2, rfl, rfl⟩)
        go_roundw
        case rel => exact ⟨i + 1, F, B, L, u, by omega, by first | go_num | (congr 1; omega), rfl, rfl, rfl, HN, by (repeat (first | (with_reducible refine Below.drewN ?_) | (with_reducible refine Below.drew ?_) | ((with_reducible refine Below.alloc ?_ ?_ _); rotate_left; (first | omega | (simp <;> omega))) | ((with_reducible refine Below.setCell ?_ ?_ _); rotate_left; (first | omega | (simp <;> omega))) | (with_reducible exact Below.refl _ _) | (with_reducible assumption)))⟩
        case measure => simp [intOf]; omega
      · rw [hk] at K3
        simp only [if_true] at K3
        cases F
        · have HN := nk_first HR hk
          generalize nkD H hz i = DD at *
          generalize H i = HH at *
          clear hk
          go_wp2_with fail
          refine (K3.out).mono ?_
          rintro e w2 ⟨t, rfl, hb2⟩
          obtain ⟨hc2, hf2, hz2⟩ := bcell hb2
          have b2 : Below w1.heap.size w1 w2 := hbr.trans (hb2.mono (by omega))
          go_wp2_with (go_at_call 96; refine (c_absolute _ _).mono ?_; rintro e w' ⟨t2, n2, rfl, rfl⟩)
          go_roundw
          case rel => exact ⟨i + 1, true, _, _, _, by omega, by first | go_num | (congr 1; omega), rfl, rfl, rfl, HN, by (repeat (first | (with_reducible refine Below.drewN ?_) | (with_reducible refine Below.drew ?_) | ((with_reducible refine Below.alloc ?_ ?_ _); rotate_left; (first | omega | (simp <;> omega))) | ((with_reducible refine Below.setCell ?_ ?_ _); rotate_left; (first | omega | (simp <;> omega))) | (with_reducible exact Below.refl _ _) | (with_reducible assumption)))⟩
          case measure => simp [intOf]; omega
        · cases ho : (FloatKind.f32.format.order (nkD H hz i) L == some .lt)
          · have HN := nk_more HR ho
            generalize nkD H hz i = DD at *
            generalize H i = HH at *
            clear hk
            go_wp2_with fail
            refine (K3.out).mono ?_
            rintro e w2 ⟨t, rfl, hb2⟩
            obtain ⟨hc2, hf2, hz2⟩ := bcell hb2
            have b2 : Below w1.heap.size w1 w2 := hbr.trans (hb2.mono (by omega))
            go_wp2_with (go_at_call 96; refine (c_absolute _ _).mono ?_; rintro e w' ⟨t2, n2, rfl, rfl⟩)
            go_roundw
            case rel => exact ⟨i + 1, true, B, L, u, by omega, by first | go_num | (congr 1; omega), rfl, rfl, rfl, HN, by (repeat (first | (with_reducible refine Below.drewN ?_) | (with_reducible refine Below.drew ?_) | ((with_reducible refine Below.alloc ?_ ?_ _); rotate_left; (first | omega | (simp <;> omega))) | ((with_reducible refine Below.setCell ?_ ?_ _); rotate_left; (first | omega | (simp <;> omega))) | (with_reducible exact Below.refl _ _) | (with_reducible assumption)))⟩
            case measure => simp [intOf]; omega
          · have HN := nk_less HR hk ho
            generalize nkD H hz i = DD at *
            generalize H i = HH at *
            clear hk
            go_wp2_with fail
            refine (K3.out).mono ?_
            rintro e w2 ⟨t, rfl, hb2⟩
            obtain ⟨hc2, hf2, hz2⟩ := bcell hb2
            have b2 : Below w1.heap.size w1 w2 := hbr.trans (hb2.mono (by omega))
            go_wp2_with (go_at_call 96; refine (c_absolute _ _).mono ?_; rintro e w' ⟨t2, n2, rfl, rfl⟩)
            go_roundw
            case rel => exact ⟨i + 1, true, _, _, _, by omega, by first | go_num | (congr 1; omega), rfl, rfl, rfl, HN, by (repeat (first | (with_reducible refine Below.drewN ?_) | (with_reducible refine Below.drew ?_) | ((with_reducible refine Below.alloc ?_ ?_ _); rotate_left; (first | omega | (simp <;> omega))) | ((with_reducible refine Below.setCell ?_ ?_ _); rotate_left; (first | omega | (simp <;> omega))) | (with_reducible exact Below.refl _ _) | (with_reducible assumption)))⟩
            case measure => simp [intOf]; omega
    · obtain rfl : i = 201 := by omega
      cases F
      · have e1 : nkV (nkRun K (nkD H hz) 201) = 0 := by rw [HR.out]; rfl
        have e2 : nkC (nkRun K (nkD H hz) 201) = 6 := by rw [HR.out]; rfl
        have E1 := Lib.hid e1
        have E2 := Lib.hid e2
        clear K2 e1 e2
        go_wp2
        go_ret2
        exact ⟨by rw [E1.out, E2.out]; rfl, by (repeat (first | (with_reducible refine Below.drewN ?_) | (with_reducible refine Below.drew ?_) | ((with_reducible refine Below.alloc ?_ ?_ _); rotate_left; (first | omega | (simp <;> omega))) | ((with_reducible refine Below.setCell ?_ ?_ _); rotate_left; (first | omega | (simp <;> omega))) | (with_reducible exact Below.refl _ _) | (with_reducible assumption)))⟩
      · have e1 : nkV (nkRun K (nkD H hz) 201) = B := by rw [HR.out]; rfl
        have e2 : nkC (nkRun K (nkD H hz) 201) = 0 := by rw [HR.out]; rfl
        have E1 := Lib.hid e1
        have E2 := Lib.hid e2
        clear K2 e1 e2
        go_wp2
        go_ret2
        exact ⟨by rw [E1.out, E2.out]; rfl, by (repeat (first | (with_reducible refine Below.drewN ?_) | (with_reducible refine Below.drew ?_) | ((with_reducible refine Below.alloc ?_ ?_ _); rotate_left; (first | omega | (simp <;> omega))) | ((with_reducible refine Below.setCell ?_ ?_ _); rotate_left; (first | omega | (simp <;> omega))) | (with_reducible exact Below.refl _ _) | (with_reducible assumption)))⟩
set_option maxHeartbeats 1000000 in
theorem nk_spec (ba oc : Nat) (a : Option Addr) (n c hz : Nat) (w : World) (H : Nat → Nat) (K : Nat → Bool)
    (K1 : Hid (Calls Try.prog 76 #[.pointer (some ⟨w.heap.size, 0, none⟩)] (w.alloc (.cells #[.float .f32 ba, .float .f32 oc, .slice a n c] 31)) (RetB true (w.alloc (.cells #[.float .f32 ba, .float .f32 oc, .slice a n c] 31)))))
    (K2 : Hid (∀ (i q : Nat), i ≤ 200 → Calls Try.prog 107 #[.pointer (some ⟨w.heap.size, 0, none⟩), .int .i64 (-100 + (i : Int))] ((w.alloc (.cells #[.float .f32 ba, .float .f32 oc, .slice a n c] 31)).drewN q) (RetFL (H i) (K i) ((w.alloc (.cells #[.float .f32 ba, .float .f32 oc, .slice a n c] 31)).drewN q))))
    (hf : finB hz = true) :
    Calls Try.prog 61 #[.agg #[.float .f32 ba, .float .f32 oc, .slice a n c], .float .f32 hz] w (RetV (.tuple #[.int .i64 (nkV (nkRun K (nkD H hz) 201)), .int .i64 (nkC (nkRun K (nkD H hz) 201))]) w) := by
  go_enter Try.func61, Try.ntmps61
  go_wp2_with (first | (go_at_call 76; refine (K1.out).mono ?_; rintro e w' ⟨rfl, n1, rfl⟩) | (go_at_call 67; refine (c_l01Finite _ _).mono ?_; rw [hf]; rintro e w' ⟨rfl, n1, rfl⟩))
  go_loopw [8, 6, 7, 9] (fun f b l k wr => ∃ (i : Nat) (F : Bool) (B : Int) (L u : Nat), i ≤ 201 ∧ k = .int .i64 (-100 + (i : Int)) ∧ f = .bool F ∧ b = .int .i64 B ∧ l = .float .f32 (nv .f32 L u) ∧ Hid (nkRun K (nkD H hz) i = (F, B, L)) ∧ ∃ q, wr = (w.alloc (.cells #[.float .f32 ba, .float .f32 oc, .slice a n c] 31)).drewN q) (fun _ _ _ k _ => (101 - intOf k).toNat)
  case atStart => exact ⟨0, false, 0, 0, 0, by omega, by simp, rfl, rfl, rfl, rfl, by first | exact same1 _ _ | exact ⟨_, by rw [World.drewN_drewN]⟩⟩
  case round =>
    obtain ⟨i, F, B, L, u, hi, rfl, rfl, rfl, rfl, HR, q, rfl⟩ := hrel
    by_cases hlt : i < 201
    · have hle : (-100 + (i : Int) ≤ 100) := by omega
      have g : IntKind.i64.wrap (-100 + (i : Int) + 1) = -100 + (i : Int) + 1 := IntWalk.i64_in _ (by omega)
      have HD : ∀ t, ab .f32 (fop .sub .f32 (nv .f32 (H i) t) hz) = nkD H hz i := fun t => by rw [fop_nvl]; rfl
      have HD2 : ab .f32 (fop .sub .f32 (H i) hz) = nkD H hz i := rfl
      have K3 := Lib.hid (K2.out i q (by omega))
      cases hk : K i
      · rw [hk] at K3
        have HN := nk_skip HR hk
        generalize nkD H hz i = DD at *
        generalize H i = HH at *
        clear hk
        go_wp2_with (first | (go_at_call 107; refine (K3.out).mono ?_; rintro e w' ⟨t, n1, rfl, rfl⟩) | (go_at_call 108; refine (c_l01Abs _ _).mono ?_; rintro e w' ⟨t2, n2, rfl, rfl⟩))
        go_roundw
        case rel => exact ⟨i + 1, F, B, L, u, by omega, by first | go_num | (congr 1; omega), rfl, rfl, rfl, HN, by first | exact same1 _ _ | exact ⟨_, by rw [World.drewN_drewN]⟩⟩
        case measure => simp [intOf]; omega
      · rw [hk] at K3
        cases F
        · have HN := nk_first HR hk
          generalize nkD H hz i = DD at *
          generalize H i = HH at *
          clear hk
          go_wp2_with (first | (go_at_call 107; refine (K3.out).mono ?_; rintro e w' ⟨t, n1, rfl, rfl⟩) | (go_at_call 108; refine (c_l01Abs _ _).mono ?_; rintro e w' ⟨t2, n2, rfl, rfl⟩))
          go_roundw
          case rel => exact ⟨i + 1, true, _, _, _, by omega, by first | go_num | (congr 1; omega), rfl, rfl, rfl, HN, by first | exact same1 _ _ | exact ⟨_, by rw [World.drewN_drewN]⟩⟩
          case measure => simp [intOf]; omega
        · cases ho : (FloatKind.f32.format.order (nkD H hz i) L == some .lt)
          · have HN := nk_more HR ho
            generalize nkD H hz i = DD at *
            generalize H i = HH at *
            clear hk
            go_wp2_with (first | (go_at_call 107; refine (K3.out).mono ?_; rintro e w' ⟨t, n1, rfl, rfl⟩) | (go_at_call 108; refine (c_l01Abs _ _).mono ?_; rintro e w' ⟨t2, n2, rfl, rfl⟩))
            go_roundw
            case rel => exact ⟨i + 1, true, B, L, u, by omega, by first | go_num | (congr 1; omega), rfl, rfl, rfl, HN, by first | exact same1 _ _ | exact ⟨_, by rw [World.drewN_drewN]⟩⟩
            case measure => simp [intOf]; omega
          · have HN := nk_less HR hk ho
            generalize nkD H hz i = DD at *
            generalize H i = HH at *
            clear hk
            go_wp2_with (first | (go_at_call 107; refine (K3.out).mono ?_; rintro e w' ⟨t, n1, rfl, rfl⟩) | (go_at_call 108; refine (c_l01Abs _ _).mono ?_; rintro e w' ⟨t2, n2, rfl, rfl⟩))
            go_roundw
            case rel => exact ⟨i + 1, true, _, _, _, by omega, by first | go_num | (congr 1; omega), rfl, rfl, rfl, HN, by first | exact same1 _ _ | exact ⟨_, by rw [World.drewN_drewN]⟩⟩
            case measure => simp [intOf]; omega
    · obtain rfl : i = 201 := by omega
      cases F
      · have e1 : nkV (nkRun K (nkD H hz) 201) = 0 := by rw [HR.out]; rfl
        have e2 : nkC (nkRun K (nkD H hz) 201) = 6 := by rw [HR.out]; rfl
        have E1 := Lib.hid e1
        have E2 := Lib.hid e2
        clear K2 e1 e2
        go_wp2
        go_ret2
        exact ⟨by rw [E1.out, E2.out]; rfl, by (repeat (first | (with_reducible refine Below.drewN ?_) | (with_reducible refine Below.drew ?_) | ((with_reducible refine Below.alloc ?_ ?_ _); rotate_left; (first | omega | (simp <;> omega))) | ((with_reducible refine Below.setCell ?_ ?_ _); rotate_left; (first | omega | (simp <;> omega))) | (with_reducible exact Below.refl _ _) | (with_reducible assumption)))⟩
      · have e1 : nkV (nkRun K (nkD H hz) 201) = B := by rw [HR.out]; rfl
        have e2 : nkC (nkRun K (nkD H hz) 201) = 0 := by rw [HR.out]; rfl
        have E1 := Lib.hid e1
        have E2 := Lib.hid e2
        clear K2 e1 e2
        go_wp2
        go_ret2
        exact ⟨by rw [E1.out, E2.out]; rfl, by (repeat (first | (with_reducible refine Below.drewN ?_) | (with_reducible refine Below.drew ?_) | ((with_reducible refine Below.alloc ?_ ?_ _); rotate_left; (first | omega | (simp <;> omega))) | ((with_reducible refine Below.setCell ?_ ?_ _); rotate_left; (first | omega | (simp <;> omega))) | (with_reducible exact Below.refl _ _) | (with_reducible assumption)))⟩
/-! ### all ways -/
def nearR (ba oc : Nat) (xs : List Nat) (n hz : Nat) : Bool × Int × Nat := nkRun (fun i => okX (hzX oc xs n (-100 + (i : Int)))) (nkD (fun i => hzF ba (hzX oc xs n (-100 + (i : Int)))) hz) 201
def nearV (ba oc : Nat) (xs : List Nat) (n hz : Nat) : Int := if tunB ba oc xs n = true ∧ finB hz = true then nkV (nearR ba oc xs n hz) else 0
def nearC (ba oc : Nat) (xs : List Nat) (n hz : Nat) : Int := if tunB ba oc xs n = false then 1 else if finB hz = false then 2 else nkC (nearR ba oc xs n hz)
theorem c_NearestKey (ba oc : Nat) (a : Option Addr) (n c : Nat) (xs : List Nat) (hz : Nat) (w : World) (h : FS w a n c xs) :
    Calls Try.prog 62 #[.agg #[.float .f32 ba, .float .f32 oc, .slice a n c], .float .f32 hz] w (RetV (.tuple #[.int .i64 (nearV ba oc xs n hz), .int .i64 (nearC ba oc xs n hz)]) w) := by
  have K1 : Hid (∀ W, Below w.heap.size w W → Calls Try.prog 29 #[.agg #[.float .f32 ba, .float .f32 oc, .slice a n c]] W (RetV (.bool (tunB ba oc xs n)) W)) := fun W hb => c_ValidTuning _ _ _ _ _ xs W (h.below hb (Nat.le_refl _))
  cases hv : tunB ba oc xs n
  · have e1 : nearC ba oc xs n hz = 1 := by unfold nearC; rw [if_pos hv]
    have e2 : nearV ba oc xs n hz = 0 := by unfold nearV; rw [if_neg (by rw [hv]; simp)]
    rw [e1, e2]
    rw [hv] at K1
    clear h hv e1 e2
    go_enter Try.func62, Try.ntmps62
    go_wp2_with fail
    refine (K1.out _ (by (repeat (first | (with_reducible refine Below.drewN ?_) | (with_reducible refine Below.drew ?_) | ((with_reducible refine Below.alloc ?_ ?_ _); rotate_left; (first | omega | (simp <;> omega))) | ((with_reducible refine Below.setCell ?_ ?_ _); rotate_left; (first | omega | (simp <;> omega))) | (with_reducible exact Below.refl _ _) | (with_reducible assumption))))).mono ?_
    rintro e w1 ⟨rfl, hb1⟩
    obtain ⟨hc1, hf1, hz1⟩ := bcell hb1
    try simp at hz1
    have zb1 : w.heap.size ≤ w1.heap.size := by omega
    try (have z1_0 : w.heap.size < w1.heap.size := by omega)
    try (have z1_1 : w.heap.size + 1 < w1.heap.size := by omega)
    try (have z1_2 : w.heap.size + 1 + 1 < w1.heap.size := by omega)
    try (have z1_3 : w.heap.size + 1 + 1 + 1 < w1.heap.size := by omega)
    have b1 : Below w.heap.size w w1 := Below.trans (by (repeat (first | (with_reducible refine Below.drewN ?_) | (with_reducible refine Below.drew ?_) | ((with_reducible refine Below.alloc ?_ ?_ _); rotate_left; (first | omega | (simp <;> omega))) | ((with_reducible refine Below.setCell ?_ ?_ _); rotate_left; (first | omega | (simp <;> omega))) | (with_reducible exact Below.refl _ _) | (with_reducible assumption)))) (hb1.mono (by first | omega | (simp <;> omega)))
    go_wp2
    go_ret2
    exact ⟨rfl, by (repeat (first | (with_reducible refine Below.drewN ?_) | (with_reducible refine Below.drew ?_) | ((with_reducible refine Below.alloc ?_ ?_ _); rotate_left; (first | omega | (simp <;> omega))) | ((with_reducible refine Below.setCell ?_ ?_ _); rotate_left; (first | omega | (simp <;> omega))) | (with_reducible exact Below.refl _ _) | (with_reducible assumption)))⟩
  rw [hv] at K1
  cases hf : finB hz
  · have e1 : nearC ba oc xs n hz = 2 := by unfold nearC; rw [if_neg (by rw [hv]; decide), if_pos hf]
    have e2 : nearV ba oc xs n hz = 0 := by unfold nearV; rw [if_neg (by rw [hf]; simp)]
    rw [e1, e2]
    clear h hv e1 e2
    go_enter Try.func62, Try.ntmps62
    go_wp2_with fail
    refine (K1.out _ (by (repeat (first | (with_reducible refine Below.drewN ?_) | (with_reducible refine Below.drew ?_) | ((with_reducible refine Below.alloc ?_ ?_ _); rotate_left; (first | omega | (simp <;> omega))) | ((with_reducible refine Below.setCell ?_ ?_ _); rotate_left; (first | omega | (simp <;> omega))) | (with_reducible exact Below.refl _ _) | (with_reducible assumption))))).mono ?_
    rintro e w1 ⟨rfl, hb1⟩
    obtain ⟨hc1, hf1, hz1⟩ := bcell hb1
    try simp at hz1
    have zb1 : w.heap.size ≤ w1.heap.size := by omega
    try (have z1_0 : w.heap.size < w1.heap.size := by omega)
    try (have z1_1 : w.heap.size + 1 < w1.heap.size := by omega)
    try (have z1_2 : w.heap.size + 1 + 1 < w1.heap.size := by omega)
    try (have z1_3 : w.heap.size + 1 + 1 + 1 < w1.heap.size := by omega)
    have b1 : Below w.heap.size w w1 := Below.trans (by (repeat (first | (with_reducible refine Below.drewN ?_) | (with_reducible refine Below.drew ?_) | ((with_reducible refine Below.alloc ?_ ?_ _); rotate_left; (first | omega | (simp <;> omega))) | ((with_reducible refine Below.setCell ?_ ?_ _); rotate_left; (first | omega | (simp <;> omega))) | (with_reducible exact Below.refl _ _) | (with_reducible assumption)))) (hb1.mono (by first | omega | (simp <;> omega)))
    go_wp2_with (go_at_call 69; refine (c_isFinite _ _).mono ?_; rw [hf]; rintro e w' ⟨rfl, n1, rfl⟩)
    go_ret2
    exact ⟨rfl, by (repeat (first | (with_reducible refine Below.drewN ?_) | (with_reducible refine Below.drew ?_) | ((with_reducible refine Below.alloc ?_ ?_ _); rotate_left; (first | omega | (simp <;> omega))) | ((with_reducible refine Below.setCell ?_ ?_ _); rotate_left; (first | omega | (simp <;> omega))) | (with_reducible exact Below.refl _ _) | (with_reducible assumption)))⟩
  have hn := tunB_n hv
  have e1 : nearC ba oc xs n hz = nkC (nearR ba oc xs n hz) := by unfold nearC; rw [if_neg (by rw [hv]; decide), if_neg (by rw [hf]; decide)]
  have e2 : nearV ba oc xs n hz = nkV (nearR ba oc xs n hz) := by unfold nearV; rw [if_pos ⟨hv, hf⟩]
  rw [e1, e2]
  exact nk_impl ba oc a n c hz w _ _ K1 (fun W i hi hb => c_hertz _ _ _ _ _ xs _ W (h.below hb (Nat.le_refl _)) hn.1 hn.2 (by omega) (by omega)) hf
theorem c_sNearestKey (ba oc : Nat) (a : Option Addr) (n c : Nat) (xs : List Nat) (hz : Nat) (w : World) (h : FS w a n c xs) :
    Calls Try.prog 61 #[.agg #[.float .f32 ba, .float .f32 oc, .slice a n c], .float .f32 hz] w (RetV (.tuple #[.int .i64 (nearV ba oc xs n hz), .int .i64 (nearC ba oc xs n hz)]) w) := by
  have h' := h.alloc (.cells #[.float .f32 ba, .float .f32 oc, .slice a n c] 31)
  have K1 := Lib.hid (c_l07Ok w.heap.size 0 ba oc a n c xs _ h' (by simp) (by simp) (by simp))
  cases hv : tunB ba oc xs n
  · have e1 : nearC ba oc xs n hz = 1 := by unfold nearC; rw [if_pos hv]
    have e2 : nearV ba oc xs n hz = 0 := by unfold nearV; rw [if_neg (by rw [hv]; simp)]
    rw [e1, e2]
    rw [hv] at K1
    clear h hv e1 e2 h'
    go_enter Try.func61, Try.ntmps61
    go_wp2_with (go_at_call 76; refine (K1.out).mono ?_; rintro e w' ⟨rfl, n1, rfl⟩)
    go_ret2
    exact ⟨rfl, by (repeat (first | (with_reducible refine Below.drewN ?_) | (with_reducible refine Below.drew ?_) | ((with_reducible refine Below.alloc ?_ ?_ _); rotate_left; (first | omega | (simp <;> omega))) | ((with_reducible refine Below.setCell ?_ ?_ _); rotate_left; (first | omega | (simp <;> omega))) | (with_reducible exact Below.refl _ _) | (with_reducible assumption)))⟩
  rw [hv] at K1
  cases hf : finB hz
  · have e1 : nearC ba oc xs n hz = 2 := by unfold nearC; rw [if_neg (by rw [hv]; decide), if_pos hf]
    have e2 : nearV ba oc xs n hz = 0 := by unfold nearV; rw [if_neg (by rw [hf]; simp)]
    rw [e1, e2]
    clear h hv e1 e2 h'
    go_enter Try.func61, Try.ntmps61
    go_wp2_with (first | (go_at_call 76; refine (K1.out).mono ?_; rintro e w' ⟨rfl, n1, rfl⟩) | (go_at_call 67; refine (c_l01Finite _ _).mono ?_; rw [hf]; rintro e w' ⟨rfl, n1, rfl⟩))
    go_ret2
    exact ⟨rfl, by (repeat (first | (with_reducible refine Below.drewN ?_) | (with_reducible refine Below.drew ?_) | ((with_reducible refine Below.alloc ?_ ?_ _); rotate_left; (first | omega | (simp <;> omega))) | ((with_reducible refine Below.setCell ?_ ?_ _); rotate_left; (first | omega | (simp <;> omega))) | (with_reducible exact Below.refl _ _) | (with_reducible assumption)))⟩
  have hn := tunB_n hv
  have e1 : nearC ba oc xs n hz = nkC (nearR ba oc xs n hz) := by unfold nearC; rw [if_neg (by rw [hv]; decide), if_neg (by rw [hf]; decide)]
  have e2 : nearV ba oc xs n hz = nkV (nearR ba oc xs n hz) := by unfold nearV; rw [if_pos ⟨hv, hf⟩]
  rw [e1, e2]
  exact nk_spec ba oc a n c hz w _ _ K1 (fun i q hi => c_l07Hertz w.heap.size 0 ba oc a n c xs _ _ (h'.below (below_drewN (Below.refl _ _) _) (Nat.le_refl _)) hn.1 hn.2 (by omega) (by omega) (by simp) (by simp) (by simp)) hf
set_option maxRecDepth 100000 in
set_option maxHeartbeats 1000000 in
theorem l_NearestKey (x1 : Nat) (x2 : Nat) (a1 : Option Addr) (n1 c1 : Nat) (xs1 : List Nat) (hz : Nat) (v : Int) (code : Int) (w : World) (h_1 : FS w a1 n1 c1 xs1)
    (HS : ∀ W (d1 : Option Addr) (e1 : Nat), FS W d1 n1 e1 xs1 → Calls Try.prog 61 #[.agg #[.float .f32 x1, .float .f32 x2, .slice d1 n1 e1], .float .f32 hz] W (RetV (.tuple #[.int .i64 v, .int .i64 code]) W))
    (HI : ∀ W (d1 : Option Addr) (e1 : Nat), FS W d1 n1 e1 xs1 → Calls Try.prog 62 #[.agg #[.float .f32 x1, .float .f32 x2, .slice d1 n1 e1], .float .f32 hz] W (RetV (.tuple #[.int .i64 v, .int .i64 code]) W)) :
    Calls Try.prog 15 #[.agg #[.float .f32 x1, .float .f32 x2, .slice a1 n1 c1], .float .f32 hz] w (RetV (.bool true) w) := by
  have HS := Lib.hid HS
  have HI := Lib.hid HI
  have M1 : n1 ≤ 9223372036854775807 := Nat.le_trans h_1.cap h_1.big
  have H1 := Lib.hid h_1
  clear h_1
  by_cases ht : (n1 : Int) ≤ 1048576
  · have hl : ¬ (1048576 - n1 : Int) < 0 := by omega
    go_enter Try.func15, Try.ntmps15
    go_wp2_with fail
    refine (c_szTuning_ok _ _ _ _ _ (1048576) _ (by omega) (by omega) M1 (by omega)).mono ?_
    rintro e w1 ⟨rfl, hb1⟩
    obtain ⟨hc1, hf1, hz1⟩ := bcell hb1
    have hk1 := bblk hb1
    have Z1 : w.heap.size ≤ w1.heap.size := by first | exact hz1 | (simp at hz1; omega) | omega
    try (have ZS1 : w.heap.size < w1.heap.size := by first | omega | (simp at hz1; omega))
    try (have Xw_1 : w.heap.size < w1.heap.size := by first | omega | (simp at hz1; omega))
    try (have XXw_1 : w.heap.size < w1.heap.size + 1 := by omega)
    have b1 : Below w.heap.size w w1 := Below.trans (by (repeat (first | (with_reducible refine Below.drewN ?_) | (with_reducible refine Below.drew ?_) | ((with_reducible refine Below.alloc ?_ ?_ _); rotate_left; (first | omega | (simp <;> omega))) | ((with_reducible refine Below.setCell ?_ ?_ _); rotate_left; (first | omega | (simp <;> omega))) | (with_reducible exact Below.refl _ _) | (with_reducible assumption)))) (hb1.mono (by first | omega | (simp <;> omega)))
    go_wp2_with fail
    refine (c_toTuning' x1 x2 a1 n1 c1 xs1 _ (FS.below (B := w.heap.size) H1.out (by (repeat (first | (with_reducible refine Below.drewN ?_) | (with_reducible refine Below.drew ?_) | ((with_reducible refine Below.alloc ?_ ?_ _); rotate_left; (first | omega | (simp <;> omega))) | ((with_reducible refine Below.setCell ?_ ?_ _); rotate_left; (first | omega | (simp <;> omega))) | (with_reducible exact Below.refl _ _) | (with_reducible assumption)))) (Nat.le_refl _)) (by omega)).mono ?_
    rintro e w2 ⟨g1s, rfl, hb2, l0s, l1s, o1s_2⟩
    obtain ⟨hc2, hf2, hz2⟩ := bcell hb2
    have hk2 := bblk hb2
    have Z2 : w1.heap.size ≤ w2.heap.size := by first | exact hz2 | (simp at hz2; omega) | omega
    try (have ZS2 : w1.heap.size < w2.heap.size := by first | omega | (simp at hz2; omega))
    try (have Xw_2 : w.heap.size < w2.heap.size := by first | omega | (simp at hz2; omega))
    try (have XXw_2 : w.heap.size < w2.heap.size + 1 := by omega)
    have b2 : Below w.heap.size w w2 := Below.trans (by (repeat (first | (with_reducible refine Below.drewN ?_) | (with_reducible refine Below.drew ?_) | ((with_reducible refine Below.alloc ?_ ?_ _); rotate_left; (first | omega | (simp <;> omega))) | ((with_reducible refine Below.setCell ?_ ?_ _); rotate_left; (first | omega | (simp <;> omega))) | (with_reducible exact Below.refl _ _) | (with_reducible assumption)))) (hb2.mono (by first | omega | (simp <;> omega)))
    try simp at l0s
    have q1s : w1.heap.size ≤ g1s ∧ g1s < w2.heap.size := by omega
    go_wp2_with fail
    refine (HS.out _ _ _ (FS.below (B := w2.heap.size) o1s_2.fs (by (repeat (first | (with_reducible refine Below.drewN ?_) | (with_reducible refine Below.drew ?_) | ((with_reducible refine Below.alloc ?_ ?_ _); rotate_left; (first | omega | (simp <;> omega))) | ((with_reducible refine Below.setCell ?_ ?_ _); rotate_left; (first | omega | (simp <;> omega))) | (with_reducible exact Below.refl _ _) | (with_reducible assumption)))) (Nat.le_refl _))).mono ?_
    rintro e w3 ⟨rfl, hb3⟩
    obtain ⟨hc3, hf3, hz3⟩ := bcell hb3
    have hk3 := bblk hb3
    have Z3 : w2.heap.size ≤ w3.heap.size := by first | exact hz3 | (simp at hz3; omega) | omega
    try (have ZS3 : w2.heap.size < w3.heap.size := by first | omega | (simp at hz3; omega))
    try (have Xw_3 : w.heap.size < w3.heap.size := by first | omega | (simp at hz3; omega))
    try (have XXw_3 : w.heap.size < w3.heap.size + 1 := by omega)
    try (have Xw2_3 : w2.heap.size < w3.heap.size := by first | omega | (simp at hz3; omega))
    try (have XXw2_3 : w2.heap.size < w3.heap.size + 1 := by omega)
    have b3 : Below w.heap.size w w3 := Below.trans (by (repeat (first | (with_reducible refine Below.drewN ?_) | (with_reducible refine Below.drew ?_) | ((with_reducible refine Below.alloc ?_ ?_ _); rotate_left; (first | omega | (simp <;> omega))) | ((with_reducible refine Below.setCell ?_ ?_ _); rotate_left; (first | omega | (simp <;> omega))) | (with_reducible exact Below.refl _ _) | (with_reducible assumption)))) (hb3.mono (by first | omega | (simp <;> omega)))
    have o1s_3 := OF.below (g := g1s) (a := (some ⟨g1s, 0, none⟩)) (n := n1) (c := n1) (xs := xs1) (by (repeat (first | (with_reducible assumption) | (with_reducible refine OF.draw ?_) | (with_reducible exact OF.made' (by simp) (by simp) (by omega)) | (with_reducible refine OF.alloc ?_ _) | ((with_reducible refine OF.setCell ?_ ?_ _); rotate_left; (first | omega | (simp <;> omega)))))) hb3 (Nat.le_refl _)
    clear o1s_2
    go_wp2_with fail
    refine (c_toTuning' x1 x2 a1 n1 c1 xs1 _ (FS.below (B := w.heap.size) H1.out (by (repeat (first | (with_reducible refine Below.drewN ?_) | (with_reducible refine Below.drew ?_) | ((with_reducible refine Below.alloc ?_ ?_ _); rotate_left; (first | omega | (simp <;> omega))) | ((with_reducible refine Below.setCell ?_ ?_ _); rotate_left; (first | omega | (simp <;> omega))) | (with_reducible exact Below.refl _ _) | (with_reducible assumption)))) (Nat.le_refl _)) (by omega)).mono ?_
    rintro e w4 ⟨g1x, rfl, hb4, l0x, l1x, o1x_4⟩
    obtain ⟨hc4, hf4, hz4⟩ := bcell hb4
    have hk4 := bblk hb4
    have Z4 : w3.heap.size ≤ w4.heap.size := by first | exact hz4 | (simp at hz4; omega) | omega
    try (have ZS4 : w3.heap.size < w4.heap.size := by first | omega | (simp at hz4; omega))
    try (have Xw_4 : w.heap.size < w4.heap.size := by first | omega | (simp at hz4; omega))
    try (have XXw_4 : w.heap.size < w4.heap.size + 1 := by omega)
    try (have Xw2_4 : w2.heap.size < w4.heap.size := by first | omega | (simp at hz4; omega))
    try (have XXw2_4 : w2.heap.size < w4.heap.size + 1 := by omega)
    have b4 : Below w.heap.size w w4 := Below.trans (by (repeat (first | (with_reducible refine Below.drewN ?_) | (with_reducible refine Below.drew ?_) | ((with_reducible refine Below.alloc ?_ ?_ _); rotate_left; (first | omega | (simp <;> omega))) | ((with_reducible refine Below.setCell ?_ ?_ _); rotate_left; (first | omega | (simp <;> omega))) | (with_reducible exact Below.refl _ _) | (with_reducible assumption)))) (hb4.mono (by first | omega | (simp <;> omega)))
    try simp at l0x
    have q1x : w3.heap.size ≤ g1x ∧ g1x < w4.heap.size := by omega
    go_wp2_with fail
    refine (HI.out _ _ _ (FS.below (B := w4.heap.size) o1x_4.fs (by (repeat (first | (with_reducible refine Below.drewN ?_) | (with_reducible refine Below.drew ?_) | ((with_reducible refine Below.alloc ?_ ?_ _); rotate_left; (first | omega | (simp <;> omega))) | ((with_reducible refine Below.setCell ?_ ?_ _); rotate_left; (first | omega | (simp <;> omega))) | (with_reducible exact Below.refl _ _) | (with_reducible assumption)))) (Nat.le_refl _))).mono ?_
    rintro e w5 ⟨rfl, hb5⟩
    obtain ⟨hc5, hf5, hz5⟩ := bcell hb5
    have hk5 := bblk hb5
    have Z5 : w4.heap.size ≤ w5.heap.size := by first | exact hz5 | (simp at hz5; omega) | omega
    try (have ZS5 : w4.heap.size < w5.heap.size := by first | omega | (simp at hz5; omega))
    try (have Xw_5 : w.heap.size < w5.heap.size := by first | omega | (simp at hz5; omega))
    try (have XXw_5 : w.heap.size < w5.heap.size + 1 := by omega)
    try (have Xw2_5 : w2.heap.size < w5.heap.size := by first | omega | (simp at hz5; omega))
    try (have XXw2_5 : w2.heap.size < w5.heap.size + 1 := by omega)
    try (have Xw4_5 : w4.heap.size < w5.heap.size := by first | omega | (simp at hz5; omega))
    try (have XXw4_5 : w4.heap.size < w5.heap.size + 1 := by omega)
    have b5 : Below w.heap.size w w5 := Below.trans (by (repeat (first | (with_reducible refine Below.drewN ?_) | (with_reducible refine Below.drew ?_) | ((with_reducible refine Below.alloc ?_ ?_ _); rotate_left; (first | omega | (simp <;> omega))) | ((with_reducible refine Below.setCell ?_ ?_ _); rotate_left; (first | omega | (simp <;> omega))) | (with_reducible exact Below.refl _ _) | (with_reducible assumption)))) (hb5.mono (by first | omega | (simp <;> omega)))
    have o1x_5 := OF.below (g := g1x) (a := (some ⟨g1x, 0, none⟩)) (n := n1) (c := n1) (xs := xs1) (by (repeat (first | (with_reducible assumption) | (with_reducible refine OF.draw ?_) | (with_reducible exact OF.made' (by simp) (by simp) (by omega)) | (with_reducible refine OF.alloc ?_ _) | ((with_reducible refine OF.setCell ?_ ?_ _); rotate_left; (first | omega | (simp <;> omega)))))) hb5 (Nat.le_refl _)
    clear o1x_4
    go_wp2_with fail
    refine wp_region_grow [3] [2] (by kernel_rfl) (by kernel_rfl) (by kernel_rfl) ?_
    apply Exists.intro
    iterate 2 (apply lh_o; kernel_rfl; kernel_rfl; kernel_rfl; (intro W hW; have hWc := Grow.cells hW; have hWk := bblk hW; go_simp; exact ⟨OneV.mk _, Grow.refl _⟩))
    apply lh_w (fun g : Nat => Value.agg #[.float .f32 x1, .float .f32 x2, .slice (some ⟨g, 0, none⟩) n1 n1]) (fun g w' => w5.heap.size ≤ g ∧ g < w'.heap.size ∧ OF w' g (some ⟨g, 0, none⟩) n1 n1 xs1) 0 (fun g w w' h hg => ⟨h.1, Nat.lt_of_lt_of_le h.2.1 hg.size, OF.below h.2.2 hg (Nat.le_refl _)⟩) (fun i j h => by simp at h; first | exact h | (obtain ⟨i1, i2⟩ := i; obtain ⟨j1, j2⟩ := j; simp at h; simp [h]))
    kernel_rfl
    kernel_rfl
    kernel_rfl
    · intro W hW
      have hWc := Grow.cells hW
      go_simp
      exact (c_toTuning' x1 x2 a1 n1 c1 xs1 W (FS.below (B := w.heap.size) H1.out (b5.trans (Below.mono hW b5.size)) (Nat.le_refl _)) (by omega)).mono fun e w' ⟨t1, he, hb, l0, l1, o1⟩ => ⟨t1, he, ⟨Nat.le_trans hW.size l0, l1, o1⟩, hb⟩
    exact anti
    intro g
    (apply lh_h; kernel_rfl; kernel_rfl; kernel_rfl; (intro W hW; obtain ⟨hG, hK⟩ := hW; have hWc := Grow.cells hG; go_simp; exact gV (c_eqTuning' _ _ _ _ _ _ _ _ _ _ _ W rfl rfl (FS.below (B := w5.heap.size) o1x_5.fs hG (Nat.le_refl _)) (hK.2.2).fs (Alk.refl _))))
    (apply lh_o; kernel_rfl; kernel_rfl; kernel_rfl; (intro W hW; have hWc := Grow.cells hW; go_simp; exact ⟨OneV.mk _, Grow.refl _⟩))
    refine lh_nil ?_
    intro w6 hW6
    simp only [Act.put, List.setIfInBounds_toArray, List.set_cons_succ, List.set_cons_zero]
    have hb6 : Below w5.heap.size w5 w6 := hW6.1
    clear hW6
    obtain ⟨hc6, hf6, hz6⟩ := bcell hb6
    have hk6 := bblk hb6
    have Z6 : w5.heap.size ≤ w6.heap.size := by first | exact hz6 | (simp at hz6; omega) | omega
    try (have ZS6 : w5.heap.size < w6.heap.size := by first | omega | (simp at hz6; omega))
    try (have Xw_6 : w.heap.size < w6.heap.size := by first | omega | (simp at hz6; omega))
    try (have XXw_6 : w.heap.size < w6.heap.size + 1 := by omega)
    try (have Xw2_6 : w2.heap.size < w6.heap.size := by first | omega | (simp at hz6; omega))
    try (have XXw2_6 : w2.heap.size < w6.heap.size + 1 := by omega)
    try (have Xw4_6 : w4.heap.size < w6.heap.size := by first | omega | (simp at hz6; omega))
    try (have XXw4_6 : w4.heap.size < w6.heap.size + 1 := by omega)
    have b6 : Below w.heap.size w w6 := Below.trans (by (repeat (first | (with_reducible refine Below.drewN ?_) | (with_reducible refine Below.drew ?_) | ((with_reducible refine Below.alloc ?_ ?_ _); rotate_left; (first | omega | (simp <;> omega))) | ((with_reducible refine Below.setCell ?_ ?_ _); rotate_left; (first | omega | (simp <;> omega))) | (with_reducible exact Below.refl _ _) | (with_reducible assumption)))) (hb6.mono (by first | omega | (simp <;> omega)))
    have o1x_6 := OF.below (g := g1x) (a := (some ⟨g1x, 0, none⟩)) (n := n1) (c := n1) (xs := xs1) (by (repeat (first | (with_reducible assumption) | (with_reducible refine OF.draw ?_) | (with_reducible exact OF.made' (by simp) (by simp) (by omega)) | (with_reducible refine OF.alloc ?_ _) | ((with_reducible refine OF.setCell ?_ ?_ _); rotate_left; (first | omega | (simp <;> omega)))))) hb6 (Nat.le_refl _)
    clear o1x_5
    go_wp2
    go_ret
    exact ⟨rfl, by (repeat (first | (with_reducible refine Below.drewN ?_) | (with_reducible refine Below.drew ?_) | ((with_reducible refine Below.alloc ?_ ?_ _); rotate_left; (first | omega | (simp <;> omega))) | ((with_reducible refine Below.setCell ?_ ?_ _); rotate_left; (first | omega | (simp <;> omega))) | (with_reducible exact Below.refl _ _) | (with_reducible assumption)))⟩
  · go_enter Try.func15, Try.ntmps15
    go_wp2_with fail
    refine (c_szTuning_no _ _ _ _ _ (1048576) _ (by omega) (by omega) M1 (by omega)).mono ?_
    rintro e w1 ⟨rfl, hb1⟩
    obtain ⟨hc1, hf1, hz1⟩ := bcell hb1
    have hk1 := bblk hb1
    have Z1 : w.heap.size ≤ w1.heap.size := by first | exact hz1 | (simp at hz1; omega) | omega
    try (have ZS1 : w.heap.size < w1.heap.size := by first | omega | (simp at hz1; omega))
    try (have Xw_1 : w.heap.size < w1.heap.size := by first | omega | (simp at hz1; omega))
    try (have XXw_1 : w.heap.size < w1.heap.size + 1 := by omega)
    have b1 : Below w.heap.size w w1 := Below.trans (by (repeat (first | (with_reducible refine Below.drewN ?_) | (with_reducible refine Below.drew ?_) | ((with_reducible refine Below.alloc ?_ ?_ _); rotate_left; (first | omega | (simp <;> omega))) | ((with_reducible refine Below.setCell ?_ ?_ _); rotate_left; (first | omega | (simp <;> omega))) | (with_reducible exact Below.refl _ _) | (with_reducible assumption)))) (hb1.mono (by first | omega | (simp <;> omega)))
    go_wp2
    go_ret
    exact ⟨rfl, by (repeat (first | (with_reducible refine Below.drewN ?_) | (with_reducible refine Below.drew ?_) | ((with_reducible refine Below.alloc ?_ ?_ _); rotate_left; (first | omega | (simp <;> omega))) | ((with_reducible refine Below.setCell ?_ ?_ _); rotate_left; (first | omega | (simp <;> omega))) | (with_reducible exact Below.refl _ _) | (with_reducible assumption)))⟩


theorem k_NearestKey (x1 x2 : Nat) (a1 : Option Addr) (n1 c1 : Nat) (xs1 : List Nat) (hz : Nat) (w : World) (h_1 : FS w a1 n1 c1 xs1) :
    Calls Try.prog 15 #[.agg #[.float .f32 x1, .float .f32 x2, .slice a1 n1 c1], .float .f32 hz] w (RetV (.bool true) w) :=
  l_NearestKey x1 x2 a1 n1 c1 xs1 hz _ _ w h_1 (fun W _ _ j => c_sNearestKey _ _ _ _ _ _ hz W j) (fun W _ _ j => c_NearestKey _ _ _ _ _ _ hz W j)
end Go.Proofs.Ytdhiihmfgmempaa
