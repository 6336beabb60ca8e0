
/-
Contracts over rings: valid ones, finite samples, lists of rings in memory.
-/
import Derived.Test.YtbdanadmabemdaaDoorSn
import Derived.IntWalk
namespace Go.Proofs.YtbdanadmabemdaaDoor
open Go Go.RowKit Fl

/-- the first k are finite -/
def finTo (xs : List Nat) : Nat → Bool
  | 0 => true
  | k + 1 => finTo xs k && finB (nth xs k)
theorem finTo_false {xs : List Nat} {k : Nat} (h : finB (nth xs k) = false) : ∀ n, k < n → finTo xs n = false
  | n + 1, hk => by
    by_cases e : k = n
    · subst e; rw [finTo, h, Bool.and_false]
    · rw [finTo, finTo_false h n (by omega), Bool.false_and]
theorem finTo_nth {xs : List Nat} : ∀ {n : Nat}, finTo xs n = true → ∀ k, k < n → finB (nth xs k) = true
  | n + 1, h, k, hk => by
    rw [finTo, Bool.and_eq_true] at h
    by_cases e : k = n
    · subst e; exact h.2
    · exact finTo_nth h.1 k (by omega)
theorem c_length (a : Option Addr) (n c : Nat) (w : World) : Calls Tryd.prog 62 #[.slice a n c] w (fun e w' => e = .returned (.int .i64 n) ∧ w = w') := by
  go_enter Tryd.func62, Tryd.ntmps62
  go_wp2
  go_ret
  exact ⟨rfl, rfl⟩
/-- is a ring of so many samples valid -/
def ringB (n : Nat) (i : Int) : Bool := inB n 1 1024 && inB i 0 ((n : Int) - 1)
theorem c_l04All (a : Option Addr) (n c : Nat) (xs : List Nat) (w : World) (h : FS w a n c xs) :
    Calls Tryd.prog 49 #[.slice a n c] w (RetB (finTo xs n) w) := by
  obtain ⟨hl, hcap, hbig, hat⟩ := h
  have HA := Lib.hid hat
  clear hat
  go_enter Tryd.func49, Tryd.ntmps49
  go_wp2
  go_loopw [3] (fun i wr => ∃ k : Nat, k ≤ n ∧ i = .int .i64 k ∧ Hid (finTo xs k = true) ∧ ∃ q, wr = w.drewN q) (fun i _ => n - (intOf i).toNat)
  case atStart => exact ⟨0, by omega, rfl, rfl, 0, rfl⟩
  case round =>
    obtain ⟨k, hk, rfl, hall, q, rfl⟩ := hrel
    by_cases hlt : k < n
    · obtain ⟨b, o, rfl, hbl, hcell⟩ := HA.out (by omega)
      have hc := hcell k hlt
      clear HA hcell
      cases hf : finB (nth xs k)
      · have HU := Lib.hid (finTo_false hf n hlt)
        go_wp2_with (go_at_call 75; refine (c_l01Finite _ _).mono ?_; rintro e w' ⟨rfl, n1, rfl⟩)
        go_ret
        exact ⟨by rw [HU.out]; rfl, same1 _ _⟩
      · have HU : Hid (finTo xs (k + 1) = true) := by rw [finTo, hall.out, hf]; rfl
        go_wp2_with (go_at_call 75; refine (c_l01Finite _ _).mono ?_; rintro e w' ⟨rfl, n1, rfl⟩)
        go_roundw
        case rel => exact ⟨k + 1, by omega, by go_num, HU, same1 _ _⟩
        case measure => simp [intOf]; omega
    · obtain rfl : k = n := by omega
      go_wp2
      go_ret
      exact ⟨by rw [hall.out]; rfl, same1 _ _⟩
theorem c_withinB {n lo hi : Int} {b : Bool} {w : World} (h : inB n lo hi = b) : Calls Tryd.prog 65 #[.int .i64 n, .int .i64 lo, .int .i64 hi] w (RetB b w) := h ▸ c_within n lo hi w
theorem lx_callV {P : Program} {f : FuncId} {args : Array Value} {w : World} {n : Nat} {v : Value} (h : Calls P f args (w.drewN n) (fun e w' => e = .returned v ∧ ∃ m, w' = (w.drewN n).drewN m)) :
    Calls P f args (w.drewN n) (fun e w'' => ∃ u, OneV v u ∧ e = .returned u ∧ ∃ m, w'' = w.drewN m) :=
  h.mono fun _ _ ⟨he, m, hm⟩ => ⟨_, OneV.mk _, he, n + m, by rw [hm, World.drewN_drewN]⟩
theorem lx_callV2 {P : Program} {f : FuncId} {args : Array Value} {w : World} {n k : Nat} {v : Value} (h : Calls P f args (w.drewN (k + n)) (fun e w' => e = .returned v ∧ ∃ m, w' = (w.drewN (k + n)).drewN m)) :
    Calls P f args (w.drewN (k + n)) (fun e w'' => ∃ u, OneV v u ∧ e = .returned u ∧ ∃ m, w'' = w.drewN (k + m)) :=
  h.mono fun _ _ ⟨he, m, hm⟩ => ⟨_, OneV.mk _, he, n + m, by rw [hm, World.drewN_drewN, Nat.add_assoc]⟩
theorem c_lengthQ (a : Option Addr) (n c : Nat) (w : World) : Calls Tryd.prog 62 #[.slice a n c] w (RetI .i64 n w) := (c_length a n c w).mono fun _ _ ⟨he, hw⟩ => ⟨he, 0, hw.symm⟩
theorem c_ValidRing (a : Option Addr) (n c : Nat) (i : Int) (w : World) (hn : n ≤ 9223372036854775807) :
    Calls Tryd.prog 79 #[.agg #[.slice a n c, .int .i64 i]] w (RetV (.bool (ringB n i)) w) := by
  unfold ringB
  cases h : inB n 1 1024
  · go_enter Tryd.func79, Tryd.ntmps79
    go_wp2
    refine wp_region_sets' (by kernel_rfl) (by kernel_rfl) ?_
    apply Exists.intro
    iterate 2 (apply lx_want; kernel_rfl; (intro n; go_simp; exact ⟨OneV.mk _, _, (by first | rfl | exact congrArg _ (Nat.add_assoc _ _ _))⟩); rintro _ rfl)
    (apply lx_want; kernel_rfl; (intro n; go_simp; first | exact lx_callV (c_lengthQ _ _ _ _) | exact lx_callV2 (c_lengthQ _ _ _ _)); rintro _ rfl)
    (apply lx_want; kernel_rfl; (intro n; go_simp; first | exact lx_callV (c_withinB h) | exact lx_callV2 (c_withinB h)); rintro _ rfl)
    (apply lx_want; kernel_rfl; (intro n; go_simp; exact ⟨OneV.mk _, _, (by first | rfl | exact congrArg _ (Nat.add_assoc _ _ _))⟩); rintro _ rfl)
    iterate 7 (apply lx_skip; kernel_rfl)
    iterate 2 (apply lx_want; kernel_rfl; (intro n; go_simp; exact ⟨OneV.mk _, _, (by first | rfl | exact congrArg _ (Nat.add_assoc _ _ _))⟩); rintro _ rfl)
    (refine lx_nil (Vl := []) ?_; intro n; simp only [Act.put, List.setIfInBounds_toArray, List.set_cons_succ, List.set_cons_zero])
    go_wp2
    go_ret
    exact ⟨rfl, by (repeat (first | (with_reducible refine Below.drewN ?_) | (with_reducible refine Below.drew ?_) | ((with_reducible refine Below.alloc ?_ ?_ _); rotate_left; (first | omega | (simp <;> omega))) | ((with_reducible refine Below.setCell ?_ ?_ _); rotate_left; (first | omega | (simp <;> omega))) | (with_reducible exact Below.refl _ _) | (with_reducible assumption)))⟩
  · have hb := inB_yes h
    have hw : IntKind.i64.wrap ((n : Int) - 1) = (n : Int) - 1 := IntWalk.i64_in _ (by omega)
    go_enter Tryd.func79, Tryd.ntmps79
    go_wp2
    refine wp_region_sets' (by kernel_rfl) (by kernel_rfl) ?_
    apply Exists.intro
    iterate 2 (apply lx_want; kernel_rfl; (intro n; go_simp; exact ⟨OneV.mk _, _, (by first | rfl | exact congrArg _ (Nat.add_assoc _ _ _))⟩); rintro _ rfl)
    (apply lx_want; kernel_rfl; (intro n; go_simp; first | exact lx_callV (c_lengthQ _ _ _ _) | exact lx_callV2 (c_lengthQ _ _ _ _)); rintro _ rfl)
    (apply lx_want; kernel_rfl; (intro n; go_simp; first | exact lx_callV (c_withinB h) | exact lx_callV2 (c_withinB h)); rintro _ rfl)
    (apply lx_want; kernel_rfl; (intro n; go_simp; exact ⟨OneV.mk _, _, (by first | rfl | exact congrArg _ (Nat.add_assoc _ _ _))⟩); rintro _ rfl)
    iterate 4 (apply lx_want; kernel_rfl; (intro n; go_simp; exact ⟨OneV.mk _, _, (by first | rfl | exact congrArg _ (Nat.add_assoc _ _ _))⟩); rintro _ rfl)
    (apply lx_want; kernel_rfl; (intro n; go_simp; first | exact lx_callV (c_lengthQ _ _ _ _) | exact lx_callV2 (c_lengthQ _ _ _ _)); rintro _ rfl)
    (apply lx_want; kernel_rfl; (intro n; go_simp; exact ⟨OneV.mk _, _, (by first | rfl | exact congrArg _ (Nat.add_assoc _ _ _))⟩); rintro _ rfl)
    (apply lx_want; kernel_rfl; (intro n; go_simp; first | exact lx_callV (c_within _ _ _ _) | exact lx_callV2 (c_within _ _ _ _)); rintro _ rfl)
    iterate 2 (apply lx_want; kernel_rfl; (intro n; go_simp; exact ⟨OneV.mk _, _, (by first | rfl | exact congrArg _ (Nat.add_assoc _ _ _))⟩); rintro _ rfl)
    (refine lx_nil (Vl := []) ?_; intro n; simp only [Act.put, List.setIfInBounds_toArray, List.set_cons_succ, List.set_cons_zero])
    go_wp2
    go_ret
    exact ⟨rfl, by (repeat (first | (with_reducible refine Below.drewN ?_) | (with_reducible refine Below.drew ?_) | ((with_reducible refine Below.alloc ?_ ?_ _); rotate_left; (first | omega | (simp <;> omega))) | ((with_reducible refine Below.setCell ?_ ?_ _); rotate_left; (first | omega | (simp <;> omega))) | (with_reducible exact Below.refl _ _) | (with_reducible assumption)))⟩
theorem c_l02Ring (b o : Nat) (a : Option Addr) (n c : Nat) (i : Int) (w : World) (hn : n ≤ 9223372036854775807) (h0 : w.cell? ⟨b, o, none⟩ = some (.slice a n c)) (h1 : w.cell? ⟨b, o + 1, none⟩ = some (.int .i64 i)) :
    Calls Tryd.prog 72 #[.pointer (some ⟨b, o, none⟩)] w (RetB (ringB n i) w) := by
  unfold ringB
  cases h : inB n 1 1024
  · go_enter Tryd.func72, Tryd.ntmps72
    go_wp2_with (go_at_call 73; refine (c_l00In _ _ _ _).mono ?_; rintro e w' ⟨rfl, n1, rfl⟩)
    go_ret
    exact ⟨rfl, same1 _ _⟩
  · have hb := inB_yes h
    go_enter Tryd.func72, Tryd.ntmps72
    go_wp2_with (go_at_call 73; refine (c_l00In _ _ _ _).mono ?_; rintro e w' ⟨rfl, n1, rfl⟩)
    go_ret
    exact ⟨rfl, same1 _ _⟩

/-- a ring -/
structure Rg where
  a : Option Addr
  n : Nat
  c : Nat
  xs : List Nat
  i : Int
def Rg.ok (r : Rg) : Bool := ringB r.n r.i && finTo r.xs r.n
def rat (rs : List Rg) (j : Nat) : Rg := rs.getD j ⟨none, 0, 0, [], 0⟩
def rgsTo (rs : List Rg) : Nat → Bool
  | 0 => true
  | k + 1 => rgsTo rs k && (rat rs k).ok
theorem rgsTo_false {rs : List Rg} {k : Nat} (h : (rat rs k).ok = false) : ∀ n, k < n → rgsTo rs n = false
  | n + 1, hk => by
    by_cases e : k = n
    · subst e; rw [rgsTo, h, Bool.and_false]
    · rw [rgsTo, rgsTo_false h n (by omega), Bool.false_and]
/-- a list of rings in memory -/
structure RAt (w : World) (b o : Nat) (r : Rg) : Prop where
  c0 : w.cell? ⟨b, o, none⟩ = some (.slice r.a r.n r.c)
  c1 : w.cell? ⟨b, o + 1, none⟩ = some (.int .i64 r.i)
  fs : FS w r.a r.n r.c r.xs
theorem RAt.draw {w : World} {b o m : Nat} {r : Rg} (h : RAt w b o r) : RAt (w.drewN m) b o r := ⟨h.c0, h.c1, h.fs.draw⟩
end Go.Proofs.YtbdanadmabemdaaDoor
