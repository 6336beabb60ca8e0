
/-
Tables of friction.
-/
import Derived.Test.YtdhiihmfgmempaaLe
import Derived.Test.YtdhiihmfgmempaaAp
namespace Go.Proofs.Ytdhiihmfgmempaa
open Go Go.RowKit Fl
def frD (i : Nat) : Nat := fop .sub .f32 (fop .quo .f32 (floatOfInt .f32 (i : Int)) 1124073472) 1065353216
theorem frD_all : ∀ i : Fin 257, isNaN .f32 (fop .quo .f32 (floatOfInt .f32 (i.val : Int)) 1124073472) = false ∧ isNaN .f32 (frD i.val) = false := by decide +kernel
def zTab : List Nat := List.replicate 257 0
theorem zTab_eq : Try.zeroCells24 = arr zTab := by kernel_rfl
theorem zTab_len : zTab.length = 257 := List.length_replicate
theorem arr_one (ys : List Nat) : (arr ys).toList.all (·.oneCell') = true := by
  unfold arr
  simp only [List.all_map, List.all_eq_true]
  intro x _; rfl
theorem ld_tab {W : World} {b : Nat} {ys : List Nat} {T : TypeId} (h : blkAt W b = some (.cells (arr ys) T)) (hl : ys.length = 257) : (bigCells ⟨b, 0, none⟩ 257).run Try.prog W = .ok (arr ys) W := by
  have := ld_cells Try.prog ⟨b, 0, none⟩ 257 W (by simp only [adOk, h, objOk, arr_size, hl]; rfl)
  rw [this]
  simp only [adCells, h, objCells]
theorem st_tab {W : World} {b : Nat} {ys zs : List Nat} {T : TypeId} (h : blkAt W b = some (.cells (arr zs) T)) (hl : ys.length = 257) (hz : zs.length = 257) : (bigStore ⟨b, 0, none⟩ (arr ys).toList).run Try.prog W = .ok () (W.setCells b 0 (arr ys).toList) :=
  st_cells_any _ W b _ (by simp only [h, objFree, arr_size, hz, Array.length_toList, hl]; rfl) (arr_one ys)
theorem blk_tab {W : World} {b : Nat} {ys zs : List Nat} {T : TypeId} (h : blkAt W b = some (.cells (arr zs) T)) (hl : ys.length = 257) (hz : zs.length = 257) : blkAt (W.setCells b 0 (arr ys).toList) b = some (.cells (arr ys) T) := by
  rw [blk_setCells_same _ _ _ _ rfl, h]
  simp only [objPut]
  rw [writeAt_all' _ _ (by simp [arr_size, hl, hz])]
/-- a table and a code -/
def NewT (D : Nat → Nat) (code : Int) (w : World) (e : Ending) (w' : World) : Prop := ∃ ys : List Nat, ys.length = 257 ∧ (∀ i, i < 257 → up (nth ys i) = up (D i)) ∧ e = .returned (.tuple #[.agg (arr ys), .int .i64 code]) ∧ Below w.heap.size w w'
theorem zTab_nth (i : Nat) : nth zTab i = 0 := by
  unfold nth zTab
  rw [List.getD_eq_getElem?_getD, List.getElem?_replicate]
  split <;> rfl
theorem c_FrictionTable_no (s : Nat) (w : World) (h : finB s = false) : Calls Try.prog 19 #[.float .f32 s] w (NewT (fun _ => 0) 2 w) := by
  have hz := zTab_eq
  have b0 : ∀ q, blkAt ((w.alloc (.cells (arr zTab) 24)).drewN q) w.heap.size = some (.cells (arr zTab) 24) := fun q => blk_alloc _ _
  have s0 := fun q => st_tab (b0 q) zTab_len zTab_len
  have l0 := fun q => ld_tab (blk_tab (b0 q) zTab_len zTab_len) zTab_len
  have HL := Lib.hid zTab_len
  have HN := Lib.hid zTab_nth
  have hsz : (arr zTab).size = 257 := by rw [arr_size]; exact zTab_len
  generalize zTab = Z at *
  go_enter Try.func19, Try.ntmps19
  go_wp2_with (go_at_call 69; refine (c_isFinite _ _).mono ?_; rw [h]; rintro e w' ⟨rfl, n1, rfl⟩)
  refine bodyPost_ret (v := ?v) (by simp [results, Try.results19, go_sem, *] <;> rfl) rfl ?_
  exact ⟨Z, HL.out, fun i _ => by rw [HN.out], rfl, by (repeat (first | (with_reducible refine Below.drewN ?_) | (with_reducible refine Below.drew ?_) | ((with_reducible refine Below.alloc ?_ ?_ _); rotate_left; (first | omega | (simp <;> omega))) | ((with_reducible refine Below.setCell ?_ ?_ _); rotate_left; (first | omega | (simp <;> omega))) | ((with_reducible refine Below.setCells ?_ ?_ _); rotate_left; (first | omega | (simp <;> omega))) | (with_reducible exact Below.refl _ _) | (with_reducible assumption)))⟩
/-- a table that is being filled -/
structure FB (w0 w : World) (b : Nat) (k : Nat) (D : Nat → Nat) (ys : List Nat) : Prop where
  below : Below w0.heap.size w0 w
  hb : w0.heap.size ≤ b
  len : ys.length = 257
  blk : blkAt w b = some (.cells (arr ys) 24)
  at_ : ∀ i, i < k → up (nth ys i) = up (D i)
theorem set_nth (ys : List Nat) (k v i : Nat) (h : k < ys.length) : nth (ys.set k v) i = if i = k then v else nth ys i := by
  unfold nth
  rw [List.getD_eq_getElem?_getD, List.getD_eq_getElem?_getD, List.getElem?_set]
  by_cases e : k = i
  · subst e; simp [h]
  · rw [if_neg e, if_neg (fun h => e h.symm)]
theorem FB.step {w0 w : World} {b k : Nat} {D : Nat → Nat} {ys : List Nat} (h : FB w0 w b k D ys) (hk : k < 257) (v : Nat) (hv : up v = up (D k)) (q : Nat) : FB w0 ((w.drewN q).setCell ⟨b, k, none⟩ (.float .f32 v)) b (k + 1) D (ys.set k v) := by
  refine ⟨(Below.drewN h.below).setCell h.hb _, h.hb, by simp [h.len], ?_, fun i hi => ?_⟩
  · rw [blk_set_same0, blk_drew, h.blk]
    simp only [objSet]
    unfold arr
    rw [List.setIfInBounds_toArray, List.map_set]
    rfl
  · rw [set_nth _ _ _ _ (by rw [h.len]; exact hk)]
    by_cases e : i = k
    · rw [if_pos e, e]; exact hv
    · rw [if_neg e]; exact h.at_ i (by omega)
set_option maxRecDepth 10000 in
set_option maxHeartbeats 1000000 in
theorem c_FrictionTable_ok (s : Nat) (w : World) (h : finB s = true) : Calls Try.prog 19 #[.float .f32 s] w (NewT (fun i => friF s (frD i)) 0 w) := by
  have hz := zTab_eq
  have HL := Lib.hid zTab_len
  generalize zTab = Z at *
  go_enter Try.func19, Try.ntmps19
  go_wp2_with (go_at_call 69; refine (c_isFinite _ _).mono ?_; rw [h]; rintro e w' ⟨rfl, n1, rfl⟩)
  have F0 : FB (w.alloc (.cells (arr Z) 24)) (((w.alloc (.cells (arr Z) 24)).drewN n1).alloc (.cells (arr Z) 24)) (w.heap.size + 1) 0 (fun i => friF s (frD i)) Z := ⟨by (repeat (first | (with_reducible refine Below.drewN ?_) | (with_reducible refine Below.drew ?_) | ((with_reducible refine Below.alloc ?_ ?_ _); rotate_left; (first | omega | (simp <;> omega))) | ((with_reducible refine Below.setCell ?_ ?_ _); rotate_left; (first | omega | (simp <;> omega))) | (with_reducible exact Below.refl _ _) | (with_reducible assumption))), by simp, HL.out, blk_alloc_at _ _ _ (by simp), fun i hi => absurd hi (by omega)⟩
  go_loopw [10] (fun i wr => ∃ (k : Nat) (ys : List Nat), k ≤ 257 ∧ i = .int .i64 k ∧ FB (w.alloc (.cells (arr Z) 24)) wr (w.heap.size + 1) k (fun i => friF s (frD i)) ys) (fun i _ => 257 - (intOf i).toNat)
  case atStart => exact ⟨0, Z, by omega, rfl, F0⟩
  case round =>
    clear F0
    obtain ⟨k, ys, hk, rfl, hF⟩ := hrel
    by_cases hlt : k < 257
    · obtain ⟨d1, d2⟩ := frD_all ⟨k, hlt⟩
      simp only at d1 d2
      have hE : fop .sub .f32 (fop .quo .f32 (floatOfInt .f32 (k : Int)) 1124073472) 1065353216 = frD k := rfl
      have v1 : ∀ t, nv .f32 (fop .quo .f32 (floatOfInt .f32 (k : Int)) 1124073472) t = fop .quo .f32 (floatOfInt .f32 (k : Int)) 1124073472 := fun t => nv_of t d1
      have v2 : ∀ t, nv .f32 (frD k) t = frD k := fun t => nv_of t d2
      have hlen := hF.len
      have f0 := frozen_blk hF.blk k
      have c0 : wr.cell? ⟨w.heap.size + 1, k, none⟩ = some (.float .f32 (nth ys k)) := by rw [cell_blk hF.blk, arr_get _ _ (by omega)]
      have HS := Lib.hid (fun v hv q => hF.step hlt v hv q)
      have HC := Lib.hid (fun w => c_FrictionAt s (frD k) w)
      have HR : Hid (friF s (frD k) = friF s (frD k)) := rfl
      generalize frD k = D at *
      clear d1 d2 hF
      go_wp2_with (go_at_call 70; refine (HC.out _).mono ?_; rintro e w' ⟨t2, n2, rfl, rfl⟩)
      go_roundw
      case rel => exact ⟨k + 1, _, by omega, by go_num, HS.out _ (up_nv _ _) _⟩
      case measure => simp [intOf]; omega
    · obtain rfl : k = 257 := by omega
      have hr : blkAt wr w.heap.size = some (.cells (arr Z) 24) := (hF.below.block w.heap.size (by simp)).trans (blk_alloc _ _)
      have l1 := ld_tab hF.blk hF.len
      have s1 := st_tab hr hF.len HL.out
      have l2 := ld_tab (blk_tab hr hF.len HL.out) hF.len
      have HB := Lib.hid hF.below
      have hsz : (arr ys).size = 257 := by rw [arr_size]; exact hF.len
      have HA := Lib.hid hF.at_
      have HLL := Lib.hid hF.len
      clear hF hr
      go_wp2
      refine bodyPost_ret (v := ?v) (by simp [results, Try.results19, go_sem, *] <;> rfl) rfl ?_
      have hB' : Below w.heap.size w wr := Below.trans (by (repeat (first | (with_reducible refine Below.drewN ?_) | (with_reducible refine Below.drew ?_) | ((with_reducible refine Below.alloc ?_ ?_ _); rotate_left; (first | omega | (simp <;> omega))) | ((with_reducible refine Below.setCell ?_ ?_ _); rotate_left; (first | omega | (simp <;> omega))) | (with_reducible exact Below.refl _ _) | (with_reducible assumption)))) (HB.out.mono (by simp))
      exact ⟨ys, HLL.out, HA.out, rfl, by (repeat (first | (with_reducible refine Below.drewN ?_) | (with_reducible refine Below.drew ?_) | ((with_reducible refine Below.alloc ?_ ?_ _); rotate_left; (first | omega | (simp <;> omega))) | ((with_reducible refine Below.setCell ?_ ?_ _); rotate_left; (first | omega | (simp <;> omega))) | ((with_reducible refine Below.setCells ?_ ?_ _); rotate_left; (first | omega | (simp <;> omega))) | (with_reducible exact Below.refl _ _) | (with_reducible assumption)))⟩
theorem new_tab {ys zs : List Nat} {T : TypeId} (hl : ys.length = 257) (hz : zs.length = 257) : ∀ W : World, (bigStore ⟨W.heap.size, 0, none⟩ (arr ys).toList).run Try.prog (W.alloc (.cells (arr zs) T)) = .ok () (W.alloc (.cells (arr ys) T)) := fun W => by
  have := st_cells Try.prog W T (arr zs) (arr ys).toList (by simp [arr_size, hl, hz]) (arr_one ys)
  simpa using this
theorem c_sFrictionTable_no (s : Nat) (w : World) (h : finB s = false) : Calls Try.prog 18 #[.float .f32 s] w (NewT (fun _ => 0) 2 w) := by
  have hz := zTab_eq
  have b0 : ∀ q, blkAt (((w.alloc (.cells (arr zTab) 24)).alloc (.cells (arr zTab) 24)).drewN q) w.heap.size = some (.cells (arr zTab) 24) := fun q => (blk_drew _ _ _).trans ((blk_alloc_ne _ _ _ (by simp)).trans (blk_alloc _ _))
  have b1 : ∀ q, blkAt (((w.alloc (.cells (arr zTab) 24)).alloc (.cells (arr zTab) 24)).drewN q) (w.heap.size + 1) = some (.cells (arr zTab) 24) := fun q => (blk_drew _ _ _).trans (blk_alloc_at _ _ _ (by simp))
  have n0 := new_tab (T := 24) zTab_len zTab_len (w.alloc (.cells (arr zTab) 24))
  rw [show (w.alloc (.cells (arr zTab) 24)).heap.size = w.heap.size + 1 by simp] at n0
  have l1 := fun q => ld_tab (b1 q) zTab_len
  have s0 := fun q => st_tab (b0 q) zTab_len zTab_len
  have l0 := fun q => ld_tab (blk_tab (b0 q) zTab_len zTab_len) zTab_len
  have HL := Lib.hid zTab_len
  have HN := Lib.hid zTab_nth
  have hsz : (arr zTab).size = 257 := by rw [arr_size]; exact zTab_len
  generalize zTab = Z at *
  go_enter Try.func18, Try.ntmps18
  go_wp2_with (go_at_call 67; refine (c_l01Finite _ _).mono ?_; rw [h]; rintro e w' ⟨rfl, n1, rfl⟩)
  refine bodyPost_ret (v := ?v) (by simp [results, Try.results18, go_sem, *] <;> rfl) rfl ?_
  exact ⟨Z, HL.out, fun i _ => by rw [HN.out], rfl, by (repeat (first | (with_reducible refine Below.drewN ?_) | (with_reducible refine Below.drew ?_) | ((with_reducible refine Below.alloc ?_ ?_ _); rotate_left; (first | omega | (simp <;> omega))) | ((with_reducible refine Below.setCell ?_ ?_ _); rotate_left; (first | omega | (simp <;> omega))) | ((with_reducible refine Below.setCells ?_ ?_ _); rotate_left; (first | omega | (simp <;> omega))) | (with_reducible exact Below.refl _ _) | (with_reducible assumption)))⟩
set_option maxRecDepth 10000 in
set_option maxHeartbeats 1000000 in
theorem c_sFrictionTable_ok (s : Nat) (w : World) (h : finB s = true) : Calls Try.prog 18 #[.float .f32 s] w (NewT (fun i => friF s (frD i)) 0 w) := by
  have hz := zTab_eq
  have n0 := new_tab (T := 24) zTab_len zTab_len (w.alloc (.cells (arr zTab) 24))
  rw [show (w.alloc (.cells (arr zTab) 24)).heap.size = w.heap.size + 1 by simp] at n0
  have hsz : (arr zTab).size = 257 := by rw [arr_size]; exact zTab_len
  have HL := Lib.hid zTab_len
  generalize zTab = Z at *
  go_enter Try.func18, Try.ntmps18
  go_wp2_with (go_at_call 67; refine (c_l01Finite _ _).mono ?_; rw [h]; rintro e w' ⟨rfl, n1, rfl⟩)
  have F0 : FB (w.alloc (.cells (arr Z) 24)) (((w.alloc (.cells (arr Z) 24)).alloc (.cells (arr Z) 24)).drewN n1) (w.heap.size + 1) 0 (fun i => friF s (frD i)) Z := ⟨by (repeat (first | (with_reducible refine Below.drewN ?_) | (with_reducible refine Below.drew ?_) | ((with_reducible refine Below.alloc ?_ ?_ _); rotate_left; (first | omega | (simp <;> omega))) | ((with_reducible refine Below.setCell ?_ ?_ _); rotate_left; (first | omega | (simp <;> omega))) | (with_reducible exact Below.refl _ _) | (with_reducible assumption))), by simp, HL.out, (blk_drew _ _ _).trans (blk_alloc_at _ _ _ (by simp)), fun i hi => absurd hi (by omega)⟩
  go_loopw [5] (fun i wr => ∃ (k : Nat) (ys : List Nat), k ≤ 257 ∧ i = .int .i64 k ∧ FB (w.alloc (.cells (arr Z) 24)) wr (w.heap.size + 1) k (fun i => friF s (frD i)) ys) (fun i _ => 257 - (intOf i).toNat)
  case atStart => exact ⟨0, Z, by omega, rfl, F0⟩
  case round =>
    clear F0 n0
    have hle2 : True := trivial
    obtain ⟨k, ys, hk, rfl, hF⟩ := hrel
    by_cases hlt : k < 257
    · obtain ⟨d1, d2⟩ := frD_all ⟨k, hlt⟩
      simp only at d1 d2
      have hE : fop .sub .f32 (fop .quo .f32 (floatOfInt .f32 (k : Int)) 1124073472) 1065353216 = frD k := rfl
      have v1 : ∀ t, nv .f32 (fop .quo .f32 (floatOfInt .f32 (k : Int)) 1124073472) t = fop .quo .f32 (floatOfInt .f32 (k : Int)) 1124073472 := fun t => nv_of t d1
      have v2 : ∀ t, nv .f32 (frD k) t = frD k := fun t => nv_of t d2
      have hlen := hF.len
      have f0 := frozen_blk hF.blk k
      have c0 : wr.cell? ⟨w.heap.size + 1, k, none⟩ = some (.float .f32 (nth ys k)) := by rw [cell_blk hF.blk, arr_get _ _ (by omega)]
      have HS := Lib.hid (fun v hv q => hF.step hlt v hv q)
      have HC := Lib.hid (fun w => c_l05Friction s (frD k) w)
      have HR : Hid (friF s (frD k) = friF s (frD k)) := rfl
      generalize frD k = D at *
      clear d1 d2 hF
      go_wp2_with (go_at_call 68; refine (HC.out _).mono ?_; rintro e w' ⟨t2, n2, rfl, rfl⟩)
      go_roundw
      case rel => exact ⟨k + 1, _, by omega, by go_num, HS.out _ (up_nv _ _) _⟩
      case measure => simp [intOf]; omega
    · obtain rfl : k = 257 := by omega
      have hr : blkAt wr w.heap.size = some (.cells (arr Z) 24) := (hF.below.block w.heap.size (by simp)).trans (blk_alloc _ _)
      have l1 := ld_tab hF.blk hF.len
      have s1 := st_tab hr hF.len HL.out
      have l2 := ld_tab (blk_tab hr hF.len HL.out) hF.len
      have HB := Lib.hid hF.below
      have hsz : (arr ys).size = 257 := by rw [arr_size]; exact hF.len
      have HA := Lib.hid hF.at_
      have HLL := Lib.hid hF.len
      clear hF hr
      go_wp2
      refine bodyPost_ret (v := ?v) (by simp [results, Try.results18, go_sem, *] <;> rfl) rfl ?_
      have hB' : Below w.heap.size w wr := Below.trans (by (repeat (first | (with_reducible refine Below.drewN ?_) | (with_reducible refine Below.drew ?_) | ((with_reducible refine Below.alloc ?_ ?_ _); rotate_left; (first | omega | (simp <;> omega))) | ((with_reducible refine Below.setCell ?_ ?_ _); rotate_left; (first | omega | (simp <;> omega))) | (with_reducible exact Below.refl _ _) | (with_reducible assumption)))) (HB.out.mono (by simp))
      exact ⟨ys, HLL.out, HA.out, rfl, by (repeat (first | (with_reducible refine Below.drewN ?_) | (with_reducible refine Below.drew ?_) | ((with_reducible refine Below.alloc ?_ ?_ _); rotate_left; (first | omega | (simp <;> omega))) | ((with_reducible refine Below.setCell ?_ ?_ _); rotate_left; (first | omega | (simp <;> omega))) | ((with_reducible refine Below.setCells ?_ ?_ _); rotate_left; (first | omega | (simp <;> omega))) | (with_reducible exact Below.refl _ _) | (with_reducible assumption)))⟩
set_option maxRecDepth 10000 in
set_option maxHeartbeats 1000000 in
theorem c_eqTable (xs ys : List Nat) (w : World) (hx : xs.length = 257) (hy : ys.length = 257) (h : ∀ i, i < 257 → up (nth ys i) = up (nth xs i)) :
    Calls Try.prog 20 #[.agg (arr xs), .agg (arr ys)] w (RetV (.bool true) w) := by
  have c1 : ∀ k, k < 257 → ((w.alloc (.cells (arr xs) 24)).alloc (.cells (arr ys) 24)).cell? ⟨w.heap.size, k, none⟩ = some (.float .f32 (nth xs k)) := fun k hk => by
    rw [cell_old _ _ _ _ (by simp), cell_new, arr_get _ _ (by omega)]
  have c2 : ∀ k, k < 257 → ((w.alloc (.cells (arr xs) 24)).alloc (.cells (arr ys) 24)).cell? ⟨w.heap.size + 1, k, none⟩ = some (.float .f32 (nth ys k)) := fun k hk => by
    have := cell_new (w.alloc (.cells (arr xs) 24)) (arr ys) 24 k
    rw [show (w.alloc (.cells (arr xs) 24)).heap.size = w.heap.size + 1 by simp] at this
    rw [this, arr_get _ _ (by omega)]
  have C1 := Lib.hid c1
  have C2 := Lib.hid c2
  clear c1 c2 hx hy
  go_enter Try.func20, Try.ntmps20
  go_wp2
  go_loopw [5] (fun i wr => ∃ k : Nat, k ≤ 257 ∧ i = .int .i64 k ∧ ∃ n, wr = ((w.alloc (.cells (arr xs) 24)).alloc (.cells (arr ys) 24)).drewN n) (fun i _ => 257 - (intOf i).toNat)
  case atStart => exact ⟨0, by omega, rfl, 0, rfl⟩
  case round =>
    obtain ⟨k, hk, rfl, n, rfl⟩ := hrel
    by_cases hlt : k < 257
    · have d1 := C1.out k hlt
      have d2 := C2.out k hlt
      have hu := h k hlt
      go_wp2_with fail
      refine wp_region_sets' (by kernel_rfl) (by kernel_rfl) ?_
      apply Exists.intro
      iterate 10 (first | (apply lx_want; rfl; (intro n; go_simp; exact ⟨LF.mk _ _ _, _, (by first | rfl | exact congrArg _ (Nat.add_assoc _ _ _))⟩); rintro _ ⟨t, rfl⟩) | (apply lx_want; rfl; (intro n; go_simp; exact ⟨OneV.mk _, _, (by first | rfl | exact congrArg _ (Nat.add_assoc _ _ _))⟩); rintro _ rfl) | (apply lx_want; rfl; (intro n; go_simp; first | exact lx_callB (c_sameFloat _ _ _ _) | exact lx_callB2 (c_sameFloat _ _ _ _)); rintro _ rfl) | (apply lx_skip; rfl))
      (refine lx_nil (Vl := []) ?_; intro n; simp only [Act.put, List.setIfInBounds_toArray, List.set_cons_succ, List.set_cons_zero])
      go_wp2
      go_roundw
      case rel => exact ⟨k + 1, by omega, by go_num, _, rfl⟩
      case measure => simp [intOf]; omega
    · obtain rfl : k = 257 := by omega
      go_wp2
      go_ret
      exact ⟨rfl, by (repeat (first | (with_reducible refine Below.drewN ?_) | (with_reducible refine Below.drew ?_) | ((with_reducible refine Below.alloc ?_ ?_ _); rotate_left; (first | omega | (simp <;> omega))) | ((with_reducible refine Below.setCell ?_ ?_ _); rotate_left; (first | omega | (simp <;> omega))) | (with_reducible exact Below.refl _ _) | (with_reducible assumption)))⟩
theorem l_FrictionTable (s : Nat) (D : Nat → Nat) (code : Int) (w : World) (HS : ∀ w, Calls Try.prog 18 #[.float .f32 s] w (NewT D code w)) (HI : ∀ w, Calls Try.prog 19 #[.float .f32 s] w (NewT D code w)) :
    Calls Try.prog 3 #[.float .f32 s] w (RetV (.bool true) w) := by
  have HS := Lib.hid HS
  have HI := Lib.hid HI
  have hz := zTab_eq
  have hsz : (arr zTab).size = 257 := by rw [arr_size]; exact zTab_len
  have HL := Lib.hid zTab_len
  generalize zTab = Z at *
  go_enter Try.func3, Try.ntmps3
  go_wp2_with fail
  refine (HS.out _).mono ?_
  rintro e w1 ⟨xs, hx, hxd, rfl, hb1⟩
  have hsx : (arr xs).size = 257 := by rw [arr_size]; exact hx
  have n1 := new_tab (T := 24) hx HL.out w1
  go_wp2_with fail
  refine (HI.out _).mono ?_
  rintro e w2 ⟨ys, hy, hyd, rfl, hb2⟩
  have hsy : (arr ys).size = 257 := by rw [arr_size]; exact hy
  have n2 := new_tab (T := 24) hy HL.out w2
  have bx : blkAt w2 w1.heap.size = some (.cells (arr xs) 24) := (hb2.block _ (by simp)).trans (blk_alloc _ _)
  have lx : (bigCells ⟨w1.heap.size, 0, none⟩ 257).run Try.prog (w2.alloc (.cells (arr ys) 24)) = .ok (arr xs) (w2.alloc (.cells (arr ys) 24)) := ld_tab ((blk_alloc_ne _ _ _ (lt_of_blk bx)).trans bx) hx
  have ly : (bigCells ⟨w2.heap.size, 0, none⟩ 257).run Try.prog (w2.alloc (.cells (arr ys) 24)) = .ok (arr ys) (w2.alloc (.cells (arr ys) 24)) := ld_tab (blk_alloc _ _) hy
  have HB1 := Lib.hid hb1
  have HB2 := Lib.hid hb2
  have HE : Hid (∀ W, Calls Try.prog 20 #[.agg (arr ys), .agg (arr xs)] W (RetV (.bool true) W)) := fun W => c_eqTable ys xs W hy hx (fun i hi => (hxd i hi).trans (hyd i hi).symm)
  clear hb1 hb2 hx hy hxd hyd n1 bx
  go_wp2_with fail
  refine (HE.out _).mono ?_
  rintro e w3 ⟨rfl, hb3⟩
  have b1 := HB1.out
  have b2 : Below w.heap.size w w2 := b1.trans (Below.mono (Below.trans (by (repeat (first | (with_reducible refine Below.drewN ?_) | (with_reducible refine Below.drew ?_) | ((with_reducible refine Below.alloc ?_ ?_ _); rotate_left; (first | omega | (simp <;> omega))) | ((with_reducible refine Below.setCell ?_ ?_ _); rotate_left; (first | omega | (simp <;> omega))) | (with_reducible exact Below.refl _ _) | (with_reducible assumption)))) (HB2.out.mono (by simp))) b1.size)
  have z2 := b2.size
  have b3 : Below w.heap.size w w3 := Below.trans (by (repeat (first | (with_reducible refine Below.drewN ?_) | (with_reducible refine Below.drew ?_) | ((with_reducible refine Below.alloc ?_ ?_ _); rotate_left; (first | omega | (simp <;> omega))) | ((with_reducible refine Below.setCell ?_ ?_ _); rotate_left; (first | omega | (simp <;> omega))) | (with_reducible exact Below.refl _ _) | (with_reducible assumption)))) (hb3.mono (by have := b2.size; simp; omega))
  go_wp2
  go_ret
  exact ⟨rfl, by (repeat (first | (with_reducible refine Below.drewN ?_) | (with_reducible refine Below.drew ?_) | ((with_reducible refine Below.alloc ?_ ?_ _); rotate_left; (first | omega | (simp <;> omega))) | ((with_reducible refine Below.setCell ?_ ?_ _); rotate_left; (first | omega | (simp <;> omega))) | (with_reducible exact Below.refl _ _) | (with_reducible assumption)))⟩
theorem k_FrictionTable (s : Nat) (w : World) : Calls Try.prog 3 #[.float .f32 s] w (RetV (.bool true) w) := by
  cases h : finB s
  · exact l_FrictionTable s _ 2 w (fun w => c_sFrictionTable_no s w h) (fun w => c_FrictionTable_no s w h)
  · exact l_FrictionTable s _ 0 w (fun w => c_sFrictionTable_ok s w h) (fun w => c_FrictionTable_ok s w h)
end Go.Proofs.Ytdhiihmfgmempaa
