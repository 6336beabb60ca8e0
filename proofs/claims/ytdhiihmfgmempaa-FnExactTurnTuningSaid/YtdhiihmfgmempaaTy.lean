
/-
A tuning that begins with another degree: the reference; the law.
-/
import Derived.Test.YtdhiihmfgmempaaTx
namespace Go.Proofs.Ytdhiihmfgmempaa
open Go Go.RowKit Fl
theorem OF.wr0 {w w' : World} {g : Nat} {a : Option Addr} {n c : Nat} {xs : List Nat} {G : List Nat} (h : OF w g a n c xs) (hu : Wr G w w') (hg : 0 < n → g ∉ G) : OF w' g a n c xs :=
  ⟨h.fs.wr hu fun b o ha hn => by rw [h.blk b o ha hn]; exact hg hn, fun hn => by
    obtain ⟨o, ha, hf⟩ := h.own hn
    obtain ⟨b, o', ha', hbl, _⟩ := h.fs.at_ hn
    have : b = g := h.blk b o' ha' hn
    subst this
    exact ⟨o, ha, fun i hi => by rw [World.frozen?_of_block (hu.block b hbl (hg hn))]; exact hf i hi⟩⟩
theorem TB.draw {w0 w : World} {b ba oc : Nat} {a : Option Addr} {n c g : Nat} {xs : List Nat} (h : TB w0 w b ba oc a n c g xs) (q : Nat) : TB w0 (w.drewN q) b ba oc a n c g xs :=
  ⟨Below.drewN h.below, h.hb, h.blk, h.room.keep fun _ => rfl, h.own⟩
abbrev tyA (w : World) (ba oc : Nat) (a : Option Addr) (n c : Nat) : World := (w.alloc (.cells #[.float .f32 ba, .float .f32 oc, .slice a n c] 31)).alloc (.cells #[.float .f32 0, .float .f32 0, .slice none 0 0] 31)
theorem c_sTurnTuning_bad (ba oc : Nat) (a : Option Addr) (n c : Nat) (xs : List Nat) (dg : Int) (w : World) (h : FS w a n c xs) (hv : tunB ba oc xs n = false) :
    Calls Try.prog 65 #[.agg #[.float .f32 ba, .float .f32 oc, .slice a n c], .int .i64 dg] w (NewTuning 0 0 0 [] 1 w) := by
  have K1 := Lib.hid (hv ▸ c_l07Ok w.heap.size 0 ba oc a n c xs (tyA w ba oc a n c) ((h.alloc _).alloc _) (by simp) (by simp) (by simp))
  clear h hv
  go_enter Try.func65, Try.ntmps65
  go_wp2_with fail
  refine (K1.out).mono ?_
  rintro e w' ⟨rfl, n1, rfl⟩
  go_wp2
  refine bodyPost_ret (v := ?v) (by simp [results, Try.results65, go_sem, *] <;> rfl) rfl ?_
  exact ⟨none, 0, 0, 0, 0, rfl, by (repeat (first | (with_reducible refine Below.drewN ?_) | (with_reducible refine Below.drew ?_) | ((with_reducible refine Below.alloc ?_ ?_ _); rotate_left; (first | omega | (simp <;> omega))) | ((with_reducible refine Below.setCell ?_ ?_ _); rotate_left; (first | omega | (simp <;> omega))) | (with_reducible exact Below.refl _ _) | (with_reducible assumption))), by omega, OF.nil _ _⟩
theorem c_sTurnTuning_deg (ba oc : Nat) (a : Option Addr) (n c : Nat) (xs : List Nat) (dg : Int) (w : World) (h : FS w a n c xs) (hv : tunB ba oc xs n = true) (hd : inB dg 0 ((n : Int) - 1) = false) :
    Calls Try.prog 65 #[.agg #[.float .f32 ba, .float .f32 oc, .slice a n c], .int .i64 dg] w (NewTuning 0 0 0 [] 2 w) := by
  have hn := tunB_n hv
  have g : IntKind.i64.wrap ((n : Int) - 1) = (n : Int) - 1 := IntWalk.i64_in _ (by omega)
  have g0 : IntKind.i64.wrap (n : Int) = (n : Int) := IntWalk.i64_in _ (by omega)
  have K1 := Lib.hid (hv ▸ c_l07Ok w.heap.size 0 ba oc a n c xs (tyA w ba oc a n c) ((h.alloc _).alloc _) (by simp) (by simp) (by simp))
  clear h hv hn
  go_enter Try.func65, Try.ntmps65
  go_wp2_with fail
  refine (K1.out).mono ?_
  rintro e w' ⟨rfl, n1, rfl⟩
  go_wp2_with (go_at_call 72; refine (c_l00In _ _ _ _).mono ?_; rw [hd]; rintro e w' ⟨rfl, m1, rfl⟩)
  refine bodyPost_ret (v := ?v) (by simp [results, Try.results65, go_sem, *] <;> rfl) rfl ?_
  exact ⟨none, 0, 0, 0, 0, rfl, by (repeat (first | (with_reducible refine Below.drewN ?_) | (with_reducible refine Below.drew ?_) | ((with_reducible refine Below.alloc ?_ ?_ _); rotate_left; (first | omega | (simp <;> omega))) | ((with_reducible refine Below.setCell ?_ ?_ _); rotate_left; (first | omega | (simp <;> omega))) | (with_reducible exact Below.refl _ _) | (with_reducible assumption))), by omega, OF.nil _ _⟩
theorem c_sTurnTuning_hz (ba oc : Nat) (a : Option Addr) (n c : Nat) (xs : List Nat) (dg : Nat) (w : World) (h : FS w a n c xs) (hv : tunB ba oc xs n = true) (hd : dg < n) (hx : okX (hzX oc xs n dg) = false) :
    Calls Try.prog 65 #[.agg #[.float .f32 ba, .float .f32 oc, .slice a n c], .int .i64 dg] w (NewTuning 0 0 0 [] 2 w) := by
  have hn := tunB_n hv
  have g : IntKind.i64.wrap ((n : Int) - 1) = (n : Int) - 1 := IntWalk.i64_in _ (by omega)
  have g0 : IntKind.i64.wrap (n : Int) = (n : Int) := IntWalk.i64_in _ (by omega)
  have hdi : inB (dg : Int) 0 ((n : Int) - 1) = true := by unfold inB; rw [decide_eq_true (show (0 : Int) ≤ dg by omega), decide_eq_true (show (dg : Int) ≤ (n : Int) - 1 by omega)]; rfl
  have K1 := Lib.hid (hv ▸ c_l07Ok w.heap.size 0 ba oc a n c xs (tyA w ba oc a n c) ((h.alloc _).alloc _) (by simp) (by simp) (by simp))
  have K2 := Lib.hid (fun q => hx ▸ c_l07Hertz w.heap.size 0 ba oc a n c xs dg ((tyA w ba oc a n c).drewN q) (((h.alloc _).alloc _).below (below_drewN (Below.refl _ _) _) (Nat.le_refl _)) hn.1 hn.2 (by omega) (by omega) (by simp) (by simp) (by simp))
  generalize hzF ba (hzX oc xs n dg) = R at *
  clear h hv hn hd hx
  go_enter Try.func65, Try.ntmps65
  go_wp2_with fail
  refine (K1.out).mono ?_
  rintro e w' ⟨rfl, n1, rfl⟩
  go_wp2_with (first | (go_at_call 72; refine (c_l00In _ _ _ _).mono ?_; rw [hdi]; rintro e w' ⟨rfl, m1, rfl⟩) | (go_at_call 107; refine (K2.out _).mono ?_; rintro e w' ⟨t1, m2, rfl, rfl⟩))
  refine bodyPost_ret (v := ?v) (by simp [results, Try.results65, go_sem, *] <;> rfl) rfl ?_
  exact ⟨none, 0, 0, 0, 0, rfl, by (repeat (first | (with_reducible refine Below.drewN ?_) | (with_reducible refine Below.drew ?_) | ((with_reducible refine Below.alloc ?_ ?_ _); rotate_left; (first | omega | (simp <;> omega))) | ((with_reducible refine Below.setCell ?_ ?_ _); rotate_left; (first | omega | (simp <;> omega))) | (with_reducible exact Below.refl _ _) | (with_reducible assumption))), by omega, OF.nil _ _⟩
set_option maxRecDepth 10000 in
set_option maxHeartbeats 4000000 in
theorem c_sTurnTuning_go (ba oc : Nat) (a : Option Addr) (N c : Nat) (xs : List Nat) (dg : Nat) (w : World) (h : FS w a N c xs) (hv : tunB ba oc xs N = true) (hd : dg < N) (hx : okX (hzX oc xs N dg) = true) :
    Calls Try.prog 65 #[.agg #[.float .f32 ba, .float .f32 oc, .slice a N c], .int .i64 dg] w (TurnPost (hzF ba (hzX oc xs N dg)) oc N (tvP xs oc N dg N) w) := by
  have hn := tunB_n hv
  have g : IntKind.i64.wrap ((N : Int) - 1) = (N : Int) - 1 := IntWalk.i64_in _ (by omega)
  have g0 : IntKind.i64.wrap (N : Int) = (N : Int) := IntWalk.i64_in _ (by omega)
  have hdi : inB (dg : Int) 0 ((N : Int) - 1) = true := by unfold inB; rw [decide_eq_true (show (0 : Int) ≤ dg by omega), decide_eq_true (show (dg : Int) ≤ (N : Int) - 1 by omega)]; rfl
  have K1 := Lib.hid (hv ▸ c_l07Ok w.heap.size 0 ba oc a N c xs (tyA w ba oc a N c) ((h.alloc _).alloc _) (by simp) (by simp) (by simp))
  have K2 := Lib.hid (fun q => hx ▸ c_l07Hertz w.heap.size 0 ba oc a N c xs dg ((tyA w ba oc a N c).drewN q) (((h.alloc _).alloc _).below (below_drewN (Below.refl _ _) _) (Nat.le_refl _)) hn.1 hn.2 (by omega) (by omega) (by simp) (by simp) (by simp))
  have HN := Lib.hid (fun i hi => tvD_nan (i := i) hv hd hi)
  have HA : Hid (∀ i, i < N → isNaN .f32 (fop .add .f32 (nth xs i) oc) = false) := fun i hi => add_num ((tun_num hv).2.2 i hi) (tun_num hv).2.1
  generalize hzF ba (hzX oc xs N dg) = R at *
  obtain ⟨bl, o, rfl, hbl, hcell⟩ := h.at_ (by omega)
  have hcap := h.cap
  have hbig := h.big
  have HC := Lib.hid hcell
  clear h hv hx hcell
  go_enter Try.func65, Try.ntmps65
  go_wp2_with fail
  refine (K1.out).mono ?_
  rintro e w' ⟨rfl, n1, rfl⟩
  go_wp2_with (first | (go_at_call 72; refine (c_l00In _ _ _ _).mono ?_; rw [hdi]; rintro e w' ⟨rfl, m1, rfl⟩) | (go_at_call 107; refine (K2.out _).mono ?_; rintro e w' ⟨tt, m2, rfl, rfl⟩))
  have T0 : TB (tyA w ba oc (some ⟨bl, o, none⟩) N c) (((tyA w ba oc (some ⟨bl, o, none⟩) N c).drewN (n1 + m1 + m2)).alloc (.cells #[.float .f32 (nv .f32 R tt), .float .f32 oc, .slice none 0 0] 31)) (w.heap.size + 1 + 1) (nv .f32 R tt) oc none 0 0 0 [] := TB.start (by (repeat (first | (with_reducible refine Below.drewN ?_) | (with_reducible refine Below.drew ?_) | ((with_reducible refine Below.alloc ?_ ?_ _); rotate_left; (first | omega | (simp <;> omega))) | ((with_reducible refine Below.setCell ?_ ?_ _); rotate_left; (first | omega | (simp <;> omega))) | (with_reducible exact Below.refl _ _) | (with_reducible assumption)))) (by simp) (blk_alloc_at _ _ _ (by simp))
  have tk : blkAt (tyA w ba oc (some ⟨bl, o, none⟩) N c) w.heap.size = some (.cells #[.float .f32 ba, .float .f32 oc, .slice (some ⟨bl, o, none⟩) N c] 31) := (blk_alloc_ne _ _ _ (by simp)).trans (blk_alloc _ _)
  have tz : blkAt (tyA w ba oc (some ⟨bl, o, none⟩) N c) (w.heap.size + 1) = some (.cells #[.float .f32 0, .float .f32 0, .slice none 0 0] 31) := blk_alloc_at _ _ _ (by simp)
  have ts : (tyA w ba oc (some ⟨bl, o, none⟩) N c).heap.size = w.heap.size + 1 + 1 := by simp
  have HB2 : Hid (Below w.heap.size w (tyA w ba oc (some ⟨bl, o, none⟩) N c)) := by show Below _ _ _; (repeat (first | (with_reducible refine Below.drewN ?_) | (with_reducible refine Below.drew ?_) | ((with_reducible refine Below.alloc ?_ ?_ _); rotate_left; (first | omega | (simp <;> omega))) | ((with_reducible refine Below.setCell ?_ ?_ _); rotate_left; (first | omega | (simp <;> omega))) | (with_reducible exact Below.refl _ _) | (with_reducible assumption)))
  generalize tyA w ba oc (some ⟨bl, o, none⟩) N c = W2 at *
  have hne : ¬ (N : Int) = 0 := by omega
  have hne2 : ¬ N = 0 := by omega
  go_loopw [10] (fun i wr => ∃ (k : Nat) (a : Option Addr) (c g : Nat), k ≤ N ∧ i = .int .i64 k ∧ TB W2 wr (w.heap.size + 1 + 1) (nv .f32 R tt) oc a k c g (tvP xs oc N dg k)) (fun i _ => N - (intOf i).toNat)
  case atStart => exact ⟨0, _, _, _, by omega, rfl, T0⟩
  case round =>
    clear T0 K1 K2
    obtain ⟨k, a, c', g', hk, rfl, hT⟩ := hrel
    obtain ⟨e0, e1, e2, ef⟩ := hT.cells
    have kr : blkAt wr w.heap.size = some (.cells #[.float .f32 ba, .float .f32 oc, .slice (some ⟨bl, o, none⟩) N c] 31) := (hT.below.block w.heap.size (by omega)).trans tk
    obtain ⟨t0, t1, t2, _, _, _⟩ := three_cells kr
    have hcell : ∀ i, i < N → wr.cell? ⟨bl, o + i, none⟩ = some (.float .f32 (nth xs i)) := fun i hi => by
      rw [hT.below.cell (p := ⟨bl, o + i, none⟩) (Nat.lt_of_lt_of_le hbl HB2.out.size), HB2.out.cell (p := ⟨bl, o + i, none⟩) hbl]
      exact HC.out _ hi
    have zb : w.heap.size + 1 + 1 < wr.heap.size := lt_of_blk hT.blk
    have za : w.heap.size < wr.heap.size := by omega
    have zc : bl < wr.heap.size := by omega
    by_cases hlt : k < N
    · have g1 : IntKind.i64.wrap ((dg : Int) + (k : Int)) = (dg : Int) + (k : Int) := IntWalk.i64_in _ (by omega)
      have hd0 := hcell dg hd
      have hn' := HN.out k hlt
      have hv : ∀ t, nv .f32 (tvD xs oc N dg k) t = tvD xs oc N dg k := fun t => nv_of t hn'
      have HP := Lib.hid (tvP_succ xs oc N dg k)
      by_cases hlt4 : dg + k < N
      · have hrem : ((dg : Int) + (k : Int)).tmod N = ((dg + k : Nat) : Int) := by rw [Int.tmod_eq_emod_of_nonneg (by omega), Int.emod_eq_of_lt (by omega) (by omega)]; omega
        have hge : ¬ ((dg : Int) + (k : Int) ≥ N) := by omega
        have hE : fop .sub .f32 (nth xs (dg + k)) (nth xs dg) = tvD xs oc N dg k := by unfold tvD; rw [if_pos hlt4]
        have hdk := hcell (dg + k) hlt4
        have w3 : IntKind.i64.wrap ((dg + k : Nat) : Int) = ((dg + k : Nat) : Int) := IntWalk.i64_in _ (by omega)
        generalize hD : dg + k = D at *
        clear hcell
        go_wp2
        refine wp_region_sets' (by kernel_rfl) (by kernel_rfl) ?_
        apply Exists.intro
        iterate 8 (apply lx_want; kernel_rfl; (intro n; go_simp; exact ⟨OneV.mk _, _, (by first | rfl | exact congrArg _ (Nat.add_assoc _ _ _))⟩); rintro _ rfl)
        (refine lx_nil (Vl := []) ?_; intro n; simp only [Act.put, List.setIfInBounds_toArray, List.set_cons_succ, List.set_cons_zero])
        go_wp2
        have hT := hT.draw n
        clear e0 e1 e2 ef kr t0 t1 t2 hd0 hdk zb za zc
        generalize wr.drewN n = wq at *
        obtain ⟨e0, e1, e2, ef⟩ := hT.cells
        have kr : blkAt wq w.heap.size = some (.cells #[.float .f32 ba, .float .f32 oc, .slice (some ⟨bl, o, none⟩) N c] 31) := (hT.below.block w.heap.size (by omega)).trans tk
        obtain ⟨t0, t1, t2, _, _, _⟩ := three_cells kr
        have zb : w.heap.size + 1 + 1 < wq.heap.size := lt_of_blk hT.blk
        have za : w.heap.size < wq.heap.size := by omega
        have zc : bl < wq.heap.size := by omega
        have hd0 : wq.cell? ⟨bl, o + dg, none⟩ = some (.float .f32 (nth xs dg)) := by
          rw [hT.below.cell (p := ⟨bl, o + dg, none⟩) (Nat.lt_of_lt_of_le hbl HB2.out.size), HB2.out.cell (p := ⟨bl, o + dg, none⟩) hbl]
          exact HC.out _ hd
        have HVV := Lib.hid hv
        clear hv
        (refine wp_region_pre 10 [] [9] (by kernel_rfl) (by simp) (by kernel_rfl) (by kernel_rfl) (by kernel_rfl) ?_; simp only [List.take_succ_cons, List.take_zero]; apply Exists.intro)
        iterate 8 (apply lh_o; kernel_rfl; kernel_rfl; kernel_rfl; (intro W hW; have hWc := Grow.cells hW; go_simp; exact ⟨OneV.mk _, Grow.refl _⟩))
        (apply lh_f; kernel_rfl; kernel_rfl; kernel_rfl; (intro W hW; have hWc := Grow.cells hW; go_simp; exact ⟨LF.mk _ _ _, Grow.drew _ _⟩); intro t)
        (apply lh_new; kernel_rfl; kernel_rfl; kernel_rfl; (intro W hW; have hWc := Grow.cells hW; go_simp; rw [HVV.out]; exact ⟨NewAt.mk _ _ _ _, Grow.alloc _ _⟩); intro gg hfr)
        refine lh_nil ?_
        intro W hW
        obtain ⟨hG, hg⟩ := hW
        obtain ⟨a', c2, g2, W', hap, ⟨hcW, hfW⟩, hT'⟩ := hT.step (by omega) W hG gg _ (cell_blk hg 0)
        clear hg
        simp only [Act.put, List.setIfInBounds_toArray, List.set_cons_succ, List.set_cons_zero]
        (refine wpAny_step (i := 10) (by kernel_rfl) rfl rfl (fun K hK => ?_); go_simp; refine hK _ _ ?_; clear hK; try simp only [Act.put, List.setIfInBounds_toArray, List.set_cons_succ, List.set_cons_zero])
        (refine wpAny_step (i := 11) (by kernel_rfl) rfl rfl (fun K hK => ?_); go_simp; refine hK _ _ ?_; clear hK; try simp only [Act.put, List.setIfInBounds_toArray, List.set_cons_succ, List.set_cons_zero])
        (refine wpAny_step (i := 12) (by kernel_rfl) rfl rfl (fun K hK => ?_); go_simp; refine hK _ _ ?_; clear hK; try simp only [Act.put, List.setIfInBounds_toArray, List.set_cons_succ, List.set_cons_zero])
        refine wpAny_end (by kernel_rfl) ?_
        go_wp2
        go_roundw
        case rel => exact ⟨k + 1, a', c2, g2, by omega, by go_num, by rw [HP.out]; exact hT'⟩
        case measure => simp [intOf]; omega
      · have hlt5 : dg + k - N < N := by omega
        have hrem : ((dg : Int) + (k : Int)).tmod N = ((dg + k - N : Nat) : Int) := by
          rw [Int.tmod_eq_emod_of_nonneg (by omega), show ((dg : Int) + (k : Int)) = ((dg + k - N : Nat) : Int) + N by omega, Int.add_emod_right, Int.emod_eq_of_lt (by omega) (by omega)]
        have hge : ((dg : Int) + (k : Int) ≥ N) := by omega
        have hE : fop .sub .f32 (fop .add .f32 (nth xs (dg + k - N)) oc) (nth xs dg) = tvD xs oc N dg k := by unfold tvD; rw [if_neg hlt4]
        have hdk := hcell (dg + k - N) hlt5
        have hA := HA.out (dg + k - N) hlt5
        have hva : ∀ t, nv .f32 (fop .add .f32 (nth xs (dg + k - N)) oc) t = fop .add .f32 (nth xs (dg + k - N)) oc := fun t => nv_of t hA
        have hdna : dn .f32 (fop .add .f32 (nth xs (dg + k - N)) oc) = 0 := by unfold dn; rw [hA]; rfl
        have w3 : IntKind.i64.wrap ((dg + k - N : Nat) : Int) = ((dg + k - N : Nat) : Int) := IntWalk.i64_in _ (by omega)
        generalize hD : dg + k - N = D at *
        generalize hS : fop .add .f32 (nth xs D) oc = S at *
        clear hcell hA hD
        go_wp2
        refine wp_region_sets' (by kernel_rfl) (by kernel_rfl) ?_
        apply Exists.intro
        iterate 8 (apply lx_want; kernel_rfl; (intro n; go_simp; exact ⟨OneV.mk _, _, (by first | rfl | exact congrArg _ (Nat.add_assoc _ _ _))⟩); rintro _ rfl)
        (refine lx_nil (Vl := []) ?_; intro n; simp only [Act.put, List.setIfInBounds_toArray, List.set_cons_succ, List.set_cons_zero])
        go_wp2
        have hT := hT.draw n
        clear e0 e1 e2 ef kr t0 t1 t2 hd0 hdk zb za zc
        generalize wr.drewN n = wq at *
        obtain ⟨e0, e1, e2, ef⟩ := hT.cells
        have kr : blkAt wq w.heap.size = some (.cells #[.float .f32 ba, .float .f32 oc, .slice (some ⟨bl, o, none⟩) N c] 31) := (hT.below.block w.heap.size (by omega)).trans tk
        obtain ⟨t0, t1, t2, _, _, _⟩ := three_cells kr
        have zb : w.heap.size + 1 + 1 < wq.heap.size := lt_of_blk hT.blk
        have za : w.heap.size < wq.heap.size := by omega
        have zc : bl < wq.heap.size := by omega
        have hd0 : wq.cell? ⟨bl, o + dg, none⟩ = some (.float .f32 (nth xs dg)) := by
          rw [hT.below.cell (p := ⟨bl, o + dg, none⟩) (Nat.lt_of_lt_of_le hbl HB2.out.size), HB2.out.cell (p := ⟨bl, o + dg, none⟩) hbl]
          exact HC.out _ hd
        have HVV := Lib.hid hv
        clear hv
        (refine wp_region_pre 10 [] [9] (by kernel_rfl) (by simp) (by kernel_rfl) (by kernel_rfl) (by kernel_rfl) ?_; simp only [List.take_succ_cons, List.take_zero]; apply Exists.intro)
        iterate 8 (apply lh_o; kernel_rfl; kernel_rfl; kernel_rfl; (intro W hW; have hWc := Grow.cells hW; go_simp; exact ⟨OneV.mk _, Grow.refl _⟩))
        (apply lh_f; kernel_rfl; kernel_rfl; kernel_rfl; (intro W hW; have hWc := Grow.cells hW; go_simp; exact ⟨LF.mk _ _ _, Grow.drew _ _⟩); intro t)
        (apply lh_new; kernel_rfl; kernel_rfl; kernel_rfl; (intro W hW; have hWc := Grow.cells hW; go_simp; rw [HVV.out]; exact ⟨NewAt.mk _ _ _ _, Grow.alloc _ _⟩); intro gg hfr)
        refine lh_nil ?_
        intro W hW
        obtain ⟨hG, hg⟩ := hW
        obtain ⟨a', c2, g2, W', hap, ⟨hcW, hfW⟩, hT'⟩ := hT.step (by omega) W hG gg _ (cell_blk hg 0)
        clear hg
        simp only [Act.put, List.setIfInBounds_toArray, List.set_cons_succ, List.set_cons_zero]
        (refine wpAny_step (i := 10) (by kernel_rfl) rfl rfl (fun K hK => ?_); go_simp; refine hK _ _ ?_; clear hK; try simp only [Act.put, List.setIfInBounds_toArray, List.set_cons_succ, List.set_cons_zero])
        (refine wpAny_step (i := 11) (by kernel_rfl) rfl rfl (fun K hK => ?_); go_simp; refine hK _ _ ?_; clear hK; try simp only [Act.put, List.setIfInBounds_toArray, List.set_cons_succ, List.set_cons_zero])
        (refine wpAny_step (i := 12) (by kernel_rfl) rfl rfl (fun K hK => ?_); go_simp; refine hK _ _ ?_; clear hK; try simp only [Act.put, List.setIfInBounds_toArray, List.set_cons_succ, List.set_cons_zero])
        refine wpAny_end (by kernel_rfl) ?_
        go_wp2
        go_roundw
        case rel => exact ⟨k + 1, a', c2, g2, by omega, by go_num, by rw [HP.out]; exact hT'⟩
        case measure => simp [intOf]; omega
    · obtain rfl : k = N := by omega
      have HR := Lib.hid hT.room.of
      have HBT := Lib.hid hT.below
      have HO := Lib.hid hT.own
      have HL := Lib.hid (fun h => hT.room.lt h)
      have HCC := Lib.hid hT.room.le
      have KV := Lib.hid (c_l07Ok (w.heap.size + 1 + 1) 0 (nv .f32 R tt) oc a k c' _ wr hT.room.of.fs e0 e1 e2)
      rw [tunB_nv] at KV
      have rr : blkAt wr (w.heap.size + 1) = some (.cells #[.float .f32 0, .float .f32 0, .slice none 0 0] 31) := (hT.below.block _ (by omega)).trans tz
      obtain ⟨s0, s1, s2, s3, s4, s5⟩ := three_cells rr
      have hB3 : Below w.heap.size w wr := HB2.out.trans (HBT.out.mono HB2.out.size)
      clear hT hcell rr kr t0 t1 t2
      cases hval : tunB R oc (tvP xs oc k dg k) k
      · have HV := Lib.hid hval
        rw [hval] at KV
        clear hval
        go_wp2_with fail
        refine (KV.out).mono ?_
        rintro e w' ⟨rfl, m3, rfl⟩
        go_wp2
        refine bodyPost_ret (v := ?v) (by simp [results, Try.results65, go_sem, *] <;> rfl) rfl ?_
        exact TurnPost.no HV.out ⟨none, 0, 0, 0, 0, rfl, by (repeat (first | (with_reducible refine Below.drewN ?_) | (with_reducible refine Below.drew ?_) | ((with_reducible refine Below.alloc ?_ ?_ _); rotate_left; (first | omega | (simp <;> omega))) | ((with_reducible refine Below.setCell ?_ ?_ _); rotate_left; (first | omega | (simp <;> omega))) | (with_reducible exact Below.refl _ _) | (with_reducible assumption))), by omega, OF.nil _ _⟩
      · have HV := Lib.hid hval
        rw [hval] at KV
        clear hval
        go_wp2_with fail
        refine (KV.out).mono ?_
        rintro e w' ⟨rfl, m3, rfl⟩
        go_wp2
        refine bodyPost_ret (v := ?v2) (by simp [results, Try.results65, go_sem, *] <;> rfl) rfl ?_
        have hc0 : 0 < c' := by have := HCC.out; omega
        have ho := HO.out hc0
        have hg2 : g' ≠ w.heap.size + 1 := by omega
        have hR' := HR.out
        exact TurnPost.yes HV.out ⟨a, c', g', tt, 0, rfl, by (repeat (first | (with_reducible refine Below.drewN ?_) | (with_reducible refine Below.drew ?_) | ((with_reducible refine Below.alloc ?_ ?_ _); rotate_left; (first | omega | (simp <;> omega))) | ((with_reducible refine Below.setCell ?_ ?_ _); rotate_left; (first | omega | (simp <;> omega))) | (with_reducible exact Below.refl _ _) | (with_reducible assumption))), fun _ => ⟨by omega, by have := HL.out hc0; simp; omega⟩, by (repeat (first | (with_reducible assumption) | (with_reducible refine OF.draw ?_) | (with_reducible exact OF.made' (by simp) (by simp) (by omega)) | (with_reducible refine OF.alloc ?_ _) | ((with_reducible refine OF.setCell ?_ ?_ _); rotate_left; (first | omega | (simp <;> omega)))))⟩
set_option maxRecDepth 100000 in
set_option maxHeartbeats 2000000 in
theorem l_TurnTuning (x1 : Nat) (x2 : Nat) (a1 : Option Addr) (n1 c1 : Nat) (xs1 : List Nat) (dg : Int) (r_x1 : Nat) (r_x2 : Nat) (r_n1 : Nat) (r_xs1 : List Nat) (code : Int) (w : World) (h_1 : FS w a1 n1 c1 xs1) (r_m1 : r_n1 ≤ 1048576)
    (HS : ∀ W (d1 : Option Addr) (e1 : Nat), FS W d1 n1 e1 xs1 → Calls Try.prog 65 #[.agg #[.float .f32 x1, .float .f32 x2, .slice d1 n1 e1], .int .i64 dg] W (NewTuning r_x1 r_x2 r_n1 r_xs1 code W))
    (HI : ∀ W (d1 : Option Addr) (e1 : Nat), FS W d1 n1 e1 xs1 → Calls Try.prog 66 #[.agg #[.float .f32 x1, .float .f32 x2, .slice d1 n1 e1], .int .i64 dg] W (NewTuning r_x1 r_x2 r_n1 r_xs1 code W)) :
    Calls Try.prog 17 #[.agg #[.float .f32 x1, .float .f32 x2, .slice a1 n1 c1], .int .i64 dg] w (RetV (.bool true) w) := by
  have HS := Lib.hid HS
  have HI := Lib.hid HI
  have M1 : n1 ≤ 9223372036854775807 := Nat.le_trans h_1.cap h_1.big
  have H1 := Lib.hid h_1
  clear h_1
  by_cases ht : (n1 : Int) ≤ 1048576
  rotate_left
  · go_enter Try.func17, Try.ntmps17
    go_wp2_with fail
    refine (c_szTuning_no _ _ _ _ _ (1048576) _ (by omega) (by omega) M1 (by omega)).mono ?_
    rintro e w1 ⟨rfl, hb1⟩
    obtain ⟨hc1, hf1, hz1⟩ := bcell hb1
    have hk1 := bblk hb1
    have Z1 : w.heap.size ≤ w1.heap.size := by first | exact hz1 | (simp at hz1; omega) | omega
    try (have ZS1 : w.heap.size < w1.heap.size := by first | omega | (simp at hz1; omega))
    try (have Xw_1 : w.heap.size < w1.heap.size := by first | omega | (simp at hz1; omega))
    try (have XXw_1 : w.heap.size < w1.heap.size + 1 := by omega)
    have b1 : Below w.heap.size w w1 := Below.trans (by (repeat (first | (with_reducible refine Below.drewN ?_) | (with_reducible refine Below.drew ?_) | ((with_reducible refine Below.alloc ?_ ?_ _); rotate_left; (first | omega | (simp <;> omega))) | ((with_reducible refine Below.setCell ?_ ?_ _); rotate_left; (first | omega | (simp <;> omega))) | (with_reducible exact Below.refl _ _) | (with_reducible assumption)))) (hb1.mono (by first | omega | (simp <;> omega)))
    go_wp2
    go_ret
    exact ⟨rfl, by (repeat (first | (with_reducible refine Below.drewN ?_) | (with_reducible refine Below.drew ?_) | ((with_reducible refine Below.alloc ?_ ?_ _); rotate_left; (first | omega | (simp <;> omega))) | ((with_reducible refine Below.setCell ?_ ?_ _); rotate_left; (first | omega | (simp <;> omega))) | (with_reducible exact Below.refl _ _) | (with_reducible assumption)))⟩
  have hl : ¬ (1048576 - n1 : Int) < 0 := by omega
  have hq : ¬ (1 + (n1 : Int)) < 0 := by omega
  have hq2 : ¬ (1 + (r_n1 : Int)) < 0 := by omega
  go_enter Try.func17, Try.ntmps17
  go_wp2_with fail
  refine (c_szTuning_ok _ _ _ _ _ (1048576) _ (by omega) (by omega) M1 (by omega)).mono ?_
  rintro e w1 ⟨rfl, hb1⟩
  obtain ⟨hc1, hf1, hz1⟩ := bcell hb1
  have hk1 := bblk hb1
  have Z1 : w.heap.size ≤ w1.heap.size := by first | exact hz1 | (simp at hz1; omega) | omega
  try (have ZS1 : w.heap.size < w1.heap.size := by first | omega | (simp at hz1; omega))
  try (have Xw_1 : w.heap.size < w1.heap.size := by first | omega | (simp at hz1; omega))
  try (have XXw_1 : w.heap.size < w1.heap.size + 1 := by omega)
  have b1 : Below w.heap.size w w1 := Below.trans (by (repeat (first | (with_reducible refine Below.drewN ?_) | (with_reducible refine Below.drew ?_) | ((with_reducible refine Below.alloc ?_ ?_ _); rotate_left; (first | omega | (simp <;> omega))) | ((with_reducible refine Below.setCell ?_ ?_ _); rotate_left; (first | omega | (simp <;> omega))) | (with_reducible exact Below.refl _ _) | (with_reducible assumption)))) (hb1.mono (by first | omega | (simp <;> omega)))
  go_wp2_with fail
  refine (c_toTuning' x1 x2 a1 n1 c1 xs1 _ (FS.below (B := w.heap.size) H1.out (by (repeat (first | (with_reducible refine Below.drewN ?_) | (with_reducible refine Below.drew ?_) | ((with_reducible refine Below.alloc ?_ ?_ _); rotate_left; (first | omega | (simp <;> omega))) | ((with_reducible refine Below.setCell ?_ ?_ _); rotate_left; (first | omega | (simp <;> omega))) | (with_reducible exact Below.refl _ _) | (with_reducible assumption)))) (Nat.le_refl _)) (by omega)).mono ?_
  rintro e w2 ⟨g1v, rfl, hb2, l0v, l1v, o1v_2⟩
  obtain ⟨hc2, hf2, hz2⟩ := bcell hb2
  have hk2 := bblk hb2
  have Z2 : w1.heap.size ≤ w2.heap.size := by first | exact hz2 | (simp at hz2; omega) | omega
  try (have ZS2 : w1.heap.size < w2.heap.size := by first | omega | (simp at hz2; omega))
  try (have Xw_2 : w.heap.size < w2.heap.size := by first | omega | (simp at hz2; omega))
  try (have XXw_2 : w.heap.size < w2.heap.size + 1 := by omega)
  have b2 : Below w.heap.size w w2 := Below.trans (by (repeat (first | (with_reducible refine Below.drewN ?_) | (with_reducible refine Below.drew ?_) | ((with_reducible refine Below.alloc ?_ ?_ _); rotate_left; (first | omega | (simp <;> omega))) | ((with_reducible refine Below.setCell ?_ ?_ _); rotate_left; (first | omega | (simp <;> omega))) | (with_reducible exact Below.refl _ _) | (with_reducible assumption)))) (hb2.mono (by first | omega | (simp <;> omega)))
  try simp at l0v
  have q1v : w1.heap.size ≤ g1v ∧ g1v < w2.heap.size := by omega
  go_wp2_with fail
  refine (HS.out _ _ _ (FS.below (B := w2.heap.size) o1v_2.fs (by (repeat (first | (with_reducible refine Below.drewN ?_) | (with_reducible refine Below.drew ?_) | ((with_reducible refine Below.alloc ?_ ?_ _); rotate_left; (first | omega | (simp <;> omega))) | ((with_reducible refine Below.setCell ?_ ?_ _); rotate_left; (first | omega | (simp <;> omega))) | (with_reducible exact Below.refl _ _) | (with_reducible assumption)))) (Nat.le_refl _))).mono ?_
  rintro e w3 ⟨a1s, c1s, g1s, t_x1s, t_x2s, rfl, hb3, q01s, o1s_3⟩
  obtain ⟨hc3, hf3, hz3⟩ := bcell hb3
  have hk3 := bblk hb3
  have Z3 : w2.heap.size ≤ w3.heap.size := by first | exact hz3 | (simp at hz3; omega) | omega
  try (have ZS3 : w2.heap.size < w3.heap.size := by first | omega | (simp at hz3; omega))
  try (have Xw_3 : w.heap.size < w3.heap.size := by first | omega | (simp at hz3; omega))
  try (have XXw_3 : w.heap.size < w3.heap.size + 1 := by omega)
  try (have Xw2_3 : w2.heap.size < w3.heap.size := by first | omega | (simp at hz3; omega))
  try (have XXw2_3 : w2.heap.size < w3.heap.size + 1 := by omega)
  have b3 : Below w.heap.size w w3 := Below.trans (by (repeat (first | (with_reducible refine Below.drewN ?_) | (with_reducible refine Below.drew ?_) | ((with_reducible refine Below.alloc ?_ ?_ _); rotate_left; (first | omega | (simp <;> omega))) | ((with_reducible refine Below.setCell ?_ ?_ _); rotate_left; (first | omega | (simp <;> omega))) | (with_reducible exact Below.refl _ _) | (with_reducible assumption)))) (hb3.mono (by first | omega | (simp <;> omega)))
  have q1s : 0 < r_n1 → w2.heap.size ≤ g1s ∧ g1s < w3.heap.size := fun h => by have := q01s h; first | omega | (simp at this; omega)
  try (have qs1s : 0 < r_n1 → w2.heap.size < g1s := fun h => by have := q01s h; first | omega | (simp at this; omega))
  have o1v_3 := OF.below (g := g1v) (a := (some ⟨g1v, 0, none⟩)) (n := n1) (c := n1) (xs := xs1) (by (repeat (first | (with_reducible assumption) | (with_reducible refine OF.draw ?_) | (with_reducible exact OF.made' (by simp) (by simp) (by omega)) | (with_reducible refine OF.alloc ?_ _) | ((with_reducible refine OF.setCell ?_ ?_ _); rotate_left; (first | omega | (simp <;> omega)))))) hb3 (Nat.le_refl _)
  clear o1v_2
  go_wp2_with fail
  refine (c_toTuning' x1 x2 a1 n1 c1 xs1 _ (FS.below (B := w.heap.size) H1.out (by (repeat (first | (with_reducible refine Below.drewN ?_) | (with_reducible refine Below.drew ?_) | ((with_reducible refine Below.alloc ?_ ?_ _); rotate_left; (first | omega | (simp <;> omega))) | ((with_reducible refine Below.setCell ?_ ?_ _); rotate_left; (first | omega | (simp <;> omega))) | (with_reducible exact Below.refl _ _) | (with_reducible assumption)))) (Nat.le_refl _)) (by omega)).mono ?_
  rintro e w4 ⟨g1x, rfl, hb4, l0x, l1x, o1x_4⟩
  obtain ⟨hc4, hf4, hz4⟩ := bcell hb4
  have hk4 := bblk hb4
  have Z4 : w3.heap.size ≤ w4.heap.size := by first | exact hz4 | (simp at hz4; omega) | omega
  try (have ZS4 : w3.heap.size < w4.heap.size := by first | omega | (simp at hz4; omega))
  try (have Xw_4 : w.heap.size < w4.heap.size := by first | omega | (simp at hz4; omega))
  try (have XXw_4 : w.heap.size < w4.heap.size + 1 := by omega)
  try (have Xw2_4 : w2.heap.size < w4.heap.size := by first | omega | (simp at hz4; omega))
  try (have XXw2_4 : w2.heap.size < w4.heap.size + 1 := by omega)
  try (have Xw3_4 : w3.heap.size < w4.heap.size := by first | omega | (simp at hz4; omega))
  try (have XXw3_4 : w3.heap.size < w4.heap.size + 1 := by omega)
  have b4 : Below w.heap.size w w4 := Below.trans (by (repeat (first | (with_reducible refine Below.drewN ?_) | (with_reducible refine Below.drew ?_) | ((with_reducible refine Below.alloc ?_ ?_ _); rotate_left; (first | omega | (simp <;> omega))) | ((with_reducible refine Below.setCell ?_ ?_ _); rotate_left; (first | omega | (simp <;> omega))) | (with_reducible exact Below.refl _ _) | (with_reducible assumption)))) (hb4.mono (by first | omega | (simp <;> omega)))
  try simp at l0x
  have q1x : w3.heap.size ≤ g1x ∧ g1x < w4.heap.size := by omega
  have o1s_4 := OF.below (g := g1s) (a := a1s) (n := r_n1) (c := c1s) (xs := r_xs1) (by (repeat (first | (with_reducible assumption) | (with_reducible refine OF.draw ?_) | (with_reducible exact OF.made' (by simp) (by simp) (by omega)) | (with_reducible refine OF.alloc ?_ _) | ((with_reducible refine OF.setCell ?_ ?_ _); rotate_left; (first | omega | (simp <;> omega)))))) hb4 (Nat.le_refl _)
  clear o1s_3
  go_wp2_with fail
  refine (HI.out _ _ _ (FS.below (B := w4.heap.size) o1x_4.fs (by (repeat (first | (with_reducible refine Below.drewN ?_) | (with_reducible refine Below.drew ?_) | ((with_reducible refine Below.alloc ?_ ?_ _); rotate_left; (first | omega | (simp <;> omega))) | ((with_reducible refine Below.setCell ?_ ?_ _); rotate_left; (first | omega | (simp <;> omega))) | (with_reducible exact Below.refl _ _) | (with_reducible assumption)))) (Nat.le_refl _))).mono ?_
  rintro e w5 ⟨a1i, c1i, g1i, t_x1i, t_x2i, rfl, hb5, q01i, o1i_5⟩
  obtain ⟨hc5, hf5, hz5⟩ := bcell hb5
  have hk5 := bblk hb5
  have Z5 : w4.heap.size ≤ w5.heap.size := by first | exact hz5 | (simp at hz5; omega) | omega
  try (have ZS5 : w4.heap.size < w5.heap.size := by first | omega | (simp at hz5; omega))
  try (have Xw_5 : w.heap.size < w5.heap.size := by first | omega | (simp at hz5; omega))
  try (have XXw_5 : w.heap.size < w5.heap.size + 1 := by omega)
  try (have Xw2_5 : w2.heap.size < w5.heap.size := by first | omega | (simp at hz5; omega))
  try (have XXw2_5 : w2.heap.size < w5.heap.size + 1 := by omega)
  try (have Xw3_5 : w3.heap.size < w5.heap.size := by first | omega | (simp at hz5; omega))
  try (have XXw3_5 : w3.heap.size < w5.heap.size + 1 := by omega)
  try (have Xw4_5 : w4.heap.size < w5.heap.size := by first | omega | (simp at hz5; omega))
  try (have XXw4_5 : w4.heap.size < w5.heap.size + 1 := by omega)
  have b5 : Below w.heap.size w w5 := Below.trans (by (repeat (first | (with_reducible refine Below.drewN ?_) | (with_reducible refine Below.drew ?_) | ((with_reducible refine Below.alloc ?_ ?_ _); rotate_left; (first | omega | (simp <;> omega))) | ((with_reducible refine Below.setCell ?_ ?_ _); rotate_left; (first | omega | (simp <;> omega))) | (with_reducible exact Below.refl _ _) | (with_reducible assumption)))) (hb5.mono (by first | omega | (simp <;> omega)))
  have q1i : 0 < r_n1 → w4.heap.size ≤ g1i ∧ g1i < w5.heap.size := fun h => by have := q01i h; first | omega | (simp at this; omega)
  try (have qs1i : 0 < r_n1 → w4.heap.size < g1i := fun h => by have := q01i h; first | omega | (simp at this; omega))
  have o1s_5 := OF.below (g := g1s) (a := a1s) (n := r_n1) (c := c1s) (xs := r_xs1) (by (repeat (first | (with_reducible assumption) | (with_reducible refine OF.draw ?_) | (with_reducible exact OF.made' (by simp) (by simp) (by omega)) | (with_reducible refine OF.alloc ?_ _) | ((with_reducible refine OF.setCell ?_ ?_ _); rotate_left; (first | omega | (simp <;> omega)))))) hb5 (Nat.le_refl _)
  clear o1s_4
  have o1x_5 := OF.below (g := g1x) (a := (some ⟨g1x, 0, none⟩)) (n := n1) (c := n1) (xs := xs1) (by (repeat (first | (with_reducible assumption) | (with_reducible refine OF.draw ?_) | (with_reducible exact OF.made' (by simp) (by simp) (by omega)) | (with_reducible refine OF.alloc ?_ _) | ((with_reducible refine OF.setCell ?_ ?_ _); rotate_left; (first | omega | (simp <;> omega)))))) hb5 (Nat.le_refl _)
  clear o1x_4
  go_wp2_with fail
  refine (c_eqTuning' _ _ _ _ _ _ _ _ _ _ _ _ (up_nv2 _ _ _) (up_nv2 _ _ _) (FS.below (B := w5.heap.size) o1i_5.fs (by (repeat (first | (with_reducible refine Below.drewN ?_) | (with_reducible refine Below.drew ?_) | ((with_reducible refine Below.alloc ?_ ?_ _); rotate_left; (first | omega | (simp <;> omega))) | ((with_reducible refine Below.setCell ?_ ?_ _); rotate_left; (first | omega | (simp <;> omega))) | (with_reducible exact Below.refl _ _) | (with_reducible assumption)))) (Nat.le_refl _)) (FS.below (B := w5.heap.size) o1s_5.fs (by (repeat (first | (with_reducible refine Below.drewN ?_) | (with_reducible refine Below.drew ?_) | ((with_reducible refine Below.alloc ?_ ?_ _); rotate_left; (first | omega | (simp <;> omega))) | ((with_reducible refine Below.setCell ?_ ?_ _); rotate_left; (first | omega | (simp <;> omega))) | (with_reducible exact Below.refl _ _) | (with_reducible assumption)))) (Nat.le_refl _)) (Alk.refl _)).mono ?_
  rintro e w6 ⟨rfl, hb6⟩
  obtain ⟨hc6, hf6, hz6⟩ := bcell hb6
  have hk6 := bblk hb6
  have Z6 : w5.heap.size ≤ w6.heap.size := by first | exact hz6 | (simp at hz6; omega) | omega
  try (have ZS6 : w5.heap.size < w6.heap.size := by first | omega | (simp at hz6; omega))
  try (have Xw_6 : w.heap.size < w6.heap.size := by first | omega | (simp at hz6; omega))
  try (have XXw_6 : w.heap.size < w6.heap.size + 1 := by omega)
  try (have Xw2_6 : w2.heap.size < w6.heap.size := by first | omega | (simp at hz6; omega))
  try (have XXw2_6 : w2.heap.size < w6.heap.size + 1 := by omega)
  try (have Xw3_6 : w3.heap.size < w6.heap.size := by first | omega | (simp at hz6; omega))
  try (have XXw3_6 : w3.heap.size < w6.heap.size + 1 := by omega)
  try (have Xw4_6 : w4.heap.size < w6.heap.size := by first | omega | (simp at hz6; omega))
  try (have XXw4_6 : w4.heap.size < w6.heap.size + 1 := by omega)
  try (have Xw5_6 : w5.heap.size < w6.heap.size := by first | omega | (simp at hz6; omega))
  try (have XXw5_6 : w5.heap.size < w6.heap.size + 1 := by omega)
  have b6 : Below w.heap.size w w6 := Below.trans (by (repeat (first | (with_reducible refine Below.drewN ?_) | (with_reducible refine Below.drew ?_) | ((with_reducible refine Below.alloc ?_ ?_ _); rotate_left; (first | omega | (simp <;> omega))) | ((with_reducible refine Below.setCell ?_ ?_ _); rotate_left; (first | omega | (simp <;> omega))) | (with_reducible exact Below.refl _ _) | (with_reducible assumption)))) (hb6.mono (by first | omega | (simp <;> omega)))
  have o1s_6 := OF.below (g := g1s) (a := a1s) (n := r_n1) (c := c1s) (xs := r_xs1) (by (repeat (first | (with_reducible assumption) | (with_reducible refine OF.draw ?_) | (with_reducible exact OF.made' (by simp) (by simp) (by omega)) | (with_reducible refine OF.alloc ?_ _) | ((with_reducible refine OF.setCell ?_ ?_ _); rotate_left; (first | omega | (simp <;> omega)))))) hb6 (Nat.le_refl _)
  clear o1s_5
  have o1x_6 := OF.below (g := g1x) (a := (some ⟨g1x, 0, none⟩)) (n := n1) (c := n1) (xs := xs1) (by (repeat (first | (with_reducible assumption) | (with_reducible refine OF.draw ?_) | (with_reducible exact OF.made' (by simp) (by simp) (by omega)) | (with_reducible refine OF.alloc ?_ _) | ((with_reducible refine OF.setCell ?_ ?_ _); rotate_left; (first | omega | (simp <;> omega)))))) hb6 (Nat.le_refl _)
  clear o1x_5
  have o1i_6 := OF.below (g := g1i) (a := a1i) (n := r_n1) (c := c1i) (xs := r_xs1) (by (repeat (first | (with_reducible assumption) | (with_reducible refine OF.draw ?_) | (with_reducible exact OF.made' (by simp) (by simp) (by omega)) | (with_reducible refine OF.alloc ?_ _) | ((with_reducible refine OF.setCell ?_ ?_ _); rotate_left; (first | omega | (simp <;> omega)))))) hb6 (Nat.le_refl _)
  clear o1i_5
  go_wp2_with fail
  refine wp_region_grow [3] [2] (by kernel_rfl) (by kernel_rfl) (by kernel_rfl) ?_
  apply Exists.intro
  iterate 2 (apply lh_o; kernel_rfl; kernel_rfl; kernel_rfl; (intro W hW; have hWc := Grow.cells hW; have hWk := bblk hW; go_simp; exact ⟨OneV.mk _, Grow.refl _⟩))
  apply lh_w (fun g : Nat => Value.agg #[.float .f32 x1, .float .f32 x2, .slice (some ⟨g, 0, none⟩) n1 n1]) (fun g w' => w6.heap.size ≤ g ∧ g < w'.heap.size ∧ OF w' g (some ⟨g, 0, none⟩) n1 n1 xs1) 0 (fun g w w' h hg => ⟨h.1, Nat.lt_of_lt_of_le h.2.1 hg.size, OF.below h.2.2 hg (Nat.le_refl _)⟩) (fun i j h => by simp at h; first | exact h | (obtain ⟨i1, i2⟩ := i; obtain ⟨j1, j2⟩ := j; simp at h; simp [h]))
  kernel_rfl
  kernel_rfl
  kernel_rfl
  · intro W hW
    have hWc := Grow.cells hW
    go_simp
    exact (c_toTuning' x1 x2 a1 n1 c1 xs1 W (FS.below (B := w.heap.size) H1.out (b6.trans (Below.mono hW b6.size)) (Nat.le_refl _)) (by omega)).mono fun e w' ⟨t1, he, hb, l0, l1, o1⟩ => ⟨t1, he, ⟨Nat.le_trans hW.size l0, l1, o1⟩, hb⟩
  exact anti
  intro g
  (apply lh_h; kernel_rfl; kernel_rfl; kernel_rfl; (intro W hW; obtain ⟨hG, hK⟩ := hW; have hWc := Grow.cells hG; go_simp; exact gV (c_eqTuning' _ _ _ _ _ _ _ _ _ _ _ W rfl rfl (FS.below (B := w6.heap.size) o1x_6.fs hG (Nat.le_refl _)) (hK.2.2).fs (Alk.refl _))))
  (apply lh_o; kernel_rfl; kernel_rfl; kernel_rfl; (intro W hW; have hWc := Grow.cells hW; go_simp; exact ⟨OneV.mk _, Grow.refl _⟩))
  refine lh_nil ?_
  intro w7 hW7
  simp only [Act.put, List.setIfInBounds_toArray, List.set_cons_succ, List.set_cons_zero]
  have hb7 : Below w6.heap.size w6 w7 := hW7.1
  clear hW7
  obtain ⟨hc7, hf7, hz7⟩ := bcell hb7
  have hk7 := bblk hb7
  have Z7 : w6.heap.size ≤ w7.heap.size := by first | exact hz7 | (simp at hz7; omega) | omega
  try (have ZS7 : w6.heap.size < w7.heap.size := by first | omega | (simp at hz7; omega))
  try (have Xw_7 : w.heap.size < w7.heap.size := by first | omega | (simp at hz7; omega))
  try (have XXw_7 : w.heap.size < w7.heap.size + 1 := by omega)
  try (have Xw2_7 : w2.heap.size < w7.heap.size := by first | omega | (simp at hz7; omega))
  try (have XXw2_7 : w2.heap.size < w7.heap.size + 1 := by omega)
  try (have Xw3_7 : w3.heap.size < w7.heap.size := by first | omega | (simp at hz7; omega))
  try (have XXw3_7 : w3.heap.size < w7.heap.size + 1 := by omega)
  try (have Xw4_7 : w4.heap.size < w7.heap.size := by first | omega | (simp at hz7; omega))
  try (have XXw4_7 : w4.heap.size < w7.heap.size + 1 := by omega)
  try (have Xw5_7 : w5.heap.size < w7.heap.size := by first | omega | (simp at hz7; omega))
  try (have XXw5_7 : w5.heap.size < w7.heap.size + 1 := by omega)
  have b7 : Below w.heap.size w w7 := Below.trans (by (repeat (first | (with_reducible refine Below.drewN ?_) | (with_reducible refine Below.drew ?_) | ((with_reducible refine Below.alloc ?_ ?_ _); rotate_left; (first | omega | (simp <;> omega))) | ((with_reducible refine Below.setCell ?_ ?_ _); rotate_left; (first | omega | (simp <;> omega))) | (with_reducible exact Below.refl _ _) | (with_reducible assumption)))) (hb7.mono (by first | omega | (simp <;> omega)))
  have o1s_7 := OF.below (g := g1s) (a := a1s) (n := r_n1) (c := c1s) (xs := r_xs1) (by (repeat (first | (with_reducible assumption) | (with_reducible refine OF.draw ?_) | (with_reducible exact OF.made' (by simp) (by simp) (by omega)) | (with_reducible refine OF.alloc ?_ _) | ((with_reducible refine OF.setCell ?_ ?_ _); rotate_left; (first | omega | (simp <;> omega)))))) hb7 (Nat.le_refl _)
  clear o1s_6
  have o1x_7 := OF.below (g := g1x) (a := (some ⟨g1x, 0, none⟩)) (n := n1) (c := n1) (xs := xs1) (by (repeat (first | (with_reducible assumption) | (with_reducible refine OF.draw ?_) | (with_reducible exact OF.made' (by simp) (by simp) (by omega)) | (with_reducible refine OF.alloc ?_ _) | ((with_reducible refine OF.setCell ?_ ?_ _); rotate_left; (first | omega | (simp <;> omega)))))) hb7 (Nat.le_refl _)
  clear o1x_6
  have o1i_7 := OF.below (g := g1i) (a := a1i) (n := r_n1) (c := c1i) (xs := r_xs1) (by (repeat (first | (with_reducible assumption) | (with_reducible refine OF.draw ?_) | (with_reducible exact OF.made' (by simp) (by simp) (by omega)) | (with_reducible refine OF.alloc ?_ _) | ((with_reducible refine OF.setCell ?_ ?_ _); rotate_left; (first | omega | (simp <;> omega)))))) hb7 (Nat.le_refl _)
  clear o1i_6
  go_wp2_with fail
  refine (c_markTuning' g1x _ _ _ _ _ xs1 1 _ (by (repeat (first | (with_reducible assumption) | (with_reducible refine OF.draw ?_) | (with_reducible exact OF.made' (by simp) (by simp) (by omega)) | (with_reducible refine OF.alloc ?_ _) | ((with_reducible refine OF.setCell ?_ ?_ _); rotate_left; (first | omega | (simp <;> omega)))))) (by first | omega | (simp; omega))  (by omega) (by omega)).mono ?_
  rintro e w8 ⟨rfl, wr8, o1x_8⟩
  have hz8 := wr8.size
  obtain ⟨hc8w, hf8w, _⟩ := wr8.cell w.heap.size (by first | omega | (simp; omega)) (by simp only [mem_gl]; omega)
  obtain ⟨hc8w2, hf8w2, _⟩ := wr8.cell w2.heap.size (by first | omega | (simp; omega)) (by simp only [mem_gl]; omega)
  obtain ⟨hc8w3, hf8w3, _⟩ := wr8.cell w3.heap.size (by first | omega | (simp; omega)) (by simp only [mem_gl]; omega)
  obtain ⟨hc8w4, hf8w4, _⟩ := wr8.cell w4.heap.size (by first | omega | (simp; omega)) (by simp only [mem_gl]; omega)
  obtain ⟨hc8w5, hf8w5, _⟩ := wr8.cell w5.heap.size (by first | omega | (simp; omega)) (by simp only [mem_gl]; omega)
  have Z8 : w7.heap.size ≤ w8.heap.size := by first | exact hz8 | (simp at hz8; omega) | omega
  try (have ZS8 : w7.heap.size < w8.heap.size := by first | omega | (simp at hz8; omega))
  try (have Xw_8 : w.heap.size < w8.heap.size := by first | omega | (simp at hz8; omega))
  try (have XXw_8 : w.heap.size < w8.heap.size + 1 := by omega)
  try (have Xw2_8 : w2.heap.size < w8.heap.size := by first | omega | (simp at hz8; omega))
  try (have XXw2_8 : w2.heap.size < w8.heap.size + 1 := by omega)
  try (have Xw3_8 : w3.heap.size < w8.heap.size := by first | omega | (simp at hz8; omega))
  try (have XXw3_8 : w3.heap.size < w8.heap.size + 1 := by omega)
  try (have Xw4_8 : w4.heap.size < w8.heap.size := by first | omega | (simp at hz8; omega))
  try (have XXw4_8 : w4.heap.size < w8.heap.size + 1 := by omega)
  try (have Xw5_8 : w5.heap.size < w8.heap.size := by first | omega | (simp at hz8; omega))
  try (have XXw5_8 : w5.heap.size < w8.heap.size + 1 := by omega)
  have b8 : Below w.heap.size w w8 := Below.trans (by (repeat (first | (with_reducible refine Below.drewN ?_) | (with_reducible refine Below.drew ?_) | ((with_reducible refine Below.alloc ?_ ?_ _); rotate_left; (first | omega | (simp <;> omega))) | ((with_reducible refine Below.setCell ?_ ?_ _); rotate_left; (first | omega | (simp <;> omega))) | (with_reducible exact Below.refl _ _) | (with_reducible assumption)))) (wr8.below (by first | omega | (simp; omega)) (by intro g hg; simp only [mem_gl] at hg; omega))
  clear o1x_7
  have o1s_8 := OF.wr0 (g := g1s) (a := a1s) (n := r_n1) (c := c1s) (xs := r_xs1) (by (repeat (first | (with_reducible assumption) | (with_reducible refine OF.draw ?_) | (with_reducible exact OF.made' (by simp) (by simp) (by omega)) | (with_reducible refine OF.alloc ?_ _) | ((with_reducible refine OF.setCell ?_ ?_ _); rotate_left; (first | omega | (simp <;> omega)))))) wr8 (fun hpos => by simp only [mem_gl]; omega)
  clear o1s_7
  have o1i_8 := OF.wr0 (g := g1i) (a := a1i) (n := r_n1) (c := c1i) (xs := r_xs1) (by (repeat (first | (with_reducible assumption) | (with_reducible refine OF.draw ?_) | (with_reducible exact OF.made' (by simp) (by simp) (by omega)) | (with_reducible refine OF.alloc ?_ _) | ((with_reducible refine OF.setCell ?_ ?_ _); rotate_left; (first | omega | (simp <;> omega)))))) wr8 (fun hpos => by simp only [mem_gl]; omega)
  clear o1i_7
  go_wp2_with fail
  refine (c_eqTuning' _ _ _ _ _ _ _ _ _ _ _ _ (up_nv2 _ _ _) (up_nv2 _ _ _) (FS.below (B := w8.heap.size) o1i_8.fs (by (repeat (first | (with_reducible refine Below.drewN ?_) | (with_reducible refine Below.drew ?_) | ((with_reducible refine Below.alloc ?_ ?_ _); rotate_left; (first | omega | (simp <;> omega))) | ((with_reducible refine Below.setCell ?_ ?_ _); rotate_left; (first | omega | (simp <;> omega))) | (with_reducible exact Below.refl _ _) | (with_reducible assumption)))) (Nat.le_refl _)) (FS.below (B := w8.heap.size) o1s_8.fs (by (repeat (first | (with_reducible refine Below.drewN ?_) | (with_reducible refine Below.drew ?_) | ((with_reducible refine Below.alloc ?_ ?_ _); rotate_left; (first | omega | (simp <;> omega))) | ((with_reducible refine Below.setCell ?_ ?_ _); rotate_left; (first | omega | (simp <;> omega))) | (with_reducible exact Below.refl _ _) | (with_reducible assumption)))) (Nat.le_refl _)) (Alk.refl _)).mono ?_
  rintro e w9 ⟨rfl, hb9⟩
  obtain ⟨hc9, hf9, hz9⟩ := bcell hb9
  have hk9 := bblk hb9
  have Z9 : w8.heap.size ≤ w9.heap.size := by first | exact hz9 | (simp at hz9; omega) | omega
  try (have ZS9 : w8.heap.size < w9.heap.size := by first | omega | (simp at hz9; omega))
  try (have Xw_9 : w.heap.size < w9.heap.size := by first | omega | (simp at hz9; omega))
  try (have XXw_9 : w.heap.size < w9.heap.size + 1 := by omega)
  try (have Xw2_9 : w2.heap.size < w9.heap.size := by first | omega | (simp at hz9; omega))
  try (have XXw2_9 : w2.heap.size < w9.heap.size + 1 := by omega)
  try (have Xw3_9 : w3.heap.size < w9.heap.size := by first | omega | (simp at hz9; omega))
  try (have XXw3_9 : w3.heap.size < w9.heap.size + 1 := by omega)
  try (have Xw4_9 : w4.heap.size < w9.heap.size := by first | omega | (simp at hz9; omega))
  try (have XXw4_9 : w4.heap.size < w9.heap.size + 1 := by omega)
  try (have Xw5_9 : w5.heap.size < w9.heap.size := by first | omega | (simp at hz9; omega))
  try (have XXw5_9 : w5.heap.size < w9.heap.size + 1 := by omega)
  have b9 : Below w.heap.size w w9 := Below.trans (by (repeat (first | (with_reducible refine Below.drewN ?_) | (with_reducible refine Below.drew ?_) | ((with_reducible refine Below.alloc ?_ ?_ _); rotate_left; (first | omega | (simp <;> omega))) | ((with_reducible refine Below.setCell ?_ ?_ _); rotate_left; (first | omega | (simp <;> omega))) | (with_reducible exact Below.refl _ _) | (with_reducible assumption)))) (hb9.mono (by first | omega | (simp <;> omega)))
  have o1s_9 := OF.below (g := g1s) (a := a1s) (n := r_n1) (c := c1s) (xs := r_xs1) (by (repeat (first | (with_reducible assumption) | (with_reducible refine OF.draw ?_) | (with_reducible exact OF.made' (by simp) (by simp) (by omega)) | (with_reducible refine OF.alloc ?_ _) | ((with_reducible refine OF.setCell ?_ ?_ _); rotate_left; (first | omega | (simp <;> omega)))))) hb9 (Nat.le_refl _)
  clear o1s_8
  have o1i_9 := OF.below (g := g1i) (a := a1i) (n := r_n1) (c := c1i) (xs := r_xs1) (by (repeat (first | (with_reducible assumption) | (with_reducible refine OF.draw ?_) | (with_reducible exact OF.made' (by simp) (by simp) (by omega)) | (with_reducible refine OF.alloc ?_ _) | ((with_reducible refine OF.setCell ?_ ?_ _); rotate_left; (first | omega | (simp <;> omega)))))) hb9 (Nat.le_refl _)
  clear o1i_8
  go_wp2_with fail
  refine (c_markTuning' g1i _ _ _ _ _ r_xs1 1 _ (by (repeat (first | (with_reducible assumption) | (with_reducible refine OF.draw ?_) | (with_reducible exact OF.made' (by simp) (by simp) (by omega)) | (with_reducible refine OF.alloc ?_ _) | ((with_reducible refine OF.setCell ?_ ?_ _); rotate_left; (first | omega | (simp <;> omega)))))) (by first | omega | (simp; omega))  (by omega) (by omega)).mono ?_
  rintro e w10 ⟨rfl, wr10, o1i_10⟩
  have hz10 := wr10.size
  obtain ⟨hc10w, hf10w, _⟩ := wr10.cell w.heap.size (by first | omega | (simp; omega)) (by simp only [mem_gl]; omega)
  obtain ⟨hc10w2, hf10w2, _⟩ := wr10.cell w2.heap.size (by first | omega | (simp; omega)) (by simp only [mem_gl]; omega)
  obtain ⟨hc10w3, hf10w3, _⟩ := wr10.cell w3.heap.size (by first | omega | (simp; omega)) (by simp only [mem_gl]; omega)
  obtain ⟨hc10w4, hf10w4, _⟩ := wr10.cell w4.heap.size (by first | omega | (simp; omega)) (by simp only [mem_gl]; omega)
  obtain ⟨hc10w5, hf10w5, _⟩ := wr10.cell w5.heap.size (by first | omega | (simp; omega)) (by simp only [mem_gl]; omega)
  have Z10 : w9.heap.size ≤ w10.heap.size := by first | exact hz10 | (simp at hz10; omega) | omega
  try (have ZS10 : w9.heap.size < w10.heap.size := by first | omega | (simp at hz10; omega))
  try (have Xw_10 : w.heap.size < w10.heap.size := by first | omega | (simp at hz10; omega))
  try (have XXw_10 : w.heap.size < w10.heap.size + 1 := by omega)
  try (have Xw2_10 : w2.heap.size < w10.heap.size := by first | omega | (simp at hz10; omega))
  try (have XXw2_10 : w2.heap.size < w10.heap.size + 1 := by omega)
  try (have Xw3_10 : w3.heap.size < w10.heap.size := by first | omega | (simp at hz10; omega))
  try (have XXw3_10 : w3.heap.size < w10.heap.size + 1 := by omega)
  try (have Xw4_10 : w4.heap.size < w10.heap.size := by first | omega | (simp at hz10; omega))
  try (have XXw4_10 : w4.heap.size < w10.heap.size + 1 := by omega)
  try (have Xw5_10 : w5.heap.size < w10.heap.size := by first | omega | (simp at hz10; omega))
  try (have XXw5_10 : w5.heap.size < w10.heap.size + 1 := by omega)
  have b10 : Below w.heap.size w w10 := Below.trans (by (repeat (first | (with_reducible refine Below.drewN ?_) | (with_reducible refine Below.drew ?_) | ((with_reducible refine Below.alloc ?_ ?_ _); rotate_left; (first | omega | (simp <;> omega))) | ((with_reducible refine Below.setCell ?_ ?_ _); rotate_left; (first | omega | (simp <;> omega))) | (with_reducible exact Below.refl _ _) | (with_reducible assumption)))) (wr10.below (by first | omega | (simp; omega)) (by intro g hg; simp only [mem_gl] at hg; omega))
  clear o1i_9
  have o1s_10 := OF.wr0 (g := g1s) (a := a1s) (n := r_n1) (c := c1s) (xs := r_xs1) (by (repeat (first | (with_reducible assumption) | (with_reducible refine OF.draw ?_) | (with_reducible exact OF.made' (by simp) (by simp) (by omega)) | (with_reducible refine OF.alloc ?_ _) | ((with_reducible refine OF.setCell ?_ ?_ _); rotate_left; (first | omega | (simp <;> omega)))))) wr10 (fun hpos => by simp only [mem_gl]; omega)
  clear o1s_9
  go_wp2_with fail
  refine (c_heldTuning' _ _ _ _ _ 1 _ (FS.below (B := w10.heap.size) o1i_10.fs (by (repeat (first | (with_reducible refine Below.drewN ?_) | (with_reducible refine Below.drew ?_) | ((with_reducible refine Below.alloc ?_ ?_ _); rotate_left; (first | omega | (simp <;> omega))) | ((with_reducible refine Below.setCell ?_ ?_ _); rotate_left; (first | omega | (simp <;> omega))) | (with_reducible exact Below.refl _ _) | (with_reducible assumption)))) (Nat.le_refl _)) (by omega) (by omega)).mono ?_
  rintro e w11 ⟨rfl, hb11⟩
  obtain ⟨hc11, hf11, hz11⟩ := bcell hb11
  have hk11 := bblk hb11
  have Z11 : w10.heap.size ≤ w11.heap.size := by first | exact hz11 | (simp at hz11; omega) | omega
  try (have ZS11 : w10.heap.size < w11.heap.size := by first | omega | (simp at hz11; omega))
  try (have Xw_11 : w.heap.size < w11.heap.size := by first | omega | (simp at hz11; omega))
  try (have XXw_11 : w.heap.size < w11.heap.size + 1 := by omega)
  try (have Xw2_11 : w2.heap.size < w11.heap.size := by first | omega | (simp at hz11; omega))
  try (have XXw2_11 : w2.heap.size < w11.heap.size + 1 := by omega)
  try (have Xw3_11 : w3.heap.size < w11.heap.size := by first | omega | (simp at hz11; omega))
  try (have XXw3_11 : w3.heap.size < w11.heap.size + 1 := by omega)
  try (have Xw4_11 : w4.heap.size < w11.heap.size := by first | omega | (simp at hz11; omega))
  try (have XXw4_11 : w4.heap.size < w11.heap.size + 1 := by omega)
  try (have Xw5_11 : w5.heap.size < w11.heap.size := by first | omega | (simp at hz11; omega))
  try (have XXw5_11 : w5.heap.size < w11.heap.size + 1 := by omega)
  have b11 : Below w.heap.size w w11 := Below.trans (by (repeat (first | (with_reducible refine Below.drewN ?_) | (with_reducible refine Below.drew ?_) | ((with_reducible refine Below.alloc ?_ ?_ _); rotate_left; (first | omega | (simp <;> omega))) | ((with_reducible refine Below.setCell ?_ ?_ _); rotate_left; (first | omega | (simp <;> omega))) | (with_reducible exact Below.refl _ _) | (with_reducible assumption)))) (hb11.mono (by first | omega | (simp <;> omega)))
  have o1s_11 := OF.below (g := g1s) (a := a1s) (n := r_n1) (c := c1s) (xs := r_xs1) (by (repeat (first | (with_reducible assumption) | (with_reducible refine OF.draw ?_) | (with_reducible exact OF.made' (by simp) (by simp) (by omega)) | (with_reducible refine OF.alloc ?_ _) | ((with_reducible refine OF.setCell ?_ ?_ _); rotate_left; (first | omega | (simp <;> omega)))))) hb11 (Nat.le_refl _)
  clear o1s_10
  have o1i_11 := OF.below (g := g1i) (a := a1i) (n := r_n1) (c := c1i) (xs := (marks (1) r_n1)) (by (repeat (first | (with_reducible assumption) | (with_reducible refine OF.draw ?_) | (with_reducible exact OF.made' (by simp) (by simp) (by omega)) | (with_reducible refine OF.alloc ?_ _) | ((with_reducible refine OF.setCell ?_ ?_ _); rotate_left; (first | omega | (simp <;> omega)))))) hb11 (Nat.le_refl _)
  clear o1i_10
  go_wp2_with fail
  refine (c_toTuning' x1 x2 a1 n1 c1 xs1 _ (FS.below (B := w.heap.size) H1.out (by (repeat (first | (with_reducible refine Below.drewN ?_) | (with_reducible refine Below.drew ?_) | ((with_reducible refine Below.alloc ?_ ?_ _); rotate_left; (first | omega | (simp <;> omega))) | ((with_reducible refine Below.setCell ?_ ?_ _); rotate_left; (first | omega | (simp <;> omega))) | (with_reducible exact Below.refl _ _) | (with_reducible assumption)))) (Nat.le_refl _)) (by omega)).mono ?_
  rintro e w12 ⟨g1z, rfl, hb12, l0z, l1z, o1z_12⟩
  obtain ⟨hc12, hf12, hz12⟩ := bcell hb12
  have hk12 := bblk hb12
  have Z12 : w11.heap.size ≤ w12.heap.size := by first | exact hz12 | (simp at hz12; omega) | omega
  try (have ZS12 : w11.heap.size < w12.heap.size := by first | omega | (simp at hz12; omega))
  try (have Xw_12 : w.heap.size < w12.heap.size := by first | omega | (simp at hz12; omega))
  try (have XXw_12 : w.heap.size < w12.heap.size + 1 := by omega)
  try (have Xw2_12 : w2.heap.size < w12.heap.size := by first | omega | (simp at hz12; omega))
  try (have XXw2_12 : w2.heap.size < w12.heap.size + 1 := by omega)
  try (have Xw3_12 : w3.heap.size < w12.heap.size := by first | omega | (simp at hz12; omega))
  try (have XXw3_12 : w3.heap.size < w12.heap.size + 1 := by omega)
  try (have Xw4_12 : w4.heap.size < w12.heap.size := by first | omega | (simp at hz12; omega))
  try (have XXw4_12 : w4.heap.size < w12.heap.size + 1 := by omega)
  try (have Xw5_12 : w5.heap.size < w12.heap.size := by first | omega | (simp at hz12; omega))
  try (have XXw5_12 : w5.heap.size < w12.heap.size + 1 := by omega)
  have b12 : Below w.heap.size w w12 := Below.trans (by (repeat (first | (with_reducible refine Below.drewN ?_) | (with_reducible refine Below.drew ?_) | ((with_reducible refine Below.alloc ?_ ?_ _); rotate_left; (first | omega | (simp <;> omega))) | ((with_reducible refine Below.setCell ?_ ?_ _); rotate_left; (first | omega | (simp <;> omega))) | (with_reducible exact Below.refl _ _) | (with_reducible assumption)))) (hb12.mono (by first | omega | (simp <;> omega)))
  try simp at l0z
  have q1z : w11.heap.size ≤ g1z ∧ g1z < w12.heap.size := by omega
  have o1s_12 := OF.below (g := g1s) (a := a1s) (n := r_n1) (c := c1s) (xs := r_xs1) (by (repeat (first | (with_reducible assumption) | (with_reducible refine OF.draw ?_) | (with_reducible exact OF.made' (by simp) (by simp) (by omega)) | (with_reducible refine OF.alloc ?_ _) | ((with_reducible refine OF.setCell ?_ ?_ _); rotate_left; (first | omega | (simp <;> omega)))))) hb12 (Nat.le_refl _)
  clear o1s_11
  have o1i_12 := OF.below (g := g1i) (a := a1i) (n := r_n1) (c := c1i) (xs := (marks (1) r_n1)) (by (repeat (first | (with_reducible assumption) | (with_reducible refine OF.draw ?_) | (with_reducible exact OF.made' (by simp) (by simp) (by omega)) | (with_reducible refine OF.alloc ?_ _) | ((with_reducible refine OF.setCell ?_ ?_ _); rotate_left; (first | omega | (simp <;> omega)))))) hb12 (Nat.le_refl _)
  clear o1i_11
  go_wp2_with fail
  refine (HI.out _ _ _ (FS.below (B := w12.heap.size) o1z_12.fs (by (repeat (first | (with_reducible refine Below.drewN ?_) | (with_reducible refine Below.drew ?_) | ((with_reducible refine Below.alloc ?_ ?_ _); rotate_left; (first | omega | (simp <;> omega))) | ((with_reducible refine Below.setCell ?_ ?_ _); rotate_left; (first | omega | (simp <;> omega))) | (with_reducible exact Below.refl _ _) | (with_reducible assumption)))) (Nat.le_refl _))).mono ?_
  rintro e w13 ⟨a1h, c1h, g1h, t_x1h, t_x2h, rfl, hb13, q01h, o1h_13⟩
  obtain ⟨hc13, hf13, hz13⟩ := bcell hb13
  have hk13 := bblk hb13
  have Z13 : w12.heap.size ≤ w13.heap.size := by first | exact hz13 | (simp at hz13; omega) | omega
  try (have ZS13 : w12.heap.size < w13.heap.size := by first | omega | (simp at hz13; omega))
  try (have Xw_13 : w.heap.size < w13.heap.size := by first | omega | (simp at hz13; omega))
  try (have XXw_13 : w.heap.size < w13.heap.size + 1 := by omega)
  try (have Xw2_13 : w2.heap.size < w13.heap.size := by first | omega | (simp at hz13; omega))
  try (have XXw2_13 : w2.heap.size < w13.heap.size + 1 := by omega)
  try (have Xw3_13 : w3.heap.size < w13.heap.size := by first | omega | (simp at hz13; omega))
  try (have XXw3_13 : w3.heap.size < w13.heap.size + 1 := by omega)
  try (have Xw4_13 : w4.heap.size < w13.heap.size := by first | omega | (simp at hz13; omega))
  try (have XXw4_13 : w4.heap.size < w13.heap.size + 1 := by omega)
  try (have Xw5_13 : w5.heap.size < w13.heap.size := by first | omega | (simp at hz13; omega))
  try (have XXw5_13 : w5.heap.size < w13.heap.size + 1 := by omega)
  try (have Xw12_13 : w12.heap.size < w13.heap.size := by first | omega | (simp at hz13; omega))
  try (have XXw12_13 : w12.heap.size < w13.heap.size + 1 := by omega)
  have b13 : Below w.heap.size w w13 := Below.trans (by (repeat (first | (with_reducible refine Below.drewN ?_) | (with_reducible refine Below.drew ?_) | ((with_reducible refine Below.alloc ?_ ?_ _); rotate_left; (first | omega | (simp <;> omega))) | ((with_reducible refine Below.setCell ?_ ?_ _); rotate_left; (first | omega | (simp <;> omega))) | (with_reducible exact Below.refl _ _) | (with_reducible assumption)))) (hb13.mono (by first | omega | (simp <;> omega)))
  have q1h : 0 < r_n1 → w12.heap.size ≤ g1h ∧ g1h < w13.heap.size := fun h => by have := q01h h; first | omega | (simp at this; omega)
  try (have qs1h : 0 < r_n1 → w12.heap.size < g1h := fun h => by have := q01h h; first | omega | (simp at this; omega))
  have o1s_13 := OF.below (g := g1s) (a := a1s) (n := r_n1) (c := c1s) (xs := r_xs1) (by (repeat (first | (with_reducible assumption) | (with_reducible refine OF.draw ?_) | (with_reducible exact OF.made' (by simp) (by simp) (by omega)) | (with_reducible refine OF.alloc ?_ _) | ((with_reducible refine OF.setCell ?_ ?_ _); rotate_left; (first | omega | (simp <;> omega)))))) hb13 (Nat.le_refl _)
  clear o1s_12
  have o1i_13 := OF.below (g := g1i) (a := a1i) (n := r_n1) (c := c1i) (xs := (marks (1) r_n1)) (by (repeat (first | (with_reducible assumption) | (with_reducible refine OF.draw ?_) | (with_reducible exact OF.made' (by simp) (by simp) (by omega)) | (with_reducible refine OF.alloc ?_ _) | ((with_reducible refine OF.setCell ?_ ?_ _); rotate_left; (first | omega | (simp <;> omega)))))) hb13 (Nat.le_refl _)
  clear o1i_12
  have o1z_13 := OF.below (g := g1z) (a := (some ⟨g1z, 0, none⟩)) (n := n1) (c := n1) (xs := xs1) (by (repeat (first | (with_reducible assumption) | (with_reducible refine OF.draw ?_) | (with_reducible exact OF.made' (by simp) (by simp) (by omega)) | (with_reducible refine OF.alloc ?_ _) | ((with_reducible refine OF.setCell ?_ ?_ _); rotate_left; (first | omega | (simp <;> omega)))))) hb13 (Nat.le_refl _)
  clear o1z_12
  go_wp2_with fail
  refine (c_eqTuning' _ _ _ _ _ _ _ _ _ _ _ _ (up_nv2 _ _ _) (up_nv2 _ _ _) (FS.below (B := w13.heap.size) o1h_13.fs (by (repeat (first | (with_reducible refine Below.drewN ?_) | (with_reducible refine Below.drew ?_) | ((with_reducible refine Below.alloc ?_ ?_ _); rotate_left; (first | omega | (simp <;> omega))) | ((with_reducible refine Below.setCell ?_ ?_ _); rotate_left; (first | omega | (simp <;> omega))) | (with_reducible exact Below.refl _ _) | (with_reducible assumption)))) (Nat.le_refl _)) (FS.below (B := w13.heap.size) o1s_13.fs (by (repeat (first | (with_reducible refine Below.drewN ?_) | (with_reducible refine Below.drew ?_) | ((with_reducible refine Below.alloc ?_ ?_ _); rotate_left; (first | omega | (simp <;> omega))) | ((with_reducible refine Below.setCell ?_ ?_ _); rotate_left; (first | omega | (simp <;> omega))) | (with_reducible exact Below.refl _ _) | (with_reducible assumption)))) (Nat.le_refl _)) (Alk.refl _)).mono ?_
  rintro e w14 ⟨rfl, hb14⟩
  obtain ⟨hc14, hf14, hz14⟩ := bcell hb14
  have hk14 := bblk hb14
  have Z14 : w13.heap.size ≤ w14.heap.size := by first | exact hz14 | (simp at hz14; omega) | omega
  try (have ZS14 : w13.heap.size < w14.heap.size := by first | omega | (simp at hz14; omega))
  try (have Xw_14 : w.heap.size < w14.heap.size := by first | omega | (simp at hz14; omega))
  try (have XXw_14 : w.heap.size < w14.heap.size + 1 := by omega)
  try (have Xw2_14 : w2.heap.size < w14.heap.size := by first | omega | (simp at hz14; omega))
  try (have XXw2_14 : w2.heap.size < w14.heap.size + 1 := by omega)
  try (have Xw3_14 : w3.heap.size < w14.heap.size := by first | omega | (simp at hz14; omega))
  try (have XXw3_14 : w3.heap.size < w14.heap.size + 1 := by omega)
  try (have Xw4_14 : w4.heap.size < w14.heap.size := by first | omega | (simp at hz14; omega))
  try (have XXw4_14 : w4.heap.size < w14.heap.size + 1 := by omega)
  try (have Xw5_14 : w5.heap.size < w14.heap.size := by first | omega | (simp at hz14; omega))
  try (have XXw5_14 : w5.heap.size < w14.heap.size + 1 := by omega)
  try (have Xw12_14 : w12.heap.size < w14.heap.size := by first | omega | (simp at hz14; omega))
  try (have XXw12_14 : w12.heap.size < w14.heap.size + 1 := by omega)
  try (have Xw13_14 : w13.heap.size < w14.heap.size := by first | omega | (simp at hz14; omega))
  try (have XXw13_14 : w13.heap.size < w14.heap.size + 1 := by omega)
  have b14 : Below w.heap.size w w14 := Below.trans (by (repeat (first | (with_reducible refine Below.drewN ?_) | (with_reducible refine Below.drew ?_) | ((with_reducible refine Below.alloc ?_ ?_ _); rotate_left; (first | omega | (simp <;> omega))) | ((with_reducible refine Below.setCell ?_ ?_ _); rotate_left; (first | omega | (simp <;> omega))) | (with_reducible exact Below.refl _ _) | (with_reducible assumption)))) (hb14.mono (by first | omega | (simp <;> omega)))
  have o1s_14 := OF.below (g := g1s) (a := a1s) (n := r_n1) (c := c1s) (xs := r_xs1) (by (repeat (first | (with_reducible assumption) | (with_reducible refine OF.draw ?_) | (with_reducible exact OF.made' (by simp) (by simp) (by omega)) | (with_reducible refine OF.alloc ?_ _) | ((with_reducible refine OF.setCell ?_ ?_ _); rotate_left; (first | omega | (simp <;> omega)))))) hb14 (Nat.le_refl _)
  clear o1s_13
  have o1i_14 := OF.below (g := g1i) (a := a1i) (n := r_n1) (c := c1i) (xs := (marks (1) r_n1)) (by (repeat (first | (with_reducible assumption) | (with_reducible refine OF.draw ?_) | (with_reducible exact OF.made' (by simp) (by simp) (by omega)) | (with_reducible refine OF.alloc ?_ _) | ((with_reducible refine OF.setCell ?_ ?_ _); rotate_left; (first | omega | (simp <;> omega)))))) hb14 (Nat.le_refl _)
  clear o1i_13
  have o1h_14 := OF.below (g := g1h) (a := a1h) (n := r_n1) (c := c1h) (xs := r_xs1) (by (repeat (first | (with_reducible assumption) | (with_reducible refine OF.draw ?_) | (with_reducible exact OF.made' (by simp) (by simp) (by omega)) | (with_reducible refine OF.alloc ?_ _) | ((with_reducible refine OF.setCell ?_ ?_ _); rotate_left; (first | omega | (simp <;> omega)))))) hb14 (Nat.le_refl _)
  clear o1h_13
  go_wp2_with fail
  refine (c_heldTuning' _ _ _ _ _ 1 _ (FS.below (B := w14.heap.size) o1i_14.fs (by (repeat (first | (with_reducible refine Below.drewN ?_) | (with_reducible refine Below.drew ?_) | ((with_reducible refine Below.alloc ?_ ?_ _); rotate_left; (first | omega | (simp <;> omega))) | ((with_reducible refine Below.setCell ?_ ?_ _); rotate_left; (first | omega | (simp <;> omega))) | (with_reducible exact Below.refl _ _) | (with_reducible assumption)))) (Nat.le_refl _)) (by omega) (by omega)).mono ?_
  rintro e w15 ⟨rfl, hb15⟩
  obtain ⟨hc15, hf15, hz15⟩ := bcell hb15
  have hk15 := bblk hb15
  have Z15 : w14.heap.size ≤ w15.heap.size := by first | exact hz15 | (simp at hz15; omega) | omega
  try (have ZS15 : w14.heap.size < w15.heap.size := by first | omega | (simp at hz15; omega))
  try (have Xw_15 : w.heap.size < w15.heap.size := by first | omega | (simp at hz15; omega))
  try (have XXw_15 : w.heap.size < w15.heap.size + 1 := by omega)
  try (have Xw2_15 : w2.heap.size < w15.heap.size := by first | omega | (simp at hz15; omega))
  try (have XXw2_15 : w2.heap.size < w15.heap.size + 1 := by omega)
  try (have Xw3_15 : w3.heap.size < w15.heap.size := by first | omega | (simp at hz15; omega))
  try (have XXw3_15 : w3.heap.size < w15.heap.size + 1 := by omega)
  try (have Xw4_15 : w4.heap.size < w15.heap.size := by first | omega | (simp at hz15; omega))
  try (have XXw4_15 : w4.heap.size < w15.heap.size + 1 := by omega)
  try (have Xw5_15 : w5.heap.size < w15.heap.size := by first | omega | (simp at hz15; omega))
  try (have XXw5_15 : w5.heap.size < w15.heap.size + 1 := by omega)
  try (have Xw12_15 : w12.heap.size < w15.heap.size := by first | omega | (simp at hz15; omega))
  try (have XXw12_15 : w12.heap.size < w15.heap.size + 1 := by omega)
  try (have Xw13_15 : w13.heap.size < w15.heap.size := by first | omega | (simp at hz15; omega))
  try (have XXw13_15 : w13.heap.size < w15.heap.size + 1 := by omega)
  have b15 : Below w.heap.size w w15 := Below.trans (by (repeat (first | (with_reducible refine Below.drewN ?_) | (with_reducible refine Below.drew ?_) | ((with_reducible refine Below.alloc ?_ ?_ _); rotate_left; (first | omega | (simp <;> omega))) | ((with_reducible refine Below.setCell ?_ ?_ _); rotate_left; (first | omega | (simp <;> omega))) | (with_reducible exact Below.refl _ _) | (with_reducible assumption)))) (hb15.mono (by first | omega | (simp <;> omega)))
  have o1s_15 := OF.below (g := g1s) (a := a1s) (n := r_n1) (c := c1s) (xs := r_xs1) (by (repeat (first | (with_reducible assumption) | (with_reducible refine OF.draw ?_) | (with_reducible exact OF.made' (by simp) (by simp) (by omega)) | (with_reducible refine OF.alloc ?_ _) | ((with_reducible refine OF.setCell ?_ ?_ _); rotate_left; (first | omega | (simp <;> omega)))))) hb15 (Nat.le_refl _)
  clear o1s_14
  have o1i_15 := OF.below (g := g1i) (a := a1i) (n := r_n1) (c := c1i) (xs := (marks (1) r_n1)) (by (repeat (first | (with_reducible assumption) | (with_reducible refine OF.draw ?_) | (with_reducible exact OF.made' (by simp) (by simp) (by omega)) | (with_reducible refine OF.alloc ?_ _) | ((with_reducible refine OF.setCell ?_ ?_ _); rotate_left; (first | omega | (simp <;> omega)))))) hb15 (Nat.le_refl _)
  clear o1i_14
  have o1h_15 := OF.below (g := g1h) (a := a1h) (n := r_n1) (c := c1h) (xs := r_xs1) (by (repeat (first | (with_reducible assumption) | (with_reducible refine OF.draw ?_) | (with_reducible exact OF.made' (by simp) (by simp) (by omega)) | (with_reducible refine OF.alloc ?_ _) | ((with_reducible refine OF.setCell ?_ ?_ _); rotate_left; (first | omega | (simp <;> omega)))))) hb15 (Nat.le_refl _)
  clear o1h_14
  go_wp2
  go_ret
  exact ⟨rfl, by (repeat (first | (with_reducible refine Below.drewN ?_) | (with_reducible refine Below.drew ?_) | ((with_reducible refine Below.alloc ?_ ?_ _); rotate_left; (first | omega | (simp <;> omega))) | ((with_reducible refine Below.setCell ?_ ?_ _); rotate_left; (first | omega | (simp <;> omega))) | (with_reducible exact Below.refl _ _) | (with_reducible assumption)))⟩


theorem k_TurnTuning (x1 x2 : Nat) (a1 : Option Addr) (n1 c1 : Nat) (xs1 : List Nat) (dg : Int) (w : World) (h_1 : FS w a1 n1 c1 xs1) :
    Calls Try.prog 17 #[.agg #[.float .f32 x1, .float .f32 x2, .slice a1 n1 c1], .int .i64 dg] w (RetV (.bool true) w) := by
  cases hv : tunB x1 x2 xs1 n1
  · exact l_TurnTuning x1 x2 a1 n1 c1 xs1 dg 0 0 0 [] 1 w h_1 (by omega) (fun W _ _ j => c_sTurnTuning_bad _ _ _ _ _ _ dg W j hv) (fun W _ _ j => c_TurnTuning_bad _ _ _ _ _ _ dg W j hv)
  cases hd : inB dg 0 ((n1 : Int) - 1)
  · exact l_TurnTuning x1 x2 a1 n1 c1 xs1 dg 0 0 0 [] 2 w h_1 (by omega) (fun W _ _ j => c_sTurnTuning_deg _ _ _ _ _ _ dg W j hv hd) (fun W _ _ j => c_TurnTuning_deg _ _ _ _ _ _ dg W j hv hd)
  have hdd := inB_yes hd
  obtain ⟨d, rfl⟩ := Int.eq_ofNat_of_zero_le hdd.1
  have hlt : d < n1 := by omega
  have hn := tunB_n hv
  cases hx : okX (hzX x2 xs1 n1 d)
  · exact l_TurnTuning x1 x2 a1 n1 c1 xs1 d 0 0 0 [] 2 w h_1 (by omega) (fun W _ _ j => c_sTurnTuning_hz _ _ _ _ _ _ d W j hv hlt hx) (fun W _ _ j => c_TurnTuning_hz _ _ _ _ _ _ d W j hv hlt hx)
  have HS := fun W d1 e1 (j : FS W d1 n1 e1 xs1) => c_sTurnTuning_go x1 x2 d1 n1 e1 xs1 d W j hv hlt hx
  have HI := fun W d1 e1 (j : FS W d1 n1 e1 xs1) => c_TurnTuning_go x1 x2 d1 n1 e1 xs1 d W j hv hlt hx
  unfold TurnPost at HS HI
  cases hw : tunB (hzF x1 (hzX x2 xs1 n1 d)) x2 (tvP xs1 x2 n1 d n1) n1
  · simp only [hw, Bool.false_eq_true, if_false] at HS HI
    exact l_TurnTuning x1 x2 a1 n1 c1 xs1 d 0 0 0 [] 4 w h_1 (by omega) HS HI
  · simp only [hw, if_true] at HS HI
    exact l_TurnTuning x1 x2 a1 n1 c1 xs1 d _ _ n1 _ 0 w h_1 (by omega) HS HI
end Go.Proofs.Ytdhiihmfgmempaa
