
/-
Contracts of new jets.
-/
import Derived.Test.YtbkafmikaojclaaCp
import Derived.Test.YtbkafmikaojclaaGj
import Derived.Test.YtbkafmikaojclaaDw
import Derived.Test.YtbkafmikaojclaaLe
namespace Go.Proofs.Ytbkafmikaojclaa
open Go Go.RowKit Fl
def keepB (x : Nat) : Bool := (FloatKind.f32.format.order x 0 == some .gt || FloatKind.f32.format.order x 0 == some .eq) && FloatKind.f32.format.order x 1065353216 == some .lt
theorem c_isKeep (x : Nat) (w : World) : Calls Try.prog 62 #[.float .f32 x] w (RetB (keepB x) w) := by
  cases h : (FloatKind.f32.format.order x 0 == some .gt || FloatKind.f32.format.order x 0 == some .eq)
  all_goals
    go_enter Try.func62, Try.ntmps62
    go_wp2
    go_ret
    exact ⟨by simp [keepB, h], same0 _⟩
/-- a filter with one pole -/
def RetPole (x : Nat) (w : World) (e : Ending) (w' : World) : Prop := ∃ t, e = .returned (.agg #[.int .i64 1, .float .f32 (nv .f32 (fop .sub .f32 1065353216 x) t), .float .f32 x, .float .f32 0, .float .f32 0, .float .f32 0]) ∧ Below w.heap.size w w'
theorem c_OnePole (x : Nat) (w : World) : Calls Try.prog 65 #[.float .f32 x] w (RetPole x w) := by
  go_enter Try.func65, Try.ntmps65
  go_wp2
  refine bodyPost_ret (v := ?v) (by simp [results, Try.results65, go_sem, *] <;> rfl) rfl ?_
  exact ⟨_, rfl, by (repeat (first | (with_reducible refine Below.drewN ?_) | (with_reducible refine Below.drew ?_) | ((with_reducible refine Below.alloc ?_ ?_ _); rotate_left; (first | omega | (simp <;> omega))) | ((with_reducible refine Below.setCell ?_ ?_ _); rotate_left; (first | omega | (simp <;> omega))) | (with_reducible exact Below.refl _ _) | (with_reducible assumption)))⟩
theorem c_sOnePole (x : Nat) (w : World) : Calls Try.prog 59 #[.float .f32 x] w (RetPole x w) := by
  go_enter Try.func59, Try.ntmps59
  go_wp2
  refine bodyPost_ret (v := ?v) (by simp [results, Try.results59, go_sem, *] <;> rfl) rfl ?_
  exact ⟨_, rfl, by (repeat (first | (with_reducible refine Below.drewN ?_) | (with_reducible refine Below.drew ?_) | ((with_reducible refine Below.alloc ?_ ?_ _); rotate_left; (first | omega | (simp <;> omega))) | ((with_reducible refine Below.setCell ?_ ?_ _); rotate_left; (first | omega | (simp <;> omega))) | (with_reducible exact Below.refl _ _) | (with_reducible assumption)))⟩
theorem c_BlockDc (x : Nat) (w : World) : Calls Try.prog 66 #[.float .f32 x] w (RetV (.agg #[.int .i64 5, .float .f32 x, .float .f32 0, .float .f32 0, .float .f32 0, .float .f32 0]) w) := by
  go_enter Try.func66, Try.ntmps66
  go_wp2
  refine bodyPost_ret (v := ?v) (by simp [results, Try.results66, go_sem, *] <;> rfl) rfl ?_
  exact ⟨rfl, by (repeat (first | (with_reducible refine Below.drewN ?_) | (with_reducible refine Below.drew ?_) | ((with_reducible refine Below.alloc ?_ ?_ _); rotate_left; (first | omega | (simp <;> omega))) | ((with_reducible refine Below.setCell ?_ ?_ _); rotate_left; (first | omega | (simp <;> omega))) | (with_reducible exact Below.refl _ _) | (with_reducible assumption)))⟩
theorem c_sBlockDc (x : Nat) (w : World) : Calls Try.prog 60 #[.float .f32 x] w (RetV (.agg #[.int .i64 5, .float .f32 x, .float .f32 0, .float .f32 0, .float .f32 0, .float .f32 0]) w) := by
  go_enter Try.func60, Try.ntmps60
  go_wp2
  refine bodyPost_ret (v := ?v) (by simp [results, Try.results60, go_sem, *] <;> rfl) rfl ?_
  exact ⟨rfl, by (repeat (first | (with_reducible refine Below.drewN ?_) | (with_reducible refine Below.drew ?_) | ((with_reducible refine Below.alloc ?_ ?_ _); rotate_left; (first | omega | (simp <;> omega))) | ((with_reducible refine Below.setCell ?_ ?_ _); rotate_left; (first | omega | (simp <;> omega))) | (with_reducible exact Below.refl _ _) | (with_reducible assumption)))⟩
theorem NewJet.zero {w w' : World} {code : Int} (hb : Below w.heap.size w w') : NewJet 0 [] 0 0 [] 0 0 0 0 0 0 0 0 0 0 0 0 0 0 0 code w (.returned (.tuple #[.agg #[.slice none 0 0, .int .i64 0, .slice none 0 0, .int .i64 0, .int .i64 0, .float .f32 0, .float .f32 0, .float .f32 0, .float .f32 0, .float .f32 0, .int .i64 0, .float .f32 0, .float .f32 0, .float .f32 0, .float .f32 0, .float .f32 0, .float .f32 0, .float .f32 0], .int .i64 code])) w' :=
  ⟨none, none, 0, 0, 0, 1, 0, 0, 0, 0, 0, 0, 0, 0, 0, 0, 0, 0, rfl, hb, fun h => absurd h (by omega), fun h => absurd h (by omega), by omega, OF.nil _ _, OF.nil _ _⟩
def newJetB (th bo : Int) (ke ne fa : Nat) : Bool := inB th 1 1024 && (inB bo 1 1024 && (keepB ke && (insB ne 3212836864 1065353216 && insB fa 3212836864 1065353216)))
abbrev newJetR (th bo : Nat) (ke ne fa : Nat) (w : World) : Ending → World → Prop := NewJet th (List.replicate th 0) 0 bo (List.replicate bo 0) 0 1 (fop .sub .f32 1065353216 ke) ke 0 0 0 5 1065269330 0 0 0 0 ne fa 0 w
theorem c_NewJet_no (th bo : Int) (ke ne fa : Nat) (w : World) (h : newJetB th bo ke ne fa = false) :
    Calls Try.prog 16 #[.int .i64 th, .int .i64 bo, .float .f32 ke, .float .f32 ne, .float .f32 fa] w (NewJet 0 [] 0 0 [] 0 0 0 0 0 0 0 0 0 0 0 0 0 0 0 2 w) := by
  unfold newJetB at h
  cases h1 : inB th 1 1024 <;> rw [h1] at h
  case' true => cases h2 : inB bo 1 1024 <;> rw [h2] at h
  case' true.true => cases h3 : keepB ke <;> rw [h3] at h
  case' true.true.true => cases h4 : insB ne 3212836864 1065353216 <;> rw [h4] at h
  case' true.true.true.true => simp only [Bool.true_and] at h; have h5 := h
  all_goals
    clear h
    go_enter Try.func16, Try.ntmps16
    go_wp2_with (first | (go_at_call 61; refine (c_within _ _ _ _).mono ?_; rintro e w' ⟨rfl, n1, rfl⟩) | (go_at_call 62; refine (c_isKeep _ _).mono ?_; rintro e w' ⟨rfl, n1, rfl⟩) | (go_at_call 63; refine (c_inside _ _ _ _).mono ?_; rintro e w' ⟨rfl, n1, rfl⟩))
    refine bodyPost_ret (v := ?v) (by simp [results, Try.results16, go_sem, *] <;> rfl) rfl ?_
    exact NewJet.zero (by (repeat (first | (with_reducible refine Below.drewN ?_) | (with_reducible refine Below.drew ?_) | ((with_reducible refine Below.alloc ?_ ?_ _); rotate_left; (first | omega | (simp <;> omega))) | ((with_reducible refine Below.setCell ?_ ?_ _); rotate_left; (first | omega | (simp <;> omega))) | ((with_reducible refine Below.setCells ?_ ?_ _); rotate_left; (first | omega | (simp <;> omega))) | (with_reducible exact Below.refl _ _) | (with_reducible assumption))))
theorem c_sNewJet_no (th bo : Int) (ke ne fa : Nat) (w : World) (h : newJetB th bo ke ne fa = false) :
    Calls Try.prog 15 #[.int .i64 th, .int .i64 bo, .float .f32 ke, .float .f32 ne, .float .f32 fa] w (NewJet 0 [] 0 0 [] 0 0 0 0 0 0 0 0 0 0 0 0 0 0 0 2 w) := by
  unfold newJetB keepB insB at h
  cases h1 : inB th 1 1024 <;> rw [h1] at h
  case' true => cases h2 : inB bo 1 1024 <;> rw [h2] at h
  case' true.true => cases h3 : (FloatKind.f32.format.order ke 0 == some .gt || FloatKind.f32.format.order ke 0 == some .eq) <;> rw [h3] at h
  case' true.true.true => cases h4 : (FloatKind.f32.format.order ke 1065353216 == some .lt) <;> rw [h4] at h
  case' true.true.true.true => cases h5 : (FloatKind.f32.format.order ne 3212836864 == some .gt || FloatKind.f32.format.order ne 3212836864 == some .eq) <;> rw [h5] at h
  case' true.true.true.true.true => cases h6 : (FloatKind.f32.format.order ne 1065353216 == some .lt || FloatKind.f32.format.order ne 1065353216 == some .eq) <;> rw [h6] at h
  case' true.true.true.true.true.true => cases h7 : (FloatKind.f32.format.order fa 3212836864 == some .gt || FloatKind.f32.format.order fa 3212836864 == some .eq) <;> rw [h7] at h
  case' true.true.true.true.true.true.true => simp only [Bool.true_and] at h; have h8 := h
  all_goals
    clear h
    go_enter Try.func15, Try.ntmps15
    go_wp2_with (go_at_call 58; refine (c_l00In _ _ _ _).mono ?_; rintro e w' ⟨rfl, n1, rfl⟩)
    refine bodyPost_ret (v := ?v) (by simp [results, Try.results15, go_sem, *] <;> rfl) rfl ?_
    exact NewJet.zero (by (repeat (first | (with_reducible refine Below.drewN ?_) | (with_reducible refine Below.drew ?_) | ((with_reducible refine Below.alloc ?_ ?_ _); rotate_left; (first | omega | (simp <;> omega))) | ((with_reducible refine Below.setCell ?_ ?_ _); rotate_left; (first | omega | (simp <;> omega))) | ((with_reducible refine Below.setCells ?_ ?_ _); rotate_left; (first | omega | (simp <;> omega))) | (with_reducible exact Below.refl _ _) | (with_reducible assumption))))
theorem zeros_len (n : Nat) : (List.replicate n 0).length = n := by simp
theorem c_sNewJet_ok (th bo : Nat) (ke ne fa : Nat) (w : World) (h : newJetB th bo ke ne fa = true) :
    Calls Try.prog 15 #[.int .i64 th, .int .i64 bo, .float .f32 ke, .float .f32 ne, .float .f32 fa] w (newJetR th bo ke ne fa w) := by
  unfold newJetB keepB insB at h
  simp only [Bool.and_eq_true] at h
  obtain ⟨h1, h2, ⟨h3, h4⟩, ⟨h5, h6⟩, h7, h8⟩ := h
  have t1 := inB_yes h1
  have t2 := inB_yes h2
  have hm1 := mk_f32 th (by omega)
  have hm2 := mk_f32 bo (by omega)
  have HM1 := Lib.hid hm1
  have HM2 := Lib.hid hm2
  clear hm1 hm2
  go_enter Try.func15, Try.ntmps15
  go_wp2_with (go_at_call 58; refine (c_l00In _ _ _ _).mono ?_; rintro e w' ⟨rfl, n1, rfl⟩)
  clear h1 h2 h3 h4 h5 h6 h7 h8
  have hm1 := HM1.out
  have hm2 := HM2.out
  (refine D.wp_region_pre 12 [] [1, 4] (by kernel_rfl) (by simp) (by kernel_rfl) (by kernel_rfl) (by kernel_rfl) ?_; simp only [List.take_succ_cons, List.take_zero]; apply Exists.intro)
  (apply D.lh_o; kernel_rfl; kernel_rfl; kernel_rfl; (intro W hW; have hWc := Grow.cells hW; go_simp; exact ⟨OneV.mk _, Grow.refl _⟩))
  (apply D.lh_new; kernel_rfl; kernel_rfl; kernel_rfl; (intro W hW; have hWc := Grow.cells hW; go_simp; exact ⟨NewAt.mk _ _ _ _, Grow.alloc _ _⟩); intro g hfr)
  revert g; intro g1 hg1'
  (apply D.lh_d; kernel_rfl; kernel_rfl; kernel_rfl; (intro W hW; go_simp; exact ⟨OneV.mk _, Grow.refl _⟩))
  (apply D.lh_o; kernel_rfl; kernel_rfl; kernel_rfl; (intro W hW; have hWc := Grow.cells hW; go_simp; exact ⟨OneV.mk _, Grow.refl _⟩))
  (apply D.lh_new; kernel_rfl; kernel_rfl; kernel_rfl; (intro W hW; have hWc := Grow.cells hW; go_simp; exact ⟨NewAt.mk _ _ _ _, Grow.alloc _ _⟩); intro g hfr)
  revert g; intro g2 hg2'
  (apply D.lh_d; kernel_rfl; kernel_rfl; kernel_rfl; (intro W hW; go_simp; exact ⟨OneV.mk _, Grow.refl _⟩))
  (apply D.lh_o; kernel_rfl; kernel_rfl; kernel_rfl; (intro W hW; have hWc := Grow.cells hW; go_simp; exact ⟨OneV.mk _, Grow.refl _⟩))
  (apply D.lh_v (fun t : Nat => Value.agg #[.int .i64 1, .float .f32 (nv .f32 (fop .sub .f32 1065353216 ke) t), .float .f32 ke, .float .f32 0, .float .f32 0, .float .f32 0]) 0; kernel_rfl; kernel_rfl; kernel_rfl; (intro W hW; go_simp; exact (c_sOnePole _ _).mono fun e w' ⟨t, he, hb⟩ => ⟨⟨t, he⟩, hb⟩); intro tp)
  (apply D.lh_o; kernel_rfl; kernel_rfl; kernel_rfl; (intro W hW; go_simp; first | exact gB (c_sBlockDc _ _) | exact gV (c_sBlockDc _ _)))
  (apply D.lh_o; kernel_rfl; kernel_rfl; kernel_rfl; (intro W hW; have hWc := Grow.cells hW; go_simp; exact ⟨OneV.mk _, Grow.refl _⟩))
  (apply D.lh_o; kernel_rfl; kernel_rfl; kernel_rfl; (intro W hW; have hWc := Grow.cells hW; go_simp; exact ⟨OneV.mk _, Grow.refl _⟩))
  (apply D.lh_d; kernel_rfl; kernel_rfl; kernel_rfl; (intro W hW; go_simp; exact ⟨OneV.mk _, Grow.refl _⟩))
  refine D.lh_nil ?_
  intro W hW
  obtain ⟨⟨hG, hg1⟩, hg2⟩ := hW
  have ho1 := OF.of_block (n := th) hg1 (by simp) (by omega)
  have ho2 := OF.of_block (n := bo) hg2 (by simp) (by omega)
  have hz1 : g1 < W.heap.size := (Array.getElem?_eq_some_iff.1 hg1).1
  have hz2 : g2 < W.heap.size := (Array.getElem?_eq_some_iff.1 hg2).1
  have kW : blkAt W w.heap.size = some (.cells #[.slice none 0 0, .int .i64 0, .slice none 0 0, .int .i64 0, .int .i64 0, .float .f32 0, .float .f32 0, .float .f32 0, .float .f32 0, .float .f32 0, .int .i64 0, .float .f32 0, .float .f32 0, .float .f32 0, .float .f32 0, .float .f32 0, .float .f32 0, .float .f32 0] 31) :=
    (hG.block w.heap.size (by simp)).trans (blk_alloc_at _ _ _ (by simp))
  have hzW : w.heap.size < W.heap.size := (Array.getElem?_eq_some_iff.1 (show W.heap[w.heap.size]? = _ from kW)).1
  have bW : Below w.heap.size w W := Below.trans (b := (w.alloc _).drewN _) (by (repeat (first | (with_reducible refine Below.drewN ?_) | (with_reducible refine Below.drew ?_) | ((with_reducible refine Below.alloc ?_ ?_ _); rotate_left; (first | omega | (simp <;> omega))) | ((with_reducible refine Below.setCell ?_ ?_ _); rotate_left; (first | omega | (simp <;> omega))) | (with_reducible exact Below.refl _ _) | (with_reducible assumption)))) (Below.mono hG (by simp))
  have hn1 : ¬ g1 < w.heap.size + 1 := by simpa using hg1'
  have hn2 : ¬ (g1 = g2 ∨ g2 < w.heap.size + 1) := by simpa using hg2'
  clear hG hg1 hg2
  generalize (w.alloc _).drewN _ = w0 at *
  simp only [Act.put, List.setIfInBounds_toArray, List.set_cons_succ, List.set_cons_zero]
  (refine wpAny_step (i := 12) (by kernel_rfl) rfl rfl (fun K hK => ?_); go_simp; refine hK _ _ ?_; clear hK; try simp only [Act.put, List.setIfInBounds_toArray, List.set_cons_succ, List.set_cons_zero])
  (refine wpAny_step (i := 13) (by kernel_rfl) rfl rfl (fun K hK => ?_); go_simp; refine hK _ _ ?_; clear hK; try simp only [Act.put, List.setIfInBounds_toArray, List.set_cons_succ, List.set_cons_zero])
  refine wpAny_end (by kernel_rfl) ?_
  go_wp2
  refine bodyPost_ret (v := ?v) (by simp [results, Try.results15, go_sem, *] <;> rfl) rfl ?_
  exact ⟨some ⟨g1, 0, none⟩, some ⟨g2, 0, none⟩, th, bo, g1, g2, tp, 0, 0, 0, 0, 0, 0, 0, 0, 0, 0, 0, rfl, by (repeat (first | (with_reducible refine Below.drewN ?_) | (with_reducible refine Below.drew ?_) | ((with_reducible refine Below.alloc ?_ ?_ _); rotate_left; (first | omega | (simp <;> omega))) | ((with_reducible refine Below.setCell ?_ ?_ _); rotate_left; (first | omega | (simp <;> omega))) | ((with_reducible refine Below.setCells ?_ ?_ _); rotate_left; (first | omega | (simp <;> omega))) | (with_reducible exact Below.refl _ _) | (with_reducible assumption))), fun _ => ⟨by omega, by rw [size_setCells]; exact hz1⟩, fun _ => ⟨by omega, by rw [size_setCells]; exact hz2⟩, fun h => hn2 (Or.inl h), by (repeat (first | (with_reducible assumption) | (with_reducible refine OF.draw ?_) | (with_reducible exact OF.made' (by simp) (by simp) (by omega)) | (with_reducible refine OF.alloc ?_ _) | ((with_reducible refine OF.setCells ?_ ?_ _); rotate_left; (first | omega | (simp <;> omega))) | ((with_reducible refine OF.setCell ?_ ?_ _); rotate_left; (first | omega | (simp <;> omega))))), by (repeat (first | (with_reducible assumption) | (with_reducible refine OF.draw ?_) | (with_reducible exact OF.made' (by simp) (by simp) (by omega)) | (with_reducible refine OF.alloc ?_ _) | ((with_reducible refine OF.setCells ?_ ?_ _); rotate_left; (first | omega | (simp <;> omega))) | ((with_reducible refine OF.setCell ?_ ?_ _); rotate_left; (first | omega | (simp <;> omega)))))⟩
theorem c_NewJet_ok (th bo : Nat) (ke ne fa : Nat) (w : World) (h : newJetB th bo ke ne fa = true) :
    Calls Try.prog 16 #[.int .i64 th, .int .i64 bo, .float .f32 ke, .float .f32 ne, .float .f32 fa] w (newJetR th bo ke ne fa w) := by
  unfold newJetB at h
  simp only [Bool.and_eq_true] at h
  obtain ⟨h1, h2, h3, h4, h5⟩ := h
  have t1 := inB_yes h1
  have t2 := inB_yes h2
  go_enter Try.func16, Try.ntmps16
  go_wp2_with (first | (go_at_call 61; refine (c_within _ _ _ _).mono ?_; rintro e w' ⟨rfl, n1, rfl⟩) | (go_at_call 62; refine (c_isKeep _ _).mono ?_; rintro e w' ⟨rfl, n1, rfl⟩) | (go_at_call 63; refine (c_inside _ _ _ _).mono ?_; rintro e w' ⟨rfl, n1, rfl⟩))
  refine (c_NewRing th _ (by omega) (by omega)).mono ?_
  rintro e w1 ⟨g1, rfl, hb1, hg1, hz1, ho1⟩
  have k1 : blkAt w1 w.heap.size = some (.cells #[.slice none 0 0, .int .i64 0, .slice none 0 0, .int .i64 0, .int .i64 0, .float .f32 0, .float .f32 0, .float .f32 0, .float .f32 0, .float .f32 0, .int .i64 0, .float .f32 0, .float .f32 0, .float .f32 0, .float .f32 0, .float .f32 0, .float .f32 0, .float .f32 0] 31) :=
    (hb1.block w.heap.size (by simp)).trans (blk_alloc_at _ _ _ (by simp))
  have zw1 : w.heap.size < w1.heap.size := (Array.getElem?_eq_some_iff.1 (show w1.heap[w.heap.size]? = _ from k1)).1
  have b1 : Below w.heap.size w w1 := Below.trans (b := (w.alloc _).drewN _) (by (repeat (first | (with_reducible refine Below.drewN ?_) | (with_reducible refine Below.drew ?_) | ((with_reducible refine Below.alloc ?_ ?_ _); rotate_left; (first | omega | (simp <;> omega))) | ((with_reducible refine Below.setCell ?_ ?_ _); rotate_left; (first | omega | (simp <;> omega))) | (with_reducible exact Below.refl _ _) | (with_reducible assumption)))) (Below.mono hb1 (by simp))
  have n1 : w.heap.size < g1 := by simp at hg1; omega
  clear h1 h2 h3 h4 h5 hb1 hg1
  generalize (w.alloc _).drewN _ = w0 at *
  go_wp2_with fail
  refine (c_NewRing bo _ (by omega) (by omega)).mono ?_
  rintro e w2 ⟨g2, rfl, hb2, hg2, hz2, ho2⟩
  have k2 := (hb2.block w.heap.size (by simp; omega)).trans ((blk_alloc_ne _ _ _ zw1).trans k1)
  have r1 := (hb2.block w1.heap.size (by simp)).trans (blk_alloc _ _)
  have zw2 : w1.heap.size < w2.heap.size := by have := hb2.size; simp at this; omega
  have o1 := (ho1.alloc (.cells #[.slice (some ⟨g1, 0, none⟩) th th, .int .i64 0] 25)).below hb2 (Nat.le_refl _)
  have n2 : w1.heap.size < g2 := by simp at hg2; omega
  have b2 : Below w.heap.size w w2 := Below.trans (Below.alloc b1 (by omega) _) (hb2.mono (by simp; omega))
  clear k1 ho1 hb2 hg2 b1
  go_wp2_with fail
  have k3 := (blk_alloc_ne w2 (.cells #[.slice (some ⟨g2, 0, none⟩) bo bo, .int .i64 0] 25) w.heap.size (by omega)).trans k2
  have r1' := (blk_alloc_ne w2 (.cells #[.slice (some ⟨g2, 0, none⟩) bo bo, .int .i64 0] 25) w1.heap.size (by omega)).trans r1
  have r2 := blk_alloc w2 (.cells #[.slice (some ⟨g2, 0, none⟩) bo bo, .int .i64 0] 25)
  have b3 := Below.alloc b2 (by omega) (.cells #[.slice (some ⟨g2, 0, none⟩) bo bo, .int .i64 0] 25)
  have o1' := o1.alloc (.cells #[.slice (some ⟨g2, 0, none⟩) bo bo, .int .i64 0] 25)
  have o2' := ho2.alloc (.cells #[.slice (some ⟨g2, 0, none⟩) bo bo, .int .i64 0] 25)
  have zw3 : w2.heap.size < (w2.alloc (.cells #[.slice (some ⟨g2, 0, none⟩) bo bo, .int .i64 0] 25)).heap.size := by simp
  clear k2 r1 b2 o1 ho2
  generalize w2.alloc (.cells #[.slice (some ⟨g2, 0, none⟩) bo bo, .int .i64 0] 25) = W2 at *
  have c10 := cell_block (show W2.heap[w1.heap.size]? = _ from r1') 0
  have c11 := cell_block (show W2.heap[w1.heap.size]? = _ from r1') 1
  have c20 := cell_block (show W2.heap[w2.heap.size]? = _ from r2) 0
  have c21 := cell_block (show W2.heap[w2.heap.size]? = _ from r2) 1
  simp at c10 c11 c20 c21
  have z1 : w1.heap.size < W2.heap.size := by omega
  clear r1' r2
  (refine D.wp_region_pre 8 [] [] (by kernel_rfl) (by simp) (by kernel_rfl) (by kernel_rfl) (by kernel_rfl) ?_; simp only [List.take_succ_cons, List.take_zero]; apply Exists.intro)
  iterate 3 (apply D.lh_o; kernel_rfl; kernel_rfl; kernel_rfl; (intro W hW; have hWc := Grow.cells hW; go_simp; exact ⟨OneV.mk _, Grow.refl _⟩))
  (apply D.lh_v (fun t : Nat => Value.agg #[.int .i64 1, .float .f32 (nv .f32 (fop .sub .f32 1065353216 ke) t), .float .f32 ke, .float .f32 0, .float .f32 0, .float .f32 0]) 0; kernel_rfl; kernel_rfl; kernel_rfl; (intro W hW; go_simp; exact (c_OnePole _ _).mono fun e w' ⟨t, he, hb⟩ => ⟨⟨t, he⟩, hb⟩); intro tp)
  (apply D.lh_o; kernel_rfl; kernel_rfl; kernel_rfl; (intro W hW; go_simp; first | exact gB (c_BlockDc _ _) | exact gV (c_BlockDc _ _)))
  (apply D.lh_o; kernel_rfl; kernel_rfl; kernel_rfl; (intro W hW; have hWc := Grow.cells hW; go_simp; exact ⟨OneV.mk _, Grow.refl _⟩))
  (apply D.lh_o; kernel_rfl; kernel_rfl; kernel_rfl; (intro W hW; have hWc := Grow.cells hW; go_simp; exact ⟨OneV.mk _, Grow.refl _⟩))
  (apply D.lh_d; kernel_rfl; kernel_rfl; kernel_rfl; (intro W hW; go_simp; exact ⟨OneV.mk _, Grow.refl _⟩))
  refine D.lh_nil ?_
  intro W hG
  have kW : blkAt W w.heap.size = _ := (hG.block w.heap.size (by omega)).trans k3
  have hzW : w.heap.size < W.heap.size := by have := hG.size; omega
  have bW : Below w.heap.size w W := Below.trans b3 (Below.mono hG (by omega))
  have oW1 := o1'.below hG (Nat.le_refl _)
  have oW2 := o2'.below hG (Nat.le_refl _)
  have hW1 : g1 < W.heap.size := by have := hG.size; omega
  have hW2 : g2 < W.heap.size := by have := hG.size; omega
  clear hG c10 c11 c20 c21 k3
  simp only [Act.put, List.setIfInBounds_toArray, List.set_cons_succ, List.set_cons_zero]
  (refine wpAny_step (i := 8) (by kernel_rfl) rfl rfl (fun K hK => ?_); go_simp; refine hK _ _ ?_; clear hK; try simp only [Act.put, List.setIfInBounds_toArray, List.set_cons_succ, List.set_cons_zero])
  (refine wpAny_step (i := 9) (by kernel_rfl) rfl rfl (fun K hK => ?_); go_simp; refine hK _ _ ?_; clear hK; try simp only [Act.put, List.setIfInBounds_toArray, List.set_cons_succ, List.set_cons_zero])
  refine wpAny_end (by kernel_rfl) ?_
  go_wp2
  refine bodyPost_ret (v := ?v) (by simp [results, Try.results16, go_sem, *] <;> rfl) rfl ?_
  exact ⟨some ⟨g1, 0, none⟩, some ⟨g2, 0, none⟩, th, bo, g1, g2, tp, 0, 0, 0, 0, 0, 0, 0, 0, 0, 0, 0, rfl, by (repeat (first | (with_reducible refine Below.drewN ?_) | (with_reducible refine Below.drew ?_) | ((with_reducible refine Below.alloc ?_ ?_ _); rotate_left; (first | omega | (simp <;> omega))) | ((with_reducible refine Below.setCell ?_ ?_ _); rotate_left; (first | omega | (simp <;> omega))) | ((with_reducible refine Below.setCells ?_ ?_ _); rotate_left; (first | omega | (simp <;> omega))) | (with_reducible exact Below.refl _ _) | (with_reducible assumption))), fun _ => ⟨by omega, by rw [size_setCells]; exact hW1⟩, fun _ => ⟨by omega, by rw [size_setCells]; exact hW2⟩, by omega, by (repeat (first | (with_reducible assumption) | (with_reducible refine OF.draw ?_) | (with_reducible exact OF.made' (by simp) (by simp) (by omega)) | (with_reducible refine OF.alloc ?_ _) | ((with_reducible refine OF.setCells ?_ ?_ _); rotate_left; (first | omega | (simp <;> omega))) | ((with_reducible refine OF.setCell ?_ ?_ _); rotate_left; (first | omega | (simp <;> omega))))), by (repeat (first | (with_reducible assumption) | (with_reducible refine OF.draw ?_) | (with_reducible exact OF.made' (by simp) (by simp) (by omega)) | (with_reducible refine OF.alloc ?_ _) | ((with_reducible refine OF.setCells ?_ ?_ _); rotate_left; (first | omega | (simp <;> omega))) | ((with_reducible refine OF.setCell ?_ ?_ _); rotate_left; (first | omega | (simp <;> omega)))))⟩
end Go.Proofs.Ytbkafmikaojclaa
