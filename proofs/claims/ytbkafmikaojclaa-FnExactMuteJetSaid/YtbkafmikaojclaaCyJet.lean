
/-
The copy of a bow.
-/
import Derived.Test.YtbkafmikaojclaaCp
import Derived.Test.YtbkafmikaojclaaGj
import Derived.Test.YtbkafmikaojclaaJs
import Derived.Test.YtbkafmikaojclaaBq
namespace Go.Proofs.Ytbkafmikaojclaa
open Go Go.RowKit Fl
set_option maxRecDepth 100000 in
set_option maxHeartbeats 1000000 in
theorem c_l05CopyJet (b o : Nat) (a1 : Option Addr) (n1 c1 : Nat) (xs1 : List Nat) (i1 : Int) (a2 : Option Addr) (n2 c2 : Nat) (xs2 : List Nat) (i2 : Int) (k1 : Int) (f1_0 f1_1 f1_2 f1_3 f1_4 : Nat) (k2 : Int) (f2_0 f2_1 f2_2 f2_3 f2_4 : Nat) (x1 : Nat) (x2 : Nat) (w : World) (h_1 : FS w a1 n1 c1 xs1) (h_2 : FS w a2 n2 c2 xs2) (m_1 : 1 ≤ n1) (m'_1 : n1 ≤ 1048576) (m_2 : 1 ≤ n2) (m'_2 : n2 ≤ 1048576)
    (hb : b < w.heap.size)
    (e0 : w.cell? ⟨b, o, none⟩ = some (.slice a1 n1 c1))
    (e1 : w.cell? ⟨b, o + 1, none⟩ = some (.int .i64 i1))
    (e2 : w.cell? ⟨b, o + 2, none⟩ = some (.slice a2 n2 c2))
    (e3 : w.cell? ⟨b, o + 3, none⟩ = some (.int .i64 i2))
    (e4 : w.cell? ⟨b, o + 4, none⟩ = some (.int .i64 k1))
    (e5 : w.cell? ⟨b, o + 5, none⟩ = some (.float .f32 f1_0))
    (e6 : w.cell? ⟨b, o + 6, none⟩ = some (.float .f32 f1_1))
    (e7 : w.cell? ⟨b, o + 7, none⟩ = some (.float .f32 f1_2))
    (e8 : w.cell? ⟨b, o + 8, none⟩ = some (.float .f32 f1_3))
    (e9 : w.cell? ⟨b, o + 9, none⟩ = some (.float .f32 f1_4))
    (e10 : w.cell? ⟨b, o + 10, none⟩ = some (.int .i64 k2))
    (e11 : w.cell? ⟨b, o + 11, none⟩ = some (.float .f32 f2_0))
    (e12 : w.cell? ⟨b, o + 12, none⟩ = some (.float .f32 f2_1))
    (e13 : w.cell? ⟨b, o + 13, none⟩ = some (.float .f32 f2_2))
    (e14 : w.cell? ⟨b, o + 14, none⟩ = some (.float .f32 f2_3))
    (e15 : w.cell? ⟨b, o + 15, none⟩ = some (.float .f32 f2_4))
    (e16 : w.cell? ⟨b, o + 16, none⟩ = some (.float .f32 x1))
    (e17 : w.cell? ⟨b, o + 17, none⟩ = some (.float .f32 x2)) :
    Calls Try.prog 110 #[.pointer (some ⟨b, o, none⟩)] w (fun e w' => ∃ g1 k_1 g2 k_2, e = .returned (.agg #[.slice (some ⟨g1, 0, none⟩) n1 k_1, .int .i64 i1, .slice (some ⟨g2, 0, none⟩) n2 k_2, .int .i64 i2, .int .i64 k1, .float .f32 f1_0, .float .f32 f1_1, .float .f32 f1_2, .float .f32 f1_3, .float .f32 f1_4, .int .i64 k2, .float .f32 f2_0, .float .f32 f2_1, .float .f32 f2_2, .float .f32 f2_3, .float .f32 f2_4, .float .f32 x1, .float .f32 x2]) ∧ Below w.heap.size w w') := by
  have K1 : Hid (∀ W, Below w.heap.size w W → Calls Try.prog 144 #[.pointer (some ⟨b, o, none⟩)] W (fun e w' => ∃ g k, e = .returned (.agg #[.slice (some ⟨g, 0, none⟩) n1 k, .int .i64 i1]) ∧ Below W.heap.size W w')) := fun W hW => c_l02Copy b (o) a1 n1 c1 xs1 i1 W (Nat.lt_of_lt_of_le hb hW.size) (by rw [hW.cell (p := ⟨b, o, none⟩) hb]; assumption) (by rw [hW.cell (p := ⟨b, o + 1, none⟩) hb]; assumption) (h_1.below hW (Nat.le_refl _)) m_1 m'_1
  have K2 : Hid (∀ W, Below w.heap.size w W → Calls Try.prog 144 #[.pointer (some ⟨b, o + 2, none⟩)] W (fun e w' => ∃ g k, e = .returned (.agg #[.slice (some ⟨g, 0, none⟩) n2 k, .int .i64 i2]) ∧ Below W.heap.size W w')) := fun W hW => c_l02Copy b (o + 2) a2 n2 c2 xs2 i2 W (Nat.lt_of_lt_of_le hb hW.size) (by rw [hW.cell (p := ⟨b, o + 2, none⟩) hb]; assumption) (by rw [hW.cell (p := ⟨b, o + 2 + 1, none⟩) hb]; assumption) (h_2.below hW (Nat.le_refl _)) m_2 m'_2
  clear h_1 h_2
  have hb1 : b < w.heap.size + 1 := by omega
  have hal : Below w.heap.size w (w.alloc (.cells #[.slice none 0 0, .int .i64 0, .slice none 0 0, .int .i64 0, .int .i64 0, .float .f32 0, .float .f32 0, .float .f32 0, .float .f32 0, .float .f32 0, .int .i64 0, .float .f32 0, .float .f32 0, .float .f32 0, .float .f32 0, .float .f32 0, .float .f32 0, .float .f32 0] 31)) := by (repeat (first | (with_reducible refine Below.drewN ?_) | (with_reducible refine Below.drew ?_) | ((with_reducible refine Below.alloc ?_ ?_ _); rotate_left; (first | omega | (simp <;> omega))) | ((with_reducible refine Below.setCell ?_ ?_ _); rotate_left; (first | omega | (simp <;> omega))) | ((with_reducible refine Below.setCells ?_ ?_ _); rotate_left; (first | omega | (simp <;> omega))) | (with_reducible exact Below.refl _ _) | (with_reducible assumption)))
  go_enter Try.func110, Try.ntmps110
  go_wp2
  (refine wp_region_pre 24 [] [3, 7] (by kernel_rfl) (by simp) (by kernel_rfl) (by kernel_rfl) (by kernel_rfl) ?_; simp only [List.take_succ_cons, List.take_zero]; apply Exists.intro)
  iterate 3 (apply lh_o; kernel_rfl; kernel_rfl; kernel_rfl; (intro W hW; have hWc := Grow.cells hW; go_simp; exact ⟨OneV.mk _, Grow.refl _⟩))
  apply lh_w (fun g : Nat × Nat => Value.agg #[.slice (some ⟨g.1, 0, none⟩) n1 g.2, .int .i64 i1]) (fun _ _ => True) (0, 0) (fun _ _ _ h _ => h) (fun i j h => by obtain ⟨i1, i2⟩ := i; obtain ⟨j1, j2⟩ := j; simp at h; simp [h])
  kernel_rfl
  kernel_rfl
  kernel_rfl
  · intro W hW
    have hWc := Grow.cells hW
    go_simp
    exact (K1.out W (hal.trans (Below.mono hW hal.size))).mono fun e w' ⟨g, k, he, hb⟩ => ⟨(g, k), he, trivial, hb⟩
  exact fun _ _ _ hG h w hw => h w (hG w hw)
  intro q1
  iterate 3 (apply lh_o; kernel_rfl; kernel_rfl; kernel_rfl; (intro W hW; have hWc := Grow.cells hW; go_simp; exact ⟨OneV.mk _, Grow.refl _⟩))
  apply lh_w (fun g : Nat × Nat => Value.agg #[.slice (some ⟨g.1, 0, none⟩) n2 g.2, .int .i64 i2]) (fun _ _ => True) (0, 0) (fun _ _ _ h _ => h) (fun i j h => by obtain ⟨i1, i2⟩ := i; obtain ⟨j1, j2⟩ := j; simp at h; simp [h])
  kernel_rfl
  kernel_rfl
  kernel_rfl
  · intro W hW
    have hWc := Grow.cells hW
    go_simp
    exact (K2.out W (hal.trans (Below.mono hW hal.size))).mono fun e w' ⟨g, k, he, hb⟩ => ⟨(g, k), he, trivial, hb⟩
  exact fun _ _ _ hG h w hw => h w (hG w hw)
  intro q2
  iterate 16 (apply lh_o; kernel_rfl; kernel_rfl; kernel_rfl; (intro W hW; have hWc := Grow.cells hW; go_simp; exact ⟨OneV.mk _, Grow.refl _⟩))
  refine lh_nil ?_
  intro W hW
  have hG := hW.1.1
  clear hW
  obtain ⟨hcW, hfW, hzW⟩ := bcell hG
  have hkW := bblk hG
  simp only [Act.put, List.setIfInBounds_toArray, List.set_cons_succ, List.set_cons_zero]
  (refine wpAny_step (i := 24) (by kernel_rfl) rfl rfl (fun K hK => ?_); go_simp; refine hK _ _ ?_; clear hK; try simp only [Act.put, List.setIfInBounds_toArray, List.set_cons_succ, List.set_cons_zero])
  (refine wpAny_step (i := 25) (by kernel_rfl) rfl rfl (fun K hK => ?_); go_simp; refine hK _ _ ?_; clear hK; try simp only [Act.put, List.setIfInBounds_toArray, List.set_cons_succ, List.set_cons_zero])
  refine wpAny_end (by kernel_rfl) ?_
  go_wp2
  refine bodyPost_ret (v := .agg #[.slice (some ⟨q1.1, 0, none⟩) n1 q1.2, .int .i64 i1, .slice (some ⟨q2.1, 0, none⟩) n2 q2.2, .int .i64 i2, .int .i64 k1, .float .f32 f1_0, .float .f32 f1_1, .float .f32 f1_2, .float .f32 f1_3, .float .f32 f1_4, .int .i64 k2, .float .f32 f2_0, .float .f32 f2_1, .float .f32 f2_2, .float .f32 f2_3, .float .f32 f2_4, .float .f32 x1, .float .f32 x2]) (by simp [results, Try.results110, go_sem, *] <;> rfl) rfl ?_
  have bW : Below w.heap.size w W := hal.trans (Below.mono hG hal.size)
  exact ⟨q1.1, q1.2, q2.1, q2.2, rfl, by (repeat (first | (with_reducible refine Below.drewN ?_) | (with_reducible refine Below.drew ?_) | ((with_reducible refine Below.alloc ?_ ?_ _); rotate_left; (first | omega | (simp <;> omega))) | ((with_reducible refine Below.setCell ?_ ?_ _); rotate_left; (first | omega | (simp <;> omega))) | ((with_reducible refine Below.setCells ?_ ?_ _); rotate_left; (first | omega | (simp <;> omega))) | (with_reducible exact Below.refl _ _) | (with_reducible assumption)))⟩


end Go.Proofs.Ytbkafmikaojclaa
