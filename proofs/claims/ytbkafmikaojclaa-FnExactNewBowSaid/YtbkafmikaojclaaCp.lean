
/-
Contracts of copies of rings, and of rings that are made silent.
-/
import Derived.Test.YtbkafmikaojclaaAq
namespace Go.Proofs.Ytbkafmikaojclaa
open Go Go.RowKit Fl
theorem c_l02Copy (b o : Nat) (a : Option Addr) (n c : Nat) (xs : List Nat) (i : Int) (w : World) (hb : b < w.heap.size) (h0 : w.cell? ⟨b, o, none⟩ = some (.slice a n c)) (h1 : w.cell? ⟨b, o + 1, none⟩ = some (.int .i64 i)) (hf : FS w a n c xs) (hn : 1 ≤ n) (hn2 : n ≤ 1048576) :
    Calls Try.prog 144 #[.pointer (some ⟨b, o, none⟩)] w (fun e w' => ∃ g k, e = .returned (.agg #[.slice (some ⟨g, 0, none⟩) n k, .int .i64 i]) ∧ Below w.heap.size w w') := by
  have H := Lib.hid hf
  clear hf
  have hb1 : b < w.heap.size + 1 := by omega
  have hal : Below w.heap.size w (w.alloc (.cells #[.slice none 0 0, .int .i64 0] 25)) := by (repeat (first | (with_reducible refine Below.drewN ?_) | (with_reducible refine Below.drew ?_) | ((with_reducible refine Below.alloc ?_ ?_ _); rotate_left; (first | omega | (simp <;> omega))) | ((with_reducible refine Below.setCell ?_ ?_ _); rotate_left; (first | omega | (simp <;> omega))) | (with_reducible exact Below.refl _ _) | (with_reducible assumption)))
  go_enter Try.func144, Try.ntmps144
  go_wp2
  (refine wp_region_pre 10 [] [0, 5] (by kernel_rfl) (by simp) (by kernel_rfl) (by kernel_rfl) (by kernel_rfl) ?_; simp only [List.take_succ_cons, List.take_zero]; apply Exists.intro)
  (apply lh_new; kernel_rfl; kernel_rfl; kernel_rfl; (intro W hW; have hWc := Grow.cells hW; go_simp; exact ⟨NewAt.mk _ _ _ _, Grow.alloc _ _⟩); intro g hfr)
  iterate 4 (apply lh_o; kernel_rfl; kernel_rfl; kernel_rfl; (intro W hW; have hWc := Grow.cells hW; go_simp; exact ⟨OneV.mk _, Grow.refl _⟩))
  apply lh_w (fun g : Nat × Nat => Value.slice (some ⟨g.1, 0, none⟩) n g.2) (fun _ _ => True) (0, 0) (fun _ _ _ h _ => h) (fun i j h => by obtain ⟨i1, i2⟩ := i; obtain ⟨j1, j2⟩ := j; simp at h; simp [h])
  kernel_rfl
  kernel_rfl
  kernel_rfl
  · intro W hW
    have hWc := Grow.cells hW
    obtain ⟨k, W', hb', hr⟩ := run_copy a n c xs W g (FS.below (B := w.heap.size) H.out (hal.trans (Below.mono hW hal.size)) (Nat.le_refl _)) hn hn2
    go_simp
    exact ⟨⟨(W.heap.size, k), rfl, trivial⟩, hb'⟩
  exact fun _ _ _ hG h w hw => h w (hG w hw)
  intro q
  iterate 4 (apply lh_o; kernel_rfl; kernel_rfl; kernel_rfl; (intro W hW; have hWc := Grow.cells hW; go_simp; exact ⟨OneV.mk _, Grow.refl _⟩))
  refine lh_nil ?_
  intro W hW
  have hG := hW.1.1
  clear hW
  obtain ⟨hcW, hfW, hzW⟩ := bcell hG
  simp only [Act.put, List.setIfInBounds_toArray, List.set_cons_succ, List.set_cons_zero]
  (refine wpAny_step (i := 10) (by kernel_rfl) rfl rfl (fun K hK => ?_); go_simp; refine hK _ _ ?_; clear hK; try simp only [Act.put, List.setIfInBounds_toArray, List.set_cons_succ, List.set_cons_zero])
  (refine wpAny_step (i := 11) (by kernel_rfl) rfl rfl (fun K hK => ?_); go_simp; refine hK _ _ ?_; clear hK; try simp only [Act.put, List.setIfInBounds_toArray, List.set_cons_succ, List.set_cons_zero])
  refine wpAny_end (by kernel_rfl) ?_
  go_wp2
  refine bodyPost_ret (v := .agg #[.slice (some ⟨q.1, 0, none⟩) n q.2, .int .i64 i]) (by simp [results, Try.results144, go_sem, *] <;> rfl) rfl ?_
  have bW : Below w.heap.size w W := hal.trans (Below.mono hG hal.size)
  exact ⟨q.1, q.2, rfl, by (repeat (first | (with_reducible refine Below.drewN ?_) | (with_reducible refine Below.drew ?_) | ((with_reducible refine Below.alloc ?_ ?_ _); rotate_left; (first | omega | (simp <;> omega))) | ((with_reducible refine Below.setCell ?_ ?_ _); rotate_left; (first | omega | (simp <;> omega))) | (with_reducible exact Below.refl _ _) | (with_reducible assumption)))⟩
theorem c_l05Muted (b o : Nat) (a : Option Addr) (n c : Nat) (i : Int) (w : World) (hb : b < w.heap.size) (h0 : w.cell? ⟨b, o, none⟩ = some (.slice a n c)) (h1 : w.cell? ⟨b, o + 1, none⟩ = some (.int .i64 i)) (hn2 : n ≤ 1048576) :
    Calls Try.prog 108 #[.pointer (some ⟨b, o, none⟩)] w (NewR n w fun s => .agg #[s, .int .i64 i]) := by
  have hb1 : b < w.heap.size + 1 := by omega
  have hmk := mk_f32 n (by omega)
  have hal : Below w.heap.size w (w.alloc (.cells #[.slice none 0 0, .int .i64 0] 25)) := by (repeat (first | (with_reducible refine Below.drewN ?_) | (with_reducible refine Below.drew ?_) | ((with_reducible refine Below.alloc ?_ ?_ _); rotate_left; (first | omega | (simp <;> omega))) | ((with_reducible refine Below.setCell ?_ ?_ _); rotate_left; (first | omega | (simp <;> omega))) | (with_reducible exact Below.refl _ _) | (with_reducible assumption)))
  go_enter Try.func108, Try.ntmps108
  go_wp2
  (refine wp_region_pre 10 [] [5] (by kernel_rfl) (by simp) (by kernel_rfl) (by kernel_rfl) (by kernel_rfl) ?_; simp only [List.take_succ_cons, List.take_zero]; apply Exists.intro)
  iterate 5 (apply lh_o; kernel_rfl; kernel_rfl; kernel_rfl; (intro W hW; have hWc := Grow.cells hW; go_simp; exact ⟨OneV.mk _, Grow.refl _⟩))
  (apply lh_new; kernel_rfl; kernel_rfl; kernel_rfl; (intro W hW; have hWc := Grow.cells hW; go_simp; exact ⟨NewAt.mk _ _ _ _, Grow.alloc _ _⟩); intro g hfr)
  iterate 4 (apply lh_o; kernel_rfl; kernel_rfl; kernel_rfl; (intro W hW; have hWc := Grow.cells hW; go_simp; exact ⟨OneV.mk _, Grow.refl _⟩))
  refine lh_nil ?_
  intro W hW
  obtain ⟨hG, hg⟩ := hW
  have ho := OF.of_block (n := n) hg (by simp) (by omega)
  have hgs : g < W.heap.size := (Array.getElem?_eq_some_iff.1 hg).1
  obtain ⟨hcW, hfW, hzW⟩ := bcell hG
  clear hg hmk
  simp only [Act.put, List.setIfInBounds_toArray, List.set_cons_succ, List.set_cons_zero]
  (refine wpAny_step (i := 10) (by kernel_rfl) rfl rfl (fun K hK => ?_); go_simp; refine hK _ _ ?_; clear hK; try simp only [Act.put, List.setIfInBounds_toArray, List.set_cons_succ, List.set_cons_zero])
  (refine wpAny_step (i := 11) (by kernel_rfl) rfl rfl (fun K hK => ?_); go_simp; refine hK _ _ ?_; clear hK; try simp only [Act.put, List.setIfInBounds_toArray, List.set_cons_succ, List.set_cons_zero])
  refine wpAny_end (by kernel_rfl) ?_
  go_wp2
  refine bodyPost_ret (v := .agg #[.slice (some ⟨g, 0, none⟩) n n, .int .i64 i]) (by simp [results, Try.results108, go_sem, *] <;> rfl) rfl ?_
  have bW : Below w.heap.size w W := hal.trans (Below.mono hG hal.size)
  have hfr' : ¬ g < w.heap.size + 1 := by simpa using hfr
  exact ⟨g, rfl, by (repeat (first | (with_reducible refine Below.drewN ?_) | (with_reducible refine Below.drew ?_) | ((with_reducible refine Below.alloc ?_ ?_ _); rotate_left; (first | omega | (simp <;> omega))) | ((with_reducible refine Below.setCell ?_ ?_ _); rotate_left; (first | omega | (simp <;> omega))) | (with_reducible exact Below.refl _ _) | (with_reducible assumption))), by omega, by (first | omega | (simp; omega)), by (repeat (first | (with_reducible assumption) | (with_reducible refine OF.draw ?_) | (with_reducible exact OF.made' (by simp) (by simp) (by omega)) | (with_reducible refine OF.alloc ?_ _) | ((with_reducible refine OF.setCell ?_ ?_ _); rotate_left; (first | omega | (simp <;> omega)))))⟩
theorem c_mute (b o : Nat) (a : Option Addr) (n c : Nat) (w : World) (hb : b < w.heap.size) (h0 : w.cell? ⟨b, o, none⟩ = some (.slice a n c)) (hf : w.frozen? ⟨b, o, none⟩ = false) (hn2 : n ≤ 1048576) :
    Calls Try.prog 109 #[.pointer (some ⟨b, o, none⟩)] w (fun e w' => e = .returned (.tuple #[]) ∧ w' = (w.setCell ⟨b, o, none⟩ (.slice (some ⟨w.heap.size, 0, none⟩) n n)).alloc (.cells (arr (List.replicate n 0)) 22)) := by
  have hmk := mk_f32 n (by omega)
  go_enter Try.func109, Try.ntmps109
  go_wp2
  go_end0
  exact ⟨rfl, rfl⟩
end Go.Proofs.Ytbkafmikaojclaa
