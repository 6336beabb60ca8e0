
/-
Contracts of choices out of bytes: next, pick.
-/
import Derived.Test.YtmhgcflccaflpaaCa
import Derived.Test.YtmhgcflccaflpaaDa
import Derived.Test.YtmhgcflccaflpaaLh
import Derived.Test.YtmhgcflccaflpaaLi
import Derived.Test.YtmhgcflccaflpaaLo
import Derived.Test.YtmhgcflccaflpaaLw
import Derived.IntWalk
namespace Go.Proofs.Ytmhgcflccaflpaa
open Go Go.RowKit Fl
theorem blk_set_cs {w : World} {g : Nat} {cs : Array Value} {T : TypeId} (h : w.heap[g]? = some (.cells cs T)) (o : Nat) (v : Value) : (w.setCell ⟨g, o, none⟩ v).heap[g]? = some (.cells (cs.setIfInBounds o v) T) := by
  unfold World.setCell
  simp [Array.getElem?_modify, h]
theorem blk_free {w : World} {g : Nat} {cs : Array Value} {T : TypeId} (h : w.heap[g]? = some (.cells cs T)) (o : Nat) : w.frozen? ⟨g, o, none⟩ = false := by
  unfold World.frozen?; rw [h]; simp
theorem cell_block' {w : World} {g : Nat} {cs : Array Value} {T : TypeId} (h : w.heap[g]? = some (.cells cs T)) (i : Nat) : w.cell? ⟨g, i, none⟩ = cs[i]? := by
  unfold World.cell?; rw [h]; rfl
/-- a slice of bytes -/
structure BS (w : World) (a : Option Addr) (n : Nat) : Prop where
  big : n ≤ 9223372036854775807
  at_ : 0 < n → ∃ b o, a = some ⟨b, o, none⟩ ∧ b < w.heap.size ∧ ∀ i, i < n → ∃ z : Nat, z ≤ 255 ∧ w.cell? ⟨b, o + i, none⟩ = some (.int .u8 (z : Int))
theorem BS.below {w w' : World} {B : Nat} {a : Option Addr} {n : Nat} (h : BS w a n) (hb : Below B w w') (hB : w.heap.size ≤ B) : BS w' a n :=
  ⟨h.big, fun hn => by
    obtain ⟨b, o, rfl, hlt, hc⟩ := h.at_ hn
    refine ⟨b, o, rfl, Nat.lt_of_lt_of_le hlt hb.size, fun i hi => ?_⟩
    obtain ⟨z, hz, e⟩ := hc i hi
    exact ⟨z, hz, (hb.cell (p := ⟨b, o + i, none⟩) (Nat.lt_of_lt_of_le hlt hB)).trans e⟩⟩
/-- the source of choices -/
structure Src (w0 w : World) (g : Nat) (a : Option Addr) (n c k : Nat) : Prop where
  below : Below w0.heap.size w0 w
  hg : w0.heap.size ≤ g
  blk : ∃ s : Int, w.heap[g]? = some (.cells #[.slice a n c, .int .i64 (k : Int), .int .u64 s] 59)
theorem Src.draw {w0 w : World} {g : Nat} {a : Option Addr} {n c k m : Nat} (h : Src w0 w g a n c k) : Src w0 (w.drewN m) g a n c k := ⟨Below.drewN h.below, h.hg, h.blk⟩
theorem Src.set1 {w0 w : World} {g : Nat} {a : Option Addr} {n c k j : Nat} (h : Src w0 w g a n c k) {z : Int} (hz : z = (j : Int)) : Src w0 (w.setCell ⟨g, 1, none⟩ (.int .i64 z)) g a n c j := by
  subst hz
  obtain ⟨s, hs⟩ := h.blk
  exact ⟨h.below.setCell h.hg _, h.hg, s, blk_set_cs hs 1 _⟩
theorem Src.set2 {w0 w : World} {g : Nat} {a : Option Addr} {n c k : Nat} (h : Src w0 w g a n c k) (z : Int) : Src w0 (w.setCell ⟨g, 2, none⟩ (.int .u64 z)) g a n c k := by
  obtain ⟨s, hs⟩ := h.blk
  exact ⟨h.below.setCell h.hg _, h.hg, z, blk_set_cs hs 2 _⟩
theorem and255 (x : Int) : ∃ z : Nat, z ≤ 255 ∧ IntKind.i64.wrap (bits .and .u64 x 255) = (z : Int) := by
  refine ⟨(BitVec.ofInt 64 x &&& BitVec.ofInt 64 255).toNat, ?_, ?_⟩
  · rw [BitVec.toNat_and, show (BitVec.ofInt 64 255).toNat = 255 by decide]
    exact Nat.and_le_right
  · have h : (BitVec.ofInt 64 x &&& BitVec.ofInt 64 255).toNat ≤ 255 := by
      rw [BitVec.toNat_and, show (BitVec.ofInt 64 255).toNat = 255 by decide]
      exact Nat.and_le_right
    show IntKind.i64.wrap (IntKind.u64.wrap ((BitVec.ofInt 64 x &&& BitVec.ofInt 64 255).toNat : Int)) = _
    generalize (BitVec.ofInt 64 x &&& BitVec.ofInt 64 255).toNat = m at *
    simp [IntKind.wrap, IntKind.bits, IntKind.signed]
    omega
def NextR (w0 : World) (g : Nat) (a : Option Addr) (n c k : Nat) (e : Ending) (w' : World) : Prop := ∃ z : Nat, z ≤ 255 ∧ e = .returned (.int .i64 (z : Int)) ∧ Src w0 w' g a n c k
theorem NextR.low {w0 : World} {g : Nat} {a : Option Addr} {n c k z : Nat} {w' : World} (hz : z ≤ 255) (h : Src w0 w' g a n c k) : NextR w0 g a n c k (.returned (.int .i64 (z : Int))) w' := ⟨z, hz, rfl, h⟩
theorem NextR.high {w0 : World} {g : Nat} {a : Option Addr} {n c k : Nat} {x : Int} {w' : World} (h : Src w0 w' g a n c k) : NextR w0 g a n c k (.returned (.int .i64 (wrap64 (bits .and .u64 x 255)))) w' := by
  obtain ⟨z, hz, e⟩ := and255 x
  have e2 : ∀ y : Int, wrap64 y = IntKind.i64.wrap y := fun y => by simp [wrap64, IntKind.wrap, IntKind.bits, IntKind.signed]; omega
  rw [e2, e]
  exact ⟨z, hz, rfl, h⟩
theorem c_next (w0 w : World) (g : Nat) (a : Option Addr) (n c k : Nat) (h : BS w0 a n) (S : Src w0 w g a n c k) (hk : k ≤ 1000) :
    Calls Try.prog 42 #[.pointer (some ⟨g, 0, none⟩)] w (NextR w0 g a n c (k + 1)) := by
  have HS := Lib.hid S
  have hbig := h.big
  obtain ⟨s, hs⟩ := S.blk
  have c0 : w.cell? ⟨g, 0, none⟩ = some (.slice a n c) := by rw [cell_block' hs]; rfl
  have c1 : w.cell? ⟨g, 1, none⟩ = some (.int .i64 (k : Int)) := by rw [cell_block' hs]; rfl
  have c2 : w.cell? ⟨g, 2, none⟩ = some (.int .u64 s) := by rw [cell_block' hs]; rfl
  have u1 : w.frozen? ⟨g, 1, none⟩ = false := blk_free hs 1
  have u2 : w.frozen? ⟨g, 2, none⟩ = false := blk_free hs 2
  have hgs := S.below.size
  have hg := S.hg
  have w1 : IntKind.i64.wrap ((k : Int) + 1) = (k : Int) + 1 := IntWalk.i64_in _ (by omega)
  by_cases hlt : k < n
  · obtain ⟨b, o, rfl, hbl, hc⟩ := h.at_ (by omega)
    obtain ⟨z, hz, hcell⟩ := hc k hlt
    have d0 := (S.below.cell (p := ⟨b, o + k, none⟩) hbl).trans hcell
    have nb : ¬ b = g := by omega
    have w2 : IntKind.i64.wrap (z : Int) = (z : Int) := IntWalk.i64_in _ (by omega)
    have hle : k + 1 ≤ n := hlt
    clear hcell hc h S hs hbl
    go_enter Try.func42, Try.ntmps42
    go_wp2
    refine wp_region_sets' (by kernel_rfl) (by kernel_rfl) ?_
    apply Exists.intro
    iterate 10 (apply lx_want; kernel_rfl; (intro n; go_simp; exact ⟨OneV.mk _, _, (by first | rfl | exact congrArg _ (Nat.add_assoc _ _ _))⟩); rintro _ rfl)
    (refine lx_nil (Vl := []) ?_; intro n; simp only [Act.put, List.setIfInBounds_toArray, List.set_cons_succ, List.set_cons_zero])
    go_wp2
    refine wp_region_sets' (by kernel_rfl) (by kernel_rfl) ?_
    apply Exists.intro
    iterate 12 (apply lx_want; kernel_rfl; (intro n; go_simp; exact ⟨OneV.mk _, _, (by first | rfl | exact congrArg _ (Nat.add_assoc _ _ _))⟩); rintro _ rfl)
    (refine lx_nil (Vl := []) ?_; intro n; simp only [Act.put, List.setIfInBounds_toArray, List.set_cons_succ, List.set_cons_zero])
    go_wp2
    refine wp_region_sets' (by kernel_rfl) (by kernel_rfl) ?_
    apply Exists.intro
    iterate 10 (apply lx_want; kernel_rfl; (intro n; go_simp; exact ⟨OneV.mk _, _, (by first | rfl | exact congrArg _ (Nat.add_assoc _ _ _))⟩); rintro _ rfl)
    (refine lx_nil (Vl := []) ?_; intro n; simp only [Act.put, List.setIfInBounds_toArray, List.set_cons_succ, List.set_cons_zero])
    go_wp2
    go_ret
    refine NextR.low hz ?_
    (repeat (first | exact HS.out | refine Src.draw ?_ | refine Src.set2 ?_ _ | refine Src.set1 (k := k) ?_ (by omega)))
  · have hno : ¬ (k + 1 ≤ n) := by omega
    have hno2 : ¬ ((k : Int) + 1 ≤ (n : Int)) := by omega
    clear h S hs
    go_enter Try.func42, Try.ntmps42
    go_wp2
    refine wp_region_sets' (by kernel_rfl) (by kernel_rfl) ?_
    apply Exists.intro
    iterate 10 (apply lx_want; kernel_rfl; (intro n; go_simp; exact ⟨OneV.mk _, _, (by first | rfl | exact congrArg _ (Nat.add_assoc _ _ _))⟩); rintro _ rfl)
    (refine lx_nil (Vl := []) ?_; intro n; simp only [Act.put, List.setIfInBounds_toArray, List.set_cons_succ, List.set_cons_zero])
    go_wp2
    refine wp_region_sets' (by kernel_rfl) (by kernel_rfl) ?_
    apply Exists.intro
    iterate 10 (apply lx_want; kernel_rfl; (intro n; go_simp; exact ⟨OneV.mk _, _, (by first | rfl | exact congrArg _ (Nat.add_assoc _ _ _))⟩); rintro _ rfl)
    (refine lx_nil (Vl := []) ?_; intro n; simp only [Act.put, List.setIfInBounds_toArray, List.set_cons_succ, List.set_cons_zero])
    go_wp2
    go_ret
    refine NextR.high ?_
    (repeat (first | exact HS.out | refine Src.draw ?_ | refine Src.set2 ?_ _ | refine Src.set1 (k := k) ?_ (by omega)))
def PickR (w0 : World) (g : Nat) (a : Option Addr) (n c k : Nat) (m : Int) (e : Ending) (w' : World) : Prop := ∃ (z : Int) (k' : Nat), 0 ≤ z ∧ (z < m ∨ z = 0) ∧ e = .returned (.int .i64 z) ∧ k' ≤ k + 2 ∧ Src w0 w' g a n c k'
theorem c_pick (w0 w : World) (g : Nat) (a : Option Addr) (n c k : Nat) (m : Int) (hm : m ≤ 2147483648) (h : BS w0 a n) (S : Src w0 w g a n c k) (hk : k ≤ 900) :
    Calls Try.prog 26 #[.pointer (some ⟨g, 0, none⟩), .int .i64 m] w (PickR w0 g a n c k m) := by
  by_cases h1 : m ≤ 1
  · go_enter Try.func26, Try.ntmps26
    go_wp2
    go_ret
    exact ⟨0, k, Int.le_refl _, .inr rfl, rfl, by omega, S⟩
  · by_cases h2 : (200 : Int) < m
    · go_enter Try.func26, Try.ntmps26
      go_wp2_with fail
      refine (c_next w0 w g a n c k h S (by omega)).mono ?_
      rintro e w1 ⟨x, hx, rfl, S1⟩
      go_wp2_with fail
      refine (c_next w0 w1 g a n c (k + 1) h S1 (by omega)).mono ?_
      rintro e w2 ⟨y, hy, rfl, S2⟩
      have e1 : IntKind.i64.wrap ((x : Int) * 256) = (x : Int) * 256 := IntWalk.i64_in _ (by omega)
      have e2 : IntKind.i64.wrap ((x : Int) * 256 + (y : Int)) = (x : Int) * 256 + (y : Int) := IntWalk.i64_in _ (by omega)
      have t1 := Int.emod_lt_of_pos ((x : Int) * 256 + (y : Int)) (show (0 : Int) < m by omega)
      have t2 := Int.emod_nonneg ((x : Int) * 256 + (y : Int)) (show m ≠ 0 by omega)
      have e3 : IntKind.i64.wrap (((x : Int) * 256 + (y : Int)) % m) = ((x : Int) * 256 + (y : Int)) % m := IntWalk.i64_in _ (by omega)
      have hne : ¬ m = 0 := by omega
      go_wp2
      go_ret
      exact ⟨_, k + 2, t2, .inl t1, rfl, by omega, S2⟩
    · go_enter Try.func26, Try.ntmps26
      go_wp2_with fail
      refine (c_next w0 w g a n c k h S (by omega)).mono ?_
      rintro e w1 ⟨x, hx, rfl, S1⟩
      have t1 := Int.emod_lt_of_pos (x : Int) (show (0 : Int) < m by omega)
      have t2 := Int.emod_nonneg (x : Int) (show m ≠ 0 by omega)
      have e3 : IntKind.i64.wrap ((x : Int) % m) = (x : Int) % m := IntWalk.i64_in _ (by omega)
      have hne : ¬ m = 0 := by omega
      go_wp2
      go_ret
      exact ⟨_, k + 1, t2, .inl t1, rfl, by omega, S1⟩
theorem c_l00From (w : World) (a : Option Addr) (n c : Nat) : Calls Try.prog 22 #[.slice a n c] w (fun e w' => ∃ g, e = .returned (.pointer (some ⟨g, 0, none⟩)) ∧ Src w w' g a n c 0) := by
  go_enter Try.func22, Try.ntmps22
  go_wp2
  go_ret
  exact ⟨_, rfl, by (repeat (first | (with_reducible refine Below.drewN ?_) | (with_reducible refine Below.drew ?_) | ((with_reducible refine Below.alloc ?_ ?_ _); rotate_left; (first | omega | (simp <;> omega))) | ((with_reducible refine Below.setCell ?_ ?_ _); rotate_left; (first | omega | (simp <;> omega))) | (with_reducible exact Below.refl _ _) | (with_reducible assumption))), Nat.le_refl _, 0, (MapKept.heap_alloc w _).1⟩
end Go.Proofs.Ytmhgcflccaflpaa
