
/-
Contracts over arrays of floats.
-/
import Derived.Test.YtfhegjjgfaeinaaCb
import Derived.Test.YtfhegjjgfaeinaaLo
namespace Go.Proofs.Ytfhegjjgfaeinaa
open Go Go.RowKit Fl

/-- the value is returned; what was there is there -/
def RetV (v : Value) (w : World) (e : Ending) (w' : World) : Prop := e = .returned v ∧ Below w.heap.size w w'
theorem Below.drewN {B : Nat} {a w : World} {n : Nat} (h : Below B a w) : Below B a (w.drewN n) := ⟨h.os, h.tape, h.output, h.size, h.block⟩
theorem c_toFloat32A4 (x0 x1 x2 x3 : Nat) (w : World) : Calls Try.prog 104 #[.agg #[.float .f32 x0, .float .f32 x1, .float .f32 x2, .float .f32 x3]] w (RetV (.agg #[.float .f32 x0, .float .f32 x1, .float .f32 x2, .float .f32 x3]) w) := by
  go_enter Try.func104, Try.ntmps104
  go_wp2
  refine wp_loop_rounds 5 ?_
  iterate 4 (rw [rounds_succ]; go_wp2)
  rw [rounds_succ]
  go_wp2
  exact bodyPost_ret (v := .agg #[.float .f32 x0, .float .f32 x1, .float .f32 x2, .float .f32 x3]) (by simp [results, Try.results104, go_sem]) rfl ⟨rfl, by (repeat (first | (with_reducible refine Below.drewN ?_) | (with_reducible refine Below.drew ?_) | ((with_reducible refine Below.alloc ?_ ?_ _); rotate_left; (first | omega | (simp <;> omega))) | ((with_reducible refine Below.setCell ?_ ?_ _); rotate_left; (first | omega | (simp <;> omega))) | (with_reducible exact Below.refl _ _) | (with_reducible assumption)))⟩

/-- what is taken of each -/
def spT (a b c d y : Nat) : Nat := fop .quo .f32 (fop .mul .f32 y (fop .add .f32 (fop .add .f32 (fop .add .f32 a b) c) d)) 1073741824
def Ret4 (a b c d : Nat) (w : World) (e : Ending) (w' : World) : Prop := ∃ t0 t1 t2 t3, e = .returned (.agg #[.float .f32 (nv .f32 a t0), .float .f32 (nv .f32 b t1), .float .f32 (nv .f32 c t2), .float .f32 (nv .f32 d t3)]) ∧ Below w.heap.size w w'
theorem lx_callB {P : Program} {f : FuncId} {args : Array Value} {w : World} {n : Nat} {b : Bool} (h : Calls P f args (w.drewN n) (RetB b (w.drewN n))) :
    Calls P f args (w.drewN n) (fun e w'' => ∃ v, OneV (.bool b) v ∧ e = .returned v ∧ ∃ m, w'' = w.drewN m) :=
  h.mono fun _ _ ⟨he, m, hm⟩ => ⟨_, OneV.mk _, he, n + m, by rw [hm, World.drewN_drewN]⟩
theorem lx_callB2 {P : Program} {f : FuncId} {args : Array Value} {w : World} {n k : Nat} {b : Bool} (h : Calls P f args (w.drewN (k + n)) (RetB b (w.drewN (k + n)))) :
    Calls P f args (w.drewN (k + n)) (fun e w'' => ∃ v, OneV (.bool b) v ∧ e = .returned v ∧ ∃ m, w'' = w.drewN (k + m)) :=
  h.mono fun _ _ ⟨he, m, hm⟩ => ⟨_, OneV.mk _, he, n + m, by rw [hm, World.drewN_drewN, Nat.add_assoc]⟩
def fl (b : Nat) : Value := .float .f32 b
def arr (xs : List Nat) : Array Value := (xs.map fl).toArray
theorem arr_size (xs : List Nat) : (arr xs).size = xs.length := by simp [arr]
def nth (xs : List Nat) (i : Nat) : Nat := xs.getD i 0
theorem arr_get (xs : List Nat) (i : Nat) (h : i < xs.length) : (arr xs)[i]? = some (.float .f32 (nth xs i)) := by
  simp [arr, h, fl, nth]
theorem cell_new (w : World) (cs : Array Value) (T : TypeId) (i : Nat) : (w.alloc (.cells cs T)).cell? ⟨w.heap.size, i, none⟩ = cs[i]? := by
  have h : (w.alloc (.cells cs T)).heap[w.heap.size]? = some (.cells cs T) := (MapKept.heap_alloc w _).1
  unfold World.cell?
  rw [h]
  rfl
theorem cell_old (w : World) (o : Obj) (b i : Nat) (hb : b < w.heap.size) : (w.alloc o).cell? ⟨b, i, none⟩ = w.cell? ⟨b, i, none⟩ :=
  World.cell?_of_block (Below.heap_alloc w o b hb)
/-- alike, up to the not-a-number -/
def Alk (xs ys : List Nat) : Prop := ∀ i, up (nth ys i) = up (nth xs i)

theorem c_eqFloat32A4 (xs ys : List Nat) (w : World) (hx : xs.length = 4) (hy : ys.length = 4) (h : Alk xs ys) :
    Calls Try.prog 77 #[.agg (arr xs), .agg (arr ys)] w (RetV (.bool true) w) := by
  have c1 : ∀ k, k < 4 → ((w.alloc (.cells (arr xs) 49)).alloc (.cells (arr ys) 49)).cell? ⟨w.heap.size, k, none⟩ = some (.float .f32 (nth xs k)) := fun k hk => by
    rw [cell_old _ _ _ _ (by simp), cell_new, arr_get _ _ (by omega)]
  have c2 : ∀ k, k < 4 → ((w.alloc (.cells (arr xs) 49)).alloc (.cells (arr ys) 49)).cell? ⟨w.heap.size + 1, k, none⟩ = some (.float .f32 (nth ys k)) := fun k hk => by
    have := cell_new (w.alloc (.cells (arr xs) 49)) (arr ys) 49 k
    rw [show (w.alloc (.cells (arr xs) 49)).heap.size = w.heap.size + 1 by simp] at this
    rw [this, arr_get _ _ (by omega)]
  have C1 := Lib.hid c1
  have C2 := Lib.hid c2
  clear c1 c2 hx hy
  go_enter Try.func77, Try.ntmps77
  go_wp2
  go_loopw [5] (fun i wr => ∃ k : Nat, k ≤ 4 ∧ i = .int .i64 k ∧ ∃ n, wr = ((w.alloc (.cells (arr xs) 49)).alloc (.cells (arr ys) 49)).drewN n) (fun i _ => 4 - (intOf i).toNat)
  case atStart => exact ⟨0, by omega, rfl, 0, rfl⟩
  case round =>
    obtain ⟨k, hk, rfl, n, rfl⟩ := hrel
    by_cases hlt : k < 4
    · have d1 := C1.out k hlt
      have d2 := C2.out k hlt
      have hu := h k
      go_wp2_with fail
      refine wp_region_sets' (by kernel_rfl) (by kernel_rfl) ?_
      apply Exists.intro
      iterate 10 (first | (apply lx_want; rfl; (intro n; go_simp; exact ⟨LF.mk _ _ _, _, (by first | rfl | exact congrArg _ (Nat.add_assoc _ _ _))⟩); rintro _ ⟨t, rfl⟩) | (apply lx_want; rfl; (intro n; go_simp; exact ⟨OneV.mk _, _, (by first | rfl | exact congrArg _ (Nat.add_assoc _ _ _))⟩); rintro _ rfl) | (apply lx_want; rfl; (intro n; go_simp; first | exact lx_callB (c_sameFloat _ _ _ _) | exact lx_callB2 (c_sameFloat _ _ _ _)); rintro _ rfl) | (apply lx_skip; rfl))
      (refine lx_nil (Vl := []) ?_; intro n; simp only [Act.put, List.setIfInBounds_toArray, List.set_cons_succ, List.set_cons_zero])
      go_wp2
      go_roundw
      case rel => exact ⟨k + 1, by omega, by go_num, _, rfl⟩
      case measure => simp [intOf]; omega
    · obtain rfl : k = 4 := by omega
      go_wp2
      go_ret
      exact ⟨rfl, by (repeat (first | (with_reducible refine Below.drewN ?_) | (with_reducible refine Below.drew ?_) | ((with_reducible refine Below.alloc ?_ ?_ _); rotate_left; (first | omega | (simp <;> omega))) | ((with_reducible refine Below.setCell ?_ ?_ _); rotate_left; (first | omega | (simp <;> omega))) | (with_reducible exact Below.refl _ _) | (with_reducible assumption)))⟩

theorem Alk.four {a0 a1 a2 a3 b0 b1 b2 b3 : Nat} (h0 : up b0 = up a0) (h1 : up b1 = up a1) (h2 : up b2 = up a2) (h3 : up b3 = up a3) : Alk [a0, a1, a2, a3] [b0, b1, b2, b3] := by
  intro i
  match i with
  | 0 => exact h0
  | 1 => exact h1
  | 2 => exact h2
  | 3 => exact h3
  | n + 4 => rfl
theorem c_eq4 (a0 a1 a2 a3 b0 b1 b2 b3 : Nat) (w : World) (h0 : up b0 = up a0) (h1 : up b1 = up a1) (h2 : up b2 = up a2) (h3 : up b3 = up a3) :
    Calls Try.prog 77 #[.agg #[.float .f32 a0, .float .f32 a1, .float .f32 a2, .float .f32 a3], .agg #[.float .f32 b0, .float .f32 b1, .float .f32 b2, .float .f32 b3]] w (RetV (.bool true) w) :=
  c_eqFloat32A4 [a0, a1, a2, a3] [b0, b1, b2, b3] w rfl rfl (Alk.four h0 h1 h2 h3)
theorem bcell {W w1 : World} (hb : Below W.heap.size W w1) : (∀ b o, b < W.heap.size → w1.cell? ⟨b, o, none⟩ = W.cell? ⟨b, o, none⟩) ∧ (∀ b o, b < W.heap.size → w1.frozen? ⟨b, o, none⟩ = W.frozen? ⟨b, o, none⟩) ∧ W.heap.size ≤ w1.heap.size :=
  ⟨fun b o h => hb.cell (p := ⟨b, o, none⟩) h, fun b o h => hb.frozen (p := ⟨b, o, none⟩) h, hb.size⟩
end Go.Proofs.Ytfhegjjgfaeinaa
