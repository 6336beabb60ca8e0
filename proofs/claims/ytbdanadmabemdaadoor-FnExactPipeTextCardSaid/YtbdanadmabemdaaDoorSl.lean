
/-
Contracts over slices of floats.
-/
import Derived.Test.YtbdanadmabemdaaDoorDf
import Derived.Test.YtbdanadmabemdaaDoorNf
namespace Go.Proofs.YtbdanadmabemdaaDoor
open Go Go.RowKit Fl

theorem infoF : (Tryd.prog.info? 25).map (fun i => (i.zero, i.size, i.bytes)) = some (some (.float .f32 0), 1, 4) := by kernel_rfl
theorem made_zero (n : Nat) : madeCells #[Value.float .f32 0] n = arr (List.replicate n 0) := by
  apply Array.ext_getElem?
  intro i
  simp only [madeCells, arr]
  by_cases h : i < n
  · simp [h, fl, Nat.mod_one]
  · simp [h]
theorem mk_f32 (n : Nat) (hn : n ≤ 70368744177664) (w : World) : (Instr.makeSlice 22 (.int .i64 n) (.int .i64 n)).run Tryd.prog w = .ok (.slice (some ⟨w.heap.size, 0, none⟩) n n) (w.alloc (.cells (arr (List.replicate n 0)) 25)) := by
  obtain ⟨i, hi, hz, hsz, hby⟩ := info_parts infoF
  have := run_make (P := Tryd.prog) w 22 25 i (.float .f32 0) Tryd.underlying22 hi hz .i64 .i64 n n (by omega) (by omega) (by rw [hby]; omega) (by omega)
  rw [this, hsz]
  simp only [Int.toNat_natCast, Nat.mul_one]
  rw [← made_zero]
  rfl

/-- what is left of a size -/
def szR (left n : Int) : Int := if left - n < 0 then -1 else left - n
theorem c_szFloat32S (a : Option Addr) (n c : Nat) (left : Int) (w : World) (h0 : 0 ≤ left) (h1 : left ≤ 1048576) (hn : n ≤ 9223372036854775807) :
    Calls Tryd.prog 37 #[.slice a n c, .int .i64 left] w (RetI .i64 (szR left n) w) := by
  by_cases hlt : left - n < 0
  · have e : szR left n = -1 := by unfold szR; rw [if_pos hlt]
    rw [e]
    go_enter Tryd.func37, Tryd.ntmps37
    go_wp2
    go_ret
    exact ⟨rfl, same0 _⟩
  · have e : szR left n = left - n := by unfold szR; rw [if_neg hlt]
    rw [e]
    go_enter Tryd.func37, Tryd.ntmps37
    go_wp2
    go_ret
    exact ⟨rfl, same0 _⟩

/-- the first k are copied -/
def cop (xs : List Nat) (n k : Nat) : List Nat := xs.take k ++ List.replicate (n - k) 0
theorem cop_zero (xs : List Nat) (n : Nat) : cop xs n 0 = List.replicate n 0 := by simp [cop]
theorem cop_all (xs : List Nat) (n : Nat) (h : xs.length = n) : cop xs n n = xs := by simp [cop, ← h]
theorem cop_set (xs : List Nat) (n k : Nat) (h : xs.length = n) (hk : k < n) : (arr (cop xs n k)).setIfInBounds k (.float .f32 (nth xs k)) = arr (cop xs n (k + 1)) := by
  apply Array.ext_getElem?
  intro i
  rw [Array.getElem?_setIfInBounds]
  simp only [arr, cop, List.getElem?_toArray, List.getElem?_map, List.getElem?_append, List.getElem?_take, List.getElem?_replicate, List.length_take, List.size_toArray, List.length_map, List.length_append, List.length_replicate, nth, List.getD_eq_getElem?_getD]
  by_cases h1 : k = i
  · subst h1
    have e1 : k < min (k + 1) xs.length := by omega
    have e2 : k < min k xs.length + (n - k) := by omega
    have e3 : xs[k]? = some xs[k] := List.getElem?_eq_getElem (by omega)
    simp [e1, e2, e3, fl]
  · rw [if_neg h1]
    by_cases h2 : i < k
    · have e1 : i < min (k + 1) xs.length := by omega
      have e2 : i < min k xs.length := by omega
      have e3 : i < k + 1 := by omega
      simp [e1, e2, e3, h2]
    · have e1 : ¬ i < min (k + 1) xs.length := by omega
      have e2 : ¬ i < min k xs.length := by omega
      simp only [e1, e2, if_false]
      have e3 : (i - min k xs.length < n - k) ↔ (i - min (k + 1) xs.length < n - (k + 1)) := by omega
      simp only [e3]

theorem c_toFloat32S (a : Option Addr) (n c : Nat) (xs : List Nat) (w : World) (h : FS w a n c xs) (hn : n ≤ 1048576) :
    Calls Tryd.prog 41 #[.slice a n c] w (fun e w' => e = .returned (.slice (some ⟨w.heap.size, 0, none⟩) n n) ∧ w' = w.alloc (.cells (arr xs) 25)) := by
  obtain ⟨hl, hcap, hbig, hat⟩ := h
  have hmk := mk_f32 n (by omega)
  have HL := Lib.hid hl
  have HA := Lib.hid hat
  have H0 : Hid (cop xs n 0 = List.replicate n 0) := cop_zero xs n
  clear hat hl
  go_enter Tryd.func41, Tryd.ntmps41
  go_wp2
  rw [← H0.out]
  go_loopw [4] (fun i wr => ∃ k : Nat, k ≤ n ∧ i = .int .i64 k ∧ wr = w.alloc (.cells (arr (cop xs n k)) 25)) (fun i _ => n - (intOf i).toNat)
  case atStart => exact ⟨0, by omega, rfl, rfl⟩
  case round =>
    obtain ⟨k, hk, rfl, rfl⟩ := hrel
    by_cases hlt : k < n
    · obtain ⟨b, o, rfl, hbl, hcell⟩ := HA.out (by omega)
      have hc := hcell k hlt
      have hsz : k < (arr (cop xs n k)).size := by simp [arr_size, cop, HL.out]; omega
      have hset := cop_set xs n k HL.out hlt
      have HSET := Lib.hid hset
      clear hcell hmk hset
      go_wp2
      exact ⟨⟨k + 1, by omega, by go_num, by rw [HSET.out]⟩, by simp [intOf]; omega⟩
    · obtain rfl : k = n := by omega
      have hall := cop_all xs k HL.out
      have HALL := Lib.hid hall
      clear hall hmk
      go_wp2
      go_ret
      exact ⟨rfl, by rw [HALL.out]⟩
theorem c_eqFloat32S (a b : Option Addr) (n c d : Nat) (xs ys : List Nat) (w : World) (ha : FS w a n c xs) (hb : FS w b n d ys) (h : Alk xs ys) :
    Calls Tryd.prog 46 #[.slice a n c, .slice b n d] w (RetB true w) := by
  have HA := Lib.hid ha.at_
  have HB := Lib.hid hb.at_
  have hbig : n ≤ 9223372036854775807 := Nat.le_trans ha.cap ha.big
  clear ha hb
  go_enter Tryd.func46, Tryd.ntmps46
  go_wp2
  go_loopw [5] (fun i wr => ∃ k : Nat, k ≤ n ∧ i = .int .i64 k ∧ ∃ q, wr = w.drewN q) (fun i _ => n - (intOf i).toNat)
  case atStart => exact ⟨0, by omega, rfl, 0, rfl⟩
  case round =>
    obtain ⟨k, hk, rfl, q, rfl⟩ := hrel
    by_cases hlt : k < n
    · obtain ⟨bl, o, rfl, hbl, hcell⟩ := HA.out (by omega)
      obtain ⟨bl2, o2, rfl, hbl2, hcell2⟩ := HB.out (by omega)
      have d1 := hcell k hlt
      have d2 := hcell2 k hlt
      have hu := h k
      clear hcell hcell2
      go_wp2_with fail
      refine wp_region_sets' (by kernel_rfl) (by kernel_rfl) ?_
      apply Exists.intro
      iterate 12 (first | (apply lx_want; rfl; (intro n; go_simp; exact ⟨LF.mk _ _ _, _, (by first | rfl | exact congrArg _ (Nat.add_assoc _ _ _))⟩); rintro _ ⟨t, rfl⟩) | (apply lx_want; rfl; (intro n; go_simp; exact ⟨OneV.mk _, _, (by first | rfl | exact congrArg _ (Nat.add_assoc _ _ _))⟩); rintro _ rfl) | (apply lx_want; rfl; (intro n; go_simp; first | exact lx_callB (c_sameFloat _ _ _ _) | exact lx_callB2 (c_sameFloat _ _ _ _)); rintro _ rfl) | (apply lx_skip; rfl))
      (refine lx_nil (Vl := []) ?_; intro n; simp only [Act.put, List.setIfInBounds_toArray, List.set_cons_succ, List.set_cons_zero])
      go_wp2
      go_roundw
      case rel => exact ⟨k + 1, by omega, by go_num, _, rfl⟩
      case measure => simp [intOf]; omega
    · obtain rfl : k = n := by omega
      go_wp2
      go_ret
      exact ⟨rfl, same1 _ _⟩
/-- only the block g is written -/
structure Upd (g : Nat) (w w' : World) : Prop where
  os : w'.os = w.os
  tape : w'.tape = w.tape
  output : w'.output = w.output
  size : w'.heap.size = w.heap.size
  block : ∀ k, k ≠ g → w'.heap[k]? = w.heap[k]?
theorem Upd.refl (g : Nat) (w : World) : Upd g w w := ⟨rfl, rfl, rfl, rfl, fun _ _ => rfl⟩
theorem Upd.trans {g : Nat} {a b c : World} (h : Upd g a b) (k : Upd g b c) : Upd g a c :=
  ⟨k.os.trans h.os, k.tape.trans h.tape, k.output.trans h.output, k.size.trans h.size, fun i hi => (k.block i hi).trans (h.block i hi)⟩
theorem Upd.drewN {g n : Nat} {a w : World} (h : Upd g a w) : Upd g a (w.drewN n) := ⟨h.os, h.tape, h.output, h.size, h.block⟩
theorem Upd.setCell {g : Nat} {a w : World} (h : Upd g a w) (o : Nat) (u : Value) : Upd g a (w.setCell ⟨g, o, none⟩ u) :=
  ⟨h.os, h.tape, h.output, (World.size_setCell _ _ _).trans h.size, fun k hk => (Below.heap_setCell _ _ _ _ (by exact hk)).trans (h.block k hk)⟩
theorem Upd.below {g B : Nat} {a w : World} (h : Upd g a w) (hB : B ≤ g) : Below B a w := ⟨h.os, h.tape, h.output, by rw [h.size]; omega, fun k hk => h.block k (by omega)⟩
/-- a slice of floats in a block of its own -/
structure OF (w : World) (g : Nat) (a : Option Addr) (n c : Nat) (xs : List Nat) : Prop where
  fs : FS w a n c xs
  own : 0 < n → ∃ o, a = some ⟨g, o, none⟩ ∧ ∀ i, i < n → w.frozen? ⟨g, o + i, none⟩ = false
theorem OF.draw {w : World} {g : Nat} {a : Option Addr} {n c m : Nat} {xs : List Nat} (h : OF w g a n c xs) : OF (w.drewN m) g a n c xs := ⟨h.fs.draw, h.own⟩
theorem OF.below {w w' : World} {g : Nat} {a : Option Addr} {n c B : Nat} {xs : List Nat} (h : OF w g a n c xs) (hb : Below B w w') (hB : w.heap.size ≤ B) : OF w' g a n c xs :=
  ⟨h.fs.below hb hB, fun hn => by
    obtain ⟨o, ha, hf⟩ := h.own hn
    obtain ⟨b, o', ha', hbl, _⟩ := h.fs.at_ hn
    have : b = g := by rw [ha] at ha'; simp at ha'; exact ha'.1.symm
    subst this
    exact ⟨o, ha, fun i hi => by rw [hb.frozen (p := ⟨b, o + i, none⟩) (Nat.lt_of_lt_of_le hbl hB)]; exact hf i hi⟩⟩
/-- a slice elsewhere stays -/
theorem FS.upd {w w' : World} {a : Option Addr} {n c g : Nat} {xs : List Nat} (h : FS w a n c xs) (hu : Upd g w w') (hg : ∀ b o, a = some ⟨b, o, none⟩ → b ≠ g) : FS w' a n c xs :=
  ⟨h.len, h.cap, h.big, fun hn => by
    obtain ⟨b, o, ha, hbl, hc⟩ := h.at_ hn
    exact ⟨b, o, ha, by rw [hu.size]; exact hbl, fun i hi => (World.cell?_of_block (hu.block b (hg b o ha))).trans (hc i hi)⟩⟩
/-- the number z as a float -/
def mkF (z : Int) : Nat := floatOfInt .f32 z
/-- numbers from k on -/
def marks (k : Int) (n : Nat) : List Nat := (List.range n).map fun i : Nat => mkF (k + i)
theorem marks_len (k : Int) (n : Nat) : (marks k n).length = n := by simp [marks]
theorem marks_nth (k : Int) (n i : Nat) (h : i < n) : nth (marks k n) i = mkF (k + i) := by simp [marks, nth, h]
/-- the first j are numbered -/
structure MK (w0 w : World) (g o n j : Nat) (k : Int) (xs : List Nat) : Prop where
  upd : Upd g w0 w
  new : ∀ i : Nat, i < j → w.cell? ⟨g, o + i, none⟩ = some (.float .f32 (mkF (k + i)))
  old : ∀ i : Nat, j ≤ i → i < n → w.cell? ⟨g, o + i, none⟩ = some (.float .f32 (nth xs i))
  fro : ∀ i : Nat, i < n → w.frozen? ⟨g, o + i, none⟩ = false
theorem MK.step {w0 w : World} {g o n j : Nat} {k : Int} {xs : List Nat} (h : MK w0 w g o n j k xs) (hj : j < n) :
    MK w0 (w.setCell ⟨g, o + j, none⟩ (.float .f32 (mkF (k + (j : Int))))) g o n (j + 1) k xs := by
  refine ⟨h.upd.setCell _ _, ?_, ?_, ?_⟩
  · intro i hi
    by_cases e : i = j
    · subst e; exact World.cell?_setCell_same _ _ _ (h.old i (Nat.le_refl _) hj)
    · rw [World.cell?_setCell_other _ _ _ _ (by intro hh; simp at hh <;> omega)]; exact h.new i (by omega)
  · intro i hi hn
    rw [World.cell?_setCell_other _ _ _ _ (by intro hh; simp at hh <;> omega)]; exact h.old i (by omega) hn
  · intro i hi
    rw [World.frozen?_setCell]; exact h.fro i hi
end Go.Proofs.YtbdanadmabemdaaDoor
