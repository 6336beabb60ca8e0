
/-
The walk of the law of new bows.
-/
import Derived.Test.YtbkafmikaojclaaLw
import Derived.Test.YtbkafmikaojclaaLd
import Derived.Test.YtbkafmikaojclaaGb
import Derived.Test.YtbkafmikaojclaaWz
namespace Go.Proofs.Ytbkafmikaojclaa
open Go Go.RowKit Fl
theorem bUp {w a b : World} (h : Below w.heap.size w a) (k : Below a.heap.size a b) : Below w.heap.size w b := h.trans (k.mono h.size)

set_option maxRecDepth 100000 in
set_option maxHeartbeats 4000000 in
theorem l_NewBow (p : Int) (pl ke lo sl : Nat) (n1 : Nat) (xs1 : List Nat) (i1 : Int) (n2 : Nat) (xs2 : List Nat) (i2 : Int) (k1 : Int) (f1_0 f1_1 f1_2 f1_3 f1_4 : Nat) (x1 : Nat) (x2 : Nat) (code : Int) (w : World) (m1 : n1 ≤ 1048576) (m2 : n2 ≤ 1048576)
    (HS : ∀ w, Calls Try.prog 29 #[.int .i64 p, .float .f32 pl, .float .f32 ke, .float .f32 lo, .float .f32 sl] w (NewBow n1 xs1 i1 n2 xs2 i2 k1 f1_0 f1_1 f1_2 f1_3 f1_4 x1 x2 code w)) (HI : ∀ w, Calls Try.prog 30 #[.int .i64 p, .float .f32 pl, .float .f32 ke, .float .f32 lo, .float .f32 sl] w (NewBow n1 xs1 i1 n2 xs2 i2 k1 f1_0 f1_1 f1_2 f1_3 f1_4 x1 x2 code w)) :
    Calls Try.prog 6 #[.int .i64 p, .float .f32 pl, .float .f32 ke, .float .f32 lo, .float .f32 sl] w (RetV (.bool true) w) := by
  have HS := Lib.hid HS
  have HI := Lib.hid HI
  have hq : ¬ (1 + (n1 : Int) + (n2 : Int)) < 0 := by omega
  go_enter Try.func6, Try.ntmps6
  go_wp2_with fail
  refine (HS.out _).mono ?_
  rintro e w1 ⟨a1s, a2s, c1s, c2s, g1s, g2s, t_f1_0s, t_f1_1s, t_f1_2s, t_f1_3s, t_f1_4s, t_x1s, t_x2s, rfl, hb1, q1, q2, ne12s, o1s, o2s⟩
  have Q1s : Hid (0 < n1 → w.heap.size + 0 ≤ g1s ∧ g1s < w1.heap.size) := fun h => ⟨by have := (q1 h).1; simpa using this, (q1 h).2⟩
  have Q2s : Hid (0 < n2 → w.heap.size + 0 ≤ g2s ∧ g2s < w1.heap.size) := fun h => ⟨by have := (q2 h).1; simpa using this, (q2 h).2⟩
  have N0s := Lib.hid ne12s
  clear ne12s
  have S1 : Hid (w.heap.size + 0 ≤ w1.heap.size) := by show _ ≤ _; have := hb1.size; simpa using this
  have HB1 := Lib.hid (bUp (Below.refl _ _) hb1)
  clear hb1
  have O1s := Lib.hid o1s
  clear o1s q1
  have O2s := Lib.hid o2s
  clear o2s q2
  have G1 : Below w1.heap.size w1 (w1.alloc (.cells #[.slice a1s n1 c1s, .int .i64 i1, .slice a2s n2 c2s, .int .i64 i2, .int .i64 k1, .float .f32 (nv .f32 f1_0 t_f1_0s), .float .f32 (nv .f32 f1_1 t_f1_1s), .float .f32 (nv .f32 f1_2 t_f1_2s), .float .f32 (nv .f32 f1_3 t_f1_3s), .float .f32 (nv .f32 f1_4 t_f1_4s), .float .f32 (nv .f32 x1 t_x1s), .float .f32 (nv .f32 x2 t_x2s)] 44)) := Below.alloc (Below.refl _ _) (Nat.le_refl _) _
  go_wp2_with fail
  refine (HI.out _).mono ?_
  rintro e w2 ⟨a1i, a2i, c1i, c2i, g1i, g2i, t_f1_0i, t_f1_1i, t_f1_2i, t_f1_3i, t_f1_4i, t_x1i, t_x2i, rfl, hb2, q1, q2, ne12i, o1i, o2i⟩
  have Q1i : Hid (0 < n1 → w1.heap.size + 1 ≤ g1i ∧ g1i < w2.heap.size) := fun h => ⟨by have := (q1 h).1; simpa using this, (q1 h).2⟩
  have Q2i : Hid (0 < n2 → w1.heap.size + 1 ≤ g2i ∧ g2i < w2.heap.size) := fun h => ⟨by have := (q2 h).1; simpa using this, (q2 h).2⟩
  have N0i := Lib.hid ne12i
  clear ne12i
  have S2 : Hid (w1.heap.size + 1 ≤ w2.heap.size) := by show _ ≤ _; have := hb2.size; simpa using this
  have ksn : blkAt w2 w1.heap.size = some (.cells #[.slice a1s n1 c1s, .int .i64 i1, .slice a2s n2 c2s, .int .i64 i2, .int .i64 k1, .float .f32 (nv .f32 f1_0 t_f1_0s), .float .f32 (nv .f32 f1_1 t_f1_1s), .float .f32 (nv .f32 f1_2 t_f1_2s), .float .f32 (nv .f32 f1_3 t_f1_3s), .float .f32 (nv .f32 f1_4 t_f1_4s), .float .f32 (nv .f32 x1 t_x1s), .float .f32 (nv .f32 x2 t_x2s)] 44) := (hb2.block _ (ltb (blk_alloc w1 (.cells #[.slice a1s n1 c1s, .int .i64 i1, .slice a2s n2 c2s, .int .i64 i2, .int .i64 k1, .float .f32 (nv .f32 f1_0 t_f1_0s), .float .f32 (nv .f32 f1_1 t_f1_1s), .float .f32 (nv .f32 f1_2 t_f1_2s), .float .f32 (nv .f32 f1_3 t_f1_3s), .float .f32 (nv .f32 f1_4 t_f1_4s), .float .f32 (nv .f32 x1 t_x1s), .float .f32 (nv .f32 x2 t_x2s)] 44)))).trans (blk_alloc w1 (.cells #[.slice a1s n1 c1s, .int .i64 i1, .slice a2s n2 c2s, .int .i64 i2, .int .i64 k1, .float .f32 (nv .f32 f1_0 t_f1_0s), .float .f32 (nv .f32 f1_1 t_f1_1s), .float .f32 (nv .f32 f1_2 t_f1_2s), .float .f32 (nv .f32 f1_3 t_f1_3s), .float .f32 (nv .f32 f1_4 t_f1_4s), .float .f32 (nv .f32 x1 t_x1s), .float .f32 (nv .f32 x2 t_x2s)] 44))
  have HB2 := Lib.hid (bUp (bUp (HB1.out) G1) hb2)
  have O1s := Lib.hid ((OF.below O1s.out G1 (Nat.le_refl _)).below hb2 (Nat.le_refl _))
  have O2s := Lib.hid ((OF.below O2s.out G1 (Nat.le_refl _)).below hb2 (Nat.le_refl _))
  have ks := ksn
  clear ksn
  have ys := ltb ks
  clear hb2
  clear G1
  have O1i := Lib.hid o1i
  clear o1i q1
  have O2i := Lib.hid o2i
  clear o2i q2
  have G2 : Below w2.heap.size w2 (w2.alloc (.cells #[.slice a1i n1 c1i, .int .i64 i1, .slice a2i n2 c2i, .int .i64 i2, .int .i64 k1, .float .f32 (nv .f32 f1_0 t_f1_0i), .float .f32 (nv .f32 f1_1 t_f1_1i), .float .f32 (nv .f32 f1_2 t_f1_2i), .float .f32 (nv .f32 f1_3 t_f1_3i), .float .f32 (nv .f32 f1_4 t_f1_4i), .float .f32 (nv .f32 x1 t_x1i), .float .f32 (nv .f32 x2 t_x2i)] 44)) := Below.alloc (Below.refl _ _) (Nat.le_refl _) _
  go_wp2_with fail
  refine (c_eqBow' _ _ _ _ _ _ _ _ _ _ _ _ _ _ _ _ _ _ _ _ _ _ _ _ _ _ _ _ _ _ _ _ (FS.below (B := w2.heap.size) O1i.out.fs G2 (Nat.le_refl _)) (FS.below (B := w2.heap.size) O1s.out.fs G2 (Nat.le_refl _)) (Alk.refl _) (FS.below (B := w2.heap.size) O2i.out.fs G2 (Nat.le_refl _)) (FS.below (B := w2.heap.size) O2s.out.fs G2 (Nat.le_refl _)) (Alk.refl _) ⟨up_nv2 _ _ _, up_nv2 _ _ _, up_nv2 _ _ _, up_nv2 _ _ _, up_nv2 _ _ _⟩ (up_nv2 _ _ _) (up_nv2 _ _ _)).mono ?_
  rintro e w3 ⟨rfl, hb3⟩
  have S3 : Hid (w2.heap.size + 1 ≤ w3.heap.size) := by show _ ≤ _; have := hb3.size; simpa using this
  have ksn : blkAt w3 w1.heap.size = some (.cells #[.slice a1s n1 c1s, .int .i64 i1, .slice a2s n2 c2s, .int .i64 i2, .int .i64 k1, .float .f32 (nv .f32 f1_0 t_f1_0s), .float .f32 (nv .f32 f1_1 t_f1_1s), .float .f32 (nv .f32 f1_2 t_f1_2s), .float .f32 (nv .f32 f1_3 t_f1_3s), .float .f32 (nv .f32 f1_4 t_f1_4s), .float .f32 (nv .f32 x1 t_x1s), .float .f32 (nv .f32 x2 t_x2s)] 44) := (hb3.block _ (ltb ((blk_alloc_ne w2 (.cells #[.slice a1i n1 c1i, .int .i64 i1, .slice a2i n2 c2i, .int .i64 i2, .int .i64 k1, .float .f32 (nv .f32 f1_0 t_f1_0i), .float .f32 (nv .f32 f1_1 t_f1_1i), .float .f32 (nv .f32 f1_2 t_f1_2i), .float .f32 (nv .f32 f1_3 t_f1_3i), .float .f32 (nv .f32 f1_4 t_f1_4i), .float .f32 (nv .f32 x1 t_x1i), .float .f32 (nv .f32 x2 t_x2i)] 44) _ (ltb ks)).trans ks))).trans ((blk_alloc_ne w2 (.cells #[.slice a1i n1 c1i, .int .i64 i1, .slice a2i n2 c2i, .int .i64 i2, .int .i64 k1, .float .f32 (nv .f32 f1_0 t_f1_0i), .float .f32 (nv .f32 f1_1 t_f1_1i), .float .f32 (nv .f32 f1_2 t_f1_2i), .float .f32 (nv .f32 f1_3 t_f1_3i), .float .f32 (nv .f32 f1_4 t_f1_4i), .float .f32 (nv .f32 x1 t_x1i), .float .f32 (nv .f32 x2 t_x2i)] 44) _ (ltb ks)).trans ks)
  have kin : blkAt w3 w2.heap.size = some (.cells #[.slice a1i n1 c1i, .int .i64 i1, .slice a2i n2 c2i, .int .i64 i2, .int .i64 k1, .float .f32 (nv .f32 f1_0 t_f1_0i), .float .f32 (nv .f32 f1_1 t_f1_1i), .float .f32 (nv .f32 f1_2 t_f1_2i), .float .f32 (nv .f32 f1_3 t_f1_3i), .float .f32 (nv .f32 f1_4 t_f1_4i), .float .f32 (nv .f32 x1 t_x1i), .float .f32 (nv .f32 x2 t_x2i)] 44) := (hb3.block _ (ltb (blk_alloc w2 (.cells #[.slice a1i n1 c1i, .int .i64 i1, .slice a2i n2 c2i, .int .i64 i2, .int .i64 k1, .float .f32 (nv .f32 f1_0 t_f1_0i), .float .f32 (nv .f32 f1_1 t_f1_1i), .float .f32 (nv .f32 f1_2 t_f1_2i), .float .f32 (nv .f32 f1_3 t_f1_3i), .float .f32 (nv .f32 f1_4 t_f1_4i), .float .f32 (nv .f32 x1 t_x1i), .float .f32 (nv .f32 x2 t_x2i)] 44)))).trans (blk_alloc w2 (.cells #[.slice a1i n1 c1i, .int .i64 i1, .slice a2i n2 c2i, .int .i64 i2, .int .i64 k1, .float .f32 (nv .f32 f1_0 t_f1_0i), .float .f32 (nv .f32 f1_1 t_f1_1i), .float .f32 (nv .f32 f1_2 t_f1_2i), .float .f32 (nv .f32 f1_3 t_f1_3i), .float .f32 (nv .f32 f1_4 t_f1_4i), .float .f32 (nv .f32 x1 t_x1i), .float .f32 (nv .f32 x2 t_x2i)] 44))
  have HB3 := Lib.hid (bUp (bUp (HB2.out) G2) hb3)
  have O1s := Lib.hid ((OF.below O1s.out G2 (Nat.le_refl _)).below hb3 (Nat.le_refl _))
  have O2s := Lib.hid ((OF.below O2s.out G2 (Nat.le_refl _)).below hb3 (Nat.le_refl _))
  have O1i := Lib.hid ((OF.below O1i.out G2 (Nat.le_refl _)).below hb3 (Nat.le_refl _))
  have O2i := Lib.hid ((OF.below O2i.out G2 (Nat.le_refl _)).below hb3 (Nat.le_refl _))
  clear ks
  have ks := ksn
  clear ksn
  clear ys
  have ys := ltb ks
  have ki := kin
  clear kin
  have yi := ltb ki
  clear hb3
  clear G2
  go_wp2_with fail
  have lt1 : 0 < n1 → g1i < w3.heap.size := fun hpos => by
    have s1 := S1.out
    have s2 := S2.out
    have s3 := S3.out
    have q1s_ := Q1s.out
    have q2s_ := Q2s.out
    have n0s_ := N0s.out
    have q1i_ := Q1i.out
    have q2i_ := Q2i.out
    have n0i_ := N0i.out
    omega
  have lt2 : 0 < n2 → g2i < w3.heap.size := fun hpos => by
    have s1 := S1.out
    have s2 := S2.out
    have s3 := S3.out
    have q1s_ := Q1s.out
    have q2s_ := Q2s.out
    have n0s_ := N0s.out
    have q1i_ := Q1i.out
    have q2i_ := Q2i.out
    have n0i_ := N0i.out
    omega
  have nn12 : g1i ≠ g2i := by
    have s1 := S1.out
    have s2 := S2.out
    have s3 := S3.out
    have q1s_ := Q1s.out
    have q2s_ := Q2s.out
    have n0s_ := N0s.out
    have q1i_ := Q1i.out
    have q2i_ := Q2i.out
    have n0i_ := N0i.out
    omega
  refine (c_markBow' g1i g2i _ _ _ xs1 _ _ _ _ xs2 _ _ _ _ _ _ _ _ _ 1 _ O1i.out lt1 O2i.out lt2 nn12 (by omega) (by omega)).mono ?_
  rintro e w4 ⟨rfl, wr4, o1i, o2i⟩
  have S4 : Hid (w3.heap.size + 0 ≤ w4.heap.size) := by show _ ≤ _; have := wr4.size; simpa using this
  have ksn : blkAt w4 w1.heap.size = some (.cells #[.slice a1s n1 c1s, .int .i64 i1, .slice a2s n2 c2s, .int .i64 i2, .int .i64 k1, .float .f32 (nv .f32 f1_0 t_f1_0s), .float .f32 (nv .f32 f1_1 t_f1_1s), .float .f32 (nv .f32 f1_2 t_f1_2s), .float .f32 (nv .f32 f1_3 t_f1_3s), .float .f32 (nv .f32 f1_4 t_f1_4s), .float .f32 (nv .f32 x1 t_x1s), .float .f32 (nv .f32 x2 t_x2s)] 44) := (wr4.block _ (ltb ks) (by
    simp only [List.mem_append, mem_gl]
    have s1 := S1.out
    have s2 := S2.out
    have s3 := S3.out
    have s4 := S4.out
    have q1s_ := Q1s.out
    have q2s_ := Q2s.out
    have n0s_ := N0s.out
    have q1i_ := Q1i.out
    have q2i_ := Q2i.out
    have n0i_ := N0i.out
    omega)).trans ks
  have kin : blkAt w4 w2.heap.size = some (.cells #[.slice a1i n1 c1i, .int .i64 i1, .slice a2i n2 c2i, .int .i64 i2, .int .i64 k1, .float .f32 (nv .f32 f1_0 t_f1_0i), .float .f32 (nv .f32 f1_1 t_f1_1i), .float .f32 (nv .f32 f1_2 t_f1_2i), .float .f32 (nv .f32 f1_3 t_f1_3i), .float .f32 (nv .f32 f1_4 t_f1_4i), .float .f32 (nv .f32 x1 t_x1i), .float .f32 (nv .f32 x2 t_x2i)] 44) := (wr4.block _ (ltb ki) (by
    simp only [List.mem_append, mem_gl]
    have s1 := S1.out
    have s2 := S2.out
    have s3 := S3.out
    have s4 := S4.out
    have q1s_ := Q1s.out
    have q2s_ := Q2s.out
    have n0s_ := N0s.out
    have q1i_ := Q1i.out
    have q2i_ := Q2i.out
    have n0i_ := N0i.out
    omega)).trans ki
  have HB4 : Hid (Below w.heap.size w w4) := Below.trans (HB3.out) (wr4.below (HB3.out).size (fun g hg => by
    simp only [List.mem_append, mem_gl] at hg
    have s1 := S1.out
    have s2 := S2.out
    have s3 := S3.out
    have s4 := S4.out
    have q1s_ := Q1s.out
    have q2s_ := Q2s.out
    have n0s_ := N0s.out
    have q1i_ := Q1i.out
    have q2i_ := Q2i.out
    have n0i_ := N0i.out
    omega))
  have O1s := Lib.hid (OF.wr0 O1s.out wr4 (fun hpos => by
    simp only [List.mem_append, mem_gl]
    have s1 := S1.out
    have s2 := S2.out
    have s3 := S3.out
    have s4 := S4.out
    have q1s_ := Q1s.out
    have q2s_ := Q2s.out
    have n0s_ := N0s.out
    have q1i_ := Q1i.out
    have q2i_ := Q2i.out
    have n0i_ := N0i.out
    omega))
  have O2s := Lib.hid (OF.wr0 O2s.out wr4 (fun hpos => by
    simp only [List.mem_append, mem_gl]
    have s1 := S1.out
    have s2 := S2.out
    have s3 := S3.out
    have s4 := S4.out
    have q1s_ := Q1s.out
    have q2s_ := Q2s.out
    have n0s_ := N0s.out
    have q1i_ := Q1i.out
    have q2i_ := Q2i.out
    have n0i_ := N0i.out
    omega))
  clear ks
  have ks := ksn
  clear ksn
  clear ys
  have ys := ltb ks
  clear ki
  have ki := kin
  clear kin
  clear yi
  have yi := ltb ki
  clear wr4
  have O1i := Lib.hid o1i
  clear o1i lt1
  have O2i := Lib.hid o2i
  clear o2i lt2
  clear nn12
  go_wp2_with fail
  refine (c_heldBow' _ _ _ _ _ _ _ _ _ _ _ _ _ _ _ _ 1 _ O1i.out.fs O2i.out.fs (by omega) (by omega)).mono ?_
  rintro e w5 ⟨rfl, hb5⟩
  have S5 : Hid (w4.heap.size + 0 ≤ w5.heap.size) := by show _ ≤ _; have := hb5.size; simpa using this
  have ksn : blkAt w5 w1.heap.size = some (.cells #[.slice a1s n1 c1s, .int .i64 i1, .slice a2s n2 c2s, .int .i64 i2, .int .i64 k1, .float .f32 (nv .f32 f1_0 t_f1_0s), .float .f32 (nv .f32 f1_1 t_f1_1s), .float .f32 (nv .f32 f1_2 t_f1_2s), .float .f32 (nv .f32 f1_3 t_f1_3s), .float .f32 (nv .f32 f1_4 t_f1_4s), .float .f32 (nv .f32 x1 t_x1s), .float .f32 (nv .f32 x2 t_x2s)] 44) := (hb5.block _ (ltb ks)).trans ks
  have kin : blkAt w5 w2.heap.size = some (.cells #[.slice a1i n1 c1i, .int .i64 i1, .slice a2i n2 c2i, .int .i64 i2, .int .i64 k1, .float .f32 (nv .f32 f1_0 t_f1_0i), .float .f32 (nv .f32 f1_1 t_f1_1i), .float .f32 (nv .f32 f1_2 t_f1_2i), .float .f32 (nv .f32 f1_3 t_f1_3i), .float .f32 (nv .f32 f1_4 t_f1_4i), .float .f32 (nv .f32 x1 t_x1i), .float .f32 (nv .f32 x2 t_x2i)] 44) := (hb5.block _ (ltb ki)).trans ki
  have HB5 := Lib.hid (bUp (HB4.out) hb5)
  have O1s := Lib.hid (O1s.out.below hb5 (Nat.le_refl _))
  have O2s := Lib.hid (O2s.out.below hb5 (Nat.le_refl _))
  have O1i := Lib.hid (O1i.out.below hb5 (Nat.le_refl _))
  have O2i := Lib.hid (O2i.out.below hb5 (Nat.le_refl _))
  clear ks
  have ks := ksn
  clear ksn
  clear ys
  have ys := ltb ks
  clear ki
  have ki := kin
  clear kin
  clear yi
  have yi := ltb ki
  clear hb5
  go_wp2_with fail
  refine (HI.out _).mono ?_
  rintro e w6 ⟨a1h, a2h, c1h, c2h, g1h, g2h, t_f1_0h, t_f1_1h, t_f1_2h, t_f1_3h, t_f1_4h, t_x1h, t_x2h, rfl, hb6, q1, q2, ne12h, o1h, o2h⟩
  have Q1h : Hid (0 < n1 → w5.heap.size + 0 ≤ g1h ∧ g1h < w6.heap.size) := fun h => ⟨by have := (q1 h).1; simpa using this, (q1 h).2⟩
  have Q2h : Hid (0 < n2 → w5.heap.size + 0 ≤ g2h ∧ g2h < w6.heap.size) := fun h => ⟨by have := (q2 h).1; simpa using this, (q2 h).2⟩
  have N0h := Lib.hid ne12h
  clear ne12h
  have S6 : Hid (w5.heap.size + 0 ≤ w6.heap.size) := by show _ ≤ _; have := hb6.size; simpa using this
  have ksn : blkAt w6 w1.heap.size = some (.cells #[.slice a1s n1 c1s, .int .i64 i1, .slice a2s n2 c2s, .int .i64 i2, .int .i64 k1, .float .f32 (nv .f32 f1_0 t_f1_0s), .float .f32 (nv .f32 f1_1 t_f1_1s), .float .f32 (nv .f32 f1_2 t_f1_2s), .float .f32 (nv .f32 f1_3 t_f1_3s), .float .f32 (nv .f32 f1_4 t_f1_4s), .float .f32 (nv .f32 x1 t_x1s), .float .f32 (nv .f32 x2 t_x2s)] 44) := (hb6.block _ (ltb ks)).trans ks
  have kin : blkAt w6 w2.heap.size = some (.cells #[.slice a1i n1 c1i, .int .i64 i1, .slice a2i n2 c2i, .int .i64 i2, .int .i64 k1, .float .f32 (nv .f32 f1_0 t_f1_0i), .float .f32 (nv .f32 f1_1 t_f1_1i), .float .f32 (nv .f32 f1_2 t_f1_2i), .float .f32 (nv .f32 f1_3 t_f1_3i), .float .f32 (nv .f32 f1_4 t_f1_4i), .float .f32 (nv .f32 x1 t_x1i), .float .f32 (nv .f32 x2 t_x2i)] 44) := (hb6.block _ (ltb ki)).trans ki
  have HB6 := Lib.hid (bUp (HB5.out) hb6)
  have O1s := Lib.hid (O1s.out.below hb6 (Nat.le_refl _))
  have O2s := Lib.hid (O2s.out.below hb6 (Nat.le_refl _))
  have O1i := Lib.hid (O1i.out.below hb6 (Nat.le_refl _))
  have O2i := Lib.hid (O2i.out.below hb6 (Nat.le_refl _))
  clear ks
  have ks := ksn
  clear ksn
  clear ys
  have ys := ltb ks
  clear ki
  have ki := kin
  clear kin
  clear yi
  have yi := ltb ki
  clear hb6
  have O1h := Lib.hid o1h
  clear o1h q1
  have O2h := Lib.hid o2h
  clear o2h q2
  have G6 : Below w6.heap.size w6 (w6.alloc (.cells #[.slice a1h n1 c1h, .int .i64 i1, .slice a2h n2 c2h, .int .i64 i2, .int .i64 k1, .float .f32 (nv .f32 f1_0 t_f1_0h), .float .f32 (nv .f32 f1_1 t_f1_1h), .float .f32 (nv .f32 f1_2 t_f1_2h), .float .f32 (nv .f32 f1_3 t_f1_3h), .float .f32 (nv .f32 f1_4 t_f1_4h), .float .f32 (nv .f32 x1 t_x1h), .float .f32 (nv .f32 x2 t_x2h)] 44)) := Below.alloc (Below.refl _ _) (Nat.le_refl _) _
  go_wp2_with fail
  refine (c_eqBow' _ _ _ _ _ _ _ _ _ _ _ _ _ _ _ _ _ _ _ _ _ _ _ _ _ _ _ _ _ _ _ _ (FS.below (B := w6.heap.size) O1h.out.fs G6 (Nat.le_refl _)) (FS.below (B := w6.heap.size) O1s.out.fs G6 (Nat.le_refl _)) (Alk.refl _) (FS.below (B := w6.heap.size) O2h.out.fs G6 (Nat.le_refl _)) (FS.below (B := w6.heap.size) O2s.out.fs G6 (Nat.le_refl _)) (Alk.refl _) ⟨up_nv2 _ _ _, up_nv2 _ _ _, up_nv2 _ _ _, up_nv2 _ _ _, up_nv2 _ _ _⟩ (up_nv2 _ _ _) (up_nv2 _ _ _)).mono ?_
  rintro e w7 ⟨rfl, hb7⟩
  have S7 : Hid (w6.heap.size + 1 ≤ w7.heap.size) := by show _ ≤ _; have := hb7.size; simpa using this
  have ksn : blkAt w7 w1.heap.size = some (.cells #[.slice a1s n1 c1s, .int .i64 i1, .slice a2s n2 c2s, .int .i64 i2, .int .i64 k1, .float .f32 (nv .f32 f1_0 t_f1_0s), .float .f32 (nv .f32 f1_1 t_f1_1s), .float .f32 (nv .f32 f1_2 t_f1_2s), .float .f32 (nv .f32 f1_3 t_f1_3s), .float .f32 (nv .f32 f1_4 t_f1_4s), .float .f32 (nv .f32 x1 t_x1s), .float .f32 (nv .f32 x2 t_x2s)] 44) := (hb7.block _ (ltb ((blk_alloc_ne w6 (.cells #[.slice a1h n1 c1h, .int .i64 i1, .slice a2h n2 c2h, .int .i64 i2, .int .i64 k1, .float .f32 (nv .f32 f1_0 t_f1_0h), .float .f32 (nv .f32 f1_1 t_f1_1h), .float .f32 (nv .f32 f1_2 t_f1_2h), .float .f32 (nv .f32 f1_3 t_f1_3h), .float .f32 (nv .f32 f1_4 t_f1_4h), .float .f32 (nv .f32 x1 t_x1h), .float .f32 (nv .f32 x2 t_x2h)] 44) _ (ltb ks)).trans ks))).trans ((blk_alloc_ne w6 (.cells #[.slice a1h n1 c1h, .int .i64 i1, .slice a2h n2 c2h, .int .i64 i2, .int .i64 k1, .float .f32 (nv .f32 f1_0 t_f1_0h), .float .f32 (nv .f32 f1_1 t_f1_1h), .float .f32 (nv .f32 f1_2 t_f1_2h), .float .f32 (nv .f32 f1_3 t_f1_3h), .float .f32 (nv .f32 f1_4 t_f1_4h), .float .f32 (nv .f32 x1 t_x1h), .float .f32 (nv .f32 x2 t_x2h)] 44) _ (ltb ks)).trans ks)
  have kin : blkAt w7 w2.heap.size = some (.cells #[.slice a1i n1 c1i, .int .i64 i1, .slice a2i n2 c2i, .int .i64 i2, .int .i64 k1, .float .f32 (nv .f32 f1_0 t_f1_0i), .float .f32 (nv .f32 f1_1 t_f1_1i), .float .f32 (nv .f32 f1_2 t_f1_2i), .float .f32 (nv .f32 f1_3 t_f1_3i), .float .f32 (nv .f32 f1_4 t_f1_4i), .float .f32 (nv .f32 x1 t_x1i), .float .f32 (nv .f32 x2 t_x2i)] 44) := (hb7.block _ (ltb ((blk_alloc_ne w6 (.cells #[.slice a1h n1 c1h, .int .i64 i1, .slice a2h n2 c2h, .int .i64 i2, .int .i64 k1, .float .f32 (nv .f32 f1_0 t_f1_0h), .float .f32 (nv .f32 f1_1 t_f1_1h), .float .f32 (nv .f32 f1_2 t_f1_2h), .float .f32 (nv .f32 f1_3 t_f1_3h), .float .f32 (nv .f32 f1_4 t_f1_4h), .float .f32 (nv .f32 x1 t_x1h), .float .f32 (nv .f32 x2 t_x2h)] 44) _ (ltb ki)).trans ki))).trans ((blk_alloc_ne w6 (.cells #[.slice a1h n1 c1h, .int .i64 i1, .slice a2h n2 c2h, .int .i64 i2, .int .i64 k1, .float .f32 (nv .f32 f1_0 t_f1_0h), .float .f32 (nv .f32 f1_1 t_f1_1h), .float .f32 (nv .f32 f1_2 t_f1_2h), .float .f32 (nv .f32 f1_3 t_f1_3h), .float .f32 (nv .f32 f1_4 t_f1_4h), .float .f32 (nv .f32 x1 t_x1h), .float .f32 (nv .f32 x2 t_x2h)] 44) _ (ltb ki)).trans ki)
  have khn : blkAt w7 w6.heap.size = some (.cells #[.slice a1h n1 c1h, .int .i64 i1, .slice a2h n2 c2h, .int .i64 i2, .int .i64 k1, .float .f32 (nv .f32 f1_0 t_f1_0h), .float .f32 (nv .f32 f1_1 t_f1_1h), .float .f32 (nv .f32 f1_2 t_f1_2h), .float .f32 (nv .f32 f1_3 t_f1_3h), .float .f32 (nv .f32 f1_4 t_f1_4h), .float .f32 (nv .f32 x1 t_x1h), .float .f32 (nv .f32 x2 t_x2h)] 44) := (hb7.block _ (ltb (blk_alloc w6 (.cells #[.slice a1h n1 c1h, .int .i64 i1, .slice a2h n2 c2h, .int .i64 i2, .int .i64 k1, .float .f32 (nv .f32 f1_0 t_f1_0h), .float .f32 (nv .f32 f1_1 t_f1_1h), .float .f32 (nv .f32 f1_2 t_f1_2h), .float .f32 (nv .f32 f1_3 t_f1_3h), .float .f32 (nv .f32 f1_4 t_f1_4h), .float .f32 (nv .f32 x1 t_x1h), .float .f32 (nv .f32 x2 t_x2h)] 44)))).trans (blk_alloc w6 (.cells #[.slice a1h n1 c1h, .int .i64 i1, .slice a2h n2 c2h, .int .i64 i2, .int .i64 k1, .float .f32 (nv .f32 f1_0 t_f1_0h), .float .f32 (nv .f32 f1_1 t_f1_1h), .float .f32 (nv .f32 f1_2 t_f1_2h), .float .f32 (nv .f32 f1_3 t_f1_3h), .float .f32 (nv .f32 f1_4 t_f1_4h), .float .f32 (nv .f32 x1 t_x1h), .float .f32 (nv .f32 x2 t_x2h)] 44))
  have HB7 := Lib.hid (bUp (bUp (HB6.out) G6) hb7)
  have O1s := Lib.hid ((OF.below O1s.out G6 (Nat.le_refl _)).below hb7 (Nat.le_refl _))
  have O2s := Lib.hid ((OF.below O2s.out G6 (Nat.le_refl _)).below hb7 (Nat.le_refl _))
  have O1i := Lib.hid ((OF.below O1i.out G6 (Nat.le_refl _)).below hb7 (Nat.le_refl _))
  have O2i := Lib.hid ((OF.below O2i.out G6 (Nat.le_refl _)).below hb7 (Nat.le_refl _))
  have O1h := Lib.hid ((OF.below O1h.out G6 (Nat.le_refl _)).below hb7 (Nat.le_refl _))
  have O2h := Lib.hid ((OF.below O2h.out G6 (Nat.le_refl _)).below hb7 (Nat.le_refl _))
  clear ks
  have ks := ksn
  clear ksn
  clear ys
  have ys := ltb ks
  clear ki
  have ki := kin
  clear kin
  clear yi
  have yi := ltb ki
  have kh := khn
  clear khn
  have yh := ltb kh
  clear hb7
  clear G6
  go_wp2_with fail
  refine (c_heldBow' _ _ _ _ _ _ _ _ _ _ _ _ _ _ _ _ 1 _ O1i.out.fs O2i.out.fs (by omega) (by omega)).mono ?_
  rintro e w8 ⟨rfl, hb8⟩
  have S8 : Hid (w7.heap.size + 0 ≤ w8.heap.size) := by show _ ≤ _; have := hb8.size; simpa using this
  have ksn : blkAt w8 w1.heap.size = some (.cells #[.slice a1s n1 c1s, .int .i64 i1, .slice a2s n2 c2s, .int .i64 i2, .int .i64 k1, .float .f32 (nv .f32 f1_0 t_f1_0s), .float .f32 (nv .f32 f1_1 t_f1_1s), .float .f32 (nv .f32 f1_2 t_f1_2s), .float .f32 (nv .f32 f1_3 t_f1_3s), .float .f32 (nv .f32 f1_4 t_f1_4s), .float .f32 (nv .f32 x1 t_x1s), .float .f32 (nv .f32 x2 t_x2s)] 44) := (hb8.block _ (ltb ks)).trans ks
  have kin : blkAt w8 w2.heap.size = some (.cells #[.slice a1i n1 c1i, .int .i64 i1, .slice a2i n2 c2i, .int .i64 i2, .int .i64 k1, .float .f32 (nv .f32 f1_0 t_f1_0i), .float .f32 (nv .f32 f1_1 t_f1_1i), .float .f32 (nv .f32 f1_2 t_f1_2i), .float .f32 (nv .f32 f1_3 t_f1_3i), .float .f32 (nv .f32 f1_4 t_f1_4i), .float .f32 (nv .f32 x1 t_x1i), .float .f32 (nv .f32 x2 t_x2i)] 44) := (hb8.block _ (ltb ki)).trans ki
  have khn : blkAt w8 w6.heap.size = some (.cells #[.slice a1h n1 c1h, .int .i64 i1, .slice a2h n2 c2h, .int .i64 i2, .int .i64 k1, .float .f32 (nv .f32 f1_0 t_f1_0h), .float .f32 (nv .f32 f1_1 t_f1_1h), .float .f32 (nv .f32 f1_2 t_f1_2h), .float .f32 (nv .f32 f1_3 t_f1_3h), .float .f32 (nv .f32 f1_4 t_f1_4h), .float .f32 (nv .f32 x1 t_x1h), .float .f32 (nv .f32 x2 t_x2h)] 44) := (hb8.block _ (ltb kh)).trans kh
  have HB8 := Lib.hid (bUp (HB7.out) hb8)
  have O1s := Lib.hid (O1s.out.below hb8 (Nat.le_refl _))
  have O2s := Lib.hid (O2s.out.below hb8 (Nat.le_refl _))
  have O1i := Lib.hid (O1i.out.below hb8 (Nat.le_refl _))
  have O2i := Lib.hid (O2i.out.below hb8 (Nat.le_refl _))
  have O1h := Lib.hid (O1h.out.below hb8 (Nat.le_refl _))
  have O2h := Lib.hid (O2h.out.below hb8 (Nat.le_refl _))
  clear ks
  have ks := ksn
  clear ksn
  clear ys
  have ys := ltb ks
  clear ki
  have ki := kin
  clear kin
  clear yi
  have yi := ltb ki
  clear kh
  have kh := khn
  clear khn
  clear yh
  have yh := ltb kh
  clear hb8
  have bE := HB8.out
  go_wp2
  go_ret
  exact ⟨rfl, by (repeat (first | (with_reducible refine Below.drewN ?_) | (with_reducible refine Below.drew ?_) | ((with_reducible refine Below.alloc ?_ ?_ _); rotate_left; (first | omega | (simp <;> omega))) | ((with_reducible refine Below.setCell ?_ ?_ _); rotate_left; (first | omega | (simp <;> omega))) | (with_reducible exact Below.refl _ _) | (with_reducible assumption)))⟩


end Go.Proofs.Ytbkafmikaojclaa
