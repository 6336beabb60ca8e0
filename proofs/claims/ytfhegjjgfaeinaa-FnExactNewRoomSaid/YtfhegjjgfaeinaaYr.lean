
/-
Blocks of memory known whole.
-/
import Derived.Test.YtfhegjjgfaeinaaYa
import Derived.Test.YtfhegjjgfaeinaaCm
import Derived.Test.YtfhegjjgfaeinaaMc
namespace Go.Proofs.Ytfhegjjgfaeinaa
open Go Go.RowKit Fl
theorem three_alloc (w : World) (o1 o2 o3 : Obj) : (((w.alloc o1).alloc o2).alloc o3).heap[w.heap.size]? = some o1 ∧ (((w.alloc o1).alloc o2).alloc o3).heap[w.heap.size + 1]? = some o2 ∧ (((w.alloc o1).alloc o2).alloc o3).heap[w.heap.size + 1 + 1]? = some o3 ∧ w.heap.size + 3 ≤ (((w.alloc o1).alloc o2).alloc o3).heap.size ∧ Below w.heap.size w (((w.alloc o1).alloc o2).alloc o3) := by
  have e1 := (MapKept.heap_alloc w o1).1
  have e2 := (MapKept.heap_alloc (w.alloc o1) o2).1
  have e3 := (MapKept.heap_alloc ((w.alloc o1).alloc o2) o3).1
  have s1 : (w.alloc o1).heap.size = w.heap.size + 1 := by simp
  have s2 : ((w.alloc o1).alloc o2).heap.size = w.heap.size + 1 + 1 := by simp
  rw [s1] at e2
  rw [s2] at e3
  refine ⟨?_, ?_, e3, by simp, by (repeat (first | (with_reducible refine Below.drewN ?_) | (with_reducible refine Below.drew ?_) | ((with_reducible refine Below.alloc ?_ ?_ _); rotate_left; (first | omega | (simp <;> omega))) | ((with_reducible refine Below.setCell ?_ ?_ _); rotate_left; (first | omega | (simp <;> omega))) | (with_reducible exact Below.refl _ _) | (with_reducible assumption)))⟩
  · rw [Below.heap_alloc _ _ _ (by omega), Below.heap_alloc _ _ _ (by omega)]; exact e1
  · rw [Below.heap_alloc _ _ _ (by omega)]; exact e2
theorem two_alloc (w : World) (o1 o2 : Obj) : ((w.alloc o1).alloc o2).heap[w.heap.size]? = some o1 ∧ ((w.alloc o1).alloc o2).heap[w.heap.size + 1]? = some o2 ∧ w.heap.size + 2 ≤ ((w.alloc o1).alloc o2).heap.size ∧ Below w.heap.size w ((w.alloc o1).alloc o2) := by
  have e1 := (MapKept.heap_alloc w o1).1
  have e2 := (MapKept.heap_alloc (w.alloc o1) o2).1
  have s1 : (w.alloc o1).heap.size = w.heap.size + 1 := by simp
  rw [s1] at e2
  refine ⟨?_, e2, by simp, by (repeat (first | (with_reducible refine Below.drewN ?_) | (with_reducible refine Below.drew ?_) | ((with_reducible refine Below.alloc ?_ ?_ _); rotate_left; (first | omega | (simp <;> omega))) | ((with_reducible refine Below.setCell ?_ ?_ _); rotate_left; (first | omega | (simp <;> omega))) | (with_reducible exact Below.refl _ _) | (with_reducible assumption)))⟩
  rw [Below.heap_alloc _ _ _ (by omega)]; exact e1
theorem blk_cell {w : World} {g i : Nat} {cs : Array Value} {T : TypeId} {v : Value} (h : w.heap[g]? = some (.cells cs T)) (hv : cs[i]? = some v) : w.cell? ⟨g, i, none⟩ = some v := by rw [cell_block' h]; exact hv
theorem range_of_blk {w : World} {g : Nat} {l : List Value} {T : TypeId} (h : w.heap[g]? = some (.cells l.toArray T)) : w.rangeAt g 0 l := fun j v hj => by
  rw [cell_block' h]; simpa using hj
theorem there_of_blk {w : World} {g : Nat} {cs : Array Value} {T : TypeId} (h : w.heap[g]? = some (.cells cs T)) : w.there g 0 cs.size := fun j hj => by
  refine ⟨?_, blk_free h _⟩
  rw [cell_block' h, Nat.zero_add, Array.getElem?_eq_getElem hj]; rfl
theorem FS.same2 {w w' : World} {a : Option Addr} {n c : Nat} {xs : List Nat} (h : FS w a n c xs) (hs : w.heap.size ≤ w'.heap.size) (hb : ∀ b o, a = some ⟨b, o, none⟩ → b < w.heap.size → w'.heap[b]? = w.heap[b]?) : FS w' a n c xs :=
  ⟨h.len, h.cap, h.big, fun hn => by
    obtain ⟨b, o, ha, hbl, hc⟩ := h.at_ hn
    exact ⟨b, o, ha, Nat.lt_of_lt_of_le hbl hs, fun j hj => (cell_same (hb b o ha hbl) _).trans (hc j hj)⟩⟩
theorem TS.same2 {w w' : World} {a : Option Addr} {n c : Nat} {ts : List (Int × Nat)} (h : TS w a n c ts) (hs : w.heap.size ≤ w'.heap.size) (hb : ∀ b o, a = some ⟨b, o, none⟩ → b < w.heap.size → w'.heap[b]? = w.heap[b]?) : TS w' a n c ts := h.same hs hb
/-- the numbers of a filter -/
structure Ft where
  k : Int
  f0 : Nat
  f1 : Nat
  f2 : Nat
  f3 : Nat
  f4 : Nat
/-- a room -/
structure Rv where
  e : Rg
  ta : Option Addr
  tn : Nat
  tc : Nat
  ts : List (Int × Nat)
  c0 : Rg
  g0 : Nat
  c1 : Rg
  g1 : Nat
  l0 : Rg
  l1 : Rg
  l2 : Rg
  l3 : Rg
  d0 : Ft
  d1 : Ft
  d2 : Ft
  d3 : Ft
  h0 : Nat
  h1 : Nat
  h2 : Nat
  h3 : Nat
  dry : Nat
  wet : Nat
/-- the cells of a room -/
def Rv.cells (r : Rv) : Array Value := #[.slice r.e.a r.e.n r.e.c, .int .i64 r.e.i, .slice r.ta r.tn r.tc, .slice r.c0.a r.c0.n r.c0.c, .int .i64 r.c0.i, .float .f32 r.g0, .slice r.c1.a r.c1.n r.c1.c, .int .i64 r.c1.i, .float .f32 r.g1, .slice r.l0.a r.l0.n r.l0.c, .int .i64 r.l0.i, .slice r.l1.a r.l1.n r.l1.c, .int .i64 r.l1.i, .slice r.l2.a r.l2.n r.l2.c, .int .i64 r.l2.i, .slice r.l3.a r.l3.n r.l3.c, .int .i64 r.l3.i, .int .i64 r.d0.k, .float .f32 r.d0.f0, .float .f32 r.d0.f1, .float .f32 r.d0.f2, .float .f32 r.d0.f3, .float .f32 r.d0.f4, .int .i64 r.d1.k, .float .f32 r.d1.f0, .float .f32 r.d1.f1, .float .f32 r.d1.f2, .float .f32 r.d1.f3, .float .f32 r.d1.f4, .int .i64 r.d2.k, .float .f32 r.d2.f0, .float .f32 r.d2.f1, .float .f32 r.d2.f2, .float .f32 r.d2.f3, .float .f32 r.d2.f4, .int .i64 r.d3.k, .float .f32 r.d3.f0, .float .f32 r.d3.f1, .float .f32 r.d3.f2, .float .f32 r.d3.f3, .float .f32 r.d3.f4, .float .f32 r.h0, .float .f32 r.h1, .float .f32 r.h2, .float .f32 r.h3, .float .f32 r.dry, .float .f32 r.wet]
@[go_sem] theorem Rv.size (r : Rv) : r.cells.size = 47 := by kernel_rfl
@[go_sem] theorem Rv.damps (r : Rv) : r.cells.extract 17 41 = #[.int .i64 r.d0.k, .float .f32 r.d0.f0, .float .f32 r.d0.f1, .float .f32 r.d0.f2, .float .f32 r.d0.f3, .float .f32 r.d0.f4, .int .i64 r.d1.k, .float .f32 r.d1.f0, .float .f32 r.d1.f1, .float .f32 r.d1.f2, .float .f32 r.d1.f3, .float .f32 r.d1.f4, .int .i64 r.d2.k, .float .f32 r.d2.f0, .float .f32 r.d2.f1, .float .f32 r.d2.f2, .float .f32 r.d2.f3, .float .f32 r.d2.f4, .int .i64 r.d3.k, .float .f32 r.d3.f0, .float .f32 r.d3.f1, .float .f32 r.d3.f2, .float .f32 r.d3.f3, .float .f32 r.d3.f4] := by kernel_rfl
@[go_sem] theorem Rv.one (r : Rv) : r.cells.toList.all (·.oneCell') = true := by kernel_rfl

def Rg.strip (q : Rg) : Rg := ⟨none, q.n, 0, q.xs, q.i⟩
/-- a room without its places in memory -/
def Rv.strip (r : Rv) : Rv := { r with e := r.e.strip, ta := none, tc := 0, c0 := r.c0.strip, c1 := r.c1.strip, l0 := r.l0.strip, l1 := r.l1.strip, l2 := r.l2.strip, l3 := r.l3.strip }
/-- a room's memory -/
structure RvM (w : World) (r : Rv) : Prop where
  q0 : FS w r.e.a r.e.n r.e.c r.e.xs
  q1 : FS w r.c0.a r.c0.n r.c0.c r.c0.xs
  q2 : FS w r.c1.a r.c1.n r.c1.c r.c1.xs
  q3 : FS w r.l0.a r.l0.n r.l0.c r.l0.xs
  q4 : FS w r.l1.a r.l1.n r.l1.c r.l1.xs
  q5 : FS w r.l2.a r.l2.n r.l2.c r.l2.xs
  q6 : FS w r.l3.a r.l3.n r.l3.c r.l3.xs
  t : TS w r.ta r.tn r.tc r.ts
theorem RvM.below {w w' : World} {r : Rv} {B : Nat} (h : RvM w r) (hb : Below B w w') (hB : w.heap.size ≤ B) : RvM w' r :=
  ⟨h.q0.below hb hB, h.q1.below hb hB, h.q2.below hb hB, h.q3.below hb hB, h.q4.below hb hB, h.q5.below hb hB, h.q6.below hb hB, h.t.below hb hB⟩
/-- a room that is not too great -/
structure RvB (r : Rv) : Prop where
  m0 : r.e.n ≤ 1048576
  m1 : r.c0.n ≤ 1048576
  m2 : r.c1.n ≤ 1048576
  m3 : r.l0.n ≤ 1048576
  m4 : r.l1.n ≤ 1048576
  m5 : r.l2.n ≤ 1048576
  m6 : r.l3.n ≤ 1048576
  mt : r.tn ≤ 1048576
/-- lengths that a machine's number can hold -/
structure RvC (r : Rv) : Prop where
  m0 : r.e.n ≤ 9223372036854775807
  m1 : r.c0.n ≤ 9223372036854775807
  m2 : r.c1.n ≤ 9223372036854775807
  m3 : r.l0.n ≤ 9223372036854775807
  m4 : r.l1.n ≤ 9223372036854775807
  m5 : r.l2.n ≤ 9223372036854775807
  m6 : r.l3.n ≤ 9223372036854775807
  mt : r.tn ≤ 9223372036854775807
theorem FS.max {w : World} {a : Option Addr} {n c : Nat} {xs : List Nat} (h : FS w a n c xs) : n ≤ 9223372036854775807 := Nat.le_trans h.cap h.big
theorem RvM.c {w : World} {r : Rv} (h : RvM w r) : RvC r := ⟨h.q0.max, h.q1.max, h.q2.max, h.q3.max, h.q4.max, h.q5.max, h.q6.max, Nat.le_trans h.t.cap h.t.big⟩
/-- the same room in other memory -/
def Rv.re (r : Rv) (p : Nat → Option Addr × Nat) : Rv :=
  { r with e := ⟨(p 0).1, r.e.n, (p 0).2, r.e.xs, r.e.i⟩, ta := (p 7).1, tc := (p 7).2, c0 := ⟨(p 1).1, r.c0.n, (p 1).2, r.c0.xs, r.c0.i⟩, c1 := ⟨(p 2).1, r.c1.n, (p 2).2, r.c1.xs, r.c1.i⟩, l0 := ⟨(p 3).1, r.l0.n, (p 3).2, r.l0.xs, r.l0.i⟩, l1 := ⟨(p 4).1, r.l1.n, (p 4).2, r.l1.xs, r.l1.i⟩, l2 := ⟨(p 5).1, r.l2.n, (p 5).2, r.l2.xs, r.l2.i⟩, l3 := ⟨(p 6).1, r.l3.n, (p 6).2, r.l3.xs, r.l3.i⟩ }
theorem Rg.of_strip {q s : Rg} (h : s.strip = q.strip) : s = ⟨s.a, q.n, s.c, q.xs, q.i⟩ := by
  obtain ⟨a, n, c, xs, i⟩ := s
  obtain ⟨a', n', c', xs', i'⟩ := q
  simp only [Rg.strip, Rg.mk.injEq] at h
  obtain ⟨_, rfl, _, rfl, rfl⟩ := h
  rfl
theorem Rv.of_strip {r s : Rv} (h : s.strip = r.strip) : ∃ p, s = r.re p := by
  obtain ⟨e, ta, tn, tc, ts, c0, g0, c1, g1, l0, l1, l2, l3, d0, d1, d2, d3, h0, h1, h2, h3, dry, wet⟩ := s
  obtain ⟨e', ta', tn', tc', ts', c0', g0', c1', g1', l0', l1', l2', l3', d0', d1', d2', d3', h0', h1', h2', h3', dry', wet'⟩ := r
  simp only [Rv.strip, Rv.mk.injEq] at h
  obtain ⟨x0, _, rfl, _, rfl, x1, rfl, x2, rfl, x3, x4, x5, x6, rfl, rfl, rfl, rfl, rfl, rfl, rfl, rfl, rfl, rfl⟩ := h
  refine ⟨fun j => match j with | 0 => (e.a, e.c) | 1 => (c0.a, c0.c) | 2 => (c1.a, c1.c) | 3 => (l0.a, l0.c) | 4 => (l1.a, l1.c) | 5 => (l2.a, l2.c) | 6 => (l3.a, l3.c) | _ => (ta, tc), ?_⟩
  simp only [Rv.re, Rv.mk.injEq, true_and, and_true]
  exact ⟨Rg.of_strip x0, Rg.of_strip x1, Rg.of_strip x2, Rg.of_strip x3, Rg.of_strip x4, Rg.of_strip x5, Rg.of_strip x6⟩
@[go_sem] theorem Rv.re_damps (r : Rv) (p : Nat → Option Addr × Nat) : (r.re p).cells.extract 17 41 = r.cells.extract 17 41 := by kernel_rfl
theorem Rv.re_strip (r : Rv) (p : Nat → Option Addr × Nat) : (r.re p).strip = r.strip := rfl
end Go.Proofs.Ytfhegjjgfaeinaa
