
/-
New rooms: the contracts of what is called, and the room that is filled.
-/
import Derived.Test.YtfhegjjgfaeinaaNc
import Derived.Test.YtfhegjjgfaeinaaNd
import Derived.Test.YtfhegjjgfaeinaaCm
import Derived.Test.YtfhegjjgfaeinaaCb
namespace Go.Proofs.Ytfhegjjgfaeinaa
open Go Go.RowKit Fl
def keepB (x : Nat) : Bool := (FloatKind.f32.format.order x 0 == some .gt || FloatKind.f32.format.order x 0 == some .eq) && FloatKind.f32.format.order x 1065353216 == some .lt
theorem c_isKeep (x : Nat) (w : World) : Calls Try.prog 66 #[.float .f32 x] w (RetB (keepB x) w) := by
  cases h : (FloatKind.f32.format.order x 0 == some .gt || FloatKind.f32.format.order x 0 == some .eq)
  all_goals
    go_enter Try.func66, Try.ntmps66
    go_wp2
    go_ret
    exact ⟨by simp [keepB, h], same0 _⟩
/-- a filter with one pole -/
def RetPole (x : Nat) (w : World) (e : Ending) (w' : World) : Prop := ∃ t, e = .returned (.agg #[.int .i64 1, .float .f32 (nv .f32 (fop .sub .f32 1065353216 x) t), .float .f32 x, .float .f32 0, .float .f32 0, .float .f32 0]) ∧ Below w.heap.size w w'
theorem c_OnePole (x : Nat) (w : World) : Calls Try.prog 70 #[.float .f32 x] w (RetPole x w) := by
  go_enter Try.func70, Try.ntmps70
  go_wp2
  refine bodyPost_ret (v := ?v) (by simp [results, Try.results70, go_sem, *] <;> rfl) rfl ?_
  exact ⟨_, rfl, by (repeat (first | (with_reducible refine Below.drewN ?_) | (with_reducible refine Below.drew ?_) | ((with_reducible refine Below.alloc ?_ ?_ _); rotate_left; (first | omega | (simp <;> omega))) | ((with_reducible refine Below.setCell ?_ ?_ _); rotate_left; (first | omega | (simp <;> omega))) | (with_reducible exact Below.refl _ _) | (with_reducible assumption)))⟩
theorem c_sOnePole (x : Nat) (w : World) : Calls Try.prog 63 #[.float .f32 x] w (RetPole x w) := by
  go_enter Try.func63, Try.ntmps63
  go_wp2
  refine bodyPost_ret (v := ?v) (by simp [results, Try.results63, go_sem, *] <;> rfl) rfl ?_
  exact ⟨_, rfl, by (repeat (first | (with_reducible refine Below.drewN ?_) | (with_reducible refine Below.drew ?_) | ((with_reducible refine Below.alloc ?_ ?_ _); rotate_left; (first | omega | (simp <;> omega))) | ((with_reducible refine Below.setCell ?_ ?_ _); rotate_left; (first | omega | (simp <;> omega))) | (with_reducible exact Below.refl _ _) | (with_reducible assumption)))⟩
def RetGn (b : Nat) (w : World) (e : Ending) (w' : World) : Prop := ∃ t, e = .returned (.float .f32 (nv .f32 b t)) ∧ Below w.heap.size w w'
theorem c_gain (n : Int) (t : Nat) (w : World) (hn : inB n 1 1024 = true) (ht : t < 4294967296) (h : insB t 1065353216 1232348160 = true) :
    Calls Try.prog 64 #[.int .i64 n, .float .f32 t] w (RetGn (gainF n t) w) := by
  refine (c_l06Gain n t w hn ht h).mono ?_
  rintro e w' ⟨t, m, rfl, rfl⟩
  exact ⟨t, rfl, by (repeat (first | (with_reducible refine Below.drewN ?_) | (with_reducible refine Below.drew ?_) | ((with_reducible refine Below.alloc ?_ ?_ _); rotate_left; (first | omega | (simp <;> omega))) | ((with_reducible refine Below.setCell ?_ ?_ _); rotate_left; (first | omega | (simp <;> omega))) | (with_reducible exact Below.refl _ _) | (with_reducible assumption)))⟩
def RetGt (b : Nat) (w : World) (e : Ending) (w' : World) : Prop := ∃ t, e = .returned (.tuple #[.float .f32 (nv .f32 b t), .int .i64 0]) ∧ Below w.heap.size w w'
theorem c_gainT (n : Int) (t : Nat) (w : World) (hn : inB n 1 1024 = true) (ht : t < 4294967296) (h : insB t 1065353216 1232348160 = true) :
    Calls Try.prog 71 #[.int .i64 n, .float .f32 t] w (RetGt (gainF n t) w) := by
  have K := c_GainFor n t w ht
  rw [hn, h] at K
  refine K.mono ?_
  rintro e w' ⟨t, m, rfl, rfl⟩
  exact ⟨t, rfl, by (repeat (first | (with_reducible refine Below.drewN ?_) | (with_reducible refine Below.drew ?_) | ((with_reducible refine Below.alloc ?_ ?_ _); rotate_left; (first | omega | (simp <;> omega))) | ((with_reducible refine Below.setCell ?_ ?_ _); rotate_left; (first | omega | (simp <;> omega))) | (with_reducible exact Below.refl _ _) | (with_reducible assumption)))⟩
theorem c_toInt64A4 (x0 x1 x2 x3 : Int) (w : World) : Calls Try.prog 19 #[.agg #[.int .i64 x0, .int .i64 x1, .int .i64 x2, .int .i64 x3]] w (RetV (.agg #[.int .i64 x0, .int .i64 x1, .int .i64 x2, .int .i64 x3]) w) := by
  go_enter Try.func19, Try.ntmps19
  go_wp2
  refine wp_loop_rounds 5 ?_
  iterate 4 (rw [rounds_succ]; go_wp2)
  rw [rounds_succ]
  go_wp2
  exact bodyPost_ret (v := .agg #[.int .i64 x0, .int .i64 x1, .int .i64 x2, .int .i64 x3]) (by simp [results, Try.results19, go_sem]) rfl ⟨rfl, by (repeat (first | (with_reducible refine Below.drewN ?_) | (with_reducible refine Below.drew ?_) | ((with_reducible refine Below.alloc ?_ ?_ _); rotate_left; (first | omega | (simp <;> omega))) | ((with_reducible refine Below.setCell ?_ ?_ _); rotate_left; (first | omega | (simp <;> omega))) | (with_reducible exact Below.refl _ _) | (with_reducible assumption)))⟩
theorem c_comb (n : Nat) (w : World) (h1 : 1 ≤ n) (h2 : n ≤ 1024) :
    Calls Try.prog 69 #[.int .i64 n, .float .f32 1056964608] w (fun e w' => ∃ (a : Option Addr) (c g : Nat), e = .returned (.tuple #[.agg #[.slice a n c, .int .i64 0, .float .f32 1056964608], .int .i64 0]) ∧ Below w.heap.size w w' ∧ w.heap.size ≤ g ∧ g < w'.heap.size ∧ OF w' g a n c (List.replicate n 0)) := by
  refine (c_NewComb_ok n 1056964608 w h1 h2 (by kernel_rfl)).mono ?_
  rintro e w' ⟨a, c, g, t, rfl, hb, hg, ho⟩
  rw [nv_of (b := 1056964608) t (by kernel_rfl)]
  exact ⟨a, c, g, rfl, hb, (hg (by omega)).1, (hg (by omega)).2, ho⟩
theorem c_withinW (n lo hi : Int) (w : World) : Calls Try.prog 49 #[.int .i64 n, .int .i64 lo, .int .i64 hi] w (RetV (.bool (inB n lo hi)) w) := by
  refine (c_within n lo hi w).mono ?_
  rintro e w' ⟨rfl, m, rfl⟩
  exact ⟨rfl, by (repeat (first | (with_reducible refine Below.drewN ?_) | (with_reducible refine Below.drew ?_) | ((with_reducible refine Below.alloc ?_ ?_ _); rotate_left; (first | omega | (simp <;> omega))) | ((with_reducible refine Below.setCell ?_ ?_ _); rotate_left; (first | omega | (simp <;> omega))) | (with_reducible exact Below.refl _ _) | (with_reducible assumption)))⟩
theorem results_cs {P : Program} {fn : Func} {tmps : Array Value} {a b : Tmp} {t : TypeId} {p : Addr} {v u : Value} {w : World} (hr : fn.results = #[.cell a t, .tmp b]) (ha : tmps.getD a undef = .pointer (some p)) (hb : tmps.getD b undef = u) (h : (loadVar t p).run P w = .ok v w) : (results fn tmps).run P w = .ok (.tuple #[v, u]) w := by
  have ha' : tmps[a]?.getD undef = .pointer (some p) := by simpa using ha
  have hb' : tmps[b]?.getD undef = u := by simpa using hb
  unfold results
  rw [hr]
  simp [asAddr, ha', hb', h]
/-- what is its own -/
def Own (w0 w : World) (fs : List (Nat × Rg)) : Prop := (∀ f ∈ fs, w0.heap.size ≤ f.1 ∧ (0 < f.2.n → f.1 < w.heap.size) ∧ OF w f.1 f.2.a f.2.n f.2.c f.2.xs) ∧ fs.Pairwise (fun x y => y.1 < x.1)
/-- the boxes of the argument and of the result -/
structure PB (w0 w : World) (p z : Array Value) (Tp Tz : TypeId) (fs : List (Nat × Rg)) : Prop where
  below : Below w0.heap.size w0 w
  kp : w.heap[w0.heap.size]? = some (.cells p Tp)
  kr : w.heap[w0.heap.size + 1]? = some (.cells z Tz)
  own : ∀ f ∈ fs, w0.heap.size + 2 ≤ f.1 ∧ f.1 < w.heap.size ∧ OF w f.1 f.2.a f.2.n f.2.c f.2.xs
  inc : fs.Pairwise (fun x y => y.1 < x.1)
theorem PB.init (w0 : World) (p z : Array Value) (Tp Tz : TypeId) : PB w0 ((w0.alloc (.cells p Tp)).alloc (.cells z Tz)) p z Tp Tz [] := by
  obtain ⟨h1, h2, h3, h4⟩ := two_alloc w0 (.cells p Tp) (.cells z Tz)
  exact ⟨h4, h1, h2, fun f hf => absurd hf (by simp), List.Pairwise.nil⟩
theorem PB.szr {w0 w : World} {p z : Array Value} {Tp Tz : TypeId} {fs : List (Nat × Rg)} (h : PB w0 w p z Tp Tz fs) : w0.heap.size + 1 < w.heap.size := (Array.getElem?_eq_some_iff.1 h.kr).1
theorem PB.call {w0 w w' : World} {p z : Array Value} {Tp Tz : TypeId} {fs : List (Nat × Rg)} (h : PB w0 w p z Tp Tz fs) (hb : Below w.heap.size w w') : PB w0 w' p z Tp Tz fs :=
  ⟨h.below.trans (hb.mono h.below.size), (hb.block _ (by have := h.szr; omega)).trans h.kp, (hb.block _ h.szr).trans h.kr,
   fun f hf => ⟨(h.own f hf).1, Nat.lt_of_lt_of_le (h.own f hf).2.1 hb.size, (h.own f hf).2.2.old hb⟩, h.inc⟩
theorem PB.ring {w0 w w' : World} {p z : Array Value} {Tp Tz : TypeId} {fs : List (Nat × Rg)} (h : PB w0 w p z Tp Tz fs) {g n c : Nat} {a : Option Addr} {xs : List Nat} (hb : Below w.heap.size w w') (hg : w.heap.size ≤ g) (hl : g < w'.heap.size) (ho : OF w' g a n c xs) : PB w0 w' p z Tp Tz ((g, ⟨a, n, c, xs, 0⟩) :: fs) := by
  have k := h.call hb
  refine ⟨k.below, k.kp, k.kr, fun f hf => ?_, ?_⟩
  · rcases List.mem_cons.1 hf with rfl | hf
    · have := h.szr
      exact ⟨by show w0.heap.size + 2 ≤ g; omega, hl, ho⟩
    · exact k.own f hf
  · refine List.pairwise_cons.2 ⟨fun f hf => ?_, h.inc⟩
    exact Nat.lt_of_lt_of_le (h.own f hf).2.1 hg
/-- the room that is filled -/
structure NB (w0 w : World) (b : Nat) (p z cs : Array Value) (Tp Tz : TypeId) (fs : List (Nat × Rg)) : Prop where
  pb : PB w0 w p z Tp Tz fs
  hb : w0.heap.size + 2 ≤ b
  kb : w.heap[b]? = some (.cells cs Tz)
  ne : ∀ f ∈ fs, f.1 ≠ b
theorem NB.lt {w0 w : World} {b : Nat} {p z cs : Array Value} {Tp Tz : TypeId} {fs : List (Nat × Rg)} (h : NB w0 w b p z cs Tp Tz fs) : b < w.heap.size := (Array.getElem?_eq_some_iff.1 h.kb).1
theorem NB.call {w0 w w' : World} {b : Nat} {p z cs : Array Value} {Tp Tz : TypeId} {fs : List (Nat × Rg)} (h : NB w0 w b p z cs Tp Tz fs) (hb : Below w.heap.size w w') : NB w0 w' b p z cs Tp Tz fs :=
  ⟨h.pb.call hb, h.hb, (hb.block _ h.lt).trans h.kb, h.ne⟩
theorem NB.ring {w0 w w' : World} {b : Nat} {p z cs : Array Value} {Tp Tz : TypeId} {fs : List (Nat × Rg)} (h : NB w0 w b p z cs Tp Tz fs) {g n c : Nat} {a : Option Addr} {xs : List Nat} (hb : Below w.heap.size w w') (hg : w.heap.size ≤ g) (hl : g < w'.heap.size) (ho : OF w' g a n c xs) : NB w0 w' b p z cs Tp Tz ((g, ⟨a, n, c, xs, 0⟩) :: fs) := by
  refine ⟨h.pb.ring hb hg hl ho, h.hb, (hb.block _ h.lt).trans h.kb, fun f hf => ?_⟩
  rcases List.mem_cons.1 hf with rfl | hf
  · have := h.lt
    show g ≠ b
    omega
  · exact h.ne f hf
theorem PB.wr {w0 w w' : World} {b : Nat} {p z : Array Value} {Tp Tz : TypeId} {fs : List (Nat × Rg)} (h : PB w0 w p z Tp Tz fs) (hw : Wr [b] w w') (hb : w0.heap.size + 2 ≤ b) (ne : ∀ f ∈ fs, f.1 ≠ b) : PB w0 w' p z Tp Tz fs :=
  ⟨h.below.trans (hw.below (by have := h.below.size; omega) (by simp; omega)), (hw.block _ (by have := h.szr; omega) (by simp; omega)).trans h.kp, (hw.block _ h.szr (by simp; omega)).trans h.kr,
   fun f hf => ⟨(h.own f hf).1, Nat.lt_of_lt_of_le (h.own f hf).2.1 hw.size, (h.own f hf).2.2.wr hw (by simpa using ne f hf)⟩, h.inc⟩
theorem wr_set (w : World) (b i : Nat) (v : Value) : Wr [b] w (w.setCell ⟨b, i, none⟩ v) := wr_setCells b [v] i w
theorem NB.set {w0 w : World} {b : Nat} {p z cs : Array Value} {Tp Tz : TypeId} {fs : List (Nat × Rg)} (h : NB w0 w b p z cs Tp Tz fs) (i : Nat) (v : Value) : NB w0 (w.setCell ⟨b, i, none⟩ v) b p z (cs.setIfInBounds i v) Tp Tz fs :=
  ⟨h.pb.wr (wr_set w b i v) h.hb h.ne, h.hb, blk_set_cs h.kb i v, h.ne⟩
theorem NB.of {w0 w : World} {p z : Array Value} {Tp Tz : TypeId} {fs : List (Nat × Rg)} (h : PB w0 w p z Tp Tz fs) (vs : List Value) (hv : vs.length = z.size) : NB w0 ((w.alloc (.cells z Tz)).setCells w.heap.size 0 vs) w.heap.size p z vs.toArray Tp Tz fs := by
  have hn : ∀ f ∈ fs, f.1 ≠ w.heap.size := fun f hf => Nat.ne_of_lt (h.own f hf).2.1
  have hb : w0.heap.size + 2 ≤ w.heap.size := h.szr
  refine ⟨PB.wr (h.call ((Below.refl _ _).alloc (Nat.le_refl _) _)) (wr_setCells _ _ _ _) hb hn, hb, ?_, hn⟩
  rw [← writeAt_all (cs := z) (vs := vs) hv.symm]
  exact blk_sets 0 vs (MapKept.heap_alloc w _).1
/-- the result is laid down -/
theorem PB.fin {w0 w : World} {p z : Array Value} {Tp Tz : TypeId} {fs : List (Nat × Rg)} (h : PB w0 w p z Tp Tz fs) (L : List Value) : Below w0.heap.size w0 (w.setCells (w0.heap.size + 1) 0 L) ∧ Own w0 (w.setCells (w0.heap.size + 1) 0 L) fs :=
  have hw := wr_setCells (w0.heap.size + 1) L 0 w
  ⟨h.below.trans (hw.below (by have := h.below.size; omega) (by simp)), fun f hf => ⟨by have := (h.own f hf).1; omega, fun _ => Nat.lt_of_lt_of_le (h.own f hf).2.1 hw.size, (h.own f hf).2.2.wr hw (by have := (h.own f hf).1; simp; omega)⟩, h.inc⟩
def nrOk (n0 n1 n2 n3 : Int) (ta ke we : Nat) : Bool := insB ta 1065353216 1232348160 && (keepB ke && (finB we && (inB n0 1 1024 && (inB n1 1 1024 && (inB n2 1 1024 && inB n3 1 1024)))))
/-- a new room -/
def nrR (a0 a1 a2 a3 a4 a5 a6 : Option Addr) (c0 c1 c2 c3 c4 c5 c6 m0 m1 m2 m3 ke d0 d1 d2 d3 h0 h1 h2 h3 we : Nat) : Rv :=
  ⟨⟨a0, 1, c0, List.replicate 1 0, 0⟩, none, 0, 0, [], ⟨a1, 3, c1, List.replicate 3 0, 0⟩, 1056964608, ⟨a2, 5, c2, List.replicate 5 0, 0⟩, 1056964608, ⟨a3, m0, c3, List.replicate m0 0, 0⟩, ⟨a4, m1, c4, List.replicate m1 0, 0⟩, ⟨a5, m2, c5, List.replicate m2 0, 0⟩, ⟨a6, m3, c6, List.replicate m3 0, 0⟩, ⟨1, d0, ke, 0, 0, 0⟩, ⟨1, d1, ke, 0, 0, 0⟩, ⟨1, d2, ke, 0, 0, 0⟩, ⟨1, d3, ke, 0, 0, 0⟩, h0, h1, h2, h3, 1065353216, we⟩
def zRg : Rg := ⟨none, 0, 0, [], 0⟩
def zFt : Ft := ⟨0, 0, 0, 0, 0, 0⟩
def zRm : Rv := ⟨zRg, none, 0, 0, [], zRg, 0, zRg, 0, zRg, zRg, zRg, zRg, zFt, zFt, zFt, zFt, 0, 0, 0, 0, 0, 0⟩
/-- what a new room is -/
def IsNR (n0 n1 n2 n3 : Int) (ta ke we : Nat) (r : Rv) (code : Int) : Prop :=
  (nrOk n0 n1 n2 n3 ta ke we = false ∧ code = 2 ∧ r = zRm) ∨
  (nrOk n0 n1 n2 n3 ta ke we = true ∧ code = 0 ∧ ∃ a0 a1 a2 a3 a4 a5 a6 c0 c1 c2 c3 c4 c5 c6 t0 t1 t2 t3 u0 u1 u2 u3, r = nrR a0 a1 a2 a3 a4 a5 a6 c0 c1 c2 c3 c4 c5 c6 n0.toNat n1.toNat n2.toNat n3.toNat ke (nv .f32 (fop .sub .f32 1065353216 ke) t0) (nv .f32 (fop .sub .f32 1065353216 ke) t1) (nv .f32 (fop .sub .f32 1065353216 ke) t2) (nv .f32 (fop .sub .f32 1065353216 ke) t3) (nv .f32 (gainF n0 ta) u0) (nv .f32 (gainF n1 ta) u1) (nv .f32 (gainF n2 ta) u2) (nv .f32 (gainF n3 ta) u3) we)
def NewRm (n0 n1 n2 n3 : Int) (ta ke we : Nat) (w : World) (e : Ending) (w' : World) : Prop :=
  ∃ (r : Rv) (code : Int), e = .returned (.tuple #[.agg r.cells, .int .i64 code]) ∧ Below w.heap.size w w' ∧ RO w' w.heap.size r ∧ IsNR n0 n1 n2 n3 ta ke we r code
theorem NewRm.zero {n0 n1 n2 n3 : Int} {ta ke we : Nat} {w w' : World} (h : nrOk n0 n1 n2 n3 ta ke we = false) (hb : Below w.heap.size w w') :
    NewRm n0 n1 n2 n3 ta ke we w (.returned (.tuple #[.agg (.slice none 0 0 :: .int .i64 0 :: .slice none 0 0 :: .slice none 0 0 :: .int .i64 0 :: .float .f32 0 :: .slice none 0 0 :: .int .i64 0 :: .float .f32 0 :: .slice none 0 0 :: .int .i64 0 :: .slice none 0 0 :: .int .i64 0 :: .slice none 0 0 :: .int .i64 0 :: .slice none 0 0 :: .int .i64 0 :: .int .i64 0 :: .float .f32 0 :: .float .f32 0 :: .float .f32 0 :: .float .f32 0 :: .float .f32 0 :: .int .i64 0 :: .float .f32 0 :: .float .f32 0 :: .float .f32 0 :: .float .f32 0 :: .float .f32 0 :: .int .i64 0 :: .float .f32 0 :: .float .f32 0 :: .float .f32 0 :: .float .f32 0 :: .float .f32 0 :: .int .i64 0 :: .float .f32 0 :: .float .f32 0 :: .float .f32 0 :: .float .f32 0 :: .float .f32 0 :: .float .f32 0 :: .float .f32 0 :: .float .f32 0 :: .float .f32 0 :: .float .f32 0 :: .float .f32 0 :: [] : List Value).toArray, .int .i64 2])) w' := by
  refine ⟨zRm, 2, rfl, hb, ?_, .inl ⟨h, rfl, rfl⟩⟩
  refine ⟨w.heap.size, w.heap.size + 1, w.heap.size + 2, w.heap.size + 3, w.heap.size + 4, w.heap.size + 5, w.heap.size + 6, by omega, ⟨?_, ?_, ?_, ?_, ?_, ?_, ?_⟩, ⟨OF.nil _ _, OF.nil _ _, OF.nil _ _, OF.nil _ _, OF.nil _ _, OF.nil _ _, OF.nil _ _⟩, rfl, rfl⟩
  all_goals (intro h; exact absurd h (by decide))
theorem NewRm.yes {m0 m1 m2 m3 : Nat} {ta ke we : Nat} {w w' : World} {a0 a1 a2 a3 a4 a5 a6 : Option Addr} {c0 c1 c2 c3 c4 c5 c6 g0 g1 g2 g3 g4 g5 g6 t0 t1 t2 t3 u0 u1 u2 u3 : Nat} (h : nrOk m0 m1 m2 m3 ta ke we = true) (hb : Below w.heap.size w w')
    (ho : Own w w' [(g6, ⟨a6, m3, c6, List.replicate m3 0, 0⟩), (g5, ⟨a5, m2, c5, List.replicate m2 0, 0⟩), (g4, ⟨a4, m1, c4, List.replicate m1 0, 0⟩), (g3, ⟨a3, m0, c3, List.replicate m0 0, 0⟩), (g2, ⟨a2, 5, c2, List.replicate 5 0, 0⟩), (g1, ⟨a1, 3, c1, List.replicate 3 0, 0⟩), (g0, ⟨a0, 1, c0, List.replicate 1 0, 0⟩)]) :
    NewRm m0 m1 m2 m3 ta ke we w (.returned (.tuple #[.agg (.slice a0 1 c0 :: .int .i64 0 :: .slice none 0 0 :: .slice a1 3 c1 :: .int .i64 0 :: .float .f32 1056964608 :: .slice a2 5 c2 :: .int .i64 0 :: .float .f32 1056964608 :: .slice a3 m0 c3 :: .int .i64 0 :: .slice a4 m1 c4 :: .int .i64 0 :: .slice a5 m2 c5 :: .int .i64 0 :: .slice a6 m3 c6 :: .int .i64 0 :: .int .i64 1 :: .float .f32 (nv .f32 (fop .sub .f32 1065353216 ke) t0) :: .float .f32 ke :: .float .f32 0 :: .float .f32 0 :: .float .f32 0 :: .int .i64 1 :: .float .f32 (nv .f32 (fop .sub .f32 1065353216 ke) t1) :: .float .f32 ke :: .float .f32 0 :: .float .f32 0 :: .float .f32 0 :: .int .i64 1 :: .float .f32 (nv .f32 (fop .sub .f32 1065353216 ke) t2) :: .float .f32 ke :: .float .f32 0 :: .float .f32 0 :: .float .f32 0 :: .int .i64 1 :: .float .f32 (nv .f32 (fop .sub .f32 1065353216 ke) t3) :: .float .f32 ke :: .float .f32 0 :: .float .f32 0 :: .float .f32 0 :: .float .f32 (nv .f32 (gainF m0 ta) u0) :: .float .f32 (nv .f32 (gainF m1 ta) u1) :: .float .f32 (nv .f32 (gainF m2 ta) u2) :: .float .f32 (nv .f32 (gainF m3 ta) u3) :: .float .f32 1065353216 :: .float .f32 we :: [] : List Value).toArray, .int .i64 0])) w' := by
  obtain ⟨ho, hi⟩ := ho
  simp only [List.mem_cons, List.not_mem_nil, or_false, forall_eq_or_imp, forall_eq] at ho
  simp only [List.pairwise_cons, List.mem_cons, List.not_mem_nil, or_false, forall_eq_or_imp, forall_eq] at hi
  obtain ⟨⟨b6, l6, o6⟩, ⟨b5, l5, o5⟩, ⟨b4, l4, o4⟩, ⟨b3, l3, o3⟩, ⟨b2, l2, o2⟩, ⟨b1, l1, o1⟩, ⟨b0, l0, o0⟩⟩ := ho
  refine ⟨nrR a0 a1 a2 a3 a4 a5 a6 c0 c1 c2 c3 c4 c5 c6 m0 m1 m2 m3 ke (nv .f32 (fop .sub .f32 1065353216 ke) t0) (nv .f32 (fop .sub .f32 1065353216 ke) t1) (nv .f32 (fop .sub .f32 1065353216 ke) t2) (nv .f32 (fop .sub .f32 1065353216 ke) t3) (nv .f32 (gainF m0 ta) u0) (nv .f32 (gainF m1 ta) u1) (nv .f32 (gainF m2 ta) u2) (nv .f32 (gainF m3 ta) u3) we, 0, rfl, hb, ?_, .inr ⟨h, rfl, a0, a1, a2, a3, a4, a5, a6, c0, c1, c2, c3, c4, c5, c6, t0, t1, t2, t3, u0, u1, u2, u3, rfl⟩⟩
  exact ⟨g0, g1, g2, g3, g4, g5, g6, by omega, ⟨l0, l1, l2, l3, l4, l5, l6⟩, ⟨o0, o1, o2, o3, o4, o5, o6⟩, rfl, rfl⟩
theorem IsNR.tn {n0 n1 n2 n3 : Int} {ta ke we : Nat} {r : Rv} {code : Int} (h : IsNR n0 n1 n2 n3 ta ke we r code) : r.tn = 0 ∧ r.sum ≤ 1099511627776 := by
  rcases h with ⟨_, _, rfl⟩ | ⟨h, _, a0, a1, a2, a3, a4, a5, a6, c0, c1, c2, c3, c4, c5, c6, t0, t1, t2, t3, u0, u1, u2, u3, rfl⟩
  · exact ⟨rfl, by unfold Rv.sum; simp [zRm, zRg]⟩
  · refine ⟨rfl, ?_⟩
    unfold nrOk at h
    simp only [Bool.and_eq_true] at h
    obtain ⟨_, _, _, h0, h1, h2, h3⟩ := h
    have := inB_yes h0
    have := inB_yes h1
    have := inB_yes h2
    have := inB_yes h3
    unfold Rv.sum
    show (1 : Int) + ((1 : Nat) : Int) + ((3 : Nat) : Int) + ((5 : Nat) : Int) + (n0.toNat : Int) + (n1.toNat : Int) + (n2.toNat : Int) + (n3.toNat : Int) ≤ _
    omega
theorem IsNR.alike {n0 n1 n2 n3 : Int} {ta ke we : Nat} {r s : Rv} {code code' : Int} (h : IsNR n0 n1 n2 n3 ta ke we r code) (h' : IsNR n0 n1 n2 n3 ta ke we s code') :
    code' = code ∧ ∃ p f0 f1 f2 f3 x0 x1 x2 x3, s = r.al p f0 f1 f2 f3 x0 x1 x2 x3 ∧ (FtA r.d0 f0 ∧ FtA r.d1 f1 ∧ FtA r.d2 f2 ∧ FtA r.d3 f3) ∧ (up x0 = up r.h0 ∧ up x1 = up r.h1 ∧ up x2 = up r.h2 ∧ up x3 = up r.h3) := by
  rcases h with ⟨h, rfl, rfl⟩ | ⟨h, rfl, a0, a1, a2, a3, a4, a5, a6, c0, c1, c2, c3, c4, c5, c6, t0, t1, t2, t3, u0, u1, u2, u3, rfl⟩
  · rcases h' with ⟨_, rfl, rfl⟩ | ⟨h', _⟩
    · obtain ⟨p, hp⟩ := Rv.of_al (r := zRm) (s := zRm) (f0 := zFt) (f1 := zFt) (f2 := zFt) (f3 := zFt) (x0 := 0) (x1 := 0) (x2 := 0) (x3 := 0) rfl
      exact ⟨rfl, p, _, _, _, _, _, _, _, _, hp, ⟨⟨rfl, rfl, rfl, rfl, rfl, rfl⟩, ⟨rfl, rfl, rfl, rfl, rfl, rfl⟩, ⟨rfl, rfl, rfl, rfl, rfl, rfl⟩, ⟨rfl, rfl, rfl, rfl, rfl, rfl⟩⟩, rfl, rfl, rfl, rfl⟩
    · rw [h] at h'; cases h'
  · rcases h' with ⟨h', _⟩ | ⟨_, rfl, b0, b1, b2, b3, b4, b5, b6, e0, e1, e2, e3, e4, e5, e6, v0, v1, v2, v3, z0, z1, z2, z3, rfl⟩
    · rw [h] at h'; cases h'
    · obtain ⟨p, hp⟩ := Rv.of_al (r := nrR a0 a1 a2 a3 a4 a5 a6 c0 c1 c2 c3 c4 c5 c6 n0.toNat n1.toNat n2.toNat n3.toNat ke (nv .f32 (fop .sub .f32 1065353216 ke) t0) (nv .f32 (fop .sub .f32 1065353216 ke) t1) (nv .f32 (fop .sub .f32 1065353216 ke) t2) (nv .f32 (fop .sub .f32 1065353216 ke) t3) (nv .f32 (gainF n0 ta) u0) (nv .f32 (gainF n1 ta) u1) (nv .f32 (gainF n2 ta) u2) (nv .f32 (gainF n3 ta) u3) we)
        (s := nrR b0 b1 b2 b3 b4 b5 b6 e0 e1 e2 e3 e4 e5 e6 n0.toNat n1.toNat n2.toNat n3.toNat ke (nv .f32 (fop .sub .f32 1065353216 ke) v0) (nv .f32 (fop .sub .f32 1065353216 ke) v1) (nv .f32 (fop .sub .f32 1065353216 ke) v2) (nv .f32 (fop .sub .f32 1065353216 ke) v3) (nv .f32 (gainF n0 ta) z0) (nv .f32 (gainF n1 ta) z1) (nv .f32 (gainF n2 ta) z2) (nv .f32 (gainF n3 ta) z3) we)
        (f0 := ⟨1, nv .f32 (fop .sub .f32 1065353216 ke) v0, ke, 0, 0, 0⟩) (f1 := ⟨1, nv .f32 (fop .sub .f32 1065353216 ke) v1, ke, 0, 0, 0⟩) (f2 := ⟨1, nv .f32 (fop .sub .f32 1065353216 ke) v2, ke, 0, 0, 0⟩) (f3 := ⟨1, nv .f32 (fop .sub .f32 1065353216 ke) v3, ke, 0, 0, 0⟩)
        (x0 := nv .f32 (gainF n0 ta) z0) (x1 := nv .f32 (gainF n1 ta) z1) (x2 := nv .f32 (gainF n2 ta) z2) (x3 := nv .f32 (gainF n3 ta) z3) rfl
      exact ⟨rfl, p, _, _, _, _, _, _, _, _, hp, ⟨⟨rfl, up_nv2 _ _ _, rfl, rfl, rfl, rfl⟩, ⟨rfl, up_nv2 _ _ _, rfl, rfl, rfl, rfl⟩, ⟨rfl, up_nv2 _ _ _, rfl, rfl, rfl, rfl⟩, ⟨rfl, up_nv2 _ _ _, rfl, rfl, rfl, rfl⟩⟩, up_nv2 _ _ _, up_nv2 _ _ _, up_nv2 _ _ _, up_nv2 _ _ _⟩
end Go.Proofs.Ytfhegjjgfaeinaa
