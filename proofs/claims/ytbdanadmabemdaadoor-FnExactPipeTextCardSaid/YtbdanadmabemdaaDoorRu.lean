
/-
The leaves of an argument that holds slices of rings, from its reading.
-/
import Derived.Test.YtbdanadmabemdaaDoorRa
namespace Go.Proofs.YtbdanadmabemdaaDoor
open Go Go.RowKit Go.ChangeShapes Go.WideShapes Go.ChangeAt
instance : Inhabited Rg := ⟨⟨none, 0, 0, [], 0⟩⟩
section
variable {H : Type} {enc : TypeId × Value → H} {P : Program} {W : World} {sp : Nat → Bool} {held : Bool} {fuel : Nat}
theorem cell_bool {P : Program} {W : World} {base : Nat} {u : TypeId} {c : Value} (hu : P.underlying u = some .bool) (h0 : OkC P W base u c) : ∃ b, c = .bool b := by
  have h := h0.out
  unfold Cell.okWide at h
  rw [hu] at h
  cases c <;> simp_all [Cell.ok]
theorem two_cells {a : Addr} {cs : List Value} (h : W.cells? 0 a 2 = some cs) : ∃ v0 v1, cs = [v0, v1] ∧ W.cell? (a.add 0) = some v0 ∧ W.cell? (a.add 1) = some v1 := by
  unfold World.cells? at h
  rw [if_pos (Nat.zero_le _)] at h
  rw [show List.range 2 = [0, 1] from rfl] at h
  simp only [List.mapM_cons, List.mapM_nil] at h
  cases h0 : W.cell? (a.add 0) with
  | none => rw [h0] at h; cases h
  | some v0 =>
    cases h1 : W.cell? (a.add 1) with
    | none => rw [h0, h1] at h; cases h
    | some v1 =>
      rw [h0, h1] at h
      exact ⟨v0, v1, (Option.some.inj h).symm, rfl, rfl⟩
theorem plain_of {a : Addr} {v : Value} (h0 : W.cell? (a.add 0) = some v) : a.spot = none ∧ a.block < W.heap.size := by
  have hsp : a.spot = none := by
    unfold World.cell? at h0
    cases hs : a.spot with
    | none => rfl
    | some s =>
      have : (a.add 0).spot.isSome = true := by unfold Addr.add; simp [hs]
      split at h0
      · rw [if_pos this] at h0; cases h0
      · cases h0
  refine ⟨hsp, ?_⟩
  cases hh : W.heap[a.block]? with
  | none =>
    unfold World.cell? at h0
    rw [show (a.add 0).block = a.block from rfl, hh] at h0; cases h0
  | some _ => exact (Array.getElem?_eq_some_iff.1 hh).1
theorem trod_ring {e t1 t2 u : TypeId} {fs : Array Field} {v0 v1 : Value} {x : DataW H × List MemPlace} (he : P.underlying e = some (.struct fs)) (hf0 : fs[0]?.map (fun f => (f.type, f.offset)) = some (t1, 0)) (hf1 : fs[1]?.map (fun f => (f.type, f.offset)) = some (t2, 1))
    (hk1 : P.cellsOf t1 = 1) (hk2 : P.cellsOf t2 = 1) (ht1 : P.underlying t1 = some (.slice u)) (hu : P.underlying u = some (.float .f32)) (hku : P.cellsOf u = 1) (ht2 : P.underlying t2 = some (.int .i64)) (h : DataW.trod enc P W 0 sp held fuel e [v0, v1] = some x) :
    ∃ r : Rg, v0 = .slice r.a r.n r.c ∧ v1 = .int .i64 r.i ∧ FS W r.a r.n r.c r.xs ∧ (∀ i, nth r.xs i < 4294967296) ∧ (-9223372036854775808 ≤ r.i ∧ r.i ≤ 9223372036854775807) := by
  obtain ⟨n0, y0, h0⟩ := trod_field' he h 0 0 t1 1 [v0] hf0 hk1 rfl
  obtain ⟨n1, y1, h1⟩ := trod_field' he h 1 1 t2 1 [v1] hf1 hk2 rfl
  obtain ⟨a, n, k, xs, rfl, hfs, hx⟩ := trod_fs ht1 hu hku h0
  obtain ⟨i, rfl, hi⟩ := trod_int' ht2 h1
  exact ⟨⟨a, n, k, xs, i⟩, rfl, rfl, hfs, hx, hi⟩
theorem trod_rs {t e t1 t2 u : TypeId} {fs : Array Field} {c : Value} {x : DataW H × List MemPlace} (ht : P.underlying t = some (.slice e)) (he : P.underlying e = some (.struct fs)) (hke : P.cellsOf e = 2) (hf0 : fs[0]?.map (fun f => (f.type, f.offset)) = some (t1, 0)) (hf1 : fs[1]?.map (fun f => (f.type, f.offset)) = some (t2, 1))
    (hk1 : P.cellsOf t1 = 1) (hk2 : P.cellsOf t2 = 1) (ht1 : P.underlying t1 = some (.slice u)) (hu : P.underlying u = some (.float .f32)) (hku : P.cellsOf u = 1) (ht2 : P.underlying t2 = some (.int .i64)) (h : DataW.trod enc P W 0 sp held fuel t [c] = some x) :
    ∃ a n k rs, c = .slice a n k ∧ RS W a n k rs ∧ ∀ j, j < n → (∀ i, nth (rat rs j).xs i < 4294967296) ∧ (-9223372036854775808 ≤ (rat rs j).i ∧ (rat rs j).i ≤ 9223372036854775807) := by
  rcases Deep.open_slice ht h with ⟨h0, _⟩ | ⟨a, len, cap, m, n, D, Pl, h0, _, hl, hm, hmm, rfl, hx⟩
  · obtain rfl := List.singleton_inj.1 h0
    exact ⟨none, 0, 0, [], rfl, ⟨rfl, Nat.le_refl _, by omega, fun h => absurd h (by omega)⟩, fun j hj => absurd hj (by omega)⟩
  · obtain rfl := List.singleton_inj.1 h0
    have hlm : len ≤ m := by rw [hmm]; split <;> omega
    rw [hke] at hx
    have hf : ∀ j, j < len → ∃ r : Rg, (W.cell? (a.add (j * 2)) = some (.slice r.a r.n r.c) ∧ W.cell? (a.add (j * 2 + 1)) = some (.int .i64 r.i)) ∧ FS W r.a r.n r.c r.xs ∧ (∀ i, nth r.xs i < 4294967296) ∧ (-9223372036854775808 ≤ r.i ∧ r.i ≤ 9223372036854775807) := fun j hj => by
      obtain ⟨cs', h1, h2⟩ := hx j (by omega)
      obtain ⟨v0, v1, rfl, g0, g1⟩ := two_cells h1
      obtain ⟨r, rfl, rfl, hr⟩ := trod_ring he hf0 hf1 hk1 hk2 ht1 hu hku ht2 h2
      rw [Deep.add_add] at g0 g1
      exact ⟨r, ⟨g0, g1⟩, hr⟩
    obtain ⟨f, hf⟩ := Deep.choose_lt hf
    have hrat : ∀ j, j < len → rat ((List.range len).map f) j = f j := fun j hj => by unfold rat; simp [hj]
    refine ⟨some a, len, cap, (List.range len).map f, rfl, ⟨by simp, hl, by unfold maxLen at hm; omega, fun hn => ?_⟩, fun j hj => by rw [hrat j hj]; exact (hf j hj).2.2⟩
    obtain ⟨hsp, hsz⟩ := plain_of (hf 0 hn).1.1
    obtain ⟨b, o, s⟩ := a
    simp only at hsp hsz
    subst hsp
    refine ⟨b, o, rfl, hsz, fun j hj => ?_⟩
    rw [hrat j hj]
    have hj' := hf j hj
    rw [add_plain, add_plain] at hj'
    exact ⟨hj'.1.1, hj'.1.2, hj'.2.1⟩
end
end Go.Proofs.YtbdanadmabemdaaDoor
