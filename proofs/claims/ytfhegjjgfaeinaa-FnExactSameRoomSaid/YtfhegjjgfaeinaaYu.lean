
/-
The leaves of an argument that holds a room, from its reading.
-/
import Derived.Test.YtfhegjjgfaeinaaRu
import Derived.Test.YtfhegjjgfaeinaaYr
import Derived.OpenShut
namespace Go.Proofs.Ytfhegjjgfaeinaa
open Go Go.RowKit Go.ChangeShapes Go.WideShapes Go.ChangeAt
section
variable {H : Type} {enc : TypeId × Value → H} {P : Program} {W : World} {sp : Nat → Bool} {held : Bool} {fuel : Nat}
theorem trod_elem {t e : TypeId} {n : Nat} {cs : List Value} {x : DataW H × List MemPlace} (ht : P.underlying t = some (.array n e)) (h : DataW.trod enc P W 0 sp held fuel t cs = some x)
    (i : Nat) (hi : i < n) (k : Nat) (ds : List Value) (hk : P.cellsOf e = k) (hd : (cs.drop (i * k)).take k = ds) : ∃ m y, DataW.trod enc P W 0 sp held m e ds = some y := by
  obtain ⟨xs, m, _, _, _, hl, hx⟩ := DataW.trod_array ht h
  have hlt : i < xs.length := by omega
  refine ⟨m, xs[i], ?_⟩
  rw [← hd, ← hk, hx i hi]
  exact List.getElem?_eq_getElem hlt
theorem trod_tap {e t1 t2 : TypeId} {fs : Array Field} {v0 v1 : Value} {x : DataW H × List MemPlace} (he : P.underlying e = some (.struct fs)) (hf0 : fs[0]?.map (fun f => (f.type, f.offset)) = some (t1, 0)) (hf1 : fs[1]?.map (fun f => (f.type, f.offset)) = some (t2, 1))
    (hk1 : P.cellsOf t1 = 1) (hk2 : P.cellsOf t2 = 1) (ht1 : P.underlying t1 = some (.int .i64)) (ht2 : P.underlying t2 = some (.float .f32)) (h : DataW.trod enc P W 0 sp held fuel e [v0, v1] = some x) :
    ∃ t : Int × Nat, v0 = .int .i64 t.1 ∧ v1 = .float .f32 t.2 := by
  obtain ⟨n0, y0, h0⟩ := trod_field' he h 0 0 t1 1 [v0] hf0 hk1 rfl
  obtain ⟨n1, y1, h1⟩ := trod_field' he h 1 1 t2 1 [v1] hf1 hk2 rfl
  obtain ⟨i, rfl, hi⟩ := trod_int' ht1 h0
  obtain ⟨b, rfl, hb⟩ := trod_f32 ht2 h1
  exact ⟨(i, b), rfl, rfl⟩
theorem trod_ts {t e t1 t2 : TypeId} {fs : Array Field} {c : Value} {x : DataW H × List MemPlace} (ht : P.underlying t = some (.slice e)) (he : P.underlying e = some (.struct fs)) (hke : P.cellsOf e = 2) (hf0 : fs[0]?.map (fun f => (f.type, f.offset)) = some (t1, 0)) (hf1 : fs[1]?.map (fun f => (f.type, f.offset)) = some (t2, 1))
    (hk1 : P.cellsOf t1 = 1) (hk2 : P.cellsOf t2 = 1) (ht1 : P.underlying t1 = some (.int .i64)) (ht2 : P.underlying t2 = some (.float .f32)) (h : DataW.trod enc P W 0 sp held fuel t [c] = some x) :
    ∃ a n k ts, c = .slice a n k ∧ TS W a n k ts := by
  rcases Deep.open_slice ht h with ⟨h0, _⟩ | ⟨a, len, cap, m, n, D, Pl, h0, _, hl, hm, hmm, rfl, hx⟩
  · obtain rfl := List.singleton_inj.1 h0
    exact ⟨none, 0, 0, [], rfl, ⟨Nat.le_refl _, by omega, fun h => absurd h (by omega)⟩⟩
  · obtain rfl := List.singleton_inj.1 h0
    have hlm : len ≤ m := by rw [hmm]; split <;> omega
    rw [hke] at hx
    have hf : ∀ j, j < len → ∃ q : Int × Nat, W.cell? (a.add (j * 2)) = some (.int .i64 q.1) ∧ W.cell? (a.add (j * 2 + 1)) = some (.float .f32 q.2) := fun j hj => by
      obtain ⟨cs', h1, h2⟩ := hx j (by omega)
      obtain ⟨v0, v1, rfl, g0, g1⟩ := two_cells h1
      obtain ⟨q, rfl, rfl⟩ := trod_tap he hf0 hf1 hk1 hk2 ht1 ht2 h2
      rw [Deep.add_add] at g0 g1
      exact ⟨q, g0, g1⟩
    obtain ⟨f, hf⟩ := Deep.choose_lt hf
    have hrat : ∀ j, j < len → tat ((List.range len).map f) j = f j := fun j hj => by unfold tat; simp [hj]
    refine ⟨some a, len, cap, (List.range len).map f, rfl, ⟨hl, by unfold maxLen at hm; omega, fun hn => ?_⟩⟩
    obtain ⟨hsp, hsz⟩ := plain_of (hf 0 hn).1
    obtain ⟨b, o, s⟩ := a
    simp only at hsp hsz
    subst hsp
    refine ⟨b, o, rfl, hsz, fun j hj => ?_⟩
    rw [hrat j hj]
    have hj' := hf j hj
    rw [add_plain, add_plain] at hj'
    exact hj'
end
end Go.Proofs.Ytfhegjjgfaeinaa
