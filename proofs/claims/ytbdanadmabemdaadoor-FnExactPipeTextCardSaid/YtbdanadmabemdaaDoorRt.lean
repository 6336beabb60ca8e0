
/-
The leaves of an argument that holds slices, from its reading.
-/
import Derived.Test.YtbdanadmabemdaaDoorRk
import Derived.Test.YtbdanadmabemdaaDoorDf
import Derived.Deep.Slices
namespace Go.Proofs.YtbdanadmabemdaaDoor
open Go Go.RowKit Go.ChangeShapes Go.WideShapes Go.ChangeAt

section
variable {H : Type} {enc : TypeId × Value → H} {P : Program} {W : World} {sp : Nat → Bool} {held : Bool} {fuel : Nat}
theorem trod_field {t : TypeId} {fs : Array Field} {cs : List Value} {x : DataW H × List MemPlace} (ht : P.underlying t = some (.struct fs)) (h : DataW.trod enc P W 0 sp held fuel t cs = some x)
    (i : Nat) (f : Field) (hf : fs[i]? = some f) : ∃ n y, DataW.trod enc P W 0 sp held n f.type ((cs.drop f.offset).take (P.cellsOf f.type)) = some y := by
  obtain ⟨xs, n, _, _, _, hl, hx⟩ := DataW.trod_struct ht h
  have hi : i < xs.length := by rw [hl]; exact (Array.getElem?_eq_some_iff.1 hf).1
  exact ⟨n, xs[i], by rw [hx i f hf]; exact List.getElem?_eq_getElem hi⟩
theorem trod_field' {t : TypeId} {fs : Array Field} {cs : List Value} {x : DataW H × List MemPlace} (ht : P.underlying t = some (.struct fs)) (h : DataW.trod enc P W 0 sp held fuel t cs = some x)
    (i off : Nat) (u : TypeId) (k : Nat) (ds : List Value) (hf : fs[i]?.map (fun f => (f.type, f.offset)) = some (u, off)) (hk : P.cellsOf u = k) (hd : (cs.drop off).take k = ds) : ∃ n y, DataW.trod enc P W 0 sp held n u ds = some y := by
  cases hfi : fs[i]? with
  | none => rw [hfi] at hf; cases hf
  | some f =>
    rw [hfi] at hf
    simp only [Option.map_some, Option.some.injEq, Prod.mk.injEq] at hf
    obtain ⟨rfl, rfl⟩ := hf
    obtain ⟨n, y, hy⟩ := trod_field ht h i f hfi
    exact ⟨n, y, by rw [← hd, ← hk]; exact hy⟩
theorem trod_f32 {t : TypeId} {c : Value} {x : DataW H × List MemPlace} (ht : P.underlying t = some (.float .f32)) (h : DataW.trod enc P W 0 sp held fuel t [c] = some x) : ∃ b, c = .float .f32 b ∧ b < 4294967296 := by
  cases fuel with
  | zero => simp [DataW.trod] at h
  | succ n =>
    rw [DataW.trod_step] at h
    unfold DataW.trodStep at h
    rw [ht] at h
    cases c <;> simp_all [Lit.wf]
theorem trod_int' {t : TypeId} {c : Value} {x : DataW H × List MemPlace} (ht : P.underlying t = some (.int .i64)) (h : DataW.trod enc P W 0 sp held fuel t [c] = some x) : ∃ n, c = .int .i64 n ∧ -9223372036854775808 ≤ n ∧ n ≤ 9223372036854775807 := by
  cases fuel with
  | zero => simp [DataW.trod] at h
  | succ n =>
    rw [DataW.trod_step] at h
    unfold DataW.trodStep at h
    rw [ht] at h
    cases c <;> simp_all [Lit.wf, IntKind.min, IntKind.max, IntKind.signed, IntKind.bits]
theorem trod_fs {t e : TypeId} {c : Value} {x : DataW H × List MemPlace} (ht : P.underlying t = some (.slice e)) (he : P.underlying e = some (.float .f32)) (hc : P.cellsOf e = 1) (h : DataW.trod enc P W 0 sp held fuel t [c] = some x) :
    ∃ a n k xs, c = .slice a n k ∧ FS W a n k xs ∧ ∀ i, nth xs i < 4294967296 := by
  rcases Deep.open_slice1 ht hc h with ⟨h0, _⟩ | ⟨a, len, cap, m, n, V, D, Pl, h0, _, hl, hm, hmm, rfl, hx⟩
  · obtain rfl := List.singleton_inj.1 h0
    exact ⟨none, 0, 0, [], rfl, ⟨rfl, Nat.le_refl _, by omega, fun h => absurd h (by omega)⟩, fun i => by simp [nth]⟩
  · obtain rfl := List.singleton_inj.1 h0
    have hlm : len ≤ m := by rw [hmm]; split <;> omega
    have hf : ∀ i, i < len → ∃ b, V i = .float .f32 b ∧ b < 4294967296 := fun i hi => trod_f32 he (hx i (by omega)).2
    obtain ⟨f, hf⟩ := Deep.choose_lt hf
    refine ⟨some a, len, cap, (List.range len).map f, rfl, ⟨by simp, hl, ?_, fun hn => ?_⟩, ?_⟩
    · unfold maxLen at hm; omega
    · have h0 := (hx 0 (by omega)).1
      have hsp : a.spot = none := by
        unfold World.cell? at h0
        cases hs : a.spot with
        | none => rfl
        | some s =>
          have : (a.add 0).spot.isSome = true := by unfold Addr.add; simp [hs]
          split at h0
          · rw [if_pos this] at h0; cases h0
          · cases h0
      obtain ⟨b, o, s⟩ := a
      simp only at hsp
      subst hsp
      have hsz : b < W.heap.size := by
        cases hh : W.heap[b]? with
        | none => unfold World.cell? at h0; rw [show ((⟨b, o, none⟩ : Addr).add 0).block = b from rfl, hh] at h0; cases h0
        | some _ => exact (Array.getElem?_eq_some_iff.1 hh).1
      refine ⟨b, o, rfl, hsz, fun i hi => ?_⟩
      have := (hx i (by omega)).1
      rw [add_plain] at this
      rw [this, (hf i hi).1]
      simp [nth, hi]
    · intro i
      by_cases hi : i < len
      · have := (hf i hi).2
        simpa [nth, hi] using this
      · simp [nth, hi]
end
end Go.Proofs.YtbdanadmabemdaaDoor
