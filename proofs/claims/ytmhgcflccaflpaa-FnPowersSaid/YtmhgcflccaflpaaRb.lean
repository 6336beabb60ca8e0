
/-
How an argument that is a slice of bytes is opened.
-/
import Derived.Test.YtmhgcflccaflpaaRk
import Derived.Test.YtmhgcflccaflpaaRt
import Derived.Test.YtmhgcflccaflpaaSy
namespace Go.Proofs.Ytmhgcflccaflpaa
open Go.ChangeShapes Go.WideShapes Go.ChangeAt Go.RowKit Go
section
variable {H : Type} {P : Program} {enc : TypeId × Value → H} {W : World} {sp : Nat → Bool} {held : Bool} {fuel : Nat}
theorem trod_u8 {t : TypeId} {c : Value} {x : DataW H × List MemPlace} (ht : P.underlying t = some (.int .u8)) (h : DataW.trod enc P W 0 sp held fuel t [c] = some x) : ∃ z : Nat, c = .int .u8 (z : Int) ∧ z ≤ 255 := by
  have k : ∃ n, c = .int .u8 n ∧ 0 ≤ n ∧ n ≤ 255 := by
    cases fuel with
    | zero => simp [DataW.trod] at h
    | succ n =>
      rw [DataW.trod_step] at h
      unfold DataW.trodStep at h
      rw [ht] at h
      cases c <;> simp_all [Lit.wf, IntKind.min, IntKind.max, IntKind.signed, IntKind.bits]
  obtain ⟨n, rfl, h1, h2⟩ := k
  exact ⟨n.toNat, by rw [Int.toNat_of_nonneg h1], by omega⟩
theorem trod_bs {t e : TypeId} {c : Value} {x : DataW H × List MemPlace} (ht : P.underlying t = some (.slice e)) (he : P.underlying e = some (.int .u8)) (hc : P.cellsOf e = 1) (h : DataW.trod enc P W 0 sp held fuel t [c] = some x) :
    ∃ a n k, c = .slice a n k ∧ BS W a n := by
  rcases Deep.open_slice1 ht hc h with ⟨h0, _⟩ | ⟨a, len, cap, m, n, V, D, Pl, h0, _, hl, hm, hmm, rfl, hx⟩
  · obtain rfl := List.singleton_inj.1 h0
    exact ⟨none, 0, 0, rfl, ⟨by omega, fun h => absurd h (by omega)⟩⟩
  · obtain rfl := List.singleton_inj.1 h0
    have hlm : len ≤ m := by rw [hmm]; split <;> omega
    refine ⟨some a, len, cap, rfl, ⟨?_, fun hn => ?_⟩⟩
    · unfold maxLen at hm; omega
    · have h0 := (hx 0 (by omega)).1
      have hsp : a.spot = none := by
        unfold World.cell? at h0
        cases hs : a.spot with
        | none => rfl
        | some s =>
          have : (a.add 0).spot.isSome = true := by unfold Addr.add; simp [hs]
          split at h0
          · rw [if_pos this] at h0; cases h0
          · cases h0
      obtain ⟨b, o, s⟩ := a
      simp only at hsp
      subst hsp
      have hsz : b < W.heap.size := by
        cases hh : W.heap[b]? with
        | none => unfold World.cell? at h0; rw [show ((⟨b, o, none⟩ : Addr).add 0).block = b from rfl, hh] at h0; cases h0
        | some _ => exact (Array.getElem?_eq_some_iff.1 hh).1
      refine ⟨b, o, rfl, hsz, fun i hi => ?_⟩
      obtain ⟨h1, h2⟩ := hx i (by omega)
      obtain ⟨z, hz, hz2⟩ := trod_u8 he h2
      rw [add_plain] at h1
      exact ⟨z, hz2, by rw [h1, hz]⟩
theorem val_sl {base : Nat} {t e : TypeId} {c : Value} (hu : P.underlying t = some (.slice e)) (h0 : OkW P W base t c) : ∃ a n k, c = .slice a n k := by
  have h := h0.out
  unfold Value.okWide at h
  rw [hu] at h
  unfold Cell.okWide at h
  simp only [hu] at h
  cases c <;> simp_all [Cell.ok]
end
end Go.Proofs.Ytmhgcflccaflpaa
