
/-
Appends are cut off from the walk; a copy by append.
-/
import Derived.Test.YtbkafmikaojclaaLe
import Derived.Test.YtbkafmikaojclaaCm
import Derived.Deep.AppendSrc
namespace Go.Proofs.Ytbkafmikaojclaa
open Go Go.RowKit Fl
theorem OF.of_block {W : World} {g n : Nat} {xs : List Nat} {T : TypeId} (h : W.heap[g]? = some (.cells (arr xs) T)) (hl : xs.length = n) (hn : n ≤ 9223372036854775807) : OF W g (some ⟨g, 0, none⟩) n n xs :=
  ⟨⟨hl, Nat.le_refl _, hn, fun _ => ⟨g, 0, rfl, (Array.getElem?_eq_some_iff.1 h).1, fun i hi => by rw [Nat.zero_add, cell_block h, arr_get _ _ (by omega)]⟩⟩, fun _ => ⟨0, rfl, fun i _ => by
    unfold World.frozen?
    rw [h]
    simp⟩⟩
def bigAppend (ats : Array TypeId) (ty : TypeId) (args : Array Value) : Sem Value := Builtin.append_ ats ty args
@[go_sem ↓ high] theorem big_append (ats : Array TypeId) (ty : TypeId) (args : Array Value) : Builtin.append_ ats ty args = bigAppend ats ty args := rfl
theorem run_copy (a : Option Addr) (n c : Nat) (xs : List Nat) (w : World) (g : Nat) (h : FS w a n c xs) (h1 : 1 ≤ n) (h2 : n ≤ 1048576) : ∃ k W', Below w.heap.size w W' ∧
    (bigAppend #[23, 23] 23 #[.slice (some ⟨g, 0, none⟩) 0 0, .slice a n c]).run Try.prog w = .ok (.slice (some ⟨w.heap.size, 0, none⟩) n k) W' := by
  obtain ⟨i, hi, hz, hsz, hby⟩ := info_parts infoF
  obtain ⟨b, o, rfl, hbl, hc⟩ := h.at_ (by omega)
  have hs : Src Try.prog i.size 23 (.slice (some ⟨b, o, none⟩) n c) n (xs.map fl) w := by
    rw [hsz]
    refine Src.ofSlice w Try.underlying23 _ _ _ _ (by simp [h.len]) (fun j u hj => ?_) (fun u hu => ?_)
    · have hl := h.len
      have hlt : j < n := by have := (List.getElem?_eq_some_iff.1 hj).1; simp at this; omega
      rw [Addr.add_mid, hc j hlt]
      simp only [List.getElem?_map] at hj
      have : xs[j]? = some (nth xs j) := by unfold nth; rw [List.getD_eq_getElem?_getD, List.getElem?_eq_getElem (by omega)]; rfl
      rw [this] at hj
      simpa [fl] using hj
    · obtain ⟨x, _, rfl⟩ := List.mem_map.1 hu
      rfl
  have := run_append_grow_src (P := Try.prog) w 23 23 23 22 i (.float .f32 0) Try.underlying23 hi hz (some ⟨g, 0, none⟩) 0 0 [] (by rw [hsz]; exact run_firstCells_some w.drew 1 0 ⟨g, 0, none⟩ 0 0 [] rfl (fun j u hj => by simp at hj)) _ n _ hs (by omega) (by omega) (by
    rw [hby]
    unfold Builtin.nextslicecap
    repeat (first | omega | split))
  refine ⟨_, _, ?_, by unfold bigAppend; rw [this, Nat.zero_add]⟩
  exact Below.alloc (Below.drew (Below.refl _ _)) (Nat.le_refl _) _
end Go.Proofs.Ytbkafmikaojclaa
