
/-
Appends of what lies in memory to a slice that the call has made.
-/
import Derived.Test.YtbdanadmabemdaaDoorLe
import Derived.Laws.AppendOwn
namespace Go.Proofs.YtbdanadmabemdaaDoor
open Go Go.RowKit Fl
def bigAppend (ats : Array TypeId) (ty : TypeId) (args : Array Value) : Sem Value := Builtin.append_ ats ty args
@[go_sem ↓ high] theorem big_append (ats : Array TypeId) (ty : TypeId) (args : Array Value) : Builtin.append_ ats ty args = bigAppend ats ty args := rfl
theorem own_keep {w w' : World} {base : Nat} {e : TypeId} {size : Nat} {v : Value} {n : Nat} {xs : List Value} (h : w.ownsRow base e size v n xs) (hb : Below w.heap.size w w') : w'.ownsRow base e size v n xs :=
  h.kept (row := none) ⟨hb.os, hb.tape, hb.output, hb.size, fun k hk _ => hb.block k hk⟩ (by cases v.ownBlock <;> simp)
theorem own_below {w w' : World} {base : Nat} {e : TypeId} {size : Nat} {v : Value} {n : Nat} {xs : List Value} (h : w.ownsRow base e size v n xs) (hg : w.grownBy w' v.ownBlock) (hB : base ≤ w.heap.size) : Below base w w' :=
  ⟨hg.os, hg.tape, hg.output, hg.size, fun k hk => hg.block k (by omega) (fun e => by have := (h.lt k e.symm).1; omega)⟩
/-- a slice that is not empty, by its cells -/
theorem own_cells {w : World} {base : Nat} {e : TypeId} {v : Value} {n : Nat} {xs : List Value} (h : w.ownsRow base e 1 v n xs) (hn : 0 < n) :
    ∃ g c, v = .slice (some ⟨g, 0, none⟩) n c ∧ base ≤ g ∧ g < w.heap.size ∧ n ≤ c ∧ c ≤ 9223372036854775807 ∧ ∀ j u, xs[j]? = some u → w.cell? ⟨g, j, none⟩ = some u := by
  obtain ⟨hl, h⟩ := h
  rcases h with ⟨_, rfl⟩ | ⟨g, cap, cur, rfl, hbg, hg, hnc, hcm, hcs, htake⟩
  · omega
  · refine ⟨g, cap, rfl, hbg, (Array.getElem?_eq_some_iff.1 hg).1, hnc, by unfold maxLen at hcm; omega, fun j u hj => ?_⟩
    have hlt : j < n := by have := (List.getElem?_eq_some_iff.1 hj).1; omega
    rw [← htake, Nat.mul_one, List.getElem?_take_of_lt hlt] at hj
    rw [cell_block hg]
    simpa using hj
theorem infoPR : (Tryd.prog.info? 90).map (fun i => (i.zero, i.size, i.bytes)) = some (some (.pointer none), 1, 8) := by kernel_rfl
theorem run_ptrs (w : World) (base : Nat) (v : Value) (n : Nat) (xs : List Value) (h : w.ownsRow base 90 1 v n xs) (hn : n ≤ 1000000) (hb : base ≤ w.heap.size) (g m : Nat) (us : List Value) (hl : us.length = m) (hm : m ≤ 1000000) (hu : ∀ u ∈ us, ∃ p, u = .pointer p) (hc : w.heap[g]? = some (.cells us.toArray 90)) :
    ∃ v' w', (bigAppend #[88, 88] 88 #[v, .slice (some ⟨g, 0, none⟩) m m]).run Tryd.prog w = .ok v' w' ∧ w'.ownsRow base 90 1 v' (n + m) (xs ++ us) ∧ Below base w w' := by
  obtain ⟨i, hi, hz, hsz, hby⟩ := info_parts infoPR
  obtain ⟨v', w', h1, h2, h3, _⟩ := run_append_own (P := Tryd.prog) w base 88 88 90 i (.pointer none) 1 8 Tryd.underlying88 hi hz hsz hby rfl (by omega) v n xs h ⟨g, 0, none⟩ m m us (by omega)
    (fun j u hj => by rw [Addr.add_mid, Nat.zero_add, cell_block hc]; simpa using hj) (fun u hx => by obtain ⟨p, rfl⟩ := hu u hx; rfl) (by unfold maxLen; omega) (by omega) hb
  exact ⟨v', w', h1, h2, own_below h h3 hb⟩
/-- pointers to the rings of both lists, in turn -/
def ptrs (b1 o1 b2 o2 : Nat) : Nat → List Value
  | 0 => []
  | k + 1 => ptrs b1 o1 b2 o2 k ++ [.pointer (some ⟨b1, o1 + k * 2, none⟩), .pointer (some ⟨b2, o2 + k * 2, none⟩)]
theorem ptrs_len (b1 o1 b2 o2 : Nat) : ∀ k, (ptrs b1 o1 b2 o2 k).length = 2 * k
  | 0 => rfl
  | k + 1 => by rw [ptrs, List.length_append, ptrs_len b1 o1 b2 o2 k]; simp; omega
theorem ptrs_get (b1 o1 b2 o2 : Nat) : ∀ k j, j < k → (ptrs b1 o1 b2 o2 k)[2 * j]? = some (.pointer (some ⟨b1, o1 + j * 2, none⟩)) ∧ (ptrs b1 o1 b2 o2 k)[2 * j + 1]? = some (.pointer (some ⟨b2, o2 + j * 2, none⟩))
  | 0, j, h => absurd h (by omega)
  | k + 1, j, h => by
    have hl := ptrs_len b1 o1 b2 o2 k
    rw [ptrs]
    by_cases e : j = k
    · subst e
      rw [List.getElem?_append_right (by omega), List.getElem?_append_right (by omega), hl]
      simp
    · rw [List.getElem?_append_left (by omega), List.getElem?_append_left (by omega)]
      exact ptrs_get b1 o1 b2 o2 k j (by omega)
set_option maxHeartbeats 1000000 in
theorem c_rings (b b1 o1 c1 b2 o2 c2 n : Nat) (w : World) (e0 : w.cell? ⟨b, 0, none⟩ = some (.slice (some ⟨b1, o1, none⟩) n c1)) (e1 : w.cell? ⟨b, 1, none⟩ = some (.slice (some ⟨b2, o2, none⟩) n c2)) (hb : b < w.heap.size) (hn : n ≤ 1000) :
    Calls Tryd.prog 44 #[.pointer (some ⟨b, 0, none⟩)] w (fun e w' => ∃ v, e = .returned v ∧ Below w.heap.size w w' ∧ w'.ownsRow w.heap.size 90 1 v (2 * n) (ptrs b1 o1 b2 o2 n)) := by
  have R0 : Hid (w.ownsRow w.heap.size 90 1 (.slice none 0 0) 0 []) := World.ownsRow_nil w w.heap.size 90 1
  go_enter Tryd.func44, Tryd.ntmps44
  go_wp2
  go_loopw [3, 4, 10] (fun vv _ i wr => ∃ k : Nat, k ≤ n ∧ i = .int .i64 k ∧ Hid (wr.ownsRow w.heap.size 90 1 vv (2 * k) (ptrs b1 o1 b2 o2 k)) ∧ Below w.heap.size w wr) (fun _ _ i _ => n - (intOf i).toNat)
  case atStart => exact ⟨0, by omega, rfl, R0, Below.refl _ _⟩
  case round =>
    clear R0
    obtain ⟨k, hk, rfl, hown, hbe⟩ := hrel
    have hc := (bcell hbe).1
    have E0 : wr.cell? ⟨b, 0, none⟩ = some (.slice (some ⟨b1, o1, none⟩) n c1) := by rw [hc _ _ hb]; exact e0
    have E1 : wr.cell? ⟨b, 1, none⟩ = some (.slice (some ⟨b2, o2, none⟩) n c2) := by rw [hc _ _ hb]; exact e1
    have hb2 : b < wr.heap.size := Nat.lt_of_lt_of_le hb hbe.size
    clear hc e0 e1 hb
    by_cases hlt : k < n
    · go_wp2
      (refine wp_region_pre 14 [] [13] (by kernel_rfl) (by simp) (by kernel_rfl) (by kernel_rfl) (by kernel_rfl) ?_; simp only [List.take_succ_cons, List.take_zero]; apply Exists.intro)
      iterate 13 (apply lh_o; kernel_rfl; kernel_rfl; kernel_rfl; (intro W hW; have hWc := Grow.cells hW; go_simp; exact ⟨OneV.mk _, Grow.refl _⟩))
      (apply lh_new; kernel_rfl; kernel_rfl; kernel_rfl; (intro W hW; have hWc := Grow.cells hW; go_simp; exact ⟨NewAt.mk _ _ _ _, Grow.alloc _ _⟩); intro g hfr)
      refine lh_nil ?_
      intro W hW
      obtain ⟨hG, hg⟩ := hW
      obtain ⟨v', W', hap, hown', hbl⟩ := run_ptrs W w.heap.size u3 (2 * k) _ (own_keep hown.out hG) (by omega) (Nat.le_trans hbe.size hG.size) _ 2 [.pointer (some ⟨b1, o1 + k * 2, none⟩), .pointer (some ⟨b2, o2 + k * 2, none⟩)] rfl (by omega) (fun u hu => by simp at hu; rcases hu with rfl | rfl <;> exact ⟨_, rfl⟩) hg
      have hB := Lib.hid (hbe.trans ((Below.mono hG hbe.size).trans hbl))
      have hO := Lib.hid hown'
      clear hown hown' hbl hbe hg hG
      simp only [Act.put, List.setIfInBounds_toArray, List.set_cons_succ, List.set_cons_zero]
      (refine wpAny_step (i := 14) (by kernel_rfl) rfl rfl (fun K hK => ?_); go_simp; refine hK _ _ ?_; clear hK; try simp only [Act.put, List.setIfInBounds_toArray, List.set_cons_succ, List.set_cons_zero])
      (refine wpAny_step (i := 15) (by kernel_rfl) rfl rfl (fun K hK => ?_); go_simp; refine hK _ _ ?_; clear hK; try simp only [Act.put, List.setIfInBounds_toArray, List.set_cons_succ, List.set_cons_zero])
      refine wpAny_end (by kernel_rfl) ?_
      go_wp2
      go_roundw
      case rel => exact ⟨k + 1, by omega, by go_num, hO, hB.out⟩
      case measure => simp [intOf]; omega
    · obtain rfl : n = k := by omega
      go_wp2
      go_ret
      exact ⟨_, rfl, hbe, hown.out⟩
end Go.Proofs.YtbdanadmabemdaaDoor
