
/-
One number is appended to a slice whose row is its own.
-/
import Derived.Test.YtdhiihmfgmempaaAq
namespace Go.Proofs.Ytdhiihmfgmempaa
open Go Go.RowKit Fl
theorem cell_blk {w : World} {b : Nat} {cs : Array Value} {T : TypeId} {fr : Nat × Nat} (h : blkAt w b = some (.cells cs T fr)) (i : Nat) : w.cell? ⟨b, i, none⟩ = cs[i]? := by
  unfold blkAt at h
  unfold World.cell?
  rw [h]
  simp
theorem frozen_blk {w : World} {b : Nat} {cs : Array Value} {T : TypeId} (h : blkAt w b = some (.cells cs T (0, 0))) (i : Nat) : w.frozen? ⟨b, i, none⟩ = false := by
  unfold blkAt at h
  unfold World.frozen?
  rw [h]
  simp
theorem lt_of_blk {w : World} {b : Nat} {o : Obj} (h : blkAt w b = some o) : b < w.heap.size := (Array.getElem?_eq_some_iff.1 h).1
/-- a slice of floats in a row of its own: n floats, and room up to c -/
structure Room (w : World) (g : Nat) (a : Option Addr) (n c : Nat) (xs : List Nat) : Prop where
  len : xs.length = n
  le : n ≤ c
  big : c ≤ 9223372036854775807
  blk : 0 < c → a = some ⟨g, 0, none⟩ ∧ ∃ zs : List Nat, zs.length + n = c ∧ blkAt w g = some (.cells (arr (xs ++ zs)) 22)
theorem Room.of {w : World} {g : Nat} {a : Option Addr} {n c : Nat} {xs : List Nat} (h : Room w g a n c xs) : OF w g a n c xs :=
  ⟨⟨h.len, h.le, h.big, fun hn => by
    have hle := h.le
    obtain ⟨ha, zs, hz, hb⟩ := h.blk (by omega)
    refine ⟨g, 0, ha, lt_of_blk hb, fun i hi => ?_⟩
    have hl := h.len
    rw [Nat.zero_add, cell_blk hb, arr_get _ _ (by rw [List.length_append]; omega)]
    unfold nth
    rw [List.getD_eq_getElem?_getD, List.getD_eq_getElem?_getD, List.getElem?_append_left (by omega)]⟩, fun hn => by
    have hle := h.le
    obtain ⟨ha, zs, hz, hb⟩ := h.blk (by omega)
    exact ⟨0, ha, fun i _ => frozen_blk hb _⟩⟩
theorem Room.lt {w : World} {g : Nat} {a : Option Addr} {n c : Nat} {xs : List Nat} (h : Room w g a n c xs) (hc : 0 < c) : g < w.heap.size := by
  obtain ⟨_, zs, _, hb⟩ := h.blk hc
  exact lt_of_blk hb
theorem Room.nil (w : World) (g : Nat) (a : Option Addr) : Room w g a 0 0 [] := ⟨rfl, Nat.le_refl _, by omega, fun h => absurd h (by omega)⟩
theorem Room.keep {w w' : World} {g : Nat} {a : Option Addr} {n c : Nat} {xs : List Nat} (h : Room w g a n c xs) (hk : 0 < c → blkAt w' g = blkAt w g) : Room w' g a n c xs :=
  ⟨h.len, h.le, h.big, fun hc => by
    obtain ⟨ha, zs, hz, hb⟩ := h.blk hc
    exact ⟨ha, zs, hz, by rw [hk hc, hb]⟩⟩
theorem Room.below {w w' : World} {B g : Nat} {a : Option Addr} {n c : Nat} {xs : List Nat} (h : Room w g a n c xs) (hb : Below B w w') (hB : w.heap.size ≤ B) : Room w' g a n c xs :=
  h.keep fun hc => hb.block g (Nat.lt_of_lt_of_le (h.lt hc) hB)
theorem arr_append (xs ys : List Nat) : arr (xs ++ ys) = arr xs ++ arr ys := by unfold arr; simp
theorem zero_cells (m : Nat) : Builtin.zeroCells #[Value.float .f32 0] m = arr (List.replicate m 0) := by
  unfold Builtin.zeroCells arr
  apply Array.ext_getElem?
  intro i
  simp only [List.size_toArray, List.length_cons, List.length_nil, Nat.zero_add, Nat.mul_one, Nat.mod_one]
  by_cases h : i < m
  · simp [h, fl]
  · simp [h]
theorem writeAt_one (xs zs : List Nat) (z v : Nat) : writeAt (arr (xs ++ z :: zs)) xs.length [fl v] = arr (xs ++ [v] ++ zs) := by
  rw [writeAt, writeAt]
  unfold arr
  rw [List.setIfInBounds_toArray]
  congr 1
  simp
theorem fl_oneCell (v : Nat) : ∀ u ∈ [fl v], u.oneCell' = true := by intro u hu; simp at hu; subst hu; rfl
set_option maxHeartbeats 1000000 in
theorem run_app1 {W : World} {g : Nat} {a : Option Addr} {n c : Nat} {xs : List Nat} (h : Room W g a n c xs) (s v : Nat) (hs : W.cell? ⟨s, 0, none⟩ = some (.float .f32 v)) (hn : n ≤ 100000) :
    ∃ (a' : Option Addr) (c' g' : Nat) (W' : World), (bigAppend #[29, 29] 29 #[.slice a n c, .slice (some ⟨s, 0, none⟩) 1 1]).run Try.prog W = .ok (.slice a' (n + 1) c') W' ∧
      Room W' g' a' (n + 1) c' (xs ++ [v]) ∧ ((g' = g ∧ 0 < c) ∨ g' = W.heap.size) ∧ W.heap.size ≤ W'.heap.size ∧
      (∀ B, B ≤ W.heap.size → (0 < c → B ≤ g) → Below B W W') ∧ (∀ b, b < W.heap.size → (0 < c → b ≠ g) → blkAt W' b = blkAt W b) := by
  obtain ⟨i, hi, hz, hsz, hby⟩ := info_parts infoF
  have hsrc : Src Try.prog i.size 29 (.slice (some ⟨s, 0, none⟩) 1 1) 1 [fl v] W := by
    rw [hsz]
    refine Src.ofSlice W Try.underlying29 _ _ _ _ (by simp) (fun j u hj => ?_) (fl_oneCell v)
    cases j with
    | zero =>
      simp at hj
      subst hj
      rw [Addr.add_mid]
      exact hs
    | succ j => simp at hj
  have hl := h.len
  by_cases hr : n + 1 ≤ c
  · obtain ⟨ha, zs, hzl, hb⟩ := h.blk (by omega)
    obtain ⟨z, zs, rfl⟩ : ∃ z zs', zs = z :: zs' := by
      cases zs with
      | nil => simp at hzl; omega
      | cons z zs => exact ⟨z, zs, rfl⟩
    subst ha
    have hg := lt_of_blk hb
    have hrun := run_append_room_src (P := Try.prog) W 29 29 29 22 i Try.underlying29 hi g 0 n c _ 1 _ hsrc hr
      (fun j hj => by
        simp at hj
        subst hj
        rw [hsz, cell_blk hb, arr_get _ _ (by simp; omega)]
        rfl)
      (fun j hj => frozen_blk hb _)
    rw [hsz, Nat.zero_add, Nat.mul_one] at hrun
    have hW' : blkAt (W.setCells g n [fl v]) g = some (.cells (arr (xs ++ [v] ++ zs)) 22) := by
      rw [blk_setCells0, hb]
      simp only
      rw [← hl, writeAt_one]
    have hwr := wr_setCells g [fl v] n W
    refine ⟨_, c, g, _, hrun, ⟨by simp; omega, hr, h.big, fun _ => ⟨rfl, zs, by simp at hzl; omega, hW'⟩⟩, .inl ⟨rfl, by omega⟩, hwr.size, fun B hB hg => ?_, fun b hb1 hb2 => ?_⟩
    · exact hwr.below hB (fun x hx => by simp at hx; subst hx; exact hg (by omega))
    · exact hwr.block b hb1 (by simpa using hb2 (by omega))
  · obtain rfl : n = c := by have := h.le; omega
    have hold : (Builtin.firstCells i.size n (.slice a n n)).run Try.prog W.drew = .ok (xs.map fl).toArray W.drew := by
      rw [hsz]
      by_cases h0 : n = 0
      · subst h0
        have hx : xs = [] := List.length_eq_zero_iff.1 hl
        subst hx
        cases a with
        | none => exact run_firstCells_none W.drew 1 0 0 0
        | some ad => exact run_firstCells_some W.drew 1 0 ad 0 0 [] rfl (fun j u hj => by simp at hj)
      · obtain ⟨ha, zs, hzl, hb⟩ := h.blk (by omega)
        subst ha
        refine run_firstCells_some W.drew 1 n ⟨g, 0, none⟩ n n _ (by simp [hl]) (fun j u hj => ?_)
        have hlt : j < n := by have := (List.getElem?_eq_some_iff.1 hj).1; simp at this; omega
        rw [Addr.add_mid]
        have := cell_blk hb (0 + j)
        have e : W.drew.cell? ⟨g, 0 + j, none⟩ = W.cell? ⟨g, 0 + j, none⟩ := rfl
        rw [e, this, Nat.zero_add]
        unfold arr
        rw [List.getElem?_toArray, List.map_append, List.getElem?_append_left (by simp; omega)]
        exact hj
    have hrun := run_append_grow_src (P := Try.prog) W 29 29 29 22 i (.float .f32 0) Try.underlying29 hi hz a n n _ hold _ 1 _ hsrc (by omega) (by omega) (by
      rw [hby]
      exact growslice_fits (need := n + 1) (old := n) (bytes := 4) (Nat.lt_succ_self _) (Nat.le_trans (Nat.mul_le_mul_right 4 (show n + 1 ≤ 100001 by omega)) (by decide)))
    have hge := grownCap_ge W (n + 1) n 22
    have hle := grownCap_le_maxLen W (n + 1) n 22 (by unfold maxLen; omega)
    have hcs : ((xs.map fl ++ [fl v]).toArray ++ Builtin.zeroCells (Value.float .f32 0).cells (grownCap W (n + 1) n 22 - (n + 1))) = arr (xs ++ [v] ++ List.replicate (grownCap W (n + 1) n 22 - (n + 1)) 0) := by
      rw [show (Value.float .f32 0).cells = #[Value.float .f32 0] from rfl, zero_cells, arr_append, show (xs.map fl ++ [fl v]).toArray = arr (xs ++ [v]) by unfold arr; simp]
    rw [hcs] at hrun
    have hB : ∀ B, B ≤ W.heap.size → Below B W (W.drew.alloc (.cells (arr (xs ++ [v] ++ List.replicate (grownCap W (n + 1) n 22 - (n + 1)) 0)) 22)) := fun B hB => Below.alloc (Below.drew (Below.refl _ _)) hB _
    refine ⟨_, _, _, _, hrun, ⟨by simp [hl], hge, by unfold maxLen at hle; omega, fun _ => ⟨rfl, List.replicate (grownCap W (n + 1) n 22 - (n + 1)) 0, by simp; omega, ?_⟩⟩, .inr rfl, (hB _ (Nat.le_refl _)).size, fun B h1 _ => hB B h1, fun b h1 _ => (hB _ (Nat.le_refl _)).block b h1⟩
    exact (MapKept.heap_alloc W.drew _).1
/-- a tuning's box that is being filled -/
structure TB (w0 w : World) (b ba oc : Nat) (a : Option Addr) (n c g : Nat) (xs : List Nat) : Prop where
  below : Below w0.heap.size w0 w
  hb : w0.heap.size ≤ b
  blk : blkAt w b = some (.cells #[.float .f32 ba, .float .f32 oc, .slice a n c] 31)
  room : Room w g a n c xs
  own : 0 < c → g ≠ b ∧ w0.heap.size ≤ g
theorem TB.step {w0 w : World} {b ba oc : Nat} {a : Option Addr} {n c g : Nat} {xs : List Nat} (h : TB w0 w b ba oc a n c g xs) (hn : n ≤ 100000) (W : World) (hW : Below w.heap.size w W) (s v : Nat) (hs : W.cell? ⟨s, 0, none⟩ = some (.float .f32 v)) :
    ∃ (a' : Option Addr) (c' g' : Nat) (W' : World), (bigAppend #[29, 29] 29 #[.slice a n c, .slice (some ⟨s, 0, none⟩) 1 1]).run Try.prog W = .ok (.slice a' (n + 1) c') W' ∧
      (W'.cell? ⟨b, 2, none⟩ = some (.slice a n c) ∧ W'.frozen? ⟨b, 2, none⟩ = false) ∧ TB w0 (W'.setCell ⟨b, 2, none⟩ (.slice a' (n + 1) c')) b ba oc a' (n + 1) c' g' (xs ++ [v]) := by
  have hbl := lt_of_blk h.blk
  have hbW : blkAt W b = blkAt w b := hW.block b hbl
  have hsz := hW.size
  obtain ⟨a', c', g', W', h1, h2, h3, h4, h5, h6⟩ := run_app1 (h.room.below hW (Nat.le_refl _)) s v hs hn
  have hblk : blkAt W' b = some (.cells #[.float .f32 ba, .float .f32 oc, .slice a n c] 31) := by
    rw [h6 b (by omega) (fun hc => fun he => (h.own hc).1 he.symm), hbW, h.blk]
  have hne : g' ≠ b := by
    rcases h3 with ⟨rfl, hc⟩ | rfl
    · exact (h.own hc).1
    · omega
  have hge : w0.heap.size ≤ g' := by
    rcases h3 with ⟨rfl, hc⟩ | rfl
    · exact (h.own hc).2
    · have := h.below.size; omega
  have hBel : Below w0.heap.size w0 W' := (h.below.trans (hW.mono h.below.size)).trans (h5 _ (by have := h.below.size; omega) (fun hc => (h.own hc).2))
  refine ⟨a', c', g', W', h1, ⟨cell_blk hblk 2, frozen_blk hblk 2⟩, ⟨hBel.setCell h.hb _, h.hb, ?_, ?_, fun _ => ⟨hne, hge⟩⟩⟩
  · rw [blk_set_same0, hblk]; rfl
  · exact h2.keep fun _ => blk_set _ _ _ _ _ hne
theorem TB.cells {w0 w : World} {b ba oc : Nat} {a : Option Addr} {n c g : Nat} {xs : List Nat} (h : TB w0 w b ba oc a n c g xs) :
    w.cell? ⟨b, 0, none⟩ = some (.float .f32 ba) ∧ w.cell? ⟨b, 1, none⟩ = some (.float .f32 oc) ∧ w.cell? ⟨b, 2, none⟩ = some (.slice a n c) ∧ w.frozen? ⟨b, 2, none⟩ = false :=
  ⟨cell_blk h.blk 0, cell_blk h.blk 1, cell_blk h.blk 2, frozen_blk h.blk 2⟩
end Go.Proofs.Ytdhiihmfgmempaa
