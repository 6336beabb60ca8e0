
/-
Slices of pointers to rings: what the program's loops over them say.
The text of a pipe: lists of bytes.
The text of a pipe: the reference.
The text of a pipe: the program.
The law of the text of a pipe.
-/
import Derived.Test.YtbdanadmabemdaaDoorAg
import Derived.Test.YtbdanadmabemdaaDoorVq
import Derived.Test.YtbdanadmabemdaaDoorHl
import Derived.Test.YtbdanadmabemdaaDoorWPipeText
namespace Go.Proofs.YtbdanadmabemdaaDoor
open Go Go.RowKit Fl
/-- the rings of both lists, in turn -/
def inter (rs ss : List Rg) : Nat → List Rg
  | 0 => []
  | k + 1 => inter rs ss k ++ [rat rs k, rat ss k]
theorem inter_len (rs ss : List Rg) : ∀ k, (inter rs ss k).length = 2 * k
  | 0 => rfl
  | k + 1 => by rw [inter, List.length_append, inter_len rs ss k]; simp; omega
theorem rat_app_left {xs ys : List Rg} {j : Nat} (h : j < xs.length) : rat (xs ++ ys) j = rat xs j := by
  unfold rat; rw [List.getD_eq_getElem?_getD, List.getD_eq_getElem?_getD, List.getElem?_append_left h]
theorem rat_app_right {xs ys : List Rg} {j : Nat} (h : xs.length ≤ j) : rat (xs ++ ys) j = rat ys (j - xs.length) := by
  unfold rat; rw [List.getD_eq_getElem?_getD, List.getD_eq_getElem?_getD, List.getElem?_append_right h]
theorem inter_get (rs ss : List Rg) : ∀ k j, j < k → rat (inter rs ss k) (2 * j) = rat rs j ∧ rat (inter rs ss k) (2 * j + 1) = rat ss j
  | 0, j, h => absurd h (by omega)
  | k + 1, j, h => by
    have hl := inter_len rs ss k
    rw [inter]
    by_cases e : j = k
    · subst e
      rw [rat_app_right (by omega), rat_app_right (by omega), hl]
      simp [rat]
    · rw [rat_app_left (by omega), rat_app_left (by omega)]
      exact inter_get rs ss k j (by omega)
theorem rgsZero_app (xs : List Rg) (r s : Rg) : ∀ k, k ≤ xs.length → rgsZero (xs ++ [r, s]) k = rgsZero xs k
  | 0, _ => rfl
  | k + 1, h => by rw [rgsZero, rgsZero, rgsZero_app xs r s k (by omega), rat_app_left (by omega)]
theorem rgsZero_inter (rs ss : List Rg) : ∀ k, rgsZero (inter rs ss k) (2 * k) = (rgsZero rs k && rgsZero ss k)
  | 0 => rfl
  | k + 1 => by
    have hl := inter_len rs ss k
    have h := inter_get rs ss (k + 1) k (by omega)
    rw [show 2 * (k + 1) = 2 * k + 1 + 1 by omega, rgsZero, rgsZero, h.1, h.2]
    rw [inter, rgsZero_app _ _ _ _ (by omega), rgsZero_inter rs ss k, rgsZero, rgsZero]
    cases rgsZero rs k <;> cases rgsZero ss k <;> simp
theorem rgSum_app (xs : List Rg) (r s : Rg) : ∀ k, k ≤ xs.length → rgSum (xs ++ [r, s]) k = rgSum xs k
  | 0, _ => rfl
  | k + 1, h => by rw [rgSum, rgSum, rgSum_app xs r s k (by omega), rat_app_left (by omega)]
theorem rgSum_inter (rs ss : List Rg) : ∀ k, rgSum (inter rs ss k) (2 * k) = rgSum rs k + rgSum ss k
  | 0 => rfl
  | k + 1 => by
    have hl := inter_len rs ss k
    have h := inter_get rs ss (k + 1) k (by omega)
    rw [show 2 * (k + 1) = 2 * k + 1 + 1 by omega, rgSum, rgSum, h.1, h.2]
    rw [inter, rgSum_app _ _ _ _ (by omega), rgSum_inter rs ss k, rgSum, rgSum]
    omega
/-- a slice of pointers to rings -/
structure PS (w : World) (g m c : Nat) (qs : List Rg) : Prop where
  lt : g < w.heap.size
  cap : m ≤ c
  big : c ≤ 9223372036854775807
  at_ : ∀ j, j < m → ∃ b o, w.cell? ⟨g, j, none⟩ = some (.pointer (some ⟨b, o, none⟩)) ∧ b < w.heap.size ∧ RAt w b o (rat qs j)
theorem PS.below {w w' : World} {g m c B : Nat} {qs : List Rg} (h : PS w g m c qs) (hb : Below B w w') (hB : w.heap.size ≤ B) : PS w' g m c qs :=
  ⟨Nat.lt_of_lt_of_le h.lt hb.size, h.cap, h.big, fun j hj => by
    obtain ⟨b, o, h1, h2, h3⟩ := h.at_ j hj
    exact ⟨b, o, by rw [hb.cell (p := ⟨g, j, none⟩) (Nat.lt_of_lt_of_le h.lt hB)]; exact h1, Nat.lt_of_lt_of_le h2 hb.size, h3.below hb hB h2⟩⟩
theorem half (j : Nat) : j = 2 * (j / 2) ∨ j = 2 * (j / 2) + 1 := by omega
theorem c_ringsP (b : Nat) (a1 a2 : Option Addr) (c1 c2 n : Nat) (rs1 rs2 : List Rg) (w : World) (e0 : w.cell? ⟨b, 0, none⟩ = some (.slice a1 n c1)) (e1 : w.cell? ⟨b, 1, none⟩ = some (.slice a2 n c2)) (hb : b < w.heap.size) (h1 : RS w a1 n c1 rs1) (h2 : RS w a2 n c2 rs2) (h0 : 0 < n) (hn : n ≤ 1000) :
    Calls Tryd.prog 44 #[.pointer (some ⟨b, 0, none⟩)] w (fun e w' => ∃ g c, e = .returned (.slice (some ⟨g, 0, none⟩) (2 * n) c) ∧ Below w.heap.size w w' ∧ PS w' g (2 * n) c (inter rs1 rs2 n)) := by
  obtain ⟨b1, o1, rfl, hl1, g1⟩ := h1.at_ h0
  obtain ⟨b2, o2, rfl, hl2, g2⟩ := h2.at_ h0
  refine (c_rings b b1 o1 c1 b2 o2 c2 n w e0 e1 hb hn).mono ?_
  rintro e w' ⟨v, rfl, hb', ho⟩
  obtain ⟨g, c, rfl, hbg, hgl, hc, hcm, hcell⟩ := own_cells ho (by omega)
  refine ⟨g, c, rfl, hb', hgl, hc, hcm, fun j hj => ?_⟩
  have P := ptrs_get b1 o1 b2 o2 n (j / 2) (by omega)
  have I := inter_get rs1 rs2 n (j / 2) (by omega)
  rcases half j with e | e
  · refine ⟨b1, o1 + j / 2 * 2, hcell _ _ (by rw [e]; simpa using P.1), Nat.lt_of_lt_of_le hl1 hb'.size, ?_⟩
    rw [show rat (inter rs1 rs2 n) j = rat rs1 (j / 2) by rw [← I.1, ← e]]
    exact (g1 _ (by omega)).below hb' (Nat.le_refl _) hl1
  · refine ⟨b2, o2 + j / 2 * 2, hcell _ _ (by have := P.2; rwa [← e] at this), Nat.lt_of_lt_of_le hl2 hb'.size, ?_⟩
    rw [show rat (inter rs1 rs2 n) j = rat rs2 (j / 2) by rw [← I.2, ← e]]
    exact (g2 _ (by omega)).below hb' (Nat.le_refl _) hl2
/-! ### are rings quiet -/
def RetIdxV (b : Bool) (w : World) (e : Ending) (w' : World) : Prop := ∃ i : Int, e = .returned (.int .i64 i) ∧ decide (0 ≤ i) = b ∧ Below w.heap.size w w'
/-! ### what a valid pipe is -/
theorem rgsTo_nth {rs : List Rg} : ∀ {n : Nat}, rgsTo rs n = true → ∀ j, j < n → (rat rs j).ok = true
  | 0, _, j, h => absurd h (by omega)
  | n + 1, h, j, hj => by
    rw [rgsTo, Bool.and_eq_true] at h
    by_cases e : j = n
    · subst e; exact h.2
    · exact rgsTo_nth h.1 j (by omega)
theorem ok_ring {r : Rg} (h : r.ok = true) : ringB r.n r.i = true := by
  unfold Rg.ok at h; rw [Bool.and_eq_true] at h; exact h.1
theorem lenTo_nth {rs ss : List Rg} : ∀ {n : Nat}, lenTo rs ss n = true → ∀ j, j < n → (rat rs j).n = (rat ss j).n
  | 0, _, j, h => absurd h (by omega)
  | n + 1, h, j, hj => by
    rw [lenTo, Bool.and_eq_true] at h
    by_cases e : j = n
    · subst e; have := of_decide_eq_true h.2; omega
    · exact lenTo_nth h.1 j (by omega)
structure PipeOk (n1 : Nat) (rs1 : List Rg) (n2 : Nat) (rs2 : List Rg) : Prop where
  lo : 1 ≤ n1
  hi : n1 ≤ 3
  eq : n2 = n1
  r1 : ∀ j, j < n1 → (rat rs1 j).ok = true
  r2 : ∀ j, j < n1 → (rat rs2 j).ok = true
  len : ∀ j, j < n1 → (rat rs1 j).n = (rat rs2 j).n
theorem pipeB_yes {n1 : Nat} {rs1 : List Rg} {n2 : Nat} {rs2 : List Rg} {n3 : Nat} {xs3 : List Nat} {p : Pn} (h : pipeB n1 rs1 n2 rs2 n3 xs3 p = true) : PipeOk n1 rs1 n2 rs2 := by
  unfold pipeB at h
  simp only [Bool.and_eq_true] at h
  obtain ⟨h1, h2, h3, h4, h5, h6, _⟩ := h
  have i1 := inB_yes h1
  have i2 := of_decide_eq_true h2
  exact ⟨by omega, by omega, by omega, rgsTo_nth h4, rgsTo_nth h5, lenTo_nth h6⟩
theorem inter_ok {rs ss : List Rg} {n : Nat} (h1 : ∀ j, j < n → (rat rs j).ok = true) (h2 : ∀ j, j < n → (rat ss j).ok = true) : ∀ j, j < 2 * n → (rat (inter rs ss n) j).ok = true := fun j hj => by
  have I := inter_get rs ss n (j / 2) (by omega)
  rcases half j with e | e
  · rw [e, I.1]; exact h1 _ (by omega)
  · rw [e, I.2]; exact h2 _ (by omega)
end Go.Proofs.YtbdanadmabemdaaDoor
namespace Go.Proofs.YtbdanadmabemdaaDoor
open Go Go.RowKit Fl
theorem ok_n {r : Rg} (h : r.ok = true) : 1 ≤ r.n ∧ r.n ≤ 1024 ∧ 0 ≤ r.i ∧ r.i < r.n := by
  have h := ok_ring h
  unfold ringB at h
  rw [Bool.and_eq_true] at h
  have h1 := inB_yes h.1
  have h2 := inB_yes h.2
  omega
/-- the line of a ring -/
def lineR (r : Rg) : List UInt8 := lineL r.n r.i.toNat r.xs
/-- the lines of two lists of rings, in turn -/
def lin2 (rs ss : List Rg) : Nat → List UInt8
  | 0 => []
  | k + 1 => lin2 rs ss k ++ (lineR (rat rs k) ++ lineR (rat ss k))
/-- the lines of a list of rings -/
def linesL (qs : List Rg) : Nat → List UInt8
  | 0 => []
  | k + 1 => linesL qs k ++ lineR (rat qs k)
theorem linesL_app (xs : List Rg) (r s : Rg) : ∀ k, k ≤ xs.length → linesL (xs ++ [r, s]) k = linesL xs k
  | 0, _ => rfl
  | k + 1, h => by rw [linesL, linesL, linesL_app xs r s k (by omega), rat_app_left (by omega)]
theorem linesL_inter (rs ss : List Rg) : ∀ k, linesL (inter rs ss k) (2 * k) = lin2 rs ss k
  | 0 => rfl
  | k + 1 => by
    have hl := inter_len rs ss k
    have h := inter_get rs ss (k + 1) k (by omega)
    rw [show 2 * (k + 1) = 2 * k + 1 + 1 by omega, linesL, linesL, h.1, h.2]
    rw [inter, linesL_app _ _ _ _ (by omega), linesL_inter rs ss k, lin2, List.append_assoc]
theorem lin2_same {rs ss us vs : List Rg} {n : Nat} (h : sameC rs us n) (h2 : sameC ss vs n) : ∀ k, k ≤ n → lin2 us vs k = lin2 rs ss k
  | 0, _ => rfl
  | k + 1, hk => by
    have e1 := h k (by omega)
    have e2 := h2 k (by omega)
    rw [lin2, lin2, lin2_same h h2 k (by omega)]
    unfold lineR
    rw [e1.1, e1.2.1, e1.2.2, e2.1, e2.2.1, e2.2.2]
theorem lineR_len {r : Rg} (h : r.ok = true) (hx : r.xs.length = r.n) : (lineR r).length ≤ 20000 := by
  have := ok_n h
  exact lineL_len _ _ _ (by omega) (by omega) hx
theorem lin2_len {rs ss : List Rg} {n : Nat} (h1 : ∀ j, j < n → (lineR (rat rs j)).length ≤ 20000) (h2 : ∀ j, j < n → (lineR (rat ss j)).length ≤ 20000) : ∀ k, k ≤ n → (lin2 rs ss k).length ≤ 40000 * k
  | 0, _ => Nat.le_refl _
  | k + 1, hk => by
    have a := h1 k (by omega)
    have b := h2 k (by omega)
    have c := lin2_len h1 h2 k (by omega)
    rw [lin2, List.length_append, List.length_append]
    omega
theorem linesL_len {qs : List Rg} {n : Nat} (h1 : ∀ j, j < n → (lineR (rat qs j)).length ≤ 20000) : ∀ k, k ≤ n → (linesL qs k).length ≤ 20000 * k
  | 0, _ => Nat.le_refl _
  | k + 1, hk => by
    have a := h1 k (by omega)
    have c := linesL_len h1 k (by omega)
    rw [linesL, List.length_append]
    omega
theorem RS.xl {w : World} {a : Option Addr} {n c : Nat} {rs : List Rg} (h : RS w a n c rs) (j : Nat) (hj : j < n) : (rat rs j).xs.length = (rat rs j).n := by
  obtain ⟨b, o, _, _, hc⟩ := h.at_ (by omega)
  exact (hc j hj).fs.len
/-- all that is asked of a pipe whose text is written -/
structure PTx (n1 : Nat) (rs1 : List Rg) (n2 : Nat) (rs2 : List Rg) (n3 : Nat) (xs3 : List Nat) (p : Pn) : Prop where
  ok : PipeOk n1 rs1 n2 rs2
  k : p.k = 1
  f : okF 1 [p.f0, p.f1, p.f2] [p.f3, p.f4] = true
  n3 : n3 ≤ 3
  b1 : ∀ j, j < n1 → ∀ i, nth (rat rs1 j).xs i < 4294967296
  b2 : ∀ j, j < n1 → ∀ i, nth (rat rs2 j).xs i < 4294967296
  b3 : ∀ i, nth xs3 i < 4294967296
  g0 : p.f0 < 4294967296
  g1 : p.f1 < 4294967296
  g2 : p.f2 < 4294967296
  g3 : p.f3 < 4294967296
  g4 : p.f4 < 4294967296
  y1 : p.x1 < 4294967296
  y2 : p.x2 < 4294967296
  y3 : p.x3 < 4294967296
theorem pipe_tx {n1 : Nat} {rs1 : List Rg} {n2 : Nat} {rs2 : List Rg} {n3 : Nat} {xs3 : List Nat} {p : Pn} (hv : pipeB n1 rs1 n2 rs2 n3 xs3 p = true)
    (b1 : ∀ j, j < n1 → ∀ i, nth (rat rs1 j).xs i < 4294967296) (b2 : ∀ j, j < n2 → ∀ i, nth (rat rs2 j).xs i < 4294967296) (b3 : ∀ i, nth xs3 i < 4294967296)
    (g0 : p.f0 < 4294967296) (g1 : p.f1 < 4294967296) (g2 : p.f2 < 4294967296) (g3 : p.f3 < 4294967296) (g4 : p.f4 < 4294967296) (y1 : p.x1 < 4294967296) (y2 : p.x2 < 4294967296) (y3 : p.x3 < 4294967296) : PTx n1 rs1 n2 rs2 n3 xs3 p := by
  have ok := pipeB_yes hv
  unfold pipeB at hv
  simp only [Bool.and_eq_true, beq_iff_eq] at hv
  obtain ⟨_, _, h3, _, _, _, _, hf, hk, _⟩ := hv
  have h3 := of_decide_eq_true h3
  have q1 := ok.lo
  have q2 := ok.hi
  have q3 := ok.eq
  rw [hk] at hf
  exact ⟨ok, hk, hf, by omega, b1, fun j hj => b2 j (by omega), b3, g0, g1, g2, g3, g4, y1, y2, y3⟩
/-- the kind of a pipe -/
def kindL : Bool → List UInt8
  | true => [112, 105, 112, 101, 32, 111, 112, 101, 110]
  | false => [112, 105, 112, 101, 32, 99, 108, 111, 115, 101, 100]
/-- the text of a pipe, without its rings -/
def pipeF (op : Bool) (xs3 : List Nat) (p : Pn) : List UInt8 := kindL op ++ (txtL [p.x1, p.x2, p.x3] ++ ([10, 115, 99, 97, 116, 116, 101, 114] ++ (txtL xs3 ++ ([10] ++ (filtL 1 [p.f0, p.f1, p.f2] [p.f3, p.f4] ++ [10])))))
/-- the text of a pipe -/
def txPipe (op : Bool) (n1 : Nat) (rs1 rs2 : List Rg) (xs3 : List Nat) (p : Pn) : List UInt8 := pipeF op xs3 p ++ lin2 rs1 rs2 n1
theorem new3 {W : World} {g x1 x2 x3 : Nat} {T : TypeId} (hg : W.heap[g]? = some (.cells #[.float .f32 x1, .float .f32 x2, .float .f32 x3] T)) : FS W (some ⟨g, 0, none⟩) 3 3 [x1, x2, x3] :=
  ⟨rfl, Nat.le_refl _, by omega, fun _ => ⟨g, 0, rfl, (Array.getElem?_eq_some_iff.1 hg).1, three _ (cell_block hg _) (cell_block hg _) (cell_block hg _)⟩⟩
theorem lt3 {x1 x2 x3 : Nat} (h1 : x1 < 4294967296) (h2 : x2 < 4294967296) (h3 : x3 < 4294967296) : ∀ i, nth [x1, x2, x3] i < 4294967296 := fun i => by
  match i with
  | 0 => exact h1
  | 1 => exact h2
  | 2 => exact h3
  | i + 3 => exact Nat.zero_lt_of_lt h1
theorem c_sam3 (W : World) (g x1 x2 x3 : Nat) {T : TypeId} (h1 : x1 < 4294967296) (h2 : x2 < 4294967296) (h3 : x3 < 4294967296) (hg : W.heap[g]? = some (.cells #[.float .f32 x1, .float .f32 x2, .float .f32 x3] T)) :
    Calls Tryd.prog 50 #[.slice (some ⟨g, 0, none⟩) 3 3] W (RetS (txtL [x1, x2, x3]) W) := c_l04Samples _ 3 3 _ W (new3 hg) (lt3 h1 h2 h3) (by omega)
theorem c_isam3 (W : World) (g x1 x2 x3 : Nat) {T : TypeId} (h1 : x1 < 4294967296) (h2 : x2 < 4294967296) (h3 : x3 < 4294967296) (hg : W.heap[g]? = some (.cells #[.float .f32 x1, .float .f32 x2, .float .f32 x3] T)) (hT : Tb W) :
    Calls Tryd.prog 27 #[.slice (some ⟨g, 0, none⟩) 3 3] W (RetS (txtL [x1, x2, x3]).tail W) := c_samplesText _ 3 3 _ W (new3 hg) (lt3 h1 h2 h3) (by omega) hT
end Go.Proofs.YtbdanadmabemdaaDoor
namespace Go.Proofs.YtbdanadmabemdaaDoor
open Go Go.RowKit Fl
set_option maxRecDepth 100000 in
set_option maxHeartbeats 4000000 in
theorem c_l04Text_true (b : Nat) (a1 : Option Addr) (n1 c1 : Nat) (rs1 : List Rg) (a2 : Option Addr) (n2 c2 : Nat) (rs2 : List Rg) (a3 : Option Addr) (n3 c3 : Nat) (xs3 : List Nat) (p : Pn) (w : World) (hb : b < w.heap.size) (hp : PBox w b a1 n1 c1 a2 n2 c2 a3 n3 c3 p) (e9 : w.cell? ⟨b, 9, none⟩ = some (.bool true))
    (h1 : RS w a1 n1 c1 rs1) (h2 : RS w a2 n2 c2 rs2) (h3 : FS w a3 n3 c3 xs3) (bd : PTx n1 rs1 n2 rs2 n3 xs3 p) :
    Calls Tryd.prog 39 #[.pointer (some ⟨b, 0, none⟩)] w (RetS (txPipe true n1 rs1 rs2 xs3 p) w) := by
  have HR0 : (⟨#[112, 105, 112, 101, 32, 111, 112, 101, 110]⟩ : ByteArray) ++ (⟨(txtL [p.x1, p.x2, p.x3]).toArray⟩ ++ ⟨#[10, 115, 99, 97, 116, 116, 101, 114]⟩ ++ ⟨(txtL xs3).toArray⟩ ++ ⟨#[10]⟩ ++ ⟨(filtL 1 [p.f0, p.f1, p.f2] [p.f3, p.f4]).toArray⟩ ++ ⟨#[10]⟩) = ⟨(pipeF true xs3 p ++ lin2 rs1 rs2 0).toArray⟩ := by
    rw [show (⟨#[112, 105, 112, 101, 32, 111, 112, 101, 110]⟩ : ByteArray) = ⟨([112, 105, 112, 101, 32, 111, 112, 101, 110] : List UInt8).toArray⟩ from rfl, show (⟨#[10, 115, 99, 97, 116, 116, 101, 114]⟩ : ByteArray) = ⟨([10, 115, 99, 97, 116, 116, 101, 114] : List UInt8).toArray⟩ from rfl, show (⟨#[10]⟩ : ByteArray) = ⟨([10] : List UInt8).toArray⟩ from rfl]
    simp only [ba_app]
    rw [lin2, List.append_nil]
    unfold pipeF kindL
    simp only [List.append_assoc]
  have HR := Lib.hid HR0
  have K1 : Hid (∀ W g, W.heap[g]? = some (.cells #[.float .f32 p.x1, .float .f32 p.x2, .float .f32 p.x3] 25) → Calls Tryd.prog 50 #[.slice (some ⟨g, 0, none⟩) 3 3] W (RetS (txtL [p.x1, p.x2, p.x3]) W)) := fun W g hg => c_sam3 W g _ _ _ bd.y1 bd.y2 bd.y3 hg
  have K3 : Hid (∀ W, Below w.heap.size w W → Calls Tryd.prog 50 #[.slice a3 n3 c3] W (RetS (txtL xs3) W)) := fun W hW => c_l04Samples a3 n3 c3 xs3 W (h3.below hW (Nat.le_refl _)) bd.b3 (by have := bd.n3; omega)
  have KF : Hid (∀ W, Calls Tryd.prog 51 #[.agg #[.int .i64 p.k, .float .f32 p.f0, .float .f32 p.f1, .float .f32 p.f2, .float .f32 p.f3, .float .f32 p.f4]] W (RetS (filtL 1 [p.f0, p.f1, p.f2] [p.f3, p.f4]) W)) := fun W => by
    rw [bd.k]
    exact c_sFilterText 1 _ _ _ _ _ W (by omega) bd.g0 bd.g1 bd.g2 bd.g3 bd.g4 bd.f
  have x1 : ∀ j, j < n1 → (lineR (rat rs1 j)).length ≤ 20000 := fun j hj => lineR_len (bd.ok.r1 j hj) (h1.xl j hj)
  have q0 := bd.ok.eq
  have x2 : ∀ j, j < n1 → (lineR (rat rs2 j)).length ≤ 20000 := fun j hj => lineR_len (bd.ok.r2 j hj) (h2.xl j (by omega))
  have LL := Lib.hid (lin2_len x1 x2)
  have X1 := Lib.hid x1
  have X2 := Lib.hid x2
  have q1 := bd.ok.lo
  have q2 := bd.ok.hi
  obtain ⟨d1, o1, rfl, hl1, hc1⟩ := h1.at_ (by omega)
  obtain ⟨d2, o2, rfl, hl2, hc2⟩ := h2.at_ (by omega)
  have L1 : Hid (∀ j, j < n1 → ∀ W, Below w.heap.size w W → Calls Tryd.prog 52 #[.pointer (some ⟨d1, o1 + j * 2, none⟩)] W (RetS (lineR (rat rs1 j)) W)) := fun j hj W hW => by
    have r := (hc1 j hj).below hW (Nat.le_refl _) hl1
    have on := ok_n (bd.ok.r1 j hj)
    have ei : ((rat rs1 j).i.toNat : Int) = (rat rs1 j).i := Int.toNat_of_nonneg on.2.2.1
    exact c_l04Line d1 (o1 + j * 2) _ _ _ _ _ W (Nat.lt_of_lt_of_le hl1 hW.size) r.c0 (by rw [ei]; exact r.c1) r.fs (bd.b1 j hj) (by omega) (by omega)
  have L2 : Hid (∀ j, j < n1 → ∀ W, Below w.heap.size w W → Calls Tryd.prog 52 #[.pointer (some ⟨d2, o2 + j * 2, none⟩)] W (RetS (lineR (rat rs2 j)) W)) := fun j hj W hW => by
    have r := (hc2 j (by omega)).below hW (Nat.le_refl _) hl2
    have on := ok_n (bd.ok.r2 j hj)
    have ei : ((rat rs2 j).i.toNat : Int) = (rat rs2 j).i := Int.toNat_of_nonneg on.2.2.1
    exact c_l04Line d2 (o2 + j * 2) _ _ _ _ _ W (Nat.lt_of_lt_of_le hl2 hW.size) r.c0 (by rw [ei]; exact r.c1) r.fs (bd.b2 j hj) (by omega) (by omega)
  have e0 := hp.e0
  have e1 := hp.e1
  have e2 := hp.e2
  have e3 := hp.e3
  have e4 := hp.e4
  have e5 := hp.e5
  have e6 := hp.e6
  have e7 := hp.e7
  have e8 := hp.e8
  have e10 := hp.e10
  have e11 := hp.e11
  have e12 := hp.e12
  have bS : (txtL [p.x1, p.x2, p.x3]).length ≤ 100 := by rw [txt_len]; simp
  have bC : (txtL xs3).length ≤ 100 := by rw [txt_len, h3.len]; have := bd.n3; omega
  have bF : (filtL 1 [p.f0, p.f1, p.f2] [p.f3, p.f4]).length ≤ 200 := filtL_len 1 _ _ _ _ _ (by omega)
  have bP : (pipeF true xs3 p).length ≤ 1000 := by
    have ek : (kindL true).length = 9 := rfl
    unfold pipeF
    simp only [List.length_append, ek]
    simp only [List.length_cons, List.length_nil]
    omega
  have HX : Hid (txPipe true n1 rs1 rs2 xs3 p = pipeF true xs3 p ++ lin2 rs1 rs2 n1) := rfl
  have h3b := Nat.le_trans h3.cap h3.big
  clear HR0 hp h1 h2 h3 bd x1 x2 hc1 hc2
  generalize txPipe true n1 rs1 rs2 xs3 p = LZ at *
  generalize pipeF true xs3 p = LP at *
  generalize txtL [p.x1, p.x2, p.x3] = LS at *
  generalize txtL xs3 = LC at *
  generalize filtL 1 [p.f0, p.f1, p.f2] [p.f3, p.f4] = LF at *
  have f1 : ¬ 9223372036854775807 < LS.length + 8 := by omega
  have f2 : ¬ 9223372036854775807 < LS.length + 8 + LC.length := by omega
  have f3 : ¬ 9223372036854775807 < LS.length + 8 + LC.length + 1 := by omega
  have f4 : ¬ 9223372036854775807 < LS.length + 8 + LC.length + 1 + LF.length := by omega
  have f5 : ¬ 9223372036854775807 < LS.length + 8 + LC.length + 1 + LF.length + 1 := by omega
  have f6 : ¬ 9223372036854775807 < 9 + (LS.length + 8 + LC.length + 1 + LF.length + 1) := by omega
  clear bS bC bF
  go_enter Tryd.func39, Tryd.ntmps39
  go_wp2
  refine wp_region_grow [14] [13] (by kernel_rfl) (by kernel_rfl) (by kernel_rfl) ?_
  apply Exists.intro
  iterate 13 (apply lh_o; kernel_rfl; kernel_rfl; kernel_rfl; (intro W hW; have hWc := Grow.cells hW; go_simp; exact ⟨OneV.mk _, Grow.refl _⟩))
  (apply lh_new; kernel_rfl; kernel_rfl; kernel_rfl; (intro W hW; have hWc := Grow.cells hW; go_simp; exact ⟨NewAt.mk _ _ _ _, Grow.alloc _ _⟩); intro g hfr)
  (apply lh_h; kernel_rfl; kernel_rfl; kernel_rfl; (intro W hW; go_simp; first | exact gB (K1.out _ _ hW.2) | exact gV (K1.out _ _ hW.2)))
  iterate 5 (apply lh_o; kernel_rfl; kernel_rfl; kernel_rfl; (intro W hW; have hWc := Grow.cells hW; go_simp; exact ⟨OneV.mk _, Grow.refl _⟩))
  (apply lh_o; kernel_rfl; kernel_rfl; kernel_rfl; (intro W hW; go_simp; first | exact gB (K3.out _ hW) | exact gV (K3.out _ hW)))
  iterate 6 (apply lh_o; kernel_rfl; kernel_rfl; kernel_rfl; (intro W hW; have hWc := Grow.cells hW; go_simp; exact ⟨OneV.mk _, Grow.refl _⟩))
  (apply lh_o; kernel_rfl; kernel_rfl; kernel_rfl; (intro W hW; go_simp; first | exact gB (KF.out _) | exact gV (KF.out _)))
  iterate 4 (apply lh_o; kernel_rfl; kernel_rfl; kernel_rfl; (intro W hW; have hWc := Grow.cells hW; go_simp; exact ⟨OneV.mk _, Grow.refl _⟩))
  (refine lh_nil ?_; intro W hW; simp only [Act.put, List.setIfInBounds_toArray, List.set_cons_succ, List.set_cons_zero])
  have b2 : Below w.heap.size w W := hW.1
  have z0 := (b2.cell (p := ⟨b, 0, none⟩) hb).trans e0
  have z1 := (b2.cell (p := ⟨b, 1, none⟩) hb).trans e1
  have hb2 := Nat.lt_of_lt_of_le hb b2.size
  have B2 := Lib.hid b2
  clear b2 hW e0 e1 e2 e3 e4 e5 e6 e7 e8 e9 e10 e11 e12 K1 K3 KF f1 f2 f3 f4 f5 f6
  go_wp2
  go_loopw [3, 4] (fun v i wr => ∃ k : Nat, k ≤ n1 ∧ i = .int .i64 k ∧ v = .string ⟨(LP ++ lin2 rs1 rs2 k).toArray⟩ ∧ Below W.heap.size W wr) (fun _ i _ => n1 - (intOf i).toNat)
  case atStart => exact ⟨0, by omega, rfl, by rw [← HR.out], Below.refl _ _⟩
  case round =>
    obtain ⟨k, hk, rfl, rfl, hbe⟩ := hrel
    have y0 := (hbe.cell (p := ⟨b, 0, none⟩) hb2).trans z0
    have y1 := (hbe.cell (p := ⟨b, 1, none⟩) hb2).trans z1
    have hb3 := Nat.lt_of_lt_of_le hb2 hbe.size
    by_cases hlt : k < n1
    · have k2 : k < n2 := by omega
      have M1 := Lib.hid (L1.out k hlt)
      have M2 := Lib.hid (L2.out k hlt)
      have bl1 := X1.out k hlt
      have bl2 := X2.out k hlt
      have hlen : (LP ++ lin2 rs1 rs2 k).length ≤ 200000 := by
        have := LL.out k hk
        rw [List.length_append]; omega
      have HS : Hid ((⟨(LP ++ lin2 rs1 rs2 k).toArray⟩ : ByteArray) ++ (⟨(lineR (rat rs1 k)).toArray⟩ ++ ⟨(lineR (rat rs2 k)).toArray⟩) = ⟨(LP ++ lin2 rs1 rs2 (k + 1)).toArray⟩) := by
        show _ = _
        rw [ba_app, ba_app, lin2, List.append_assoc]
      have BE := Lib.hid (B2.out.trans (Below.mono hbe B2.out.size))
      have BE2 := Lib.hid hbe
      obtain ⟨LN, hLN⟩ : ∃ LN, LN = LP ++ lin2 rs1 rs2 (k + 1) := ⟨_, rfl⟩
      have HN := Lib.hid hLN
      rw [← hLN] at HS
      clear hbe hLN
      generalize LP ++ lin2 rs1 rs2 k = LT at *
      generalize lineR (rat rs1 k) = LA at *
      generalize lineR (rat rs2 k) = LB at *
      have f1 : ¬ 9223372036854775807 < LA.length + LB.length := by omega
      have f2 : ¬ 9223372036854775807 < LT.length + (LA.length + LB.length) := by omega
      clear hlen bl1 bl2 bP
      go_wp2
      refine wp_region_grow [] [] (by kernel_rfl) (by kernel_rfl) (by kernel_rfl) ?_
      apply Exists.intro
      iterate 7 (apply lh_o; kernel_rfl; kernel_rfl; kernel_rfl; (intro W hW; have hWc := Grow.cells hW; go_simp; exact ⟨OneV.mk _, Grow.refl _⟩))
      (apply lh_o; kernel_rfl; kernel_rfl; kernel_rfl; (intro W hW; go_simp; first | exact gB (M1.out _ (BE.out.trans (Below.mono hW BE.out.size))) | exact gV (M1.out _ (BE.out.trans (Below.mono hW BE.out.size)))))
      iterate 6 (apply lh_o; kernel_rfl; kernel_rfl; kernel_rfl; (intro W hW; have hWc := Grow.cells hW; go_simp; exact ⟨OneV.mk _, Grow.refl _⟩))
      (apply lh_o; kernel_rfl; kernel_rfl; kernel_rfl; (intro W hW; go_simp; first | exact gB (M2.out _ (BE.out.trans (Below.mono hW BE.out.size))) | exact gV (M2.out _ (BE.out.trans (Below.mono hW BE.out.size)))))
      iterate 3 (apply lh_o; kernel_rfl; kernel_rfl; kernel_rfl; (intro W hW; have hWc := Grow.cells hW; go_simp; exact ⟨OneV.mk _, Grow.refl _⟩))
      (refine lh_nil ?_; intro W hW; simp only [Act.put, List.setIfInBounds_toArray, List.set_cons_succ, List.set_cons_zero])
      have bN := BE2.out.trans (Below.mono hW BE2.out.size)
      go_wp2
      go_roundw
      case rel => exact ⟨k + 1, by omega, by go_num, by rw [← HN.out, ← HS.out], bN⟩
      case measure => simp [intOf]; omega
    · obtain rfl : n1 = k := by omega
      have bN := B2.out.trans (Below.mono hbe B2.out.size)
      go_wp2
      go_ret
      exact ⟨by rw [HX.out]; rfl, bN⟩
set_option maxRecDepth 100000 in
set_option maxHeartbeats 4000000 in
theorem c_l04Text_false (b : Nat) (a1 : Option Addr) (n1 c1 : Nat) (rs1 : List Rg) (a2 : Option Addr) (n2 c2 : Nat) (rs2 : List Rg) (a3 : Option Addr) (n3 c3 : Nat) (xs3 : List Nat) (p : Pn) (w : World) (hb : b < w.heap.size) (hp : PBox w b a1 n1 c1 a2 n2 c2 a3 n3 c3 p) (e9 : w.cell? ⟨b, 9, none⟩ = some (.bool false))
    (h1 : RS w a1 n1 c1 rs1) (h2 : RS w a2 n2 c2 rs2) (h3 : FS w a3 n3 c3 xs3) (bd : PTx n1 rs1 n2 rs2 n3 xs3 p) :
    Calls Tryd.prog 39 #[.pointer (some ⟨b, 0, none⟩)] w (RetS (txPipe false n1 rs1 rs2 xs3 p) w) := by
  have HR0 : (⟨#[112, 105, 112, 101, 32, 99, 108, 111, 115, 101, 100]⟩ : ByteArray) ++ (⟨(txtL [p.x1, p.x2, p.x3]).toArray⟩ ++ ⟨#[10, 115, 99, 97, 116, 116, 101, 114]⟩ ++ ⟨(txtL xs3).toArray⟩ ++ ⟨#[10]⟩ ++ ⟨(filtL 1 [p.f0, p.f1, p.f2] [p.f3, p.f4]).toArray⟩ ++ ⟨#[10]⟩) = ⟨(pipeF false xs3 p ++ lin2 rs1 rs2 0).toArray⟩ := by
    rw [show (⟨#[112, 105, 112, 101, 32, 99, 108, 111, 115, 101, 100]⟩ : ByteArray) = ⟨([112, 105, 112, 101, 32, 99, 108, 111, 115, 101, 100] : List UInt8).toArray⟩ from rfl, show (⟨#[10, 115, 99, 97, 116, 116, 101, 114]⟩ : ByteArray) = ⟨([10, 115, 99, 97, 116, 116, 101, 114] : List UInt8).toArray⟩ from rfl, show (⟨#[10]⟩ : ByteArray) = ⟨([10] : List UInt8).toArray⟩ from rfl]
    simp only [ba_app]
    rw [lin2, List.append_nil]
    unfold pipeF kindL
    simp only [List.append_assoc]
  have HR := Lib.hid HR0
  have K1 : Hid (∀ W g, W.heap[g]? = some (.cells #[.float .f32 p.x1, .float .f32 p.x2, .float .f32 p.x3] 25) → Calls Tryd.prog 50 #[.slice (some ⟨g, 0, none⟩) 3 3] W (RetS (txtL [p.x1, p.x2, p.x3]) W)) := fun W g hg => c_sam3 W g _ _ _ bd.y1 bd.y2 bd.y3 hg
  have K3 : Hid (∀ W, Below w.heap.size w W → Calls Tryd.prog 50 #[.slice a3 n3 c3] W (RetS (txtL xs3) W)) := fun W hW => c_l04Samples a3 n3 c3 xs3 W (h3.below hW (Nat.le_refl _)) bd.b3 (by have := bd.n3; omega)
  have KF : Hid (∀ W, Calls Tryd.prog 51 #[.agg #[.int .i64 p.k, .float .f32 p.f0, .float .f32 p.f1, .float .f32 p.f2, .float .f32 p.f3, .float .f32 p.f4]] W (RetS (filtL 1 [p.f0, p.f1, p.f2] [p.f3, p.f4]) W)) := fun W => by
    rw [bd.k]
    exact c_sFilterText 1 _ _ _ _ _ W (by omega) bd.g0 bd.g1 bd.g2 bd.g3 bd.g4 bd.f
  have x1 : ∀ j, j < n1 → (lineR (rat rs1 j)).length ≤ 20000 := fun j hj => lineR_len (bd.ok.r1 j hj) (h1.xl j hj)
  have q0 := bd.ok.eq
  have x2 : ∀ j, j < n1 → (lineR (rat rs2 j)).length ≤ 20000 := fun j hj => lineR_len (bd.ok.r2 j hj) (h2.xl j (by omega))
  have LL := Lib.hid (lin2_len x1 x2)
  have X1 := Lib.hid x1
  have X2 := Lib.hid x2
  have q1 := bd.ok.lo
  have q2 := bd.ok.hi
  obtain ⟨d1, o1, rfl, hl1, hc1⟩ := h1.at_ (by omega)
  obtain ⟨d2, o2, rfl, hl2, hc2⟩ := h2.at_ (by omega)
  have L1 : Hid (∀ j, j < n1 → ∀ W, Below w.heap.size w W → Calls Tryd.prog 52 #[.pointer (some ⟨d1, o1 + j * 2, none⟩)] W (RetS (lineR (rat rs1 j)) W)) := fun j hj W hW => by
    have r := (hc1 j hj).below hW (Nat.le_refl _) hl1
    have on := ok_n (bd.ok.r1 j hj)
    have ei : ((rat rs1 j).i.toNat : Int) = (rat rs1 j).i := Int.toNat_of_nonneg on.2.2.1
    exact c_l04Line d1 (o1 + j * 2) _ _ _ _ _ W (Nat.lt_of_lt_of_le hl1 hW.size) r.c0 (by rw [ei]; exact r.c1) r.fs (bd.b1 j hj) (by omega) (by omega)
  have L2 : Hid (∀ j, j < n1 → ∀ W, Below w.heap.size w W → Calls Tryd.prog 52 #[.pointer (some ⟨d2, o2 + j * 2, none⟩)] W (RetS (lineR (rat rs2 j)) W)) := fun j hj W hW => by
    have r := (hc2 j (by omega)).below hW (Nat.le_refl _) hl2
    have on := ok_n (bd.ok.r2 j hj)
    have ei : ((rat rs2 j).i.toNat : Int) = (rat rs2 j).i := Int.toNat_of_nonneg on.2.2.1
    exact c_l04Line d2 (o2 + j * 2) _ _ _ _ _ W (Nat.lt_of_lt_of_le hl2 hW.size) r.c0 (by rw [ei]; exact r.c1) r.fs (bd.b2 j hj) (by omega) (by omega)
  have e0 := hp.e0
  have e1 := hp.e1
  have e2 := hp.e2
  have e3 := hp.e3
  have e4 := hp.e4
  have e5 := hp.e5
  have e6 := hp.e6
  have e7 := hp.e7
  have e8 := hp.e8
  have e10 := hp.e10
  have e11 := hp.e11
  have e12 := hp.e12
  have bS : (txtL [p.x1, p.x2, p.x3]).length ≤ 100 := by rw [txt_len]; simp
  have bC : (txtL xs3).length ≤ 100 := by rw [txt_len, h3.len]; have := bd.n3; omega
  have bF : (filtL 1 [p.f0, p.f1, p.f2] [p.f3, p.f4]).length ≤ 200 := filtL_len 1 _ _ _ _ _ (by omega)
  have bP : (pipeF false xs3 p).length ≤ 1000 := by
    have ek : (kindL false).length = 11 := rfl
    unfold pipeF
    simp only [List.length_append, ek]
    simp only [List.length_cons, List.length_nil]
    omega
  have HX : Hid (txPipe false n1 rs1 rs2 xs3 p = pipeF false xs3 p ++ lin2 rs1 rs2 n1) := rfl
  have h3b := Nat.le_trans h3.cap h3.big
  clear HR0 hp h1 h2 h3 bd x1 x2 hc1 hc2
  generalize txPipe false n1 rs1 rs2 xs3 p = LZ at *
  generalize pipeF false xs3 p = LP at *
  generalize txtL [p.x1, p.x2, p.x3] = LS at *
  generalize txtL xs3 = LC at *
  generalize filtL 1 [p.f0, p.f1, p.f2] [p.f3, p.f4] = LF at *
  have f1 : ¬ 9223372036854775807 < LS.length + 8 := by omega
  have f2 : ¬ 9223372036854775807 < LS.length + 8 + LC.length := by omega
  have f3 : ¬ 9223372036854775807 < LS.length + 8 + LC.length + 1 := by omega
  have f4 : ¬ 9223372036854775807 < LS.length + 8 + LC.length + 1 + LF.length := by omega
  have f5 : ¬ 9223372036854775807 < LS.length + 8 + LC.length + 1 + LF.length + 1 := by omega
  have f6 : ¬ 9223372036854775807 < 11 + (LS.length + 8 + LC.length + 1 + LF.length + 1) := by omega
  clear bS bC bF
  go_enter Tryd.func39, Tryd.ntmps39
  go_wp2
  refine wp_region_grow [14] [13] (by kernel_rfl) (by kernel_rfl) (by kernel_rfl) ?_
  apply Exists.intro
  iterate 13 (apply lh_o; kernel_rfl; kernel_rfl; kernel_rfl; (intro W hW; have hWc := Grow.cells hW; go_simp; exact ⟨OneV.mk _, Grow.refl _⟩))
  (apply lh_new; kernel_rfl; kernel_rfl; kernel_rfl; (intro W hW; have hWc := Grow.cells hW; go_simp; exact ⟨NewAt.mk _ _ _ _, Grow.alloc _ _⟩); intro g hfr)
  (apply lh_h; kernel_rfl; kernel_rfl; kernel_rfl; (intro W hW; go_simp; first | exact gB (K1.out _ _ hW.2) | exact gV (K1.out _ _ hW.2)))
  iterate 5 (apply lh_o; kernel_rfl; kernel_rfl; kernel_rfl; (intro W hW; have hWc := Grow.cells hW; go_simp; exact ⟨OneV.mk _, Grow.refl _⟩))
  (apply lh_o; kernel_rfl; kernel_rfl; kernel_rfl; (intro W hW; go_simp; first | exact gB (K3.out _ hW) | exact gV (K3.out _ hW)))
  iterate 6 (apply lh_o; kernel_rfl; kernel_rfl; kernel_rfl; (intro W hW; have hWc := Grow.cells hW; go_simp; exact ⟨OneV.mk _, Grow.refl _⟩))
  (apply lh_o; kernel_rfl; kernel_rfl; kernel_rfl; (intro W hW; go_simp; first | exact gB (KF.out _) | exact gV (KF.out _)))
  iterate 4 (apply lh_o; kernel_rfl; kernel_rfl; kernel_rfl; (intro W hW; have hWc := Grow.cells hW; go_simp; exact ⟨OneV.mk _, Grow.refl _⟩))
  (refine lh_nil ?_; intro W hW; simp only [Act.put, List.setIfInBounds_toArray, List.set_cons_succ, List.set_cons_zero])
  have b2 : Below w.heap.size w W := hW.1
  have z0 := (b2.cell (p := ⟨b, 0, none⟩) hb).trans e0
  have z1 := (b2.cell (p := ⟨b, 1, none⟩) hb).trans e1
  have hb2 := Nat.lt_of_lt_of_le hb b2.size
  have B2 := Lib.hid b2
  clear b2 hW e0 e1 e2 e3 e4 e5 e6 e7 e8 e9 e10 e11 e12 K1 K3 KF f1 f2 f3 f4 f5 f6
  go_wp2
  go_loopw [3, 4] (fun v i wr => ∃ k : Nat, k ≤ n1 ∧ i = .int .i64 k ∧ v = .string ⟨(LP ++ lin2 rs1 rs2 k).toArray⟩ ∧ Below W.heap.size W wr) (fun _ i _ => n1 - (intOf i).toNat)
  case atStart => exact ⟨0, by omega, rfl, by rw [← HR.out], Below.refl _ _⟩
  case round =>
    obtain ⟨k, hk, rfl, rfl, hbe⟩ := hrel
    have y0 := (hbe.cell (p := ⟨b, 0, none⟩) hb2).trans z0
    have y1 := (hbe.cell (p := ⟨b, 1, none⟩) hb2).trans z1
    have hb3 := Nat.lt_of_lt_of_le hb2 hbe.size
    by_cases hlt : k < n1
    · have k2 : k < n2 := by omega
      have M1 := Lib.hid (L1.out k hlt)
      have M2 := Lib.hid (L2.out k hlt)
      have bl1 := X1.out k hlt
      have bl2 := X2.out k hlt
      have hlen : (LP ++ lin2 rs1 rs2 k).length ≤ 200000 := by
        have := LL.out k hk
        rw [List.length_append]; omega
      have HS : Hid ((⟨(LP ++ lin2 rs1 rs2 k).toArray⟩ : ByteArray) ++ (⟨(lineR (rat rs1 k)).toArray⟩ ++ ⟨(lineR (rat rs2 k)).toArray⟩) = ⟨(LP ++ lin2 rs1 rs2 (k + 1)).toArray⟩) := by
        show _ = _
        rw [ba_app, ba_app, lin2, List.append_assoc]
      have BE := Lib.hid (B2.out.trans (Below.mono hbe B2.out.size))
      have BE2 := Lib.hid hbe
      obtain ⟨LN, hLN⟩ : ∃ LN, LN = LP ++ lin2 rs1 rs2 (k + 1) := ⟨_, rfl⟩
      have HN := Lib.hid hLN
      rw [← hLN] at HS
      clear hbe hLN
      generalize LP ++ lin2 rs1 rs2 k = LT at *
      generalize lineR (rat rs1 k) = LA at *
      generalize lineR (rat rs2 k) = LB at *
      have f1 : ¬ 9223372036854775807 < LA.length + LB.length := by omega
      have f2 : ¬ 9223372036854775807 < LT.length + (LA.length + LB.length) := by omega
      clear hlen bl1 bl2 bP
      go_wp2
      refine wp_region_grow [] [] (by kernel_rfl) (by kernel_rfl) (by kernel_rfl) ?_
      apply Exists.intro
      iterate 7 (apply lh_o; kernel_rfl; kernel_rfl; kernel_rfl; (intro W hW; have hWc := Grow.cells hW; go_simp; exact ⟨OneV.mk _, Grow.refl _⟩))
      (apply lh_o; kernel_rfl; kernel_rfl; kernel_rfl; (intro W hW; go_simp; first | exact gB (M1.out _ (BE.out.trans (Below.mono hW BE.out.size))) | exact gV (M1.out _ (BE.out.trans (Below.mono hW BE.out.size)))))
      iterate 6 (apply lh_o; kernel_rfl; kernel_rfl; kernel_rfl; (intro W hW; have hWc := Grow.cells hW; go_simp; exact ⟨OneV.mk _, Grow.refl _⟩))
      (apply lh_o; kernel_rfl; kernel_rfl; kernel_rfl; (intro W hW; go_simp; first | exact gB (M2.out _ (BE.out.trans (Below.mono hW BE.out.size))) | exact gV (M2.out _ (BE.out.trans (Below.mono hW BE.out.size)))))
      iterate 3 (apply lh_o; kernel_rfl; kernel_rfl; kernel_rfl; (intro W hW; have hWc := Grow.cells hW; go_simp; exact ⟨OneV.mk _, Grow.refl _⟩))
      (refine lh_nil ?_; intro W hW; simp only [Act.put, List.setIfInBounds_toArray, List.set_cons_succ, List.set_cons_zero])
      have bN := BE2.out.trans (Below.mono hW BE2.out.size)
      go_wp2
      go_roundw
      case rel => exact ⟨k + 1, by omega, by go_num, by rw [← HN.out, ← HS.out], bN⟩
      case measure => simp [intOf]; omega
    · obtain rfl : n1 = k := by omega
      have bN := B2.out.trans (Below.mono hbe B2.out.size)
      go_wp2
      go_ret
      exact ⟨by rw [HX.out]; rfl, bN⟩
set_option maxRecDepth 100000 in
set_option maxHeartbeats 4000000 in
theorem c_sPipeText_no (a1 : Option Addr) (n1 c1 : Nat) (rs1 : List Rg) (a2 : Option Addr) (n2 c2 : Nat) (rs2 : List Rg) (a3 : Option Addr) (n3 c3 : Nat) (xs3 : List Nat) (p : Pn) (op : Bool) (w : World) (h1 : RS w a1 n1 c1 rs1) (h2 : RS w a2 n2 c2 rs2) (h3 : FS w a3 n3 c3 xs3) (hv : pipeB n1 rs1 n2 rs2 n3 xs3 p = false) :
    Calls Tryd.prog 17 #[.agg #[.slice a1 n1 c1, .slice a2 n2 c2, .slice a3 n3 c3, .int .i64 p.k, .float .f32 p.f0, .float .f32 p.f1, .float .f32 p.f2, .float .f32 p.f3, .float .f32 p.f4, .bool op, .float .f32 p.x1, .float .f32 p.x2, .float .f32 p.x3]] w (RetS [] w) := by
  have H1 := Lib.hid h1
  have H2 := Lib.hid h2
  have H3 := Lib.hid h3
  have HV : Hid (∀ W b, Below w.heap.size w W → PBox W b a1 n1 c1 a2 n2 c2 a3 n3 c3 p → b < W.heap.size → Calls Tryd.prog 38 #[.pointer (some ⟨b, 0, none⟩)] W (RetV (.bool false) W)) := fun W b hW hp hb => hv ▸ c_l04Ok b a1 n1 c1 rs1 a2 n2 c2 rs2 a3 n3 c3 xs3 p W hp hb (H1.out.below hW (Nat.le_refl _)) (H2.out.below hW (Nat.le_refl _)) (H3.out.below hW (Nat.le_refl _))
  clear h1 h2 h3 hv
  go_enter Tryd.func17, Tryd.ntmps17
  go_wp2_with fail
  refine (HV.out _ _ (by (repeat (first | (with_reducible refine Below.drewN ?_) | (with_reducible refine Below.drew ?_) | ((with_reducible refine Below.alloc ?_ ?_ _); rotate_left; (first | omega | (simp <;> omega))) | ((with_reducible refine Below.setCell ?_ ?_ _); rotate_left; (first | omega | (simp <;> omega))) | (with_reducible exact Below.refl _ _) | (with_reducible assumption)))) (PBox.new ..) (by simp)).mono ?_
  rintro e w1 ⟨rfl, hb1⟩
  obtain ⟨hc1, hf1, hz1⟩ := bcell hb1
  try simp at hz1
  have zb1 : w.heap.size ≤ w1.heap.size := by omega
  try (have z1_0 : w.heap.size < w1.heap.size := by omega)
  try (have z1_1 : w.heap.size + 1 < w1.heap.size := by omega)
  try (have z1_2 : w.heap.size + 1 + 1 < w1.heap.size := by omega)
  try (have z1_3 : w.heap.size + 1 + 1 + 1 < w1.heap.size := by omega)
  have b1 : Below w.heap.size w w1 := Below.trans (by (repeat (first | (with_reducible refine Below.drewN ?_) | (with_reducible refine Below.drew ?_) | ((with_reducible refine Below.alloc ?_ ?_ _); rotate_left; (first | omega | (simp <;> omega))) | ((with_reducible refine Below.setCell ?_ ?_ _); rotate_left; (first | omega | (simp <;> omega))) | (with_reducible exact Below.refl _ _) | (with_reducible assumption)))) (hb1.mono (by first | omega | (simp <;> omega)))
  go_wp2
  go_ret
  exact ⟨rfl, b1⟩
set_option maxRecDepth 100000 in
set_option maxHeartbeats 4000000 in
theorem c_sPipeText_ok (a1 : Option Addr) (n1 c1 : Nat) (rs1 : List Rg) (a2 : Option Addr) (n2 c2 : Nat) (rs2 : List Rg) (a3 : Option Addr) (n3 c3 : Nat) (xs3 : List Nat) (p : Pn) (op : Bool) (w : World) (h1 : RS w a1 n1 c1 rs1) (h2 : RS w a2 n2 c2 rs2) (h3 : FS w a3 n3 c3 xs3) (hv : pipeB n1 rs1 n2 rs2 n3 xs3 p = true) (bd : PTx n1 rs1 n2 rs2 n3 xs3 p) :
    Calls Tryd.prog 17 #[.agg #[.slice a1 n1 c1, .slice a2 n2 c2, .slice a3 n3 c3, .int .i64 p.k, .float .f32 p.f0, .float .f32 p.f1, .float .f32 p.f2, .float .f32 p.f3, .float .f32 p.f4, .bool op, .float .f32 p.x1, .float .f32 p.x2, .float .f32 p.x3]] w (RetS (txPipe op n1 rs1 rs2 xs3 p) w) := by
  have H1 := Lib.hid h1
  have H2 := Lib.hid h2
  have H3 := Lib.hid h3
  have HV : Hid (∀ W b, Below w.heap.size w W → PBox W b a1 n1 c1 a2 n2 c2 a3 n3 c3 p → b < W.heap.size → Calls Tryd.prog 38 #[.pointer (some ⟨b, 0, none⟩)] W (RetV (.bool true) W)) := fun W b hW hp hb => hv ▸ c_l04Ok b a1 n1 c1 rs1 a2 n2 c2 rs2 a3 n3 c3 xs3 p W hp hb (H1.out.below hW (Nat.le_refl _)) (H2.out.below hW (Nat.le_refl _)) (H3.out.below hW (Nat.le_refl _))
  have E : Hid (∀ W b, Below w.heap.size w W → PBox W b a1 n1 c1 a2 n2 c2 a3 n3 c3 p → W.cell? ⟨b, 9, none⟩ = some (.bool op) → b < W.heap.size → Calls Tryd.prog 39 #[.pointer (some ⟨b, 0, none⟩)] W (RetS (txPipe op n1 rs1 rs2 xs3 p) W)) := fun W b hW hp h9 hb => by
    cases op
    · exact c_l04Text_false b a1 n1 c1 rs1 a2 n2 c2 rs2 a3 n3 c3 xs3 p W hb hp h9 (H1.out.below hW (Nat.le_refl _)) (H2.out.below hW (Nat.le_refl _)) (H3.out.below hW (Nat.le_refl _)) bd
    · exact c_l04Text_true b a1 n1 c1 rs1 a2 n2 c2 rs2 a3 n3 c3 xs3 p W hb hp h9 (H1.out.below hW (Nat.le_refl _)) (H2.out.below hW (Nat.le_refl _)) (H3.out.below hW (Nat.le_refl _)) bd
  clear h1 h2 h3 hv bd
  generalize txPipe op n1 rs1 rs2 xs3 p = LR at *
  go_enter Tryd.func17, Tryd.ntmps17
  go_wp2_with fail
  refine (HV.out _ _ (by (repeat (first | (with_reducible refine Below.drewN ?_) | (with_reducible refine Below.drew ?_) | ((with_reducible refine Below.alloc ?_ ?_ _); rotate_left; (first | omega | (simp <;> omega))) | ((with_reducible refine Below.setCell ?_ ?_ _); rotate_left; (first | omega | (simp <;> omega))) | (with_reducible exact Below.refl _ _) | (with_reducible assumption)))) (PBox.new ..) (by simp)).mono ?_
  rintro e w1 ⟨rfl, hb1⟩
  have PB := PBox.below (PBox.new w a1 n1 c1 a2 n2 c2 a3 n3 c3 p op _) hb1 (by simp)
  have kA : w1.heap[w.heap.size]? = some (.cells #[.slice a1 n1 c1, .slice a2 n2 c2, .slice a3 n3 c3, .int .i64 p.k, .float .f32 p.f0, .float .f32 p.f1, .float .f32 p.f2, .float .f32 p.f3, .float .f32 p.f4, .bool op, .float .f32 p.x1, .float .f32 p.x2, .float .f32 p.x3] 57) := (hb1.block _ (by simp)).trans (MapKept.heap_alloc w _).1
  have bW : Below w.heap.size w w1 := Below.trans (by (repeat (first | (with_reducible refine Below.drewN ?_) | (with_reducible refine Below.drew ?_) | ((with_reducible refine Below.alloc ?_ ?_ _); rotate_left; (first | omega | (simp <;> omega))) | ((with_reducible refine Below.setCell ?_ ?_ _); rotate_left; (first | omega | (simp <;> omega))) | (with_reducible exact Below.refl _ _) | (with_reducible assumption)))) (hb1.mono (by simp))
  have E1 := Lib.hid (E.out w1 w.heap.size bW PB (cell_of kA 9 rfl) (Array.getElem?_eq_some_iff.1 kA).1)
  clear hb1 kA PB E HV H1 H2 H3
  go_wp2_with fail
  refine E1.out.mono ?_
  rintro e w2 ⟨rfl, hb2⟩
  have bW2 := bW.trans (hb2.mono bW.size)
  clear hb2
  go_wp2
  go_ret
  exact ⟨rfl, bW2⟩
end Go.Proofs.YtbdanadmabemdaaDoor
namespace Go.Proofs.YtbdanadmabemdaaDoor
open Go Go.RowKit Fl
set_option maxRecDepth 100000 in
set_option maxHeartbeats 4000000 in
theorem c_PipeText_no (a1 : Option Addr) (n1 c1 : Nat) (rs1 : List Rg) (a2 : Option Addr) (n2 c2 : Nat) (rs2 : List Rg) (a3 : Option Addr) (n3 c3 : Nat) (xs3 : List Nat) (p : Pn) (op : Bool) (w : World) (h1 : RS w a1 n1 c1 rs1) (h2 : RS w a2 n2 c2 rs2) (h3 : FS w a3 n3 c3 xs3) (hv : pipeB n1 rs1 n2 rs2 n3 xs3 p = false) :
    Calls Tryd.prog 19 #[.agg #[.slice a1 n1 c1, .slice a2 n2 c2, .slice a3 n3 c3, .int .i64 p.k, .float .f32 p.f0, .float .f32 p.f1, .float .f32 p.f2, .float .f32 p.f3, .float .f32 p.f4, .bool op, .float .f32 p.x1, .float .f32 p.x2, .float .f32 p.x3]] w (RetS [] w) := by
  have H1 := Lib.hid h1
  have H2 := Lib.hid h2
  have H3 := Lib.hid h3
  have HV : Hid (∀ W, Below w.heap.size w W → Calls Tryd.prog 42 #[.agg #[.slice a1 n1 c1, .slice a2 n2 c2, .slice a3 n3 c3, .int .i64 p.k, .float .f32 p.f0, .float .f32 p.f1, .float .f32 p.f2, .float .f32 p.f3, .float .f32 p.f4, .bool op, .float .f32 p.x1, .float .f32 p.x2, .float .f32 p.x3]] W (RetV (.bool false) W)) := fun W hW => hv ▸ c_ValidPipe a1 n1 c1 rs1 a2 n2 c2 rs2 a3 n3 c3 xs3 p op W (H1.out.below hW (Nat.le_refl _)) (H2.out.below hW (Nat.le_refl _)) (H3.out.below hW (Nat.le_refl _))
  clear h1 h2 h3 hv
  go_enter Tryd.func19, Tryd.ntmps19
  go_wp2_with fail
  refine (HV.out _ (by (repeat (first | (with_reducible refine Below.drewN ?_) | (with_reducible refine Below.drew ?_) | ((with_reducible refine Below.alloc ?_ ?_ _); rotate_left; (first | omega | (simp <;> omega))) | ((with_reducible refine Below.setCell ?_ ?_ _); rotate_left; (first | omega | (simp <;> omega))) | (with_reducible exact Below.refl _ _) | (with_reducible assumption))))).mono ?_
  rintro e w1 ⟨rfl, hb1⟩
  obtain ⟨hc1, hf1, hz1⟩ := bcell hb1
  try simp at hz1
  have zb1 : w.heap.size ≤ w1.heap.size := by omega
  try (have z1_0 : w.heap.size < w1.heap.size := by omega)
  try (have z1_1 : w.heap.size + 1 < w1.heap.size := by omega)
  try (have z1_2 : w.heap.size + 1 + 1 < w1.heap.size := by omega)
  try (have z1_3 : w.heap.size + 1 + 1 + 1 < w1.heap.size := by omega)
  have b1 : Below w.heap.size w w1 := Below.trans (by (repeat (first | (with_reducible refine Below.drewN ?_) | (with_reducible refine Below.drew ?_) | ((with_reducible refine Below.alloc ?_ ?_ _); rotate_left; (first | omega | (simp <;> omega))) | ((with_reducible refine Below.setCell ?_ ?_ _); rotate_left; (first | omega | (simp <;> omega))) | (with_reducible exact Below.refl _ _) | (with_reducible assumption)))) (hb1.mono (by first | omega | (simp <;> omega)))
  go_wp2
  go_ret
  exact ⟨rfl, b1⟩
set_option maxRecDepth 100000 in
set_option maxHeartbeats 4000000 in
theorem c_PipeText_ok_true (a1 : Option Addr) (n1 c1 : Nat) (rs1 : List Rg) (a2 : Option Addr) (n2 c2 : Nat) (rs2 : List Rg) (a3 : Option Addr) (n3 c3 : Nat) (xs3 : List Nat) (p : Pn) (w : World) (h1 : RS w a1 n1 c1 rs1) (h2 : RS w a2 n2 c2 rs2) (h3 : FS w a3 n3 c3 xs3) (hv : pipeB n1 rs1 n2 rs2 n3 xs3 p = true) (hT : Tb w) (bd : PTx n1 rs1 n2 rs2 n3 xs3 p) :
    Calls Tryd.prog 19 #[.agg #[.slice a1 n1 c1, .slice a2 n2 c2, .slice a3 n3 c3, .int .i64 p.k, .float .f32 p.f0, .float .f32 p.f1, .float .f32 p.f2, .float .f32 p.f3, .float .f32 p.f4, .bool true, .float .f32 p.x1, .float .f32 p.x2, .float .f32 p.x3]] w (RetS (txPipe true n1 rs1 rs2 xs3 p) w) := by
  have H1 := Lib.hid h1
  have H2 := Lib.hid h2
  have H3 := Lib.hid h3
  have HV : Hid (∀ W, Below w.heap.size w W → Calls Tryd.prog 42 #[.agg #[.slice a1 n1 c1, .slice a2 n2 c2, .slice a3 n3 c3, .int .i64 p.k, .float .f32 p.f0, .float .f32 p.f1, .float .f32 p.f2, .float .f32 p.f3, .float .f32 p.f4, .bool true, .float .f32 p.x1, .float .f32 p.x2, .float .f32 p.x3]] W (RetV (.bool true) W)) := fun W hW => by
    have := c_ValidPipe a1 n1 c1 rs1 a2 n2 c2 rs2 a3 n3 c3 xs3 p true W (H1.out.below hW (Nat.le_refl _)) (H2.out.below hW (Nat.le_refl _)) (H3.out.below hW (Nat.le_refl _))
    rw [hv] at this
    exact this
  have KF : Hid (∀ W, Below w.heap.size w W → Calls Tryd.prog 28 #[.agg #[.int .i64 p.k, .float .f32 p.f0, .float .f32 p.f1, .float .f32 p.f2, .float .f32 p.f3, .float .f32 p.f4]] W (RetS (filtL 1 [p.f0, p.f1, p.f2] [p.f3, p.f4]) W)) := fun W hW => by
    rw [bd.k]
    exact c_FilterText 1 _ _ _ _ _ W (by omega) (by omega) bd.g0 bd.g1 bd.g2 bd.g3 bd.g4 (hT.below hW (Nat.le_refl _)) bd.f
  have KS : Hid (∀ W g, Below w.heap.size w W → W.heap[g]? = some (.cells #[.float .f32 p.x1, .float .f32 p.x2, .float .f32 p.x3] 25) → Calls Tryd.prog 27 #[.slice (some ⟨g, 0, none⟩) 3 3] W (RetS (txtL [p.x1, p.x2, p.x3]).tail W)) := fun W g hW hg => c_isam3 W g _ _ _ bd.y1 bd.y2 bd.y3 hg (hT.below hW (Nat.le_refl _))
  have KB : Hid (∀ j W, Below w.heap.size w W → Calls Tryd.prog 43 #[.float .f32 (nth xs3 j)] W (RetS (hexL (can .f32 (nth xs3 j))) W)) := fun j W hW => c_bitsText _ (can_lt (bd.b3 j)) W (hT.below hW (Nat.le_refl _))
  have KR : Hid (∀ (r : Rg), r.ok = true → (∀ i, nth r.xs i < 4294967296) → ∀ W, Below w.heap.size w W → FS W r.a r.n r.c r.xs → Calls Tryd.prog 29 #[.agg #[.slice r.a r.n r.c, .int .i64 r.i]] W (RetS (ringL r.n r.i r.xs) W)) := fun r ho hr W hW hf => by
    have on := ok_n ho
    exact c_ringText _ _ _ _ _ W hf hr (by omega) (by omega) (by omega) (hT.below hW (Nat.le_refl _))
  have q1 := bd.ok.lo
  have q2 := bd.ok.hi
  obtain rfl : n2 = n1 := bd.ok.eq
  have HOK := Lib.hid (inter_ok bd.ok.r1 bd.ok.r2)
  have HBD : Hid (∀ j, j < 2 * n2 → ∀ i, nth (rat (inter rs1 rs2 n2) j).xs i < 4294967296) := fun j hj => by
    have I := inter_get rs1 rs2 n2 (j / 2) (by omega)
    rcases half j with e | e
    · rw [e, I.1]; exact bd.b1 _ (by omega)
    · rw [e, I.2]; exact bd.b2 _ (by omega)
  have hl3 := h3.len
  have hn3 := bd.n3
  have bS : (txtL [p.x1, p.x2, p.x3]).tail.length ≤ 100 := by rw [List.length_tail, txt_len]; simp
  have bF : (filtL 1 [p.f0, p.f1, p.f2] [p.f3, p.f4]).length ≤ 200 := filtL_len 1 _ _ _ _ _ (by omega)
  have HA0 : (⟨#[112, 105, 112, 101, 32]⟩ : ByteArray) ++ ⟨#[111, 112, 101, 110]⟩ ++ ⟨#[32]⟩ ++ ⟨(txtL [p.x1, p.x2, p.x3]).tail.toArray⟩ ++ ⟨#[10, 115, 99, 97, 116, 116, 101, 114]⟩ = ⟨(kindL true ++ (txtL [p.x1, p.x2, p.x3] ++ ([10, 115, 99, 97, 116, 116, 101, 114] ++ txtL (xs3.take 0)))).toArray⟩ := by
    rw [show txtL (xs3.take 0) = [] from rfl, List.append_nil, txt_cons p.x1 [p.x2, p.x3]]
    rw [show (⟨#[112, 105, 112, 101, 32]⟩ : ByteArray) = ⟨([112, 105, 112, 101, 32] : List UInt8).toArray⟩ from rfl, show (⟨#[111, 112, 101, 110]⟩ : ByteArray) = ⟨([111, 112, 101, 110] : List UInt8).toArray⟩ from rfl, show (⟨#[32]⟩ : ByteArray) = ⟨([32] : List UInt8).toArray⟩ from rfl, show (⟨#[10, 115, 99, 97, 116, 116, 101, 114]⟩ : ByteArray) = ⟨([10, 115, 99, 97, 116, 116, 101, 114] : List UInt8).toArray⟩ from rfl]
    simp only [ba_app]
    simp only [kindL, List.tail_cons, List.cons_append, List.nil_append]
  have HA := Lib.hid HA0
  have HB0 : ∀ k, (⟨(kindL true ++ (txtL [p.x1, p.x2, p.x3] ++ ([10, 115, 99, 97, 116, 116, 101, 114] ++ txtL (xs3.take k)))).toArray⟩ : ByteArray) = ⟨(kindL true ++ (txtL [p.x1, p.x2, p.x3] ++ [10, 115, 99, 97, 116, 116, 101, 114]) ++ txtL (xs3.take k)).toArray⟩ := fun k => by simp only [List.append_assoc]
  have HC0 : (⟨(kindL true ++ (txtL [p.x1, p.x2, p.x3] ++ [10, 115, 99, 97, 116, 116, 101, 114]) ++ txtL (xs3.take n3)).toArray⟩ : ByteArray) ++ (⟨#[10]⟩ ++ ⟨(filtL 1 [p.f0, p.f1, p.f2] [p.f3, p.f4]).toArray⟩ ++ ⟨#[10]⟩) = ⟨(pipeF true xs3 p ++ linesL (inter rs1 rs2 n2) 0).toArray⟩ := by
    rw [show (⟨#[10]⟩ : ByteArray) = ⟨([10] : List UInt8).toArray⟩ from rfl]
    simp only [ba_app]
    rw [linesL, List.append_nil, List.take_of_length_le (by omega)]
    unfold pipeF
    simp only [List.append_assoc]
  have HC := Lib.hid HC0
  have bP : (pipeF true xs3 p).length ≤ 1000 := by
    have ek : (kindL true).length = 9 := rfl
    have bC : (txtL xs3).length ≤ 100 := by rw [txt_len, hl3]; omega
    have bS' : (txtL [p.x1, p.x2, p.x3]).length ≤ 100 := by rw [txt_len]; simp
    unfold pipeF
    simp only [List.length_append, ek]
    simp only [List.length_cons, List.length_nil]
    omega
  have bH : (kindL true ++ (txtL [p.x1, p.x2, p.x3] ++ [10, 115, 99, 97, 116, 116, 101, 114])).length ≤ 300 := by
    have ek : (kindL true).length = 9 := rfl
    have bS' : (txtL [p.x1, p.x2, p.x3]).length ≤ 100 := by rw [txt_len]; simp
    simp only [List.length_append, ek]
    simp only [List.length_cons, List.length_nil]
    omega
  have HX : Hid (txPipe true n2 rs1 rs2 xs3 p = pipeF true xs3 p ++ linesL (inter rs1 rs2 n2) (2 * n2)) := by
    show txPipe true n2 rs1 rs2 xs3 p = _
    rw [linesL_inter]; rfl
  rw [HB0 0] at HA0
  have HAB := Lib.hid HA0
  clear HA HA0 HB0 HC0 h1 h2 h3 hv hT bd
  generalize txPipe true n2 rs1 rs2 xs3 p = LZ at *
  generalize pipeF true xs3 p = LP at *
  generalize kindL true ++ (txtL [p.x1, p.x2, p.x3] ++ [10, 115, 99, 97, 116, 116, 101, 114]) = LH at *
  generalize (txtL [p.x1, p.x2, p.x3]).tail = LS at *
  generalize filtL 1 [p.f0, p.f1, p.f2] [p.f3, p.f4] = LF at *
  have f1 : ¬ 9223372036854775807 < 10 + LS.length := by omega
  have f2 : ¬ 9223372036854775807 < 10 + LS.length + 8 := by omega
  go_enter Tryd.func19, Tryd.ntmps19
  go_wp2_with fail
  refine (HV.out _ (by (repeat (first | (with_reducible refine Below.drewN ?_) | (with_reducible refine Below.drew ?_) | ((with_reducible refine Below.alloc ?_ ?_ _); rotate_left; (first | omega | (simp <;> omega))) | ((with_reducible refine Below.setCell ?_ ?_ _); rotate_left; (first | omega | (simp <;> omega))) | (with_reducible exact Below.refl _ _) | (with_reducible assumption))))).mono ?_
  rintro e w1 ⟨rfl, hb1⟩
  have kA : w1.heap[w.heap.size]? = some (.cells #[.slice a1 n2 c1, .slice a2 n2 c2, .slice a3 n3 c3, .int .i64 p.k, .float .f32 p.f0, .float .f32 p.f1, .float .f32 p.f2, .float .f32 p.f3, .float .f32 p.f4, .bool true, .float .f32 p.x1, .float .f32 p.x2, .float .f32 p.x3] 57) := (hb1.block _ (by simp)).trans (MapKept.heap_alloc w _).1
  have b1 : Below w.heap.size w w1 := Below.trans (by (repeat (first | (with_reducible refine Below.drewN ?_) | (with_reducible refine Below.drew ?_) | ((with_reducible refine Below.alloc ?_ ?_ _); rotate_left; (first | omega | (simp <;> omega))) | ((with_reducible refine Below.setCell ?_ ?_ _); rotate_left; (first | omega | (simp <;> omega))) | (with_reducible exact Below.refl _ _) | (with_reducible assumption)))) (hb1.mono (by simp))
  have zA : w.heap.size < w1.heap.size := (Array.getElem?_eq_some_iff.1 kA).1
  have B1 := Lib.hid b1
  have e0 := cell_of kA 0 rfl
  have e1 := cell_of kA 1 rfl
  have e2 := cell_of kA 2 rfl
  have e3 := cell_of kA 3 rfl
  have e4 := cell_of kA 4 rfl
  have e5 := cell_of kA 5 rfl
  have e6 := cell_of kA 6 rfl
  have e7 := cell_of kA 7 rfl
  have e8 := cell_of kA 8 rfl
  have e9 := cell_of kA 9 rfl
  have e10 := cell_of kA 10 rfl
  have e11 := cell_of kA 11 rfl
  have e12 := cell_of kA 12 rfl
  clear hb1 b1 HV
  go_wp2_with fail
  refine (KS.out _ w1.heap.size (B1.out.trans (Below.mono (by (repeat (first | (with_reducible refine Below.drewN ?_) | (with_reducible refine Below.drew ?_) | ((with_reducible refine Below.alloc ?_ ?_ _); rotate_left; (first | omega | (simp <;> omega))) | ((with_reducible refine Below.setCell ?_ ?_ _); rotate_left; (first | omega | (simp <;> omega))) | (with_reducible exact Below.refl _ _) | (with_reducible assumption)))) B1.out.size)) (by first | exact (MapKept.heap_alloc _ _).1 | simp)).mono ?_
  rintro e w2 ⟨rfl, hb2⟩
  have h12 : Below w1.heap.size w1 w2 := Below.trans (by (repeat (first | (with_reducible refine Below.drewN ?_) | (with_reducible refine Below.drew ?_) | ((with_reducible refine Below.alloc ?_ ?_ _); rotate_left; (first | omega | (simp <;> omega))) | ((with_reducible refine Below.setCell ?_ ?_ _); rotate_left; (first | omega | (simp <;> omega))) | (with_reducible exact Below.refl _ _) | (with_reducible assumption)))) (hb2.mono (by simp))
  have z0 := (h12.cell (p := ⟨w.heap.size, 0, none⟩) zA).trans e0
  have z1 := (h12.cell (p := ⟨w.heap.size, 1, none⟩) zA).trans e1
  have z2 := (h12.cell (p := ⟨w.heap.size, 2, none⟩) zA).trans e2
  have z3 := (h12.cell (p := ⟨w.heap.size, 3, none⟩) zA).trans e3
  have z4 := (h12.cell (p := ⟨w.heap.size, 4, none⟩) zA).trans e4
  have z5 := (h12.cell (p := ⟨w.heap.size, 5, none⟩) zA).trans e5
  have z6 := (h12.cell (p := ⟨w.heap.size, 6, none⟩) zA).trans e6
  have z7 := (h12.cell (p := ⟨w.heap.size, 7, none⟩) zA).trans e7
  have z8 := (h12.cell (p := ⟨w.heap.size, 8, none⟩) zA).trans e8
  have zA2 : w.heap.size < w2.heap.size := Nat.lt_of_lt_of_le zA h12.size
  have B2 := Lib.hid (B1.out.trans (h12.mono B1.out.size))
  clear hb2 h12 kA e0 e1 e2 e3 e4 e5 e6 e7 e8 e9 e10 e11 e12 KS zA B1
  go_wp2
  go_loopw [4, 6, 30] (fun v _ i wr => ∃ k : Nat, k ≤ n3 ∧ i = .int .i64 k ∧ v = .string ⟨(LH ++ txtL (xs3.take k)).toArray⟩ ∧ Below w2.heap.size w2 wr) (fun _ _ i _ => n3 - (intOf i).toNat)
  case atStart => exact ⟨0, by omega, rfl, by rw [← HAB.out], Below.refl _ _⟩
  case round =>
    obtain ⟨k, hk, rfl, rfl, hbe⟩ := hrel
    have BE := Lib.hid (B2.out.trans (Below.mono hbe B2.out.size))
    have hlen : (LH ++ txtL (xs3.take k)).length ≤ 500 := by rw [List.length_append, txt_len, List.length_take]; omega
    by_cases hlt : k < n3
    · obtain ⟨b3, o3, rfl, hl3', hc3⟩ := H3.out.at_ (by omega)
      have x0 := (BE.out.cell (p := ⟨b3, o3 + k, none⟩) hl3').trans (hc3 k hlt)
      have C := Lib.hid (KB.out k _ BE.out)
      have BE2 := Lib.hid hbe
      have h8 : (hexL (can .f32 (nth xs3 k))).length = 8 := rfl
      have hs := txt_succ (xs := xs3) (k := k) (by omega)
      have HS : Hid ((⟨(LH ++ txtL (xs3.take k)).toArray⟩ : ByteArray) ++ (⟨#[32]⟩ ++ ⟨(hexL (can .f32 (nth xs3 k))).toArray⟩) = ⟨(LH ++ txtL (xs3.take (k + 1))).toArray⟩) := by
        show _ = _
        rw [hs, show (⟨#[32]⟩ : ByteArray) = ⟨([32] : List UInt8).toArray⟩ from rfl, ba_app, ba_app, List.append_assoc]
      obtain ⟨LN, hLN⟩ : ∃ LN, LN = LH ++ txtL (xs3.take (k + 1)) := ⟨_, rfl⟩
      have HN := Lib.hid hLN
      rw [← hLN] at HS
      clear hbe hs hLN hc3
      generalize LH ++ txtL (xs3.take k) = LT at *
      generalize hexL (can .f32 (nth xs3 k)) = LX at *
      have f1 : ¬ 9223372036854775807 < 1 + LX.length := by omega
      have f2 : ¬ 9223372036854775807 < LT.length + (1 + LX.length) := by omega
      clear hlen h8
      go_wp2_with fail
      refine C.out.mono ?_
      rintro e w3 ⟨rfl, hb3⟩
      have bN := BE2.out.trans (hb3.mono BE2.out.size)
      clear hb3
      go_wp2
      go_roundw
      case rel => exact ⟨k + 1, by omega, by go_num, by rw [← HN.out, ← HS.out], bN⟩
      case measure => simp [intOf]; omega
    · obtain rfl : n3 = k := by omega
      have y0 := (hbe.cell (p := ⟨w.heap.size, 0, none⟩) zA2).trans z0
      have y1 := (hbe.cell (p := ⟨w.heap.size, 1, none⟩) zA2).trans z1
      have y3 := (hbe.cell (p := ⟨w.heap.size, 3, none⟩) zA2).trans z3
      have y4 := (hbe.cell (p := ⟨w.heap.size, 4, none⟩) zA2).trans z4
      have y5 := (hbe.cell (p := ⟨w.heap.size, 5, none⟩) zA2).trans z5
      have y6 := (hbe.cell (p := ⟨w.heap.size, 6, none⟩) zA2).trans z6
      have y7 := (hbe.cell (p := ⟨w.heap.size, 7, none⟩) zA2).trans z7
      have y8 := (hbe.cell (p := ⟨w.heap.size, 8, none⟩) zA2).trans z8
      have zA3 : w.heap.size < wr.heap.size := Nat.lt_of_lt_of_le zA2 hbe.size
      have CF := Lib.hid (KF.out _ BE.out)
      clear hbe z0 z1 z2 z3 z4 z5 z6 z7 z8 KB KF
      generalize LH ++ txtL (xs3.take n3) = LT at *
      have f1 : ¬ 9223372036854775807 < 1 + LF.length := by omega
      have f2 : ¬ 9223372036854775807 < 1 + LF.length + 1 := by omega
      have f3 : ¬ 9223372036854775807 < LT.length + (1 + LF.length + 1) := by omega
      clear hlen bH bS bF
      go_wp2_with fail
      refine CF.out.mono ?_
      rintro e w4 ⟨rfl, hb4⟩
      have B4 := Lib.hid (BE.out.trans (hb4.mono BE.out.size))
      have v0 := (hb4.cell (p := ⟨w.heap.size, 0, none⟩) zA3).trans y0
      have v1 := (hb4.cell (p := ⟨w.heap.size, 1, none⟩) zA3).trans y1
      have zA4 : w.heap.size < w4.heap.size := Nat.lt_of_lt_of_le zA3 hb4.size
      clear hb4 y0 y1 y3 y4 y5 y6 y7 y8 CF BE
      go_wp2_with fail
      refine (c_ringsP w.heap.size a1 a2 c1 c2 n2 rs1 rs2 _ v0 v1 zA4 (RS.below (B := w.heap.size) H1.out B4.out (Nat.le_refl _)) (RS.below (B := w.heap.size) H2.out B4.out (Nat.le_refl _)) q1 (by omega)).mono ?_
      rintro e w5 ⟨g, cg, rfl, hb5, hp5⟩
      have B5 := Lib.hid (B4.out.trans (hb5.mono B4.out.size))
      have HP := Lib.hid hp5
      have hcap := hp5.cap
      have hbig := hp5.big
      generalize inter rs1 rs2 n2 = qs at *
      generalize hm : 2 * n2 = m at *
      have hm6 : m ≤ 6 := by omega
      have XL : Hid (∀ j, j < m → (rat qs j).xs.length = (rat qs j).n) := fun j hj => by
        obtain ⟨_, _, _, _, hra⟩ := hp5.at_ j hj
        exact hra.fs.len
      have LL : Hid (∀ k, k ≤ m → (linesL qs k).length ≤ 20000 * k) := linesL_len fun j hj => lineR_len (HOK.out j hj) (XL.out j hj)
      clear hp5 hb5 hm v0 v1 B4
      go_wp2
      go_loopw [4, 8, 49] (fun v _ i wr => ∃ k : Nat, k ≤ m ∧ i = .int .i64 k ∧ v = .string ⟨(LP ++ linesL qs k).toArray⟩ ∧ Below w5.heap.size w5 wr) (fun _ _ i _ => m - (intOf i).toNat)
      case atStart => exact ⟨0, by omega, rfl, by rw [← HC.out], Below.refl _ _⟩
      case round =>
        obtain ⟨k, hk, rfl, rfl, hbe⟩ := hrel
        have BE := Lib.hid (B5.out.trans (Below.mono hbe B5.out.size))
        by_cases hlt : k < m
        · obtain ⟨bb, oo, hpt, hbb, hra⟩ := (HP.out.below hbe (Nat.le_refl _)).at_ k hlt
          have x0 := hra.c0
          have x1 := hra.c1
          have C := Lib.hid (KR.out _ (HOK.out k hlt) (HBD.out k hlt) _ BE.out hra.fs)
          have hlen : (LP ++ linesL qs k).length ≤ 200000 := by
            have := LL.out k (by omega)
            rw [List.length_append]; omega
          have hx := XL.out k hlt
          have ho := ok_n (HOK.out k hlt)
          have hrl : (ringL (rat qs k).n (rat qs k).i (rat qs k).xs).length ≤ 20000 := by
            have := ringL_len (rat qs k).n (rat qs k).i.toNat (rat qs k).xs (by omega) (by omega) hx
            rwa [Int.toNat_of_nonneg ho.2.2.1] at this
          have hline : ringL (rat qs k).n (rat qs k).i (rat qs k).xs ++ [10] = lineR (rat qs k) := by
            have := ring_line (n := (rat qs k).n) (i := (rat qs k).i.toNat) (xs_ne hx ho.1)
            rwa [Int.toNat_of_nonneg ho.2.2.1] at this
          have HS : Hid ((⟨(LP ++ linesL qs k).toArray⟩ : ByteArray) ++ (⟨(ringL (rat qs k).n (rat qs k).i (rat qs k).xs).toArray⟩ ++ ⟨#[10]⟩) = ⟨(LP ++ linesL qs (k + 1)).toArray⟩) := by
            show _ = _
            rw [show (⟨#[10]⟩ : ByteArray) = ⟨([10] : List UInt8).toArray⟩ from rfl, ba_app, ba_app, hline, linesL, List.append_assoc]
          have BE2 := Lib.hid hbe
          obtain ⟨LN, hLN⟩ : ∃ LN, LN = LP ++ linesL qs (k + 1) := ⟨_, rfl⟩
          have HN := Lib.hid hLN
          rw [← hLN] at HS
          clear hbe hLN hline ho hra hx
          generalize LP ++ linesL qs k = LT2 at *
          generalize ringL (rat qs k).n (rat qs k).i (rat qs k).xs = LX at *
          have f1 : ¬ 9223372036854775807 < LX.length + 1 := by omega
          have f2 : ¬ 9223372036854775807 < LT2.length + (LX.length + 1) := by omega
          clear hlen hrl bP
          go_wp2_with fail
          refine C.out.mono ?_
          rintro e w6 ⟨rfl, hb6⟩
          have bN := BE2.out.trans (hb6.mono BE2.out.size)
          clear hb6
          go_wp2
          go_roundw
          case rel => exact ⟨k + 1, by omega, by go_num, by rw [← HN.out, ← HS.out], bN⟩
          case measure => simp [intOf]; omega
        · obtain rfl : m = k := by omega
          have bN := BE.out
          go_wp2
          go_ret
          exact ⟨by rw [HX.out]; rfl, bN⟩
set_option maxRecDepth 100000 in
set_option maxHeartbeats 4000000 in
theorem c_PipeText_ok_false (a1 : Option Addr) (n1 c1 : Nat) (rs1 : List Rg) (a2 : Option Addr) (n2 c2 : Nat) (rs2 : List Rg) (a3 : Option Addr) (n3 c3 : Nat) (xs3 : List Nat) (p : Pn) (w : World) (h1 : RS w a1 n1 c1 rs1) (h2 : RS w a2 n2 c2 rs2) (h3 : FS w a3 n3 c3 xs3) (hv : pipeB n1 rs1 n2 rs2 n3 xs3 p = true) (hT : Tb w) (bd : PTx n1 rs1 n2 rs2 n3 xs3 p) :
    Calls Tryd.prog 19 #[.agg #[.slice a1 n1 c1, .slice a2 n2 c2, .slice a3 n3 c3, .int .i64 p.k, .float .f32 p.f0, .float .f32 p.f1, .float .f32 p.f2, .float .f32 p.f3, .float .f32 p.f4, .bool false, .float .f32 p.x1, .float .f32 p.x2, .float .f32 p.x3]] w (RetS (txPipe false n1 rs1 rs2 xs3 p) w) := by
  have H1 := Lib.hid h1
  have H2 := Lib.hid h2
  have H3 := Lib.hid h3
  have HV : Hid (∀ W, Below w.heap.size w W → Calls Tryd.prog 42 #[.agg #[.slice a1 n1 c1, .slice a2 n2 c2, .slice a3 n3 c3, .int .i64 p.k, .float .f32 p.f0, .float .f32 p.f1, .float .f32 p.f2, .float .f32 p.f3, .float .f32 p.f4, .bool false, .float .f32 p.x1, .float .f32 p.x2, .float .f32 p.x3]] W (RetV (.bool true) W)) := fun W hW => by
    have := c_ValidPipe a1 n1 c1 rs1 a2 n2 c2 rs2 a3 n3 c3 xs3 p false W (H1.out.below hW (Nat.le_refl _)) (H2.out.below hW (Nat.le_refl _)) (H3.out.below hW (Nat.le_refl _))
    rw [hv] at this
    exact this
  have KF : Hid (∀ W, Below w.heap.size w W → Calls Tryd.prog 28 #[.agg #[.int .i64 p.k, .float .f32 p.f0, .float .f32 p.f1, .float .f32 p.f2, .float .f32 p.f3, .float .f32 p.f4]] W (RetS (filtL 1 [p.f0, p.f1, p.f2] [p.f3, p.f4]) W)) := fun W hW => by
    rw [bd.k]
    exact c_FilterText 1 _ _ _ _ _ W (by omega) (by omega) bd.g0 bd.g1 bd.g2 bd.g3 bd.g4 (hT.below hW (Nat.le_refl _)) bd.f
  have KS : Hid (∀ W g, Below w.heap.size w W → W.heap[g]? = some (.cells #[.float .f32 p.x1, .float .f32 p.x2, .float .f32 p.x3] 25) → Calls Tryd.prog 27 #[.slice (some ⟨g, 0, none⟩) 3 3] W (RetS (txtL [p.x1, p.x2, p.x3]).tail W)) := fun W g hW hg => c_isam3 W g _ _ _ bd.y1 bd.y2 bd.y3 hg (hT.below hW (Nat.le_refl _))
  have KB : Hid (∀ j W, Below w.heap.size w W → Calls Tryd.prog 43 #[.float .f32 (nth xs3 j)] W (RetS (hexL (can .f32 (nth xs3 j))) W)) := fun j W hW => c_bitsText _ (can_lt (bd.b3 j)) W (hT.below hW (Nat.le_refl _))
  have KR : Hid (∀ (r : Rg), r.ok = true → (∀ i, nth r.xs i < 4294967296) → ∀ W, Below w.heap.size w W → FS W r.a r.n r.c r.xs → Calls Tryd.prog 29 #[.agg #[.slice r.a r.n r.c, .int .i64 r.i]] W (RetS (ringL r.n r.i r.xs) W)) := fun r ho hr W hW hf => by
    have on := ok_n ho
    exact c_ringText _ _ _ _ _ W hf hr (by omega) (by omega) (by omega) (hT.below hW (Nat.le_refl _))
  have q1 := bd.ok.lo
  have q2 := bd.ok.hi
  obtain rfl : n2 = n1 := bd.ok.eq
  have HOK := Lib.hid (inter_ok bd.ok.r1 bd.ok.r2)
  have HBD : Hid (∀ j, j < 2 * n2 → ∀ i, nth (rat (inter rs1 rs2 n2) j).xs i < 4294967296) := fun j hj => by
    have I := inter_get rs1 rs2 n2 (j / 2) (by omega)
    rcases half j with e | e
    · rw [e, I.1]; exact bd.b1 _ (by omega)
    · rw [e, I.2]; exact bd.b2 _ (by omega)
  have hl3 := h3.len
  have hn3 := bd.n3
  have bS : (txtL [p.x1, p.x2, p.x3]).tail.length ≤ 100 := by rw [List.length_tail, txt_len]; simp
  have bF : (filtL 1 [p.f0, p.f1, p.f2] [p.f3, p.f4]).length ≤ 200 := filtL_len 1 _ _ _ _ _ (by omega)
  have HA0 : (⟨#[112, 105, 112, 101, 32]⟩ : ByteArray) ++ ⟨#[99, 108, 111, 115, 101, 100]⟩ ++ ⟨#[32]⟩ ++ ⟨(txtL [p.x1, p.x2, p.x3]).tail.toArray⟩ ++ ⟨#[10, 115, 99, 97, 116, 116, 101, 114]⟩ = ⟨(kindL false ++ (txtL [p.x1, p.x2, p.x3] ++ ([10, 115, 99, 97, 116, 116, 101, 114] ++ txtL (xs3.take 0)))).toArray⟩ := by
    rw [show txtL (xs3.take 0) = [] from rfl, List.append_nil, txt_cons p.x1 [p.x2, p.x3]]
    rw [show (⟨#[112, 105, 112, 101, 32]⟩ : ByteArray) = ⟨([112, 105, 112, 101, 32] : List UInt8).toArray⟩ from rfl, show (⟨#[99, 108, 111, 115, 101, 100]⟩ : ByteArray) = ⟨([99, 108, 111, 115, 101, 100] : List UInt8).toArray⟩ from rfl, show (⟨#[32]⟩ : ByteArray) = ⟨([32] : List UInt8).toArray⟩ from rfl, show (⟨#[10, 115, 99, 97, 116, 116, 101, 114]⟩ : ByteArray) = ⟨([10, 115, 99, 97, 116, 116, 101, 114] : List UInt8).toArray⟩ from rfl]
    simp only [ba_app]
    simp only [kindL, List.tail_cons, List.cons_append, List.nil_append]
  have HA := Lib.hid HA0
  have HB0 : ∀ k, (⟨(kindL false ++ (txtL [p.x1, p.x2, p.x3] ++ ([10, 115, 99, 97, 116, 116, 101, 114] ++ txtL (xs3.take k)))).toArray⟩ : ByteArray) = ⟨(kindL false ++ (txtL [p.x1, p.x2, p.x3] ++ [10, 115, 99, 97, 116, 116, 101, 114]) ++ txtL (xs3.take k)).toArray⟩ := fun k => by simp only [List.append_assoc]
  have HC0 : (⟨(kindL false ++ (txtL [p.x1, p.x2, p.x3] ++ [10, 115, 99, 97, 116, 116, 101, 114]) ++ txtL (xs3.take n3)).toArray⟩ : ByteArray) ++ (⟨#[10]⟩ ++ ⟨(filtL 1 [p.f0, p.f1, p.f2] [p.f3, p.f4]).toArray⟩ ++ ⟨#[10]⟩) = ⟨(pipeF false xs3 p ++ linesL (inter rs1 rs2 n2) 0).toArray⟩ := by
    rw [show (⟨#[10]⟩ : ByteArray) = ⟨([10] : List UInt8).toArray⟩ from rfl]
    simp only [ba_app]
    rw [linesL, List.append_nil, List.take_of_length_le (by omega)]
    unfold pipeF
    simp only [List.append_assoc]
  have HC := Lib.hid HC0
  have bP : (pipeF false xs3 p).length ≤ 1000 := by
    have ek : (kindL false).length = 11 := rfl
    have bC : (txtL xs3).length ≤ 100 := by rw [txt_len, hl3]; omega
    have bS' : (txtL [p.x1, p.x2, p.x3]).length ≤ 100 := by rw [txt_len]; simp
    unfold pipeF
    simp only [List.length_append, ek]
    simp only [List.length_cons, List.length_nil]
    omega
  have bH : (kindL false ++ (txtL [p.x1, p.x2, p.x3] ++ [10, 115, 99, 97, 116, 116, 101, 114])).length ≤ 300 := by
    have ek : (kindL false).length = 11 := rfl
    have bS' : (txtL [p.x1, p.x2, p.x3]).length ≤ 100 := by rw [txt_len]; simp
    simp only [List.length_append, ek]
    simp only [List.length_cons, List.length_nil]
    omega
  have HX : Hid (txPipe false n2 rs1 rs2 xs3 p = pipeF false xs3 p ++ linesL (inter rs1 rs2 n2) (2 * n2)) := by
    show txPipe false n2 rs1 rs2 xs3 p = _
    rw [linesL_inter]; rfl
  rw [HB0 0] at HA0
  have HAB := Lib.hid HA0
  clear HA HA0 HB0 HC0 h1 h2 h3 hv hT bd
  generalize txPipe false n2 rs1 rs2 xs3 p = LZ at *
  generalize pipeF false xs3 p = LP at *
  generalize kindL false ++ (txtL [p.x1, p.x2, p.x3] ++ [10, 115, 99, 97, 116, 116, 101, 114]) = LH at *
  generalize (txtL [p.x1, p.x2, p.x3]).tail = LS at *
  generalize filtL 1 [p.f0, p.f1, p.f2] [p.f3, p.f4] = LF at *
  have f1 : ¬ 9223372036854775807 < 12 + LS.length := by omega
  have f2 : ¬ 9223372036854775807 < 12 + LS.length + 8 := by omega
  go_enter Tryd.func19, Tryd.ntmps19
  go_wp2_with fail
  refine (HV.out _ (by (repeat (first | (with_reducible refine Below.drewN ?_) | (with_reducible refine Below.drew ?_) | ((with_reducible refine Below.alloc ?_ ?_ _); rotate_left; (first | omega | (simp <;> omega))) | ((with_reducible refine Below.setCell ?_ ?_ _); rotate_left; (first | omega | (simp <;> omega))) | (with_reducible exact Below.refl _ _) | (with_reducible assumption))))).mono ?_
  rintro e w1 ⟨rfl, hb1⟩
  have kA : w1.heap[w.heap.size]? = some (.cells #[.slice a1 n2 c1, .slice a2 n2 c2, .slice a3 n3 c3, .int .i64 p.k, .float .f32 p.f0, .float .f32 p.f1, .float .f32 p.f2, .float .f32 p.f3, .float .f32 p.f4, .bool false, .float .f32 p.x1, .float .f32 p.x2, .float .f32 p.x3] 57) := (hb1.block _ (by simp)).trans (MapKept.heap_alloc w _).1
  have b1 : Below w.heap.size w w1 := Below.trans (by (repeat (first | (with_reducible refine Below.drewN ?_) | (with_reducible refine Below.drew ?_) | ((with_reducible refine Below.alloc ?_ ?_ _); rotate_left; (first | omega | (simp <;> omega))) | ((with_reducible refine Below.setCell ?_ ?_ _); rotate_left; (first | omega | (simp <;> omega))) | (with_reducible exact Below.refl _ _) | (with_reducible assumption)))) (hb1.mono (by simp))
  have zA : w.heap.size < w1.heap.size := (Array.getElem?_eq_some_iff.1 kA).1
  have B1 := Lib.hid b1
  have e0 := cell_of kA 0 rfl
  have e1 := cell_of kA 1 rfl
  have e2 := cell_of kA 2 rfl
  have e3 := cell_of kA 3 rfl
  have e4 := cell_of kA 4 rfl
  have e5 := cell_of kA 5 rfl
  have e6 := cell_of kA 6 rfl
  have e7 := cell_of kA 7 rfl
  have e8 := cell_of kA 8 rfl
  have e9 := cell_of kA 9 rfl
  have e10 := cell_of kA 10 rfl
  have e11 := cell_of kA 11 rfl
  have e12 := cell_of kA 12 rfl
  clear hb1 b1 HV
  go_wp2_with fail
  refine (KS.out _ w1.heap.size (B1.out.trans (Below.mono (by (repeat (first | (with_reducible refine Below.drewN ?_) | (with_reducible refine Below.drew ?_) | ((with_reducible refine Below.alloc ?_ ?_ _); rotate_left; (first | omega | (simp <;> omega))) | ((with_reducible refine Below.setCell ?_ ?_ _); rotate_left; (first | omega | (simp <;> omega))) | (with_reducible exact Below.refl _ _) | (with_reducible assumption)))) B1.out.size)) (by first | exact (MapKept.heap_alloc _ _).1 | simp)).mono ?_
  rintro e w2 ⟨rfl, hb2⟩
  have h12 : Below w1.heap.size w1 w2 := Below.trans (by (repeat (first | (with_reducible refine Below.drewN ?_) | (with_reducible refine Below.drew ?_) | ((with_reducible refine Below.alloc ?_ ?_ _); rotate_left; (first | omega | (simp <;> omega))) | ((with_reducible refine Below.setCell ?_ ?_ _); rotate_left; (first | omega | (simp <;> omega))) | (with_reducible exact Below.refl _ _) | (with_reducible assumption)))) (hb2.mono (by simp))
  have z0 := (h12.cell (p := ⟨w.heap.size, 0, none⟩) zA).trans e0
  have z1 := (h12.cell (p := ⟨w.heap.size, 1, none⟩) zA).trans e1
  have z2 := (h12.cell (p := ⟨w.heap.size, 2, none⟩) zA).trans e2
  have z3 := (h12.cell (p := ⟨w.heap.size, 3, none⟩) zA).trans e3
  have z4 := (h12.cell (p := ⟨w.heap.size, 4, none⟩) zA).trans e4
  have z5 := (h12.cell (p := ⟨w.heap.size, 5, none⟩) zA).trans e5
  have z6 := (h12.cell (p := ⟨w.heap.size, 6, none⟩) zA).trans e6
  have z7 := (h12.cell (p := ⟨w.heap.size, 7, none⟩) zA).trans e7
  have z8 := (h12.cell (p := ⟨w.heap.size, 8, none⟩) zA).trans e8
  have zA2 : w.heap.size < w2.heap.size := Nat.lt_of_lt_of_le zA h12.size
  have B2 := Lib.hid (B1.out.trans (h12.mono B1.out.size))
  clear hb2 h12 kA e0 e1 e2 e3 e4 e5 e6 e7 e8 e9 e10 e11 e12 KS zA B1
  go_wp2
  go_loopw [4, 6, 30] (fun v _ i wr => ∃ k : Nat, k ≤ n3 ∧ i = .int .i64 k ∧ v = .string ⟨(LH ++ txtL (xs3.take k)).toArray⟩ ∧ Below w2.heap.size w2 wr) (fun _ _ i _ => n3 - (intOf i).toNat)
  case atStart => exact ⟨0, by omega, rfl, by rw [← HAB.out], Below.refl _ _⟩
  case round =>
    obtain ⟨k, hk, rfl, rfl, hbe⟩ := hrel
    have BE := Lib.hid (B2.out.trans (Below.mono hbe B2.out.size))
    have hlen : (LH ++ txtL (xs3.take k)).length ≤ 500 := by rw [List.length_append, txt_len, List.length_take]; omega
    by_cases hlt : k < n3
    · obtain ⟨b3, o3, rfl, hl3', hc3⟩ := H3.out.at_ (by omega)
      have x0 := (BE.out.cell (p := ⟨b3, o3 + k, none⟩) hl3').trans (hc3 k hlt)
      have C := Lib.hid (KB.out k _ BE.out)
      have BE2 := Lib.hid hbe
      have h8 : (hexL (can .f32 (nth xs3 k))).length = 8 := rfl
      have hs := txt_succ (xs := xs3) (k := k) (by omega)
      have HS : Hid ((⟨(LH ++ txtL (xs3.take k)).toArray⟩ : ByteArray) ++ (⟨#[32]⟩ ++ ⟨(hexL (can .f32 (nth xs3 k))).toArray⟩) = ⟨(LH ++ txtL (xs3.take (k + 1))).toArray⟩) := by
        show _ = _
        rw [hs, show (⟨#[32]⟩ : ByteArray) = ⟨([32] : List UInt8).toArray⟩ from rfl, ba_app, ba_app, List.append_assoc]
      obtain ⟨LN, hLN⟩ : ∃ LN, LN = LH ++ txtL (xs3.take (k + 1)) := ⟨_, rfl⟩
      have HN := Lib.hid hLN
      rw [← hLN] at HS
      clear hbe hs hLN hc3
      generalize LH ++ txtL (xs3.take k) = LT at *
      generalize hexL (can .f32 (nth xs3 k)) = LX at *
      have f1 : ¬ 9223372036854775807 < 1 + LX.length := by omega
      have f2 : ¬ 9223372036854775807 < LT.length + (1 + LX.length) := by omega
      clear hlen h8
      go_wp2_with fail
      refine C.out.mono ?_
      rintro e w3 ⟨rfl, hb3⟩
      have bN := BE2.out.trans (hb3.mono BE2.out.size)
      clear hb3
      go_wp2
      go_roundw
      case rel => exact ⟨k + 1, by omega, by go_num, by rw [← HN.out, ← HS.out], bN⟩
      case measure => simp [intOf]; omega
    · obtain rfl : n3 = k := by omega
      have y0 := (hbe.cell (p := ⟨w.heap.size, 0, none⟩) zA2).trans z0
      have y1 := (hbe.cell (p := ⟨w.heap.size, 1, none⟩) zA2).trans z1
      have y3 := (hbe.cell (p := ⟨w.heap.size, 3, none⟩) zA2).trans z3
      have y4 := (hbe.cell (p := ⟨w.heap.size, 4, none⟩) zA2).trans z4
      have y5 := (hbe.cell (p := ⟨w.heap.size, 5, none⟩) zA2).trans z5
      have y6 := (hbe.cell (p := ⟨w.heap.size, 6, none⟩) zA2).trans z6
      have y7 := (hbe.cell (p := ⟨w.heap.size, 7, none⟩) zA2).trans z7
      have y8 := (hbe.cell (p := ⟨w.heap.size, 8, none⟩) zA2).trans z8
      have zA3 : w.heap.size < wr.heap.size := Nat.lt_of_lt_of_le zA2 hbe.size
      have CF := Lib.hid (KF.out _ BE.out)
      clear hbe z0 z1 z2 z3 z4 z5 z6 z7 z8 KB KF
      generalize LH ++ txtL (xs3.take n3) = LT at *
      have f1 : ¬ 9223372036854775807 < 1 + LF.length := by omega
      have f2 : ¬ 9223372036854775807 < 1 + LF.length + 1 := by omega
      have f3 : ¬ 9223372036854775807 < LT.length + (1 + LF.length + 1) := by omega
      clear hlen bH bS bF
      go_wp2_with fail
      refine CF.out.mono ?_
      rintro e w4 ⟨rfl, hb4⟩
      have B4 := Lib.hid (BE.out.trans (hb4.mono BE.out.size))
      have v0 := (hb4.cell (p := ⟨w.heap.size, 0, none⟩) zA3).trans y0
      have v1 := (hb4.cell (p := ⟨w.heap.size, 1, none⟩) zA3).trans y1
      have zA4 : w.heap.size < w4.heap.size := Nat.lt_of_lt_of_le zA3 hb4.size
      clear hb4 y0 y1 y3 y4 y5 y6 y7 y8 CF BE
      go_wp2_with fail
      refine (c_ringsP w.heap.size a1 a2 c1 c2 n2 rs1 rs2 _ v0 v1 zA4 (RS.below (B := w.heap.size) H1.out B4.out (Nat.le_refl _)) (RS.below (B := w.heap.size) H2.out B4.out (Nat.le_refl _)) q1 (by omega)).mono ?_
      rintro e w5 ⟨g, cg, rfl, hb5, hp5⟩
      have B5 := Lib.hid (B4.out.trans (hb5.mono B4.out.size))
      have HP := Lib.hid hp5
      have hcap := hp5.cap
      have hbig := hp5.big
      generalize inter rs1 rs2 n2 = qs at *
      generalize hm : 2 * n2 = m at *
      have hm6 : m ≤ 6 := by omega
      have XL : Hid (∀ j, j < m → (rat qs j).xs.length = (rat qs j).n) := fun j hj => by
        obtain ⟨_, _, _, _, hra⟩ := hp5.at_ j hj
        exact hra.fs.len
      have LL : Hid (∀ k, k ≤ m → (linesL qs k).length ≤ 20000 * k) := linesL_len fun j hj => lineR_len (HOK.out j hj) (XL.out j hj)
      clear hp5 hb5 hm v0 v1 B4
      go_wp2
      go_loopw [4, 8, 49] (fun v _ i wr => ∃ k : Nat, k ≤ m ∧ i = .int .i64 k ∧ v = .string ⟨(LP ++ linesL qs k).toArray⟩ ∧ Below w5.heap.size w5 wr) (fun _ _ i _ => m - (intOf i).toNat)
      case atStart => exact ⟨0, by omega, rfl, by rw [← HC.out], Below.refl _ _⟩
      case round =>
        obtain ⟨k, hk, rfl, rfl, hbe⟩ := hrel
        have BE := Lib.hid (B5.out.trans (Below.mono hbe B5.out.size))
        by_cases hlt : k < m
        · obtain ⟨bb, oo, hpt, hbb, hra⟩ := (HP.out.below hbe (Nat.le_refl _)).at_ k hlt
          have x0 := hra.c0
          have x1 := hra.c1
          have C := Lib.hid (KR.out _ (HOK.out k hlt) (HBD.out k hlt) _ BE.out hra.fs)
          have hlen : (LP ++ linesL qs k).length ≤ 200000 := by
            have := LL.out k (by omega)
            rw [List.length_append]; omega
          have hx := XL.out k hlt
          have ho := ok_n (HOK.out k hlt)
          have hrl : (ringL (rat qs k).n (rat qs k).i (rat qs k).xs).length ≤ 20000 := by
            have := ringL_len (rat qs k).n (rat qs k).i.toNat (rat qs k).xs (by omega) (by omega) hx
            rwa [Int.toNat_of_nonneg ho.2.2.1] at this
          have hline : ringL (rat qs k).n (rat qs k).i (rat qs k).xs ++ [10] = lineR (rat qs k) := by
            have := ring_line (n := (rat qs k).n) (i := (rat qs k).i.toNat) (xs_ne hx ho.1)
            rwa [Int.toNat_of_nonneg ho.2.2.1] at this
          have HS : Hid ((⟨(LP ++ linesL qs k).toArray⟩ : ByteArray) ++ (⟨(ringL (rat qs k).n (rat qs k).i (rat qs k).xs).toArray⟩ ++ ⟨#[10]⟩) = ⟨(LP ++ linesL qs (k + 1)).toArray⟩) := by
            show _ = _
            rw [show (⟨#[10]⟩ : ByteArray) = ⟨([10] : List UInt8).toArray⟩ from rfl, ba_app, ba_app, hline, linesL, List.append_assoc]
          have BE2 := Lib.hid hbe
          obtain ⟨LN, hLN⟩ : ∃ LN, LN = LP ++ linesL qs (k + 1) := ⟨_, rfl⟩
          have HN := Lib.hid hLN
          rw [← hLN] at HS
          clear hbe hLN hline ho hra hx
          generalize LP ++ linesL qs k = LT2 at *
          generalize ringL (rat qs k).n (rat qs k).i (rat qs k).xs = LX at *
          have f1 : ¬ 9223372036854775807 < LX.length + 1 := by omega
          have f2 : ¬ 9223372036854775807 < LT2.length + (LX.length + 1) := by omega
          clear hlen hrl bP
          go_wp2_with fail
          refine C.out.mono ?_
          rintro e w6 ⟨rfl, hb6⟩
          have bN := BE2.out.trans (hb6.mono BE2.out.size)
          clear hb6
          go_wp2
          go_roundw
          case rel => exact ⟨k + 1, by omega, by go_num, by rw [← HN.out, ← HS.out], bN⟩
          case measure => simp [intOf]; omega
        · obtain rfl : m = k := by omega
          have bN := BE.out
          go_wp2
          go_ret
          exact ⟨by rw [HX.out]; rfl, bN⟩
end Go.Proofs.YtbdanadmabemdaaDoor
namespace Go.Proofs.YtbdanadmabemdaaDoor
open Go Go.RowKit Fl
theorem tx_same {op : Bool} {n : Nat} {rs1 rs2 ss1 ss2 : List Rg} {xs3 : List Nat} {p : Pn} (h1 : sameC rs1 ss1 n) (h2 : sameC rs2 ss2 n) : txPipe op n ss1 ss2 xs3 p = txPipe op n rs1 rs2 xs3 p := by
  unfold txPipe
  rw [lin2_same h1 h2 _ (Nat.le_refl _)]
theorem PTx.same {n1 : Nat} {rs1 : List Rg} {n2 : Nat} {rs2 : List Rg} {n3 : Nat} {xs3 : List Nat} {p : Pn} {ss1 ss2 : List Rg} (h : PTx n1 rs1 n2 rs2 n3 xs3 p) (hv : pipeB n1 ss1 n2 ss2 n3 xs3 p = true) (h1 : sameC rs1 ss1 n1) (h2 : sameC rs2 ss2 n2) : PTx n1 ss1 n2 ss2 n3 xs3 p :=
  have q := h.ok.eq
  pipe_tx hv (fun j hj => by rw [(h1 j hj).2.1]; exact h.b1 j hj) (fun j hj => by rw [(h2 j hj).2.1]; exact h.b2 j (by omega)) h.b3 h.g0 h.g1 h.g2 h.g3 h.g4 h.y1 h.y2 h.y3
theorem k_PipeText (a1 : Option Addr) (n1 c1 : Nat) (rs1 : List Rg) (a2 : Option Addr) (n2 c2 : Nat) (rs2 : List Rg) (a3 : Option Addr) (n3 c3 : Nat) (xs3 : List Nat) (k : Int) (f0 f1 f2 f3 f4 : Nat) (op : Bool) (x1 x2 x3 : Nat) (w : World) (hT : Tb w) (h1 : RS w a1 n1 c1 rs1) (h2 : RS w a2 n2 c2 rs2) (h3 : FS w a3 n3 c3 xs3) (b1 : ∀ j, j < n1 → (∀ i, nth (rat rs1 j).xs i < 4294967296) ∧ (-9223372036854775808 ≤ (rat rs1 j).i ∧ (rat rs1 j).i ≤ 9223372036854775807)) (b2 : ∀ j, j < n2 → (∀ i, nth (rat rs2 j).xs i < 4294967296) ∧ (-9223372036854775808 ≤ (rat rs2 j).i ∧ (rat rs2 j).i ≤ 9223372036854775807)) (b3 : ∀ i, nth xs3 i < 4294967296) (g0 : f0 < 4294967296) (g1 : f1 < 4294967296) (g2 : f2 < 4294967296) (g3 : f3 < 4294967296) (g4 : f4 < 4294967296) (y1 : x1 < 4294967296) (y2 : x2 < 4294967296) (y3 : x3 < 4294967296) :
    Calls Tryd.prog 5 #[.agg #[.slice a1 n1 c1, .slice a2 n2 c2, .slice a3 n3 c3, .int .i64 k, .float .f32 f0, .float .f32 f1, .float .f32 f2, .float .f32 f3, .float .f32 f4, .bool op, .float .f32 x1, .float .f32 x2, .float .f32 x3]] w (RetV (.bool true) w) := by
  cases hv : pipeB n1 rs1 n2 rs2 n3 xs3 ⟨k, f0, f1, f2, f3, f4, x1, x2, x3⟩
  · exact l_PipeText a1 n1 c1 rs1 a2 n2 c2 rs2 a3 n3 c3 xs3 k f0 f1 f2 f3 f4 op x1 x2 x3 ⟨([] : List UInt8).toArray⟩ w Tb (fun _ _ _ h hb hB => h.below hb hB) hT h1 h2 h3
      (fun W d1 d2 d3 e1 e2 e3 ss1 ss2 t r1 r2 r3 s1 s2 => c_sPipeText_no d1 n1 e1 ss1 d2 n2 e2 ss2 d3 n3 e3 xs3 ⟨k, f0, f1, f2, f3, f4, x1, x2, x3⟩ op W r1 r2 r3 (by rw [pipeB_same s1 s2]; exact hv))
      (fun W d1 d2 d3 e1 e2 e3 ss1 ss2 t r1 r2 r3 s1 s2 => c_PipeText_no d1 n1 e1 ss1 d2 n2 e2 ss2 d3 n3 e3 xs3 ⟨k, f0, f1, f2, f3, f4, x1, x2, x3⟩ op W r1 r2 r3 (by rw [pipeB_same s1 s2]; exact hv))
  · have bd : PTx n1 rs1 n2 rs2 n3 xs3 ⟨k, f0, f1, f2, f3, f4, x1, x2, x3⟩ := pipe_tx hv (fun j hj => (b1 j hj).1) (fun j hj => (b2 j hj).1) b3 g0 g1 g2 g3 g4 y1 y2 y3
    have q := bd.ok.eq
    subst q
    refine l_PipeText a1 n2 c1 rs1 a2 n2 c2 rs2 a3 n3 c3 xs3 k f0 f1 f2 f3 f4 op x1 x2 x3 ⟨(txPipe op n2 rs1 rs2 xs3 ⟨k, f0, f1, f2, f3, f4, x1, x2, x3⟩).toArray⟩ w Tb (fun _ _ _ h hb hB => h.below hb hB) hT h1 h2 h3
      (fun W d1 d2 d3 e1 e2 e3 ss1 ss2 t r1 r2 r3 s1 s2 => ?_) (fun W d1 d2 d3 e1 e2 e3 ss1 ss2 t r1 r2 r3 s1 s2 => ?_)
    · have hw := (pipeB_same (xs3 := xs3) (n3 := n3) (p := ⟨k, f0, f1, f2, f3, f4, x1, x2, x3⟩) s1 s2).trans hv
      rw [← tx_same (op := op) (xs3 := xs3) (p := ⟨k, f0, f1, f2, f3, f4, x1, x2, x3⟩) s1 s2]
      exact c_sPipeText_ok d1 n2 e1 ss1 d2 n2 e2 ss2 d3 n3 e3 xs3 ⟨k, f0, f1, f2, f3, f4, x1, x2, x3⟩ op W r1 r2 r3 hw (bd.same hw s1 s2)
    · have hw := (pipeB_same (xs3 := xs3) (n3 := n3) (p := ⟨k, f0, f1, f2, f3, f4, x1, x2, x3⟩) s1 s2).trans hv
      rw [← tx_same (op := op) (xs3 := xs3) (p := ⟨k, f0, f1, f2, f3, f4, x1, x2, x3⟩) s1 s2]
      cases op
      · exact c_PipeText_ok_false d1 n2 e1 ss1 d2 n2 e2 ss2 d3 n3 e3 xs3 ⟨k, f0, f1, f2, f3, f4, x1, x2, x3⟩ W r1 r2 r3 hw t (bd.same hw s1 s2)
      · exact c_PipeText_ok_true d1 n2 e1 ss1 d2 n2 e2 ss2 d3 n3 e3 xs3 ⟨k, f0, f1, f2, f3, f4, x1, x2, x3⟩ W r1 r2 r3 hw t (bd.same hw s1 s2)
end Go.Proofs.YtbdanadmabemdaaDoor
