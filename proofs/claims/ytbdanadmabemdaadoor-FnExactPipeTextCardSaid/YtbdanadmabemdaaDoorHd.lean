
/-
The texts of samples: the program.
-/
import Derived.Test.YtbdanadmabemdaaDoorHc
import Derived.Test.YtbdanadmabemdaaDoorAg
namespace Go.Proofs.YtbdanadmabemdaaDoor
open Go Go.RowKit Fl
theorem infoST : (Tryd.prog.info? 9).map (fun i => (i.zero, i.size, i.bytes)) = some (some (.string ByteArray.empty), 1, 16) := by kernel_rfl
theorem run_strs (w : World) (base : Nat) (v : Value) (n : Nat) (xs : List Value) (h : w.ownsRow base 9 1 v n xs) (hn : n ≤ 1000000) (hb : base ≤ w.heap.size) (g m : Nat) (us : List Value) (hl : us.length = m) (hm : m ≤ 1000000) (hu : ∀ u ∈ us, ∃ p, u = .string p) (hc : w.heap[g]? = some (.cells us.toArray 9)) :
    ∃ v' w', (bigAppend #[103, 103] 103 #[v, .slice (some ⟨g, 0, none⟩) m m]).run Tryd.prog w = .ok v' w' ∧ w'.ownsRow base 9 1 v' (n + m) (xs ++ us) ∧ Below base w w' := by
  obtain ⟨i, hi, hz, hsz, hby⟩ := info_parts infoST
  obtain ⟨v', w', h1, h2, h3, _⟩ := run_append_own (P := Tryd.prog) w base 103 103 9 i (.string ByteArray.empty) 1 16 Tryd.underlying103 hi hz hsz hby rfl (by omega) v n xs h ⟨g, 0, none⟩ m m us (by omega)
    (fun j u hj => by rw [Addr.add_mid, Nat.zero_add, cell_block hc]; simpa using hj) (fun u hx => by obtain ⟨p, rfl⟩ := hu u hx; rfl) (by unfold maxLen; omega) (by omega) hb
  exact ⟨v', w', h1, h2, own_below h h3 hb⟩
/-- the text of a sample -/
def hx (x : Nat) : List UInt8 := hexL (can .f32 x)
def sx (xs : List Nat) : List ByteArray := xs.map fun x => ⟨(hx x).toArray⟩
/-- the texts of samples, a blank ahead of each -/
def txtL (xs : List Nat) : List UInt8 := Lib.joinTail [32] (xs.map hx)
theorem can_lt {x : Nat} (h : x < 4294967296) : can .f32 x < 4294967296 := by
  unfold can
  split
  · decide
  · exact h
theorem sx_get {xs : List Nat} {k : Nat} (h : k < xs.length) : (sx xs)[k]? = some ⟨(hx (nth xs k)).toArray⟩ := by
  unfold sx nth
  rw [List.getElem?_map, List.getElem?_eq_getElem h]
  simp [h]
theorem sx_data (xs : List Nat) : (sx xs).map (·.data.toList) = xs.map hx := by
  unfold sx
  rw [List.map_map]
  rfl
theorem join_txt (xs : List Nat) : Lib.join (xs.map hx) [32] = (txtL xs).tail := by
  cases xs with
  | nil => rfl
  | cons x r =>
    rw [List.map_cons, Lib.join_cons]
    rfl
theorem hx_len (x : Nat) : (hx x).length = 8 := rfl
theorem txt_len (xs : List Nat) : (txtL xs).length = 9 * xs.length := by
  unfold txtL
  induction xs with
  | nil => rfl
  | cons x r ih =>
    simp only [Lib.joinTail, List.map_cons, List.flatten_cons, List.length_append, List.length_cons, hx_len] at ih ⊢
    rw [ih]
    simp
    omega
set_option maxHeartbeats 1000000 in
theorem c_samplesText (a : Option Addr) (n c : Nat) (xs : List Nat) (w : World) (h : FS w a n c xs) (hx' : ∀ i, nth xs i < 4294967296) (hn : n ≤ 100000) (hT : Tb w) :
    Calls Tryd.prog 27 #[.slice a n c] w (RetS (txtL xs).tail w) := by
  have R0 : Hid (w.ownsRow w.heap.size 9 1 (.slice none 0 0) 0 (((sx xs).take 0).map Value.string)) := World.ownsRow_nil w w.heap.size 9 1
  have H := Lib.hid h
  have HT := Lib.hid hT
  have hl := h.len
  have hbig : n ≤ 9223372036854775807 := Nat.le_trans h.cap h.big
  have HX := Lib.hid hx'
  clear h hT hx'
  go_enter Tryd.func27, Tryd.ntmps27
  go_wp2
  go_loopw [3, 5, 8] (fun vv _ i wr => ∃ k : Nat, k ≤ n ∧ i = .int .i64 k ∧ Hid (wr.ownsRow w.heap.size 9 1 vv k (((sx xs).take k).map Value.string)) ∧ Below w.heap.size w wr) (fun _ _ i _ => n - (intOf i).toNat)
  case atStart => exact ⟨0, by omega, rfl, R0, Below.refl _ _⟩
  case round =>
    clear R0
    obtain ⟨k, hk, rfl, hown, hbe⟩ := hrel
    by_cases hlt : k < n
    · obtain ⟨b, o, rfl, hbl, hc⟩ := H.out.at_ (by omega)
      have x0 := (hbe.cell (p := ⟨b, o + k, none⟩) hbl).trans (hc k hlt)
      have HBE := Lib.hid hbe
      have hg := sx_get (xs := xs) (k := k) (by omega)
      clear hc hbe
      go_wp2_with fail
      refine (c_bitsText _ (can_lt (HX.out k)) _ (HT.out.below (B := w.heap.size) HBE.out (Nat.le_refl _))).mono ?_
      rintro e w1 ⟨rfl, hb1⟩
      have hb2 := HBE.out.trans (hb1.mono HBE.out.size)
      have ho2 := own_keep hown.out hb1
      have hG : ((sx xs).take k).map Value.string ++ [Value.string ⟨(hexL (can .f32 (nth xs k))).toArray⟩] = ((sx xs).take (k + 1)).map Value.string := by
        rw [List.take_add_one, hg]
        simp [hx]
      have HG := Lib.hid hG
      clear hg hown hb1 hG
      generalize hS : (⟨(hexL (can .f32 (nth xs k))).toArray⟩ : ByteArray) = S at *
      clear hS
      obtain ⟨v', W', hap, hown', hbl2⟩ := run_strs (w1.alloc (.cells #[.string S] 9)) w.heap.size u3 k _ (own_keep ho2 (Below.alloc (Below.refl _ _) (Nat.le_refl _) _)) (by omega) (by have := hb2.size; simp; omega) w1.heap.size 1 [.string S] rfl (by omega) (fun u hu => by simp at hu; subst hu; exact ⟨_, rfl⟩) (MapKept.heap_alloc w1 _).1
      rw [HG.out] at hown'
      have bz := hb2.size
      have hB : Hid (Below w.heap.size w W') := Below.trans (by (repeat (first | (with_reducible refine Below.drewN ?_) | (with_reducible refine Below.drew ?_) | ((with_reducible refine Below.alloc ?_ ?_ _); rotate_left; (first | omega | (simp <;> omega))) | ((with_reducible refine Below.setCell ?_ ?_ _); rotate_left; (first | omega | (simp <;> omega))) | (with_reducible exact Below.refl _ _) | (with_reducible assumption)))) hbl2
      have hO := Lib.hid hown'
      clear hown' hbl2 hb2 ho2 HG
      go_wp2
      go_roundw
      case rel => exact ⟨k + 1, by omega, by go_num, hO, hB.out⟩
      case measure => simp [intOf]; omega
    · obtain rfl : n = k := by omega
      have hfull : ((sx xs).take n).map Value.string = (sx xs).map Value.string := by
        rw [List.take_of_length_le (by unfold sx; rw [List.length_map]; omega)]
      have hO := hown.out
      rw [hfull] at hO
      have HO := Lib.hid hO
      clear hown hO hfull
      have HBE := Lib.hid hbe
      have hlen : (Lib.join ((sx xs).map (·.data.toList)) [32]).length ≤ 140737488355328 := by
        rw [sx_data, join_txt, List.length_tail, txt_len]
        omega
      rcases Nat.eq_zero_or_pos n with h0 | h0
      · subst h0
        obtain rfl : xs = [] := List.eq_nil_of_length_eq_zero hl
        have hv : u3 = .slice none 0 0 ∨ ∃ g c, u3 = .slice (some ⟨g, 0, none⟩) 0 c := by
          obtain ⟨_, h | ⟨g, cap, cur, h, _⟩⟩ := HO.out
          · exact .inl h.1
          · exact .inr ⟨g, cap, h⟩
        rcases hv with rfl | ⟨g, c', rfl⟩
        all_goals
          go_wp2_with fail
          refine (Tryd.strings_Join_none _ _ _ _).mono ?_
          rintro e w2 ⟨rfl, rfl⟩
          go_wp2
          go_ret
          exact ⟨rfl, HBE.out⟩
      · obtain ⟨g, c', rfl, hgb, hgs, hnc, _, hcell⟩ := own_cells HO.out h0
        have hsl : (sx xs).length = n := by unfold sx; rw [List.length_map]; exact hl
        go_wp2_with fail
        have J := Tryd.strings_Join g 0 c' (sx xs) ⟨#[32]⟩ wr (fun j x hj => by
          rw [Nat.zero_add]
          exact hcell j (.string x) (by rw [List.getElem?_map, hj]; rfl)) hgs (by omega) (by omega) hlen
        rw [hsl] at J
        refine J.mono ?_
        rintro e w2 ⟨rfl, hb⟩
        have hb3 := HBE.out.trans (hb.mono HBE.out.size)
        rw [show (Lib.join ((sx xs).map (·.data.toList)) (⟨#[32]⟩ : ByteArray).data.toList) = (txtL xs).tail from by rw [sx_data]; exact join_txt xs]
        go_wp2
        go_ret
        exact ⟨rfl, hb3⟩
end Go.Proofs.YtbdanadmabemdaaDoor
