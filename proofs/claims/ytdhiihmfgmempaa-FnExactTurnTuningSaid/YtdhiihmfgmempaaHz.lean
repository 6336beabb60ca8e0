
/-
The frequencies of keys.
-/
import Derived.Test.YtdhiihmfgmempaaKc
import Derived.Test.YtdhiihmfgmempaaTp
import Derived.Test.YtdhiihmfgmempaaLn
namespace Go.Proofs.Ytdhiihmfgmempaa
open Go Go.RowKit Fl
def okX (x : Nat) : Bool := insB x 3270508544 1123024896
def pwF (x : Nat) : Nat := if okX x = true then down (twoD x) else 0
def cdX (x : Nat) : Int := if okX x = true then 0 else 2
theorem okX_nv (x t : Nat) : okX (nv .f32 x t) = okX x := insB_nv _ _ _ _
theorem okX_nan {x : Nat} (h : okX x = true) : isNaN .f32 x = false := by
  cases hn : isNaN .f32 x
  · rfl
  · exfalso
    unfold okX insB at h
    rw [order_nan_left _ hn] at h
    simp at h
theorem c_TwoTo_any (x t : Nat) (hx : x < 4294967296) (w : World) : Calls Try.prog 51 #[.float .f32 (nv .f32 x t)] w (RetFK (pwF x) (cdX x) w) := by
  cases h : okX x
  · have e1 : pwF x = 0 := by unfold pwF; rw [h]; rfl
    have e2 : cdX x = 2 := by unfold cdX; rw [h]; rfl
    rw [e1, e2]
    exact c_TwoTo_no _ w (by rw [insB_nv]; exact h)
  · have e1 : pwF x = down (twoD x) := by unfold pwF; rw [if_pos h]
    have e2 : cdX x = 0 := by unfold cdX; rw [if_pos h]
    rw [e1, e2, nv_of t (okX_nan h)]
    exact c_TwoTo_ok x hx w h
theorem c_l07Two_any (x t : Nat) (hx : x < 4294967296) (w : World) : Calls Try.prog 101 #[.float .f32 (nv .f32 x t)] w (RetFL (pwF x) (okX x) w) := by
  cases h : okX x
  · have e1 : pwF x = 0 := by unfold pwF; rw [h]; rfl
    rw [e1]
    exact c_l07Two_no _ w (by rw [insB_nv]; exact h)
  · have e1 : pwF x = down (twoD x) := by unfold pwF; rw [if_pos h]
    rw [e1, nv_of t (okX_nan h)]
    exact c_l07Two_ok x hx w h
def hzX (oc : Nat) (xs : List Nat) (n : Nat) (k : Int) : Nat := fop .quo .f32 (centsF oc xs n k) 1150681088
def hzF (ba x : Nat) : Nat := fop .mul .f32 ba (pwF x)
theorem c_hertz (ba oc : Nat) (a : Option Addr) (n c : Nat) (xs : List Nat) (k : Int) (w : World) (h : FS w a n c xs) (h1 : 1 ≤ n) (h2 : n ≤ 31) (h3 : -100 ≤ k) (h4 : k ≤ 100) :
    Calls Try.prog 106 #[.agg #[.float .f32 ba, .float .f32 oc, .slice a n c], .int .i64 k] w (RetFC (hzF ba (hzX oc xs n k)) (cdX (hzX oc xs n k)) w) := by
  have HC : Hid (∀ W, Below w.heap.size w W → Calls Try.prog 92 #[.agg #[.float .f32 ba, .float .f32 oc, .slice a n c], .int .i64 k] W (fun e w' => ∃ t, e = .returned (.float .f32 (nv .f32 (centsF oc xs n k) t)) ∧ Below W.heap.size W w')) := fun W hb => c_cents _ _ _ _ _ xs k W (h.below hb (Nat.le_refl _)) h1 h2 h3 h4
  have hX : fop .quo .f32 (centsF oc xs n k) 1150681088 = hzX oc xs n k := rfl
  have HT := Lib.hid (fun t w => c_TwoTo_any (hzX oc xs n k) t (quo_lt _ _) w)
  have hR : fop .mul .f32 ba (pwF (hzX oc xs n k)) = hzF ba (hzX oc xs n k) := rfl
  clear h h1 h2 h3 h4
  generalize hzF ba (hzX oc xs n k) = R at *
  generalize cdX (hzX oc xs n k) = C at *
  generalize pwF (hzX oc xs n k) = P at *
  generalize hzX oc xs n k = X at *
  generalize centsF oc xs n k = Z at *
  go_enter Try.func106, Try.ntmps106
  go_wp2_with fail
  refine (HC.out _ (by (repeat (first | (with_reducible refine Below.drewN ?_) | (with_reducible refine Below.drew ?_) | ((with_reducible refine Below.alloc ?_ ?_ _); rotate_left; (first | omega | (simp <;> omega))) | ((with_reducible refine Below.setCell ?_ ?_ _); rotate_left; (first | omega | (simp <;> omega))) | (with_reducible exact Below.refl _ _) | (with_reducible assumption))))).mono ?_
  rintro e w1 ⟨t, rfl, hb1⟩
  obtain ⟨hc1, hf1, hz1⟩ := bcell hb1
  try simp at hz1
  have zb1 : w.heap.size ≤ w1.heap.size := by omega
  try (have z1_0 : w.heap.size < w1.heap.size := by omega)
  try (have z1_1 : w.heap.size + 1 < w1.heap.size := by omega)
  try (have z1_2 : w.heap.size + 1 + 1 < w1.heap.size := by omega)
  try (have z1_3 : w.heap.size + 1 + 1 + 1 < w1.heap.size := by omega)
  have b1 : Below w.heap.size w w1 := Below.trans (by (repeat (first | (with_reducible refine Below.drewN ?_) | (with_reducible refine Below.drew ?_) | ((with_reducible refine Below.alloc ?_ ?_ _); rotate_left; (first | omega | (simp <;> omega))) | ((with_reducible refine Below.setCell ?_ ?_ _); rotate_left; (first | omega | (simp <;> omega))) | (with_reducible exact Below.refl _ _) | (with_reducible assumption)))) (hb1.mono (by first | omega | (simp <;> omega)))
  clear HC
  go_wp2_with (go_at_call 51; refine (HT.out _ _).mono ?_; rintro e w' ⟨t2, n2, rfl, rfl⟩)
  go_ret2
  exact ⟨_, by rw [← hR]; rfl, by (repeat (first | (with_reducible refine Below.drewN ?_) | (with_reducible refine Below.drew ?_) | ((with_reducible refine Below.alloc ?_ ?_ _); rotate_left; (first | omega | (simp <;> omega))) | ((with_reducible refine Below.setCell ?_ ?_ _); rotate_left; (first | omega | (simp <;> omega))) | (with_reducible exact Below.refl _ _) | (with_reducible assumption)))⟩
theorem c_l07Hertz (b o : Nat) (ba oc : Nat) (a : Option Addr) (n c : Nat) (xs : List Nat) (k : Int) (w : World) (h : FS w a n c xs) (h1 : 1 ≤ n) (h2 : n ≤ 31) (h3 : -100 ≤ k) (h4 : k ≤ 100) (e0 : w.cell? ⟨b, o, none⟩ = some (.float .f32 ba)) (e1 : w.cell? ⟨b, o + 1, none⟩ = some (.float .f32 oc)) (e2 : w.cell? ⟨b, o + 2, none⟩ = some (.slice a n c)) :
    Calls Try.prog 107 #[.pointer (some ⟨b, o, none⟩), .int .i64 k] w (RetFL (hzF ba (hzX oc xs n k)) (okX (hzX oc xs n k)) w) := by
  have HC := Lib.hid (c_l07KeyCents b o ba oc a n c xs k w h h1 h2 h3 h4 e0 e1 e2)
  have hX : fop .quo .f32 (centsF oc xs n k) 1150681088 = hzX oc xs n k := rfl
  have HT := Lib.hid (fun t w => c_l07Two_any (hzX oc xs n k) t (quo_lt _ _) w)
  have hR : fop .mul .f32 ba (pwF (hzX oc xs n k)) = hzF ba (hzX oc xs n k) := rfl
  clear h h1 h2 h3 h4
  generalize hzF ba (hzX oc xs n k) = R at *
  generalize okX (hzX oc xs n k) = C at *
  generalize pwF (hzX oc xs n k) = P at *
  generalize hzX oc xs n k = X at *
  generalize centsF oc xs n k = Z at *
  go_enter Try.func107, Try.ntmps107
  go_wp2_with (first | (go_at_call 90; refine (HC.out).mono ?_; rintro e w' ⟨t1, n1, rfl, rfl⟩) | (go_at_call 101; refine (HT.out _ _).mono ?_; rintro e w' ⟨t2, n2, rfl, rfl⟩))
  go_ret2
  exact ⟨_, _, by rw [← hR]; rfl, by first | rfl | rw [World.drewN_drewN]⟩
/-! ### the frequency of a key, with a code -/
def khC (ba oc : Nat) (xs : List Nat) (n : Nat) (k : Int) : Int := if tunB ba oc xs n = false then 1 else if inB k (-100) 100 = false then 2 else cdX (hzX oc xs n k)
def khV (ba oc : Nat) (xs : List Nat) (n : Nat) (k : Int) : Nat := if khC ba oc xs n k = 0 then hzF ba (hzX oc xs n k) else 0
theorem cdX_cases (x : Nat) : (okX x = true ∧ cdX x = 0) ∨ (okX x = false ∧ cdX x = 2) := by
  cases h : okX x
  · exact .inr ⟨rfl, by unfold cdX; rw [h]; rfl⟩
  · exact .inl ⟨rfl, by unfold cdX; rw [if_pos h]⟩
theorem c_KeyHertz (ba oc : Nat) (a : Option Addr) (n c : Nat) (xs : List Nat) (k : Int) (w : World) (h : FS w a n c xs) :
    Calls Try.prog 60 #[.agg #[.float .f32 ba, .float .f32 oc, .slice a n c], .int .i64 k] w (RetFC (khV ba oc xs n k) (khC ba oc xs n k) w) := by
  have K1 : Hid (∀ W, Below w.heap.size w W → Calls Try.prog 29 #[.agg #[.float .f32 ba, .float .f32 oc, .slice a n c]] W (RetV (.bool (tunB ba oc xs n)) W)) := fun W hb => c_ValidTuning _ _ _ _ _ xs W (h.below hb (Nat.le_refl _))
  cases hv : tunB ba oc xs n
  · have e1 : khC ba oc xs n k = 1 := by unfold khC; rw [if_pos hv]
    have e2 : khV ba oc xs n k = 0 := by unfold khV; rw [e1]; rfl
    rw [e1, e2]
    rw [hv] at K1
    clear h hv e1 e2
    go_enter Try.func60, Try.ntmps60
    go_wp2_with fail
    refine (K1.out _ (by (repeat (first | (with_reducible refine Below.drewN ?_) | (with_reducible refine Below.drew ?_) | ((with_reducible refine Below.alloc ?_ ?_ _); rotate_left; (first | omega | (simp <;> omega))) | ((with_reducible refine Below.setCell ?_ ?_ _); rotate_left; (first | omega | (simp <;> omega))) | (with_reducible exact Below.refl _ _) | (with_reducible assumption))))).mono ?_
    rintro e w1 ⟨rfl, hb1⟩
    obtain ⟨hc1, hf1, hz1⟩ := bcell hb1
    try simp at hz1
    have zb1 : w.heap.size ≤ w1.heap.size := by omega
    try (have z1_0 : w.heap.size < w1.heap.size := by omega)
    try (have z1_1 : w.heap.size + 1 < w1.heap.size := by omega)
    try (have z1_2 : w.heap.size + 1 + 1 < w1.heap.size := by omega)
    try (have z1_3 : w.heap.size + 1 + 1 + 1 < w1.heap.size := by omega)
    have b1 : Below w.heap.size w w1 := Below.trans (by (repeat (first | (with_reducible refine Below.drewN ?_) | (with_reducible refine Below.drew ?_) | ((with_reducible refine Below.alloc ?_ ?_ _); rotate_left; (first | omega | (simp <;> omega))) | ((with_reducible refine Below.setCell ?_ ?_ _); rotate_left; (first | omega | (simp <;> omega))) | (with_reducible exact Below.refl _ _) | (with_reducible assumption)))) (hb1.mono (by first | omega | (simp <;> omega)))
    go_wp2
    go_ret2
    exact ⟨0, rfl, by (repeat (first | (with_reducible refine Below.drewN ?_) | (with_reducible refine Below.drew ?_) | ((with_reducible refine Below.alloc ?_ ?_ _); rotate_left; (first | omega | (simp <;> omega))) | ((with_reducible refine Below.setCell ?_ ?_ _); rotate_left; (first | omega | (simp <;> omega))) | (with_reducible exact Below.refl _ _) | (with_reducible assumption)))⟩
  rw [hv] at K1
  cases hk : inB k (-100) 100
  · have e1 : khC ba oc xs n k = 2 := by unfold khC; rw [if_neg (by rw [hv]; decide), if_pos hk]
    have e2 : khV ba oc xs n k = 0 := by unfold khV; rw [e1]; rfl
    rw [e1, e2]
    clear h hv e1 e2
    go_enter Try.func60, Try.ntmps60
    go_wp2_with fail
    refine (K1.out _ (by (repeat (first | (with_reducible refine Below.drewN ?_) | (with_reducible refine Below.drew ?_) | ((with_reducible refine Below.alloc ?_ ?_ _); rotate_left; (first | omega | (simp <;> omega))) | ((with_reducible refine Below.setCell ?_ ?_ _); rotate_left; (first | omega | (simp <;> omega))) | (with_reducible exact Below.refl _ _) | (with_reducible assumption))))).mono ?_
    rintro e w1 ⟨rfl, hb1⟩
    obtain ⟨hc1, hf1, hz1⟩ := bcell hb1
    try simp at hz1
    have zb1 : w.heap.size ≤ w1.heap.size := by omega
    try (have z1_0 : w.heap.size < w1.heap.size := by omega)
    try (have z1_1 : w.heap.size + 1 < w1.heap.size := by omega)
    try (have z1_2 : w.heap.size + 1 + 1 < w1.heap.size := by omega)
    try (have z1_3 : w.heap.size + 1 + 1 + 1 < w1.heap.size := by omega)
    have b1 : Below w.heap.size w w1 := Below.trans (by (repeat (first | (with_reducible refine Below.drewN ?_) | (with_reducible refine Below.drew ?_) | ((with_reducible refine Below.alloc ?_ ?_ _); rotate_left; (first | omega | (simp <;> omega))) | ((with_reducible refine Below.setCell ?_ ?_ _); rotate_left; (first | omega | (simp <;> omega))) | (with_reducible exact Below.refl _ _) | (with_reducible assumption)))) (hb1.mono (by first | omega | (simp <;> omega)))
    go_wp2_with (go_at_call 91; refine (c_isKey _ _).mono ?_; rintro e w' ⟨rfl, n1, rfl⟩)
    go_ret2
    exact ⟨0, rfl, by (repeat (first | (with_reducible refine Below.drewN ?_) | (with_reducible refine Below.drew ?_) | ((with_reducible refine Below.alloc ?_ ?_ _); rotate_left; (first | omega | (simp <;> omega))) | ((with_reducible refine Below.setCell ?_ ?_ _); rotate_left; (first | omega | (simp <;> omega))) | (with_reducible exact Below.refl _ _) | (with_reducible assumption)))⟩
  have hn := tunB_n hv
  have hkk := inB_yes hk
  have K2 : Hid (∀ W, Below w.heap.size w W → Calls Try.prog 106 #[.agg #[.float .f32 ba, .float .f32 oc, .slice a n c], .int .i64 k] W (RetFC (hzF ba (hzX oc xs n k)) (cdX (hzX oc xs n k)) W)) := fun W hb => c_hertz _ _ _ _ _ xs k W (h.below hb (Nat.le_refl _)) hn.1 hn.2 hkk.1 hkk.2
  have eC : khC ba oc xs n k = cdX (hzX oc xs n k) := by unfold khC; rw [if_neg (by rw [hv]; decide), if_neg (by rw [hk]; decide)]
  have eV : khV ba oc xs n k = if cdX (hzX oc xs n k) = 0 then hzF ba (hzX oc xs n k) else 0 := by unfold khV; rw [eC]
  rw [eC, eV]
  rcases cdX_cases (hzX oc xs n k) with ⟨_, hc⟩ | ⟨_, hc⟩
  all_goals
    rw [hc] at K2 ⊢
    simp only [if_true, show ¬ (2 : Int) = 0 by decide, if_false]
    generalize hzF ba (hzX oc xs n k) = R at *
    clear h hv eC eV hn hkk hc
    go_enter Try.func60, Try.ntmps60
    go_wp2_with fail
    refine (K1.out _ (by (repeat (first | (with_reducible refine Below.drewN ?_) | (with_reducible refine Below.drew ?_) | ((with_reducible refine Below.alloc ?_ ?_ _); rotate_left; (first | omega | (simp <;> omega))) | ((with_reducible refine Below.setCell ?_ ?_ _); rotate_left; (first | omega | (simp <;> omega))) | (with_reducible exact Below.refl _ _) | (with_reducible assumption))))).mono ?_
    rintro e w1 ⟨rfl, hb1⟩
    obtain ⟨hc1, hf1, hz1⟩ := bcell hb1
    try simp at hz1
    have zb1 : w.heap.size ≤ w1.heap.size := by omega
    try (have z1_0 : w.heap.size < w1.heap.size := by omega)
    try (have z1_1 : w.heap.size + 1 < w1.heap.size := by omega)
    try (have z1_2 : w.heap.size + 1 + 1 < w1.heap.size := by omega)
    try (have z1_3 : w.heap.size + 1 + 1 + 1 < w1.heap.size := by omega)
    have b1 : Below w.heap.size w w1 := Below.trans (by (repeat (first | (with_reducible refine Below.drewN ?_) | (with_reducible refine Below.drew ?_) | ((with_reducible refine Below.alloc ?_ ?_ _); rotate_left; (first | omega | (simp <;> omega))) | ((with_reducible refine Below.setCell ?_ ?_ _); rotate_left; (first | omega | (simp <;> omega))) | (with_reducible exact Below.refl _ _) | (with_reducible assumption)))) (hb1.mono (by first | omega | (simp <;> omega)))
    go_wp2_with (go_at_call 91; refine (c_isKey _ _).mono ?_; rintro e w' ⟨rfl, n1, rfl⟩)
    refine (K2.out _ (by (repeat (first | (with_reducible refine Below.drewN ?_) | (with_reducible refine Below.drew ?_) | ((with_reducible refine Below.alloc ?_ ?_ _); rotate_left; (first | omega | (simp <;> omega))) | ((with_reducible refine Below.setCell ?_ ?_ _); rotate_left; (first | omega | (simp <;> omega))) | (with_reducible exact Below.refl _ _) | (with_reducible assumption))))).mono ?_
    rintro e w2 ⟨t, rfl, hb2⟩
    obtain ⟨hc2, hf2, hz2⟩ := bcell hb2
    try simp at hz2
    have zb2 : w.heap.size ≤ w2.heap.size := by omega
    try (have z2_0 : w.heap.size < w2.heap.size := by omega)
    try (have z2_1 : w.heap.size + 1 < w2.heap.size := by omega)
    try (have z2_2 : w.heap.size + 1 + 1 < w2.heap.size := by omega)
    try (have z2_3 : w.heap.size + 1 + 1 + 1 < w2.heap.size := by omega)
    have b2 : Below w.heap.size w w2 := Below.trans (by (repeat (first | (with_reducible refine Below.drewN ?_) | (with_reducible refine Below.drew ?_) | ((with_reducible refine Below.alloc ?_ ?_ _); rotate_left; (first | omega | (simp <;> omega))) | ((with_reducible refine Below.setCell ?_ ?_ _); rotate_left; (first | omega | (simp <;> omega))) | (with_reducible exact Below.refl _ _) | (with_reducible assumption)))) (hb2.mono (by first | omega | (simp <;> omega)))
    go_wp2
    go_ret2
    first | exact ⟨0, rfl, by (repeat (first | (with_reducible refine Below.drewN ?_) | (with_reducible refine Below.drew ?_) | ((with_reducible refine Below.alloc ?_ ?_ _); rotate_left; (first | omega | (simp <;> omega))) | ((with_reducible refine Below.setCell ?_ ?_ _); rotate_left; (first | omega | (simp <;> omega))) | (with_reducible exact Below.refl _ _) | (with_reducible assumption)))⟩ | exact ⟨_, rfl, by (repeat (first | (with_reducible refine Below.drewN ?_) | (with_reducible refine Below.drew ?_) | ((with_reducible refine Below.alloc ?_ ?_ _); rotate_left; (first | omega | (simp <;> omega))) | ((with_reducible refine Below.setCell ?_ ?_ _); rotate_left; (first | omega | (simp <;> omega))) | (with_reducible exact Below.refl _ _) | (with_reducible assumption)))⟩
theorem c_l07Asked (b o : Nat) (ba oc : Nat) (a : Option Addr) (n c : Nat) (xs : List Nat) (k : Int) (w : World) (h : FS w a n c xs) (e0 : w.cell? ⟨b, o, none⟩ = some (.float .f32 ba)) (e1 : w.cell? ⟨b, o + 1, none⟩ = some (.float .f32 oc)) (e2 : w.cell? ⟨b, o + 2, none⟩ = some (.slice a n c)) :
    Calls Try.prog 105 #[.pointer (some ⟨b, o, none⟩), .int .i64 k] w (RetFK (khV ba oc xs n k) (khC ba oc xs n k) w) := by
  have K1 := Lib.hid (c_l07Ok b o ba oc a n c xs w h e0 e1 e2)
  cases hv : tunB ba oc xs n
  · have e1 : khC ba oc xs n k = 1 := by unfold khC; rw [if_pos hv]
    have e2 : khV ba oc xs n k = 0 := by unfold khV; rw [e1]; rfl
    rw [e1, e2]
    rw [hv] at K1
    clear h hv e1 e2
    go_enter Try.func105, Try.ntmps105
    go_wp2_with (go_at_call 76; refine (K1.out).mono ?_; rintro e w' ⟨rfl, n1, rfl⟩)
    go_ret2
    exact ⟨0, _, rfl, rfl⟩
  rw [hv] at K1
  cases hk : inB k (-100) 100
  · have e1 : khC ba oc xs n k = 2 := by unfold khC; rw [if_neg (by rw [hv]; decide), if_pos hk]
    have e2 : khV ba oc xs n k = 0 := by unfold khV; rw [e1]; rfl
    rw [e1, e2]
    clear h hv e1 e2
    go_enter Try.func105, Try.ntmps105
    go_wp2_with (first | (go_at_call 76; refine (K1.out).mono ?_; rintro e w' ⟨rfl, n1, rfl⟩) | (go_at_call 89; refine (c_l07Key _ _).mono ?_; rintro e w' ⟨rfl, n2, rfl⟩))
    go_ret2
    exact ⟨0, _, rfl, by first | rfl | rw [World.drewN_drewN]⟩
  have hn := tunB_n hv
  have hkk := inB_yes hk
  have K2 : Hid (∀ q, Calls Try.prog 107 #[.pointer (some ⟨b, o, none⟩), .int .i64 k] (w.drewN q) (RetFL (hzF ba (hzX oc xs n k)) (okX (hzX oc xs n k)) (w.drewN q))) := fun q => c_l07Hertz b o ba oc a n c xs k _ (h.below (below_drewN (Below.refl _ _) _) (Nat.le_refl _)) hn.1 hn.2 hkk.1 hkk.2 (by simpa using e0) (by simpa using e1) (by simpa using e2)
  have eC : khC ba oc xs n k = cdX (hzX oc xs n k) := by unfold khC; rw [if_neg (by rw [hv]; decide), if_neg (by rw [hk]; decide)]
  have eV : khV ba oc xs n k = if cdX (hzX oc xs n k) = 0 then hzF ba (hzX oc xs n k) else 0 := by unfold khV; rw [eC]
  rw [eC, eV]
  rcases cdX_cases (hzX oc xs n k) with ⟨hd, hc⟩ | ⟨hd, hc⟩
  all_goals
    rw [hd] at K2
    rw [hc]
    simp only [if_true, show ¬ (2 : Int) = 0 by decide, if_false]
    generalize hzF ba (hzX oc xs n k) = R at *
    clear h hv eC eV hn hkk hc hd
    go_enter Try.func105, Try.ntmps105
    go_wp2_with (first | (go_at_call 76; refine (K1.out).mono ?_; rintro e w' ⟨rfl, n1, rfl⟩) | (go_at_call 89; refine (c_l07Key _ _).mono ?_; rintro e w' ⟨rfl, n2, rfl⟩) | (go_at_call 107; refine (K2.out _).mono ?_; rintro e w' ⟨t3, n3, rfl, rfl⟩))
    go_ret2
    first | exact ⟨0, _, rfl, by first | rfl | rw [World.drewN_drewN]⟩ | exact ⟨_, _, rfl, by first | rfl | rw [World.drewN_drewN]⟩
theorem c_sKeyHertz (ba oc : Nat) (a : Option Addr) (n c : Nat) (xs : List Nat) (k : Int) (w : World) (h : FS w a n c xs) :
    Calls Try.prog 59 #[.agg #[.float .f32 ba, .float .f32 oc, .slice a n c], .int .i64 k] w (RetFC (khV ba oc xs n k) (khC ba oc xs n k) w) := by
  have h' := Lib.hid (h.alloc (.cells #[.float .f32 ba, .float .f32 oc, .slice a n c] 31))
  clear h
  go_enter Try.func59, Try.ntmps59
  go_wp2_with fail
  refine (c_l07Asked _ 0 ba oc a n c xs k _ h'.out (by simp) (by simp) (by simp)).mono ?_
  rintro e w' ⟨t1, n1, rfl, rfl⟩
  go_wp2
  go_ret2
  exact ⟨_, rfl, by (repeat (first | (with_reducible refine Below.drewN ?_) | (with_reducible refine Below.drew ?_) | ((with_reducible refine Below.alloc ?_ ?_ _); rotate_left; (first | omega | (simp <;> omega))) | ((with_reducible refine Below.setCell ?_ ?_ _); rotate_left; (first | omega | (simp <;> omega))) | (with_reducible exact Below.refl _ _) | (with_reducible assumption)))⟩
set_option maxRecDepth 100000 in
set_option maxHeartbeats 1000000 in
theorem l_KeyHertz (x1 : Nat) (x2 : Nat) (a1 : Option Addr) (n1 c1 : Nat) (xs1 : List Nat) (key : Int) (v : Nat) (code : Int) (w : World) (h_1 : FS w a1 n1 c1 xs1)
    (HS : ∀ W (d1 : Option Addr) (e1 : Nat), FS W d1 n1 e1 xs1 → Calls Try.prog 59 #[.agg #[.float .f32 x1, .float .f32 x2, .slice d1 n1 e1], .int .i64 key] W (RetFC v code W))
    (HI : ∀ W (d1 : Option Addr) (e1 : Nat), FS W d1 n1 e1 xs1 → Calls Try.prog 60 #[.agg #[.float .f32 x1, .float .f32 x2, .slice d1 n1 e1], .int .i64 key] W (RetFC v code W)) :
    Calls Try.prog 14 #[.agg #[.float .f32 x1, .float .f32 x2, .slice a1 n1 c1], .int .i64 key] w (RetV (.bool true) w) := by
  have HS := Lib.hid HS
  have HI := Lib.hid HI
  have M1 : n1 ≤ 9223372036854775807 := Nat.le_trans h_1.cap h_1.big
  have H1 := Lib.hid h_1
  clear h_1
  by_cases ht : (n1 : Int) ≤ 1048576
  · have hl : ¬ (1048576 - n1 : Int) < 0 := by omega
    go_enter Try.func14, Try.ntmps14
    go_wp2_with fail
    refine (c_szTuning_ok _ _ _ _ _ (1048576) _ (by omega) (by omega) M1 (by omega)).mono ?_
    rintro e w1 ⟨rfl, hb1⟩
    obtain ⟨hc1, hf1, hz1⟩ := bcell hb1
    have hk1 := bblk hb1
    have Z1 : w.heap.size ≤ w1.heap.size := by first | exact hz1 | (simp at hz1; omega) | omega
    try (have ZS1 : w.heap.size < w1.heap.size := by first | omega | (simp at hz1; omega))
    try (have Xw_1 : w.heap.size < w1.heap.size := by first | omega | (simp at hz1; omega))
    try (have XXw_1 : w.heap.size < w1.heap.size + 1 := by omega)
    have b1 : Below w.heap.size w w1 := Below.trans (by (repeat (first | (with_reducible refine Below.drewN ?_) | (with_reducible refine Below.drew ?_) | ((with_reducible refine Below.alloc ?_ ?_ _); rotate_left; (first | omega | (simp <;> omega))) | ((with_reducible refine Below.setCell ?_ ?_ _); rotate_left; (first | omega | (simp <;> omega))) | (with_reducible exact Below.refl _ _) | (with_reducible assumption)))) (hb1.mono (by first | omega | (simp <;> omega)))
    go_wp2_with fail
    refine (c_toTuning' x1 x2 a1 n1 c1 xs1 _ (FS.below (B := w.heap.size) H1.out (by (repeat (first | (with_reducible refine Below.drewN ?_) | (with_reducible refine Below.drew ?_) | ((with_reducible refine Below.alloc ?_ ?_ _); rotate_left; (first | omega | (simp <;> omega))) | ((with_reducible refine Below.setCell ?_ ?_ _); rotate_left; (first | omega | (simp <;> omega))) | (with_reducible exact Below.refl _ _) | (with_reducible assumption)))) (Nat.le_refl _)) (by omega)).mono ?_
    rintro e w2 ⟨g1s, rfl, hb2, l0s, l1s, o1s_2⟩
    obtain ⟨hc2, hf2, hz2⟩ := bcell hb2
    have hk2 := bblk hb2
    have Z2 : w1.heap.size ≤ w2.heap.size := by first | exact hz2 | (simp at hz2; omega) | omega
    try (have ZS2 : w1.heap.size < w2.heap.size := by first | omega | (simp at hz2; omega))
    try (have Xw_2 : w.heap.size < w2.heap.size := by first | omega | (simp at hz2; omega))
    try (have XXw_2 : w.heap.size < w2.heap.size + 1 := by omega)
    have b2 : Below w.heap.size w w2 := Below.trans (by (repeat (first | (with_reducible refine Below.drewN ?_) | (with_reducible refine Below.drew ?_) | ((with_reducible refine Below.alloc ?_ ?_ _); rotate_left; (first | omega | (simp <;> omega))) | ((with_reducible refine Below.setCell ?_ ?_ _); rotate_left; (first | omega | (simp <;> omega))) | (with_reducible exact Below.refl _ _) | (with_reducible assumption)))) (hb2.mono (by first | omega | (simp <;> omega)))
    try simp at l0s
    have q1s : w1.heap.size ≤ g1s ∧ g1s < w2.heap.size := by omega
    go_wp2_with fail
    refine (HS.out _ _ _ (FS.below (B := w2.heap.size) o1s_2.fs (by (repeat (first | (with_reducible refine Below.drewN ?_) | (with_reducible refine Below.drew ?_) | ((with_reducible refine Below.alloc ?_ ?_ _); rotate_left; (first | omega | (simp <;> omega))) | ((with_reducible refine Below.setCell ?_ ?_ _); rotate_left; (first | omega | (simp <;> omega))) | (with_reducible exact Below.refl _ _) | (with_reducible assumption)))) (Nat.le_refl _))).mono ?_
    rintro e w3 ⟨tHS, rfl, hb3⟩
    obtain ⟨hc3, hf3, hz3⟩ := bcell hb3
    have hk3 := bblk hb3
    have Z3 : w2.heap.size ≤ w3.heap.size := by first | exact hz3 | (simp at hz3; omega) | omega
    try (have ZS3 : w2.heap.size < w3.heap.size := by first | omega | (simp at hz3; omega))
    try (have Xw_3 : w.heap.size < w3.heap.size := by first | omega | (simp at hz3; omega))
    try (have XXw_3 : w.heap.size < w3.heap.size + 1 := by omega)
    try (have Xw2_3 : w2.heap.size < w3.heap.size := by first | omega | (simp at hz3; omega))
    try (have XXw2_3 : w2.heap.size < w3.heap.size + 1 := by omega)
    have b3 : Below w.heap.size w w3 := Below.trans (by (repeat (first | (with_reducible refine Below.drewN ?_) | (with_reducible refine Below.drew ?_) | ((with_reducible refine Below.alloc ?_ ?_ _); rotate_left; (first | omega | (simp <;> omega))) | ((with_reducible refine Below.setCell ?_ ?_ _); rotate_left; (first | omega | (simp <;> omega))) | (with_reducible exact Below.refl _ _) | (with_reducible assumption)))) (hb3.mono (by first | omega | (simp <;> omega)))
    have o1s_3 := OF.below (g := g1s) (a := (some ⟨g1s, 0, none⟩)) (n := n1) (c := n1) (xs := xs1) (by (repeat (first | (with_reducible assumption) | (with_reducible refine OF.draw ?_) | (with_reducible exact OF.made' (by simp) (by simp) (by omega)) | (with_reducible refine OF.alloc ?_ _) | ((with_reducible refine OF.setCell ?_ ?_ _); rotate_left; (first | omega | (simp <;> omega)))))) hb3 (Nat.le_refl _)
    clear o1s_2
    go_wp2_with fail
    refine (c_toTuning' x1 x2 a1 n1 c1 xs1 _ (FS.below (B := w.heap.size) H1.out (by (repeat (first | (with_reducible refine Below.drewN ?_) | (with_reducible refine Below.drew ?_) | ((with_reducible refine Below.alloc ?_ ?_ _); rotate_left; (first | omega | (simp <;> omega))) | ((with_reducible refine Below.setCell ?_ ?_ _); rotate_left; (first | omega | (simp <;> omega))) | (with_reducible exact Below.refl _ _) | (with_reducible assumption)))) (Nat.le_refl _)) (by omega)).mono ?_
    rintro e w4 ⟨g1x, rfl, hb4, l0x, l1x, o1x_4⟩
    obtain ⟨hc4, hf4, hz4⟩ := bcell hb4
    have hk4 := bblk hb4
    have Z4 : w3.heap.size ≤ w4.heap.size := by first | exact hz4 | (simp at hz4; omega) | omega
    try (have ZS4 : w3.heap.size < w4.heap.size := by first | omega | (simp at hz4; omega))
    try (have Xw_4 : w.heap.size < w4.heap.size := by first | omega | (simp at hz4; omega))
    try (have XXw_4 : w.heap.size < w4.heap.size + 1 := by omega)
    try (have Xw2_4 : w2.heap.size < w4.heap.size := by first | omega | (simp at hz4; omega))
    try (have XXw2_4 : w2.heap.size < w4.heap.size + 1 := by omega)
    have b4 : Below w.heap.size w w4 := Below.trans (by (repeat (first | (with_reducible refine Below.drewN ?_) | (with_reducible refine Below.drew ?_) | ((with_reducible refine Below.alloc ?_ ?_ _); rotate_left; (first | omega | (simp <;> omega))) | ((with_reducible refine Below.setCell ?_ ?_ _); rotate_left; (first | omega | (simp <;> omega))) | (with_reducible exact Below.refl _ _) | (with_reducible assumption)))) (hb4.mono (by first | omega | (simp <;> omega)))
    try simp at l0x
    have q1x : w3.heap.size ≤ g1x ∧ g1x < w4.heap.size := by omega
    go_wp2_with fail
    refine (HI.out _ _ _ (FS.below (B := w4.heap.size) o1x_4.fs (by (repeat (first | (with_reducible refine Below.drewN ?_) | (with_reducible refine Below.drew ?_) | ((with_reducible refine Below.alloc ?_ ?_ _); rotate_left; (first | omega | (simp <;> omega))) | ((with_reducible refine Below.setCell ?_ ?_ _); rotate_left; (first | omega | (simp <;> omega))) | (with_reducible exact Below.refl _ _) | (with_reducible assumption)))) (Nat.le_refl _))).mono ?_
    rintro e w5 ⟨tHI, rfl, hb5⟩
    obtain ⟨hc5, hf5, hz5⟩ := bcell hb5
    have hk5 := bblk hb5
    have Z5 : w4.heap.size ≤ w5.heap.size := by first | exact hz5 | (simp at hz5; omega) | omega
    try (have ZS5 : w4.heap.size < w5.heap.size := by first | omega | (simp at hz5; omega))
    try (have Xw_5 : w.heap.size < w5.heap.size := by first | omega | (simp at hz5; omega))
    try (have XXw_5 : w.heap.size < w5.heap.size + 1 := by omega)
    try (have Xw2_5 : w2.heap.size < w5.heap.size := by first | omega | (simp at hz5; omega))
    try (have XXw2_5 : w2.heap.size < w5.heap.size + 1 := by omega)
    try (have Xw4_5 : w4.heap.size < w5.heap.size := by first | omega | (simp at hz5; omega))
    try (have XXw4_5 : w4.heap.size < w5.heap.size + 1 := by omega)
    have b5 : Below w.heap.size w w5 := Below.trans (by (repeat (first | (with_reducible refine Below.drewN ?_) | (with_reducible refine Below.drew ?_) | ((with_reducible refine Below.alloc ?_ ?_ _); rotate_left; (first | omega | (simp <;> omega))) | ((with_reducible refine Below.setCell ?_ ?_ _); rotate_left; (first | omega | (simp <;> omega))) | (with_reducible exact Below.refl _ _) | (with_reducible assumption)))) (hb5.mono (by first | omega | (simp <;> omega)))
    have o1x_5 := OF.below (g := g1x) (a := (some ⟨g1x, 0, none⟩)) (n := n1) (c := n1) (xs := xs1) (by (repeat (first | (with_reducible assumption) | (with_reducible refine OF.draw ?_) | (with_reducible exact OF.made' (by simp) (by simp) (by omega)) | (with_reducible refine OF.alloc ?_ _) | ((with_reducible refine OF.setCell ?_ ?_ _); rotate_left; (first | omega | (simp <;> omega)))))) hb5 (Nat.le_refl _)
    clear o1x_4
    go_wp2_with fail
    refine (c_sameFloatV _ _ _ _).mono ?_
    rintro e w6 ⟨rfl, hb6⟩
    have hb6 : Below w5.heap.size w5 w6 := Below.trans (by (repeat (first | (with_reducible refine Below.drewN ?_) | (with_reducible refine Below.drew ?_) | ((with_reducible refine Below.alloc ?_ ?_ _); rotate_left; (first | omega | (simp <;> omega))) | ((with_reducible refine Below.setCell ?_ ?_ _); rotate_left; (first | omega | (simp <;> omega))) | (with_reducible exact Below.refl _ _) | (with_reducible assumption)))) (hb6.mono (Nat.le_refl _))
    obtain ⟨hc6, hf6, hz6⟩ := bcell hb6
    have hk6 := bblk hb6
    have Z6 : w5.heap.size ≤ w6.heap.size := by first | exact hz6 | (simp at hz6; omega) | omega
    try (have ZS6 : w5.heap.size < w6.heap.size := by first | omega | (simp at hz6; omega))
    try (have Xw_6 : w.heap.size < w6.heap.size := by first | omega | (simp at hz6; omega))
    try (have XXw_6 : w.heap.size < w6.heap.size + 1 := by omega)
    try (have Xw2_6 : w2.heap.size < w6.heap.size := by first | omega | (simp at hz6; omega))
    try (have XXw2_6 : w2.heap.size < w6.heap.size + 1 := by omega)
    try (have Xw4_6 : w4.heap.size < w6.heap.size := by first | omega | (simp at hz6; omega))
    try (have XXw4_6 : w4.heap.size < w6.heap.size + 1 := by omega)
    have b6 : Below w.heap.size w w6 := Below.trans (by (repeat (first | (with_reducible refine Below.drewN ?_) | (with_reducible refine Below.drew ?_) | ((with_reducible refine Below.alloc ?_ ?_ _); rotate_left; (first | omega | (simp <;> omega))) | ((with_reducible refine Below.setCell ?_ ?_ _); rotate_left; (first | omega | (simp <;> omega))) | (with_reducible exact Below.refl _ _) | (with_reducible assumption)))) (hb6.mono (by first | omega | (simp <;> omega)))
    have o1x_6 := OF.below (g := g1x) (a := (some ⟨g1x, 0, none⟩)) (n := n1) (c := n1) (xs := xs1) (by (repeat (first | (with_reducible assumption) | (with_reducible refine OF.draw ?_) | (with_reducible exact OF.made' (by simp) (by simp) (by omega)) | (with_reducible refine OF.alloc ?_ _) | ((with_reducible refine OF.setCell ?_ ?_ _); rotate_left; (first | omega | (simp <;> omega)))))) hb6 (Nat.le_refl _)
    clear o1x_5
    go_wp2_with fail
    refine wp_region_grow [3] [2] (by kernel_rfl) (by kernel_rfl) (by kernel_rfl) ?_
    apply Exists.intro
    iterate 2 (apply lh_o; kernel_rfl; kernel_rfl; kernel_rfl; (intro W hW; have hWc := Grow.cells hW; have hWk := bblk hW; go_simp; exact ⟨OneV.mk _, Grow.refl _⟩))
    apply lh_w (fun g : Nat => Value.agg #[.float .f32 x1, .float .f32 x2, .slice (some ⟨g, 0, none⟩) n1 n1]) (fun g w' => w6.heap.size ≤ g ∧ g < w'.heap.size ∧ OF w' g (some ⟨g, 0, none⟩) n1 n1 xs1) 0 (fun g w w' h hg => ⟨h.1, Nat.lt_of_lt_of_le h.2.1 hg.size, OF.below h.2.2 hg (Nat.le_refl _)⟩) (fun i j h => by simp at h; first | exact h | (obtain ⟨i1, i2⟩ := i; obtain ⟨j1, j2⟩ := j; simp at h; simp [h]))
    kernel_rfl
    kernel_rfl
    kernel_rfl
    · intro W hW
      have hWc := Grow.cells hW
      go_simp
      exact (c_toTuning' x1 x2 a1 n1 c1 xs1 W (FS.below (B := w.heap.size) H1.out (b6.trans (Below.mono hW b6.size)) (Nat.le_refl _)) (by omega)).mono fun e w' ⟨t1, he, hb, l0, l1, o1⟩ => ⟨t1, he, ⟨Nat.le_trans hW.size l0, l1, o1⟩, hb⟩
    exact anti
    intro g
    (apply lh_h; kernel_rfl; kernel_rfl; kernel_rfl; (intro W hW; obtain ⟨hG, hK⟩ := hW; have hWc := Grow.cells hG; go_simp; exact gV (c_eqTuning' _ _ _ _ _ _ _ _ _ _ _ W rfl rfl (FS.below (B := w6.heap.size) o1x_6.fs hG (Nat.le_refl _)) (hK.2.2).fs (Alk.refl _))))
    (apply lh_o; kernel_rfl; kernel_rfl; kernel_rfl; (intro W hW; have hWc := Grow.cells hW; go_simp; exact ⟨OneV.mk _, Grow.refl _⟩))
    refine lh_nil ?_
    intro w7 hW7
    simp only [Act.put, List.setIfInBounds_toArray, List.set_cons_succ, List.set_cons_zero]
    have hb7 : Below w6.heap.size w6 w7 := hW7.1
    clear hW7
    obtain ⟨hc7, hf7, hz7⟩ := bcell hb7
    have hk7 := bblk hb7
    have Z7 : w6.heap.size ≤ w7.heap.size := by first | exact hz7 | (simp at hz7; omega) | omega
    try (have ZS7 : w6.heap.size < w7.heap.size := by first | omega | (simp at hz7; omega))
    try (have Xw_7 : w.heap.size < w7.heap.size := by first | omega | (simp at hz7; omega))
    try (have XXw_7 : w.heap.size < w7.heap.size + 1 := by omega)
    try (have Xw2_7 : w2.heap.size < w7.heap.size := by first | omega | (simp at hz7; omega))
    try (have XXw2_7 : w2.heap.size < w7.heap.size + 1 := by omega)
    try (have Xw4_7 : w4.heap.size < w7.heap.size := by first | omega | (simp at hz7; omega))
    try (have XXw4_7 : w4.heap.size < w7.heap.size + 1 := by omega)
    have b7 : Below w.heap.size w w7 := Below.trans (by (repeat (first | (with_reducible refine Below.drewN ?_) | (with_reducible refine Below.drew ?_) | ((with_reducible refine Below.alloc ?_ ?_ _); rotate_left; (first | omega | (simp <;> omega))) | ((with_reducible refine Below.setCell ?_ ?_ _); rotate_left; (first | omega | (simp <;> omega))) | (with_reducible exact Below.refl _ _) | (with_reducible assumption)))) (hb7.mono (by first | omega | (simp <;> omega)))
    have o1x_7 := OF.below (g := g1x) (a := (some ⟨g1x, 0, none⟩)) (n := n1) (c := n1) (xs := xs1) (by (repeat (first | (with_reducible assumption) | (with_reducible refine OF.draw ?_) | (with_reducible exact OF.made' (by simp) (by simp) (by omega)) | (with_reducible refine OF.alloc ?_ _) | ((with_reducible refine OF.setCell ?_ ?_ _); rotate_left; (first | omega | (simp <;> omega)))))) hb7 (Nat.le_refl _)
    clear o1x_6
    go_wp2
    go_ret
    exact ⟨rfl, by (repeat (first | (with_reducible refine Below.drewN ?_) | (with_reducible refine Below.drew ?_) | ((with_reducible refine Below.alloc ?_ ?_ _); rotate_left; (first | omega | (simp <;> omega))) | ((with_reducible refine Below.setCell ?_ ?_ _); rotate_left; (first | omega | (simp <;> omega))) | (with_reducible exact Below.refl _ _) | (with_reducible assumption)))⟩
  · go_enter Try.func14, Try.ntmps14
    go_wp2_with fail
    refine (c_szTuning_no _ _ _ _ _ (1048576) _ (by omega) (by omega) M1 (by omega)).mono ?_
    rintro e w1 ⟨rfl, hb1⟩
    obtain ⟨hc1, hf1, hz1⟩ := bcell hb1
    have hk1 := bblk hb1
    have Z1 : w.heap.size ≤ w1.heap.size := by first | exact hz1 | (simp at hz1; omega) | omega
    try (have ZS1 : w.heap.size < w1.heap.size := by first | omega | (simp at hz1; omega))
    try (have Xw_1 : w.heap.size < w1.heap.size := by first | omega | (simp at hz1; omega))
    try (have XXw_1 : w.heap.size < w1.heap.size + 1 := by omega)
    have b1 : Below w.heap.size w w1 := Below.trans (by (repeat (first | (with_reducible refine Below.drewN ?_) | (with_reducible refine Below.drew ?_) | ((with_reducible refine Below.alloc ?_ ?_ _); rotate_left; (first | omega | (simp <;> omega))) | ((with_reducible refine Below.setCell ?_ ?_ _); rotate_left; (first | omega | (simp <;> omega))) | (with_reducible exact Below.refl _ _) | (with_reducible assumption)))) (hb1.mono (by first | omega | (simp <;> omega)))
    go_wp2
    go_ret
    exact ⟨rfl, by (repeat (first | (with_reducible refine Below.drewN ?_) | (with_reducible refine Below.drew ?_) | ((with_reducible refine Below.alloc ?_ ?_ _); rotate_left; (first | omega | (simp <;> omega))) | ((with_reducible refine Below.setCell ?_ ?_ _); rotate_left; (first | omega | (simp <;> omega))) | (with_reducible exact Below.refl _ _) | (with_reducible assumption)))⟩


theorem k_KeyHertz (x1 x2 : Nat) (a1 : Option Addr) (n1 c1 : Nat) (xs1 : List Nat) (k : Int) (w : World) (h_1 : FS w a1 n1 c1 xs1) :
    Calls Try.prog 14 #[.agg #[.float .f32 x1, .float .f32 x2, .slice a1 n1 c1], .int .i64 k] w (RetV (.bool true) w) :=
  l_KeyHertz x1 x2 a1 n1 c1 xs1 k _ _ w h_1 (fun W _ _ j => c_sKeyHertz _ _ _ _ _ _ k W j) (fun W _ _ j => c_KeyHertz _ _ _ _ _ _ k W j)
/-! ### the period of a key -/
def peC (ba oc : Nat) (xs : List Nat) (n : Nat) (k : Int) (r : Nat) : Int := if khC ba oc xs n k = 0 then (if insB r 1065353216 1232348160 = true then 0 else 2) else khC ba oc xs n k
def peV (ba oc : Nat) (xs : List Nat) (n : Nat) (k : Int) (r : Nat) : Nat := if peC ba oc xs n k r = 0 then fop .quo .f32 r (khV ba oc xs n k) else 0
theorem c_PeriodOfKey (ba oc : Nat) (a : Option Addr) (n c : Nat) (xs : List Nat) (k : Int) (r : Nat) (w : World) (h : FS w a n c xs) :
    Calls Try.prog 64 #[.agg #[.float .f32 ba, .float .f32 oc, .slice a n c], .int .i64 k, .float .f32 r] w (RetFC (peV ba oc xs n k r) (peC ba oc xs n k r) w) := by
  have K1 : Hid (∀ W, Below w.heap.size w W → Calls Try.prog 60 #[.agg #[.float .f32 ba, .float .f32 oc, .slice a n c], .int .i64 k] W (RetFC (khV ba oc xs n k) (khC ba oc xs n k) W)) := fun W hb => c_KeyHertz _ _ _ _ _ xs k W (h.below hb (Nat.le_refl _))
  clear h
  by_cases hc : khC ba oc xs n k = 0
  · rw [hc] at K1
    cases ht : insB r 1065353216 1232348160
    · have e1 : peC ba oc xs n k r = 2 := by unfold peC; rw [if_pos hc, if_neg (by rw [ht]; decide)]
      have e2 : peV ba oc xs n k r = 0 := by unfold peV; rw [e1]; rfl
      rw [e1, e2]
      generalize khV ba oc xs n k = R at *
      clear hc e1 e2
      go_enter Try.func64, Try.ntmps64
      go_wp2_with fail
      refine (K1.out _ (by (repeat (first | (with_reducible refine Below.drewN ?_) | (with_reducible refine Below.drew ?_) | ((with_reducible refine Below.alloc ?_ ?_ _); rotate_left; (first | omega | (simp <;> omega))) | ((with_reducible refine Below.setCell ?_ ?_ _); rotate_left; (first | omega | (simp <;> omega))) | (with_reducible exact Below.refl _ _) | (with_reducible assumption))))).mono ?_
      rintro e w1 ⟨t, rfl, hb1⟩
      obtain ⟨hc1, hf1, hz1⟩ := bcell hb1
      try simp at hz1
      have zb1 : w.heap.size ≤ w1.heap.size := by omega
      try (have z1_0 : w.heap.size < w1.heap.size := by omega)
      try (have z1_1 : w.heap.size + 1 < w1.heap.size := by omega)
      try (have z1_2 : w.heap.size + 1 + 1 < w1.heap.size := by omega)
      try (have z1_3 : w.heap.size + 1 + 1 + 1 < w1.heap.size := by omega)
      have b1 : Below w.heap.size w w1 := Below.trans (by (repeat (first | (with_reducible refine Below.drewN ?_) | (with_reducible refine Below.drew ?_) | ((with_reducible refine Below.alloc ?_ ?_ _); rotate_left; (first | omega | (simp <;> omega))) | ((with_reducible refine Below.setCell ?_ ?_ _); rotate_left; (first | omega | (simp <;> omega))) | (with_reducible exact Below.refl _ _) | (with_reducible assumption)))) (hb1.mono (by first | omega | (simp <;> omega)))
      go_wp2_with (go_at_call 109; refine (c_isTail _ _).mono ?_; rw [ht]; rintro e w' ⟨rfl, n1, rfl⟩)
      go_ret2
      exact ⟨0, rfl, by (repeat (first | (with_reducible refine Below.drewN ?_) | (with_reducible refine Below.drew ?_) | ((with_reducible refine Below.alloc ?_ ?_ _); rotate_left; (first | omega | (simp <;> omega))) | ((with_reducible refine Below.setCell ?_ ?_ _); rotate_left; (first | omega | (simp <;> omega))) | (with_reducible exact Below.refl _ _) | (with_reducible assumption)))⟩
    · have e1 : peC ba oc xs n k r = 0 := by unfold peC; rw [if_pos hc, if_pos ht]
      have e2 : peV ba oc xs n k r = fop .quo .f32 r (khV ba oc xs n k) := by unfold peV; rw [e1]; rfl
      rw [e1, e2]
      generalize khV ba oc xs n k = R at *
      clear hc e1 e2
      go_enter Try.func64, Try.ntmps64
      go_wp2_with fail
      refine (K1.out _ (by (repeat (first | (with_reducible refine Below.drewN ?_) | (with_reducible refine Below.drew ?_) | ((with_reducible refine Below.alloc ?_ ?_ _); rotate_left; (first | omega | (simp <;> omega))) | ((with_reducible refine Below.setCell ?_ ?_ _); rotate_left; (first | omega | (simp <;> omega))) | (with_reducible exact Below.refl _ _) | (with_reducible assumption))))).mono ?_
      rintro e w1 ⟨t, rfl, hb1⟩
      obtain ⟨hc1, hf1, hz1⟩ := bcell hb1
      try simp at hz1
      have zb1 : w.heap.size ≤ w1.heap.size := by omega
      try (have z1_0 : w.heap.size < w1.heap.size := by omega)
      try (have z1_1 : w.heap.size + 1 < w1.heap.size := by omega)
      try (have z1_2 : w.heap.size + 1 + 1 < w1.heap.size := by omega)
      try (have z1_3 : w.heap.size + 1 + 1 + 1 < w1.heap.size := by omega)
      have b1 : Below w.heap.size w w1 := Below.trans (by (repeat (first | (with_reducible refine Below.drewN ?_) | (with_reducible refine Below.drew ?_) | ((with_reducible refine Below.alloc ?_ ?_ _); rotate_left; (first | omega | (simp <;> omega))) | ((with_reducible refine Below.setCell ?_ ?_ _); rotate_left; (first | omega | (simp <;> omega))) | (with_reducible exact Below.refl _ _) | (with_reducible assumption)))) (hb1.mono (by first | omega | (simp <;> omega)))
      go_wp2_with (go_at_call 109; refine (c_isTail _ _).mono ?_; rw [ht]; rintro e w' ⟨rfl, n1, rfl⟩)
      go_ret2
      exact ⟨_, rfl, by (repeat (first | (with_reducible refine Below.drewN ?_) | (with_reducible refine Below.drew ?_) | ((with_reducible refine Below.alloc ?_ ?_ _); rotate_left; (first | omega | (simp <;> omega))) | ((with_reducible refine Below.setCell ?_ ?_ _); rotate_left; (first | omega | (simp <;> omega))) | (with_reducible exact Below.refl _ _) | (with_reducible assumption)))⟩
  · have e1 : peC ba oc xs n k r = khC ba oc xs n k := by unfold peC; rw [if_neg hc]
    have e2 : peV ba oc xs n k r = 0 := by unfold peV; rw [e1, if_neg hc]
    rw [e1, e2]
    generalize khV ba oc xs n k = R at *
    generalize khC ba oc xs n k = C at *
    clear e1 e2
    go_enter Try.func64, Try.ntmps64
    go_wp2_with fail
    refine (K1.out _ (by (repeat (first | (with_reducible refine Below.drewN ?_) | (with_reducible refine Below.drew ?_) | ((with_reducible refine Below.alloc ?_ ?_ _); rotate_left; (first | omega | (simp <;> omega))) | ((with_reducible refine Below.setCell ?_ ?_ _); rotate_left; (first | omega | (simp <;> omega))) | (with_reducible exact Below.refl _ _) | (with_reducible assumption))))).mono ?_
    rintro e w1 ⟨t, rfl, hb1⟩
    obtain ⟨hc1, hf1, hz1⟩ := bcell hb1
    try simp at hz1
    have zb1 : w.heap.size ≤ w1.heap.size := by omega
    try (have z1_0 : w.heap.size < w1.heap.size := by omega)
    try (have z1_1 : w.heap.size + 1 < w1.heap.size := by omega)
    try (have z1_2 : w.heap.size + 1 + 1 < w1.heap.size := by omega)
    try (have z1_3 : w.heap.size + 1 + 1 + 1 < w1.heap.size := by omega)
    have b1 : Below w.heap.size w w1 := Below.trans (by (repeat (first | (with_reducible refine Below.drewN ?_) | (with_reducible refine Below.drew ?_) | ((with_reducible refine Below.alloc ?_ ?_ _); rotate_left; (first | omega | (simp <;> omega))) | ((with_reducible refine Below.setCell ?_ ?_ _); rotate_left; (first | omega | (simp <;> omega))) | (with_reducible exact Below.refl _ _) | (with_reducible assumption)))) (hb1.mono (by first | omega | (simp <;> omega)))
    go_wp2
    go_ret2
    exact ⟨0, rfl, by (repeat (first | (with_reducible refine Below.drewN ?_) | (with_reducible refine Below.drew ?_) | ((with_reducible refine Below.alloc ?_ ?_ _); rotate_left; (first | omega | (simp <;> omega))) | ((with_reducible refine Below.setCell ?_ ?_ _); rotate_left; (first | omega | (simp <;> omega))) | (with_reducible exact Below.refl _ _) | (with_reducible assumption)))⟩
theorem c_sPeriodOfKey (ba oc : Nat) (a : Option Addr) (n c : Nat) (xs : List Nat) (k : Int) (r : Nat) (w : World) (h : FS w a n c xs) :
    Calls Try.prog 63 #[.agg #[.float .f32 ba, .float .f32 oc, .slice a n c], .int .i64 k, .float .f32 r] w (RetFC (peV ba oc xs n k r) (peC ba oc xs n k r) w) := by
  have h' := Lib.hid (h.alloc (.cells #[.float .f32 ba, .float .f32 oc, .slice a n c] 31))
  clear h
  have HC := Lib.hid (c_l07Asked w.heap.size 0 ba oc a n c xs k _ h'.out (by simp) (by simp) (by simp))
  clear h'
  by_cases hc : khC ba oc xs n k = 0
  · rw [hc] at HC
    cases ht : insB r 1065353216 1232348160
    · have e1 : peC ba oc xs n k r = 2 := by unfold peC; rw [if_pos hc, if_neg (by rw [ht]; decide)]
      have e2 : peV ba oc xs n k r = 0 := by unfold peV; rw [e1]; rfl
      rw [e1, e2]
      generalize khV ba oc xs n k = R at *
      clear hc e1 e2
      unfold insB at ht
      cases h21 : (FloatKind.f32.format.order r 1065353216 == some .gt || FloatKind.f32.format.order r 1065353216 == some .eq)
      all_goals
        rw [h21] at ht
        try simp only [Bool.true_and] at ht
        go_enter Try.func63, Try.ntmps63
        go_wp2_with fail
        refine (HC.out).mono ?_
        rintro e w' ⟨t1, n1, rfl, rfl⟩
        go_wp2
        go_ret2
        exact ⟨0, rfl, by (repeat (first | (with_reducible refine Below.drewN ?_) | (with_reducible refine Below.drew ?_) | ((with_reducible refine Below.alloc ?_ ?_ _); rotate_left; (first | omega | (simp <;> omega))) | ((with_reducible refine Below.setCell ?_ ?_ _); rotate_left; (first | omega | (simp <;> omega))) | (with_reducible exact Below.refl _ _) | (with_reducible assumption)))⟩
    · have e1 : peC ba oc xs n k r = 0 := by unfold peC; rw [if_pos hc, if_pos ht]
      have e2 : peV ba oc xs n k r = fop .quo .f32 r (khV ba oc xs n k) := by unfold peV; rw [e1]; rfl
      rw [e1, e2]
      generalize khV ba oc xs n k = R at *
      clear hc e1 e2
      unfold insB at ht
      rw [Bool.and_eq_true] at ht
      obtain ⟨h21, h22⟩ := ht
      go_enter Try.func63, Try.ntmps63
      go_wp2_with fail
      refine (HC.out).mono ?_
      rintro e w' ⟨t1, n1, rfl, rfl⟩
      go_wp2
      go_ret2
      exact ⟨_, rfl, by (repeat (first | (with_reducible refine Below.drewN ?_) | (with_reducible refine Below.drew ?_) | ((with_reducible refine Below.alloc ?_ ?_ _); rotate_left; (first | omega | (simp <;> omega))) | ((with_reducible refine Below.setCell ?_ ?_ _); rotate_left; (first | omega | (simp <;> omega))) | (with_reducible exact Below.refl _ _) | (with_reducible assumption)))⟩
  · have e1 : peC ba oc xs n k r = khC ba oc xs n k := by unfold peC; rw [if_neg hc]
    have e2 : peV ba oc xs n k r = 0 := by unfold peV; rw [e1, if_neg hc]
    rw [e1, e2]
    generalize khV ba oc xs n k = R at *
    generalize khC ba oc xs n k = C at *
    clear e1 e2
    go_enter Try.func63, Try.ntmps63
    go_wp2_with fail
    refine (HC.out).mono ?_
    rintro e w' ⟨t1, n1, rfl, rfl⟩
    go_wp2
    go_ret2
    exact ⟨0, rfl, by (repeat (first | (with_reducible refine Below.drewN ?_) | (with_reducible refine Below.drew ?_) | ((with_reducible refine Below.alloc ?_ ?_ _); rotate_left; (first | omega | (simp <;> omega))) | ((with_reducible refine Below.setCell ?_ ?_ _); rotate_left; (first | omega | (simp <;> omega))) | (with_reducible exact Below.refl _ _) | (with_reducible assumption)))⟩
set_option maxRecDepth 100000 in
set_option maxHeartbeats 1000000 in
theorem l_PeriodOfKey (x1 : Nat) (x2 : Nat) (a1 : Option Addr) (n1 c1 : Nat) (xs1 : List Nat) (key : Int) (rate : Nat) (v : Nat) (code : Int) (w : World) (h_1 : FS w a1 n1 c1 xs1)
    (HS : ∀ W (d1 : Option Addr) (e1 : Nat), FS W d1 n1 e1 xs1 → Calls Try.prog 63 #[.agg #[.float .f32 x1, .float .f32 x2, .slice d1 n1 e1], .int .i64 key, .float .f32 rate] W (RetFC v code W))
    (HI : ∀ W (d1 : Option Addr) (e1 : Nat), FS W d1 n1 e1 xs1 → Calls Try.prog 64 #[.agg #[.float .f32 x1, .float .f32 x2, .slice d1 n1 e1], .int .i64 key, .float .f32 rate] W (RetFC v code W)) :
    Calls Try.prog 16 #[.agg #[.float .f32 x1, .float .f32 x2, .slice a1 n1 c1], .int .i64 key, .float .f32 rate] w (RetV (.bool true) w) := by
  have HS := Lib.hid HS
  have HI := Lib.hid HI
  have M1 : n1 ≤ 9223372036854775807 := Nat.le_trans h_1.cap h_1.big
  have H1 := Lib.hid h_1
  clear h_1
  by_cases ht : (n1 : Int) ≤ 1048576
  · have hl : ¬ (1048576 - n1 : Int) < 0 := by omega
    go_enter Try.func16, Try.ntmps16
    go_wp2_with fail
    refine (c_szTuning_ok _ _ _ _ _ (1048576) _ (by omega) (by omega) M1 (by omega)).mono ?_
    rintro e w1 ⟨rfl, hb1⟩
    obtain ⟨hc1, hf1, hz1⟩ := bcell hb1
    have hk1 := bblk hb1
    have Z1 : w.heap.size ≤ w1.heap.size := by first | exact hz1 | (simp at hz1; omega) | omega
    try (have ZS1 : w.heap.size < w1.heap.size := by first | omega | (simp at hz1; omega))
    try (have Xw_1 : w.heap.size < w1.heap.size := by first | omega | (simp at hz1; omega))
    try (have XXw_1 : w.heap.size < w1.heap.size + 1 := by omega)
    have b1 : Below w.heap.size w w1 := Below.trans (by (repeat (first | (with_reducible refine Below.drewN ?_) | (with_reducible refine Below.drew ?_) | ((with_reducible refine Below.alloc ?_ ?_ _); rotate_left; (first | omega | (simp <;> omega))) | ((with_reducible refine Below.setCell ?_ ?_ _); rotate_left; (first | omega | (simp <;> omega))) | (with_reducible exact Below.refl _ _) | (with_reducible assumption)))) (hb1.mono (by first | omega | (simp <;> omega)))
    go_wp2_with fail
    refine (c_toTuning' x1 x2 a1 n1 c1 xs1 _ (FS.below (B := w.heap.size) H1.out (by (repeat (first | (with_reducible refine Below.drewN ?_) | (with_reducible refine Below.drew ?_) | ((with_reducible refine Below.alloc ?_ ?_ _); rotate_left; (first | omega | (simp <;> omega))) | ((with_reducible refine Below.setCell ?_ ?_ _); rotate_left; (first | omega | (simp <;> omega))) | (with_reducible exact Below.refl _ _) | (with_reducible assumption)))) (Nat.le_refl _)) (by omega)).mono ?_
    rintro e w2 ⟨g1s, rfl, hb2, l0s, l1s, o1s_2⟩
    obtain ⟨hc2, hf2, hz2⟩ := bcell hb2
    have hk2 := bblk hb2
    have Z2 : w1.heap.size ≤ w2.heap.size := by first | exact hz2 | (simp at hz2; omega) | omega
    try (have ZS2 : w1.heap.size < w2.heap.size := by first | omega | (simp at hz2; omega))
    try (have Xw_2 : w.heap.size < w2.heap.size := by first | omega | (simp at hz2; omega))
    try (have XXw_2 : w.heap.size < w2.heap.size + 1 := by omega)
    have b2 : Below w.heap.size w w2 := Below.trans (by (repeat (first | (with_reducible refine Below.drewN ?_) | (with_reducible refine Below.drew ?_) | ((with_reducible refine Below.alloc ?_ ?_ _); rotate_left; (first | omega | (simp <;> omega))) | ((with_reducible refine Below.setCell ?_ ?_ _); rotate_left; (first | omega | (simp <;> omega))) | (with_reducible exact Below.refl _ _) | (with_reducible assumption)))) (hb2.mono (by first | omega | (simp <;> omega)))
    try simp at l0s
    have q1s : w1.heap.size ≤ g1s ∧ g1s < w2.heap.size := by omega
    go_wp2_with fail
    refine (HS.out _ _ _ (FS.below (B := w2.heap.size) o1s_2.fs (by (repeat (first | (with_reducible refine Below.drewN ?_) | (with_reducible refine Below.drew ?_) | ((with_reducible refine Below.alloc ?_ ?_ _); rotate_left; (first | omega | (simp <;> omega))) | ((with_reducible refine Below.setCell ?_ ?_ _); rotate_left; (first | omega | (simp <;> omega))) | (with_reducible exact Below.refl _ _) | (with_reducible assumption)))) (Nat.le_refl _))).mono ?_
    rintro e w3 ⟨tHS, rfl, hb3⟩
    obtain ⟨hc3, hf3, hz3⟩ := bcell hb3
    have hk3 := bblk hb3
    have Z3 : w2.heap.size ≤ w3.heap.size := by first | exact hz3 | (simp at hz3; omega) | omega
    try (have ZS3 : w2.heap.size < w3.heap.size := by first | omega | (simp at hz3; omega))
    try (have Xw_3 : w.heap.size < w3.heap.size := by first | omega | (simp at hz3; omega))
    try (have XXw_3 : w.heap.size < w3.heap.size + 1 := by omega)
    try (have Xw2_3 : w2.heap.size < w3.heap.size := by first | omega | (simp at hz3; omega))
    try (have XXw2_3 : w2.heap.size < w3.heap.size + 1 := by omega)
    have b3 : Below w.heap.size w w3 := Below.trans (by (repeat (first | (with_reducible refine Below.drewN ?_) | (with_reducible refine Below.drew ?_) | ((with_reducible refine Below.alloc ?_ ?_ _); rotate_left; (first | omega | (simp <;> omega))) | ((with_reducible refine Below.setCell ?_ ?_ _); rotate_left; (first | omega | (simp <;> omega))) | (with_reducible exact Below.refl _ _) | (with_reducible assumption)))) (hb3.mono (by first | omega | (simp <;> omega)))
    have o1s_3 := OF.below (g := g1s) (a := (some ⟨g1s, 0, none⟩)) (n := n1) (c := n1) (xs := xs1) (by (repeat (first | (with_reducible assumption) | (with_reducible refine OF.draw ?_) | (with_reducible exact OF.made' (by simp) (by simp) (by omega)) | (with_reducible refine OF.alloc ?_ _) | ((with_reducible refine OF.setCell ?_ ?_ _); rotate_left; (first | omega | (simp <;> omega)))))) hb3 (Nat.le_refl _)
    clear o1s_2
    go_wp2_with fail
    refine (c_toTuning' x1 x2 a1 n1 c1 xs1 _ (FS.below (B := w.heap.size) H1.out (by (repeat (first | (with_reducible refine Below.drewN ?_) | (with_reducible refine Below.drew ?_) | ((with_reducible refine Below.alloc ?_ ?_ _); rotate_left; (first | omega | (simp <;> omega))) | ((with_reducible refine Below.setCell ?_ ?_ _); rotate_left; (first | omega | (simp <;> omega))) | (with_reducible exact Below.refl _ _) | (with_reducible assumption)))) (Nat.le_refl _)) (by omega)).mono ?_
    rintro e w4 ⟨g1x, rfl, hb4, l0x, l1x, o1x_4⟩
    obtain ⟨hc4, hf4, hz4⟩ := bcell hb4
    have hk4 := bblk hb4
    have Z4 : w3.heap.size ≤ w4.heap.size := by first | exact hz4 | (simp at hz4; omega) | omega
    try (have ZS4 : w3.heap.size < w4.heap.size := by first | omega | (simp at hz4; omega))
    try (have Xw_4 : w.heap.size < w4.heap.size := by first | omega | (simp at hz4; omega))
    try (have XXw_4 : w.heap.size < w4.heap.size + 1 := by omega)
    try (have Xw2_4 : w2.heap.size < w4.heap.size := by first | omega | (simp at hz4; omega))
    try (have XXw2_4 : w2.heap.size < w4.heap.size + 1 := by omega)
    have b4 : Below w.heap.size w w4 := Below.trans (by (repeat (first | (with_reducible refine Below.drewN ?_) | (with_reducible refine Below.drew ?_) | ((with_reducible refine Below.alloc ?_ ?_ _); rotate_left; (first | omega | (simp <;> omega))) | ((with_reducible refine Below.setCell ?_ ?_ _); rotate_left; (first | omega | (simp <;> omega))) | (with_reducible exact Below.refl _ _) | (with_reducible assumption)))) (hb4.mono (by first | omega | (simp <;> omega)))
    try simp at l0x
    have q1x : w3.heap.size ≤ g1x ∧ g1x < w4.heap.size := by omega
    go_wp2_with fail
    refine (HI.out _ _ _ (FS.below (B := w4.heap.size) o1x_4.fs (by (repeat (first | (with_reducible refine Below.drewN ?_) | (with_reducible refine Below.drew ?_) | ((with_reducible refine Below.alloc ?_ ?_ _); rotate_left; (first | omega | (simp <;> omega))) | ((with_reducible refine Below.setCell ?_ ?_ _); rotate_left; (first | omega | (simp <;> omega))) | (with_reducible exact Below.refl _ _) | (with_reducible assumption)))) (Nat.le_refl _))).mono ?_
    rintro e w5 ⟨tHI, rfl, hb5⟩
    obtain ⟨hc5, hf5, hz5⟩ := bcell hb5
    have hk5 := bblk hb5
    have Z5 : w4.heap.size ≤ w5.heap.size := by first | exact hz5 | (simp at hz5; omega) | omega
    try (have ZS5 : w4.heap.size < w5.heap.size := by first | omega | (simp at hz5; omega))
    try (have Xw_5 : w.heap.size < w5.heap.size := by first | omega | (simp at hz5; omega))
    try (have XXw_5 : w.heap.size < w5.heap.size + 1 := by omega)
    try (have Xw2_5 : w2.heap.size < w5.heap.size := by first | omega | (simp at hz5; omega))
    try (have XXw2_5 : w2.heap.size < w5.heap.size + 1 := by omega)
    try (have Xw4_5 : w4.heap.size < w5.heap.size := by first | omega | (simp at hz5; omega))
    try (have XXw4_5 : w4.heap.size < w5.heap.size + 1 := by omega)
    have b5 : Below w.heap.size w w5 := Below.trans (by (repeat (first | (with_reducible refine Below.drewN ?_) | (with_reducible refine Below.drew ?_) | ((with_reducible refine Below.alloc ?_ ?_ _); rotate_left; (first | omega | (simp <;> omega))) | ((with_reducible refine Below.setCell ?_ ?_ _); rotate_left; (first | omega | (simp <;> omega))) | (with_reducible exact Below.refl _ _) | (with_reducible assumption)))) (hb5.mono (by first | omega | (simp <;> omega)))
    have o1x_5 := OF.below (g := g1x) (a := (some ⟨g1x, 0, none⟩)) (n := n1) (c := n1) (xs := xs1) (by (repeat (first | (with_reducible assumption) | (with_reducible refine OF.draw ?_) | (with_reducible exact OF.made' (by simp) (by simp) (by omega)) | (with_reducible refine OF.alloc ?_ _) | ((with_reducible refine OF.setCell ?_ ?_ _); rotate_left; (first | omega | (simp <;> omega)))))) hb5 (Nat.le_refl _)
    clear o1x_4
    go_wp2_with fail
    refine (c_sameFloatV _ _ _ _).mono ?_
    rintro e w6 ⟨rfl, hb6⟩
    have hb6 : Below w5.heap.size w5 w6 := Below.trans (by (repeat (first | (with_reducible refine Below.drewN ?_) | (with_reducible refine Below.drew ?_) | ((with_reducible refine Below.alloc ?_ ?_ _); rotate_left; (first | omega | (simp <;> omega))) | ((with_reducible refine Below.setCell ?_ ?_ _); rotate_left; (first | omega | (simp <;> omega))) | (with_reducible exact Below.refl _ _) | (with_reducible assumption)))) (hb6.mono (Nat.le_refl _))
    obtain ⟨hc6, hf6, hz6⟩ := bcell hb6
    have hk6 := bblk hb6
    have Z6 : w5.heap.size ≤ w6.heap.size := by first | exact hz6 | (simp at hz6; omega) | omega
    try (have ZS6 : w5.heap.size < w6.heap.size := by first | omega | (simp at hz6; omega))
    try (have Xw_6 : w.heap.size < w6.heap.size := by first | omega | (simp at hz6; omega))
    try (have XXw_6 : w.heap.size < w6.heap.size + 1 := by omega)
    try (have Xw2_6 : w2.heap.size < w6.heap.size := by first | omega | (simp at hz6; omega))
    try (have XXw2_6 : w2.heap.size < w6.heap.size + 1 := by omega)
    try (have Xw4_6 : w4.heap.size < w6.heap.size := by first | omega | (simp at hz6; omega))
    try (have XXw4_6 : w4.heap.size < w6.heap.size + 1 := by omega)
    have b6 : Below w.heap.size w w6 := Below.trans (by (repeat (first | (with_reducible refine Below.drewN ?_) | (with_reducible refine Below.drew ?_) | ((with_reducible refine Below.alloc ?_ ?_ _); rotate_left; (first | omega | (simp <;> omega))) | ((with_reducible refine Below.setCell ?_ ?_ _); rotate_left; (first | omega | (simp <;> omega))) | (with_reducible exact Below.refl _ _) | (with_reducible assumption)))) (hb6.mono (by first | omega | (simp <;> omega)))
    have o1x_6 := OF.below (g := g1x) (a := (some ⟨g1x, 0, none⟩)) (n := n1) (c := n1) (xs := xs1) (by (repeat (first | (with_reducible assumption) | (with_reducible refine OF.draw ?_) | (with_reducible exact OF.made' (by simp) (by simp) (by omega)) | (with_reducible refine OF.alloc ?_ _) | ((with_reducible refine OF.setCell ?_ ?_ _); rotate_left; (first | omega | (simp <;> omega)))))) hb6 (Nat.le_refl _)
    clear o1x_5
    go_wp2_with fail
    refine wp_region_grow [3] [2] (by kernel_rfl) (by kernel_rfl) (by kernel_rfl) ?_
    apply Exists.intro
    iterate 2 (apply lh_o; kernel_rfl; kernel_rfl; kernel_rfl; (intro W hW; have hWc := Grow.cells hW; have hWk := bblk hW; go_simp; exact ⟨OneV.mk _, Grow.refl _⟩))
    apply lh_w (fun g : Nat => Value.agg #[.float .f32 x1, .float .f32 x2, .slice (some ⟨g, 0, none⟩) n1 n1]) (fun g w' => w6.heap.size ≤ g ∧ g < w'.heap.size ∧ OF w' g (some ⟨g, 0, none⟩) n1 n1 xs1) 0 (fun g w w' h hg => ⟨h.1, Nat.lt_of_lt_of_le h.2.1 hg.size, OF.below h.2.2 hg (Nat.le_refl _)⟩) (fun i j h => by simp at h; first | exact h | (obtain ⟨i1, i2⟩ := i; obtain ⟨j1, j2⟩ := j; simp at h; simp [h]))
    kernel_rfl
    kernel_rfl
    kernel_rfl
    · intro W hW
      have hWc := Grow.cells hW
      go_simp
      exact (c_toTuning' x1 x2 a1 n1 c1 xs1 W (FS.below (B := w.heap.size) H1.out (b6.trans (Below.mono hW b6.size)) (Nat.le_refl _)) (by omega)).mono fun e w' ⟨t1, he, hb, l0, l1, o1⟩ => ⟨t1, he, ⟨Nat.le_trans hW.size l0, l1, o1⟩, hb⟩
    exact anti
    intro g
    (apply lh_h; kernel_rfl; kernel_rfl; kernel_rfl; (intro W hW; obtain ⟨hG, hK⟩ := hW; have hWc := Grow.cells hG; go_simp; exact gV (c_eqTuning' _ _ _ _ _ _ _ _ _ _ _ W rfl rfl (FS.below (B := w6.heap.size) o1x_6.fs hG (Nat.le_refl _)) (hK.2.2).fs (Alk.refl _))))
    (apply lh_o; kernel_rfl; kernel_rfl; kernel_rfl; (intro W hW; have hWc := Grow.cells hW; go_simp; exact ⟨OneV.mk _, Grow.refl _⟩))
    refine lh_nil ?_
    intro w7 hW7
    simp only [Act.put, List.setIfInBounds_toArray, List.set_cons_succ, List.set_cons_zero]
    have hb7 : Below w6.heap.size w6 w7 := hW7.1
    clear hW7
    obtain ⟨hc7, hf7, hz7⟩ := bcell hb7
    have hk7 := bblk hb7
    have Z7 : w6.heap.size ≤ w7.heap.size := by first | exact hz7 | (simp at hz7; omega) | omega
    try (have ZS7 : w6.heap.size < w7.heap.size := by first | omega | (simp at hz7; omega))
    try (have Xw_7 : w.heap.size < w7.heap.size := by first | omega | (simp at hz7; omega))
    try (have XXw_7 : w.heap.size < w7.heap.size + 1 := by omega)
    try (have Xw2_7 : w2.heap.size < w7.heap.size := by first | omega | (simp at hz7; omega))
    try (have XXw2_7 : w2.heap.size < w7.heap.size + 1 := by omega)
    try (have Xw4_7 : w4.heap.size < w7.heap.size := by first | omega | (simp at hz7; omega))
    try (have XXw4_7 : w4.heap.size < w7.heap.size + 1 := by omega)
    have b7 : Below w.heap.size w w7 := Below.trans (by (repeat (first | (with_reducible refine Below.drewN ?_) | (with_reducible refine Below.drew ?_) | ((with_reducible refine Below.alloc ?_ ?_ _); rotate_left; (first | omega | (simp <;> omega))) | ((with_reducible refine Below.setCell ?_ ?_ _); rotate_left; (first | omega | (simp <;> omega))) | (with_reducible exact Below.refl _ _) | (with_reducible assumption)))) (hb7.mono (by first | omega | (simp <;> omega)))
    have o1x_7 := OF.below (g := g1x) (a := (some ⟨g1x, 0, none⟩)) (n := n1) (c := n1) (xs := xs1) (by (repeat (first | (with_reducible assumption) | (with_reducible refine OF.draw ?_) | (with_reducible exact OF.made' (by simp) (by simp) (by omega)) | (with_reducible refine OF.alloc ?_ _) | ((with_reducible refine OF.setCell ?_ ?_ _); rotate_left; (first | omega | (simp <;> omega)))))) hb7 (Nat.le_refl _)
    clear o1x_6
    go_wp2
    go_ret
    exact ⟨rfl, by (repeat (first | (with_reducible refine Below.drewN ?_) | (with_reducible refine Below.drew ?_) | ((with_reducible refine Below.alloc ?_ ?_ _); rotate_left; (first | omega | (simp <;> omega))) | ((with_reducible refine Below.setCell ?_ ?_ _); rotate_left; (first | omega | (simp <;> omega))) | (with_reducible exact Below.refl _ _) | (with_reducible assumption)))⟩
  · go_enter Try.func16, Try.ntmps16
    go_wp2_with fail
    refine (c_szTuning_no _ _ _ _ _ (1048576) _ (by omega) (by omega) M1 (by omega)).mono ?_
    rintro e w1 ⟨rfl, hb1⟩
    obtain ⟨hc1, hf1, hz1⟩ := bcell hb1
    have hk1 := bblk hb1
    have Z1 : w.heap.size ≤ w1.heap.size := by first | exact hz1 | (simp at hz1; omega) | omega
    try (have ZS1 : w.heap.size < w1.heap.size := by first | omega | (simp at hz1; omega))
    try (have Xw_1 : w.heap.size < w1.heap.size := by first | omega | (simp at hz1; omega))
    try (have XXw_1 : w.heap.size < w1.heap.size + 1 := by omega)
    have b1 : Below w.heap.size w w1 := Below.trans (by (repeat (first | (with_reducible refine Below.drewN ?_) | (with_reducible refine Below.drew ?_) | ((with_reducible refine Below.alloc ?_ ?_ _); rotate_left; (first | omega | (simp <;> omega))) | ((with_reducible refine Below.setCell ?_ ?_ _); rotate_left; (first | omega | (simp <;> omega))) | (with_reducible exact Below.refl _ _) | (with_reducible assumption)))) (hb1.mono (by first | omega | (simp <;> omega)))
    go_wp2
    go_ret
    exact ⟨rfl, by (repeat (first | (with_reducible refine Below.drewN ?_) | (with_reducible refine Below.drew ?_) | ((with_reducible refine Below.alloc ?_ ?_ _); rotate_left; (first | omega | (simp <;> omega))) | ((with_reducible refine Below.setCell ?_ ?_ _); rotate_left; (first | omega | (simp <;> omega))) | (with_reducible exact Below.refl _ _) | (with_reducible assumption)))⟩


theorem k_PeriodOfKey (x1 x2 : Nat) (a1 : Option Addr) (n1 c1 : Nat) (xs1 : List Nat) (k : Int) (r : Nat) (w : World) (h_1 : FS w a1 n1 c1 xs1) :
    Calls Try.prog 16 #[.agg #[.float .f32 x1, .float .f32 x2, .slice a1 n1 c1], .int .i64 k, .float .f32 r] w (RetV (.bool true) w) :=
  l_PeriodOfKey x1 x2 a1 n1 c1 xs1 k r _ _ w h_1 (fun W _ _ j => c_sPeriodOfKey _ _ _ _ _ _ k r W j) (fun W _ _ j => c_PeriodOfKey _ _ _ _ _ _ k r W j)
end Go.Proofs.Ytdhiihmfgmempaa
