
/-
The law of powers and logarithms.
-/
import Derived.Test.YtmhgcflccaflpaaQj
import Derived.Test.YtmhgcflccaflpaaSy
namespace Go.Proofs.Ytmhgcflccaflpaa
open Go Go.RowKit Fl
theorem c_f6big (w : World) (a : Option Addr) (n c : Nat) : Calls Try.prog 13 #[.slice a n c] w (fun e w' => e = .returned (.bool (decide ((4096 : Int) < n))) ∧ w' = w) := by
  go_enter Try.func13, Try.ntmps13
  go_wp2
  go_ret
  exact ⟨rfl, rfl⟩
theorem c_P6Pick (w : World) (a : Option Addr) (n c : Nat) (m : Int) (hm : m ≤ 2147483648) (h : BS w a n) : Calls Try.prog 14 #[.slice a n c, .int .i64 m] w (fun e w' => ∃ z : Int, 0 ≤ z ∧ (z < m ∨ z = 0) ∧ e = .returned (.int .i64 z) ∧ Below w.heap.size w w') := by
  go_enter Try.func14, Try.ntmps14
  go_wp2_with fail
  refine (c_l00From w a n c).mono ?_
  rintro e w1 ⟨g, rfl, S⟩
  go_wp2_with fail
  refine (c_pick w w1 g a n c 0 m hm h S (by omega)).mono ?_
  rintro e w2 ⟨z, k', h1, h2, rfl, _, S2⟩
  have hb := S2.below
  go_wp2
  go_ret
  exact ⟨z, h1, h2, rfl, hb⟩
theorem c_SizeOf (a : Nat) (w : World) : Calls Try.prog 34 #[.float .f32 a] w (RetF .f32 (ab .f32 a) w) := by
  go_enter Try.func34, Try.ntmps34
  go_wp2_with (go_at_call 52; refine (c_l01Abs _ _).mono ?_; rintro e w' ⟨t1, n1, rfl, rfl⟩)
  go_ret
  exact .mk rfl (same1 _ _)
theorem c_f6near (a b c : Nat) (w : World) : Calls Try.prog 19 #[.float .f32 a, .float .f32 b, .float .f32 c] w (RetB (nearB a b c) w) := by
  go_enter Try.func19, Try.ntmps19
  go_wp2_with (go_at_call 34; refine (c_SizeOf _ _).mono ?_; rintro e w' ⟨t1, n1, rfl, rfl⟩)
  go_ret
  exact ⟨rfl, same1 _ _⟩
/-- a word and its code -/
def RetW (v : Nat) (w : World) (e : Ending) (w' : World) : Prop := e = .returned (.tuple #[.float .f32 v, .int .i64 0]) ∧ ∃ n, w' = w.drewN n
theorem RetFK.word {v c : Nat} (h : v = c) (hn : isNaN .f32 c = false) {w : World} {e : Ending} {w' : World} (k : RetFK v 0 w e w') : RetW c w e w' := by
  obtain ⟨t, n, rfl, hw⟩ := k
  subst h
  rw [nv_of t hn]
  exact ⟨rfl, n, hw⟩
theorem w_two {j : Int} (h : pqT j = true) (W : World) : Calls Try.prog 15 #[.float .f32 (xw j)] W (RetW (TW j) W) ∧ Calls Try.prog 16 #[.float .f32 (xw j)] W (RetW (TW j) W) := by
  obtain ⟨h1, h2, _, h4⟩ := T_of h
  have hn : isNaN .f32 (TW j) = false := isNaN_pos (k := .f32) (by rw [show FloatKind.f32.format.infRung = 2139095040 by decide]; omega)
  exact ⟨(c_TwoTo_ok _ (quo_lt _ _) W h2).mono fun e w' k => RetFK.word h1 hn k, (c_sTwoTo_ok _ (quo_lt _ _) W h2).mono fun e w' k => RetFK.word h1 hn k⟩
theorem w_log {j : Int} (h : pqT j = true) (h' : pqL j = true) (W : World) : Calls Try.prog 17 #[.float .f32 (TW j)] W (RetW (LW j) W) ∧ Calls Try.prog 18 #[.float .f32 (TW j)] W (RetW (LW j) W) := by
  obtain ⟨_, _, _, h4⟩ := T_of h
  obtain ⟨h1, h2, h3⟩ := L_of h'
  exact ⟨(c_LogTwo_ok _ (by omega) W h2).mono fun e w' k => RetFK.word h1 h3 k, (c_sLogTwo_ok _ (by omega) W h2).mono fun e w' k => RetFK.word h1 h3 k⟩
theorem w_cents {p q : Nat} (hp : 1 ≤ p) (hp' : p ≤ 40) (hq : 1 ≤ q) (hq' : q ≤ 40) (W : World) : Calls Try.prog 20 #[.int .i64 (p : Int), .int .i64 (q : Int)] W (RetW (cw p q) W) := by
  obtain ⟨h1, h2, _⟩ := tcq hp hp' hq hq'
  have k := c_CentsOf (p : Int) (q : Int) W
  have i1 : inB (p : Int) 1 1000 = true := by unfold inB; rw [decide_eq_true (show (1 : Int) ≤ p by omega), decide_eq_true (show (p : Int) ≤ 1000 by omega)]; rfl
  have i2 : inB (q : Int) 1 1000 = true := by unfold inB; rw [decide_eq_true (show (1 : Int) ≤ q by omega), decide_eq_true (show (q : Int) ≤ 1000 by omega)]; rfl
  rw [i1, i2] at k
  exact k.mono fun e w' k => RetFK.word h1 h2 k
/-- what the law asks of a whole number -/
theorem kfacts {K : Int} (h1 : -50 ≤ K) (h2 : K ≤ 49) : ∃ A B G, (∀ W, Calls Try.prog 15 #[.float .f32 (floatOfInt .f32 K)] W (RetW A W)) ∧ (∀ W, Calls Try.prog 15 #[.float .f32 (floatOfInt .f32 (K + 1))] W (RetW B W)) ∧ (∀ W, Calls Try.prog 17 #[.float .f32 A] W (RetW G W)) ∧
    fop .mul .f32 1073741824 A = B ∧ isNaN .f32 B = false ∧ (FloatKind.f32.format.order G (floatOfInt .f32 K) == some .eq) = true := by
  have k1 := tk (j := K) (by omega) (by omega)
  have k2 := tk (j := K + 1) (by omega) (by omega)
  unfold pqK at k1 k2
  simp only [Bool.and_eq_true, beq_iff_eq] at k1 k2
  obtain ⟨⟨⟨⟨a1, a2⟩, a3⟩, a4⟩, a5⟩ := k1
  obtain ⟨⟨⟨⟨b1, b2⟩, b3⟩, b4⟩, b5⟩ := k2
  obtain ⟨_, _, _, l4⟩ := T_of b2
  refine ⟨TW (32 * K), TW (32 * (K + 1)), LW (32 * K), fun W => ?_, fun W => ?_, fun W => (w_log a2 a4 W).1, a3, isNaN_pos (k := .f32) (by rw [show FloatKind.f32.format.infRung = 2139095040 by decide]; omega), by rw [a5]; rfl⟩
  · rw [a1]; exact (w_two a2 W).1
  · rw [b1]; exact (w_two b2 W).1
/-- what the law asks of a multiple of a thirty-second -/
theorem jfacts {J : Int} (h1 : -800 ≤ J) (h2 : J < 800) : ∃ X X1 C D E F E1, fop .quo .f32 (floatOfInt .f32 J) 1107296256 = X ∧ isNaN .f32 X = false ∧ fop .add .f32 X 1065353216 = X1 ∧ isNaN .f32 X1 = false ∧
    (∀ W, Calls Try.prog 15 #[.float .f32 X] W (RetW C W)) ∧ (∀ W, Calls Try.prog 16 #[.float .f32 X] W (RetW C W)) ∧ (∀ W, Calls Try.prog 15 #[.float .f32 X1] W (RetW D W)) ∧
    (∀ W, Calls Try.prog 17 #[.float .f32 C] W (RetW E W)) ∧ (∀ W, Calls Try.prog 18 #[.float .f32 C] W (RetW E W)) ∧ (∀ W, Calls Try.prog 17 #[.float .f32 D] W (RetW F W)) ∧
    fop .mul .f32 1073741824 C = D ∧ isNaN .f32 C = false ∧ isNaN .f32 D = false ∧ isNaN .f32 E = false ∧ fop .add .f32 E 1065353216 = E1 ∧ isNaN .f32 E1 = false ∧ nearB E X 953267991 = true ∧ nearB F E1 953267991 = true := by
  obtain ⟨a1, a2⟩ := tj (j := J) (by omega) (by omega)
  obtain ⟨b1, b2⟩ := tj (j := J + 32) (by omega) (by omega)
  have n1 := tn (j := J) (by omega) (by omega)
  unfold pqN at n1
  simp only [Bool.and_eq_true, beq_iff_eq, Bool.not_eq_true'] at n1
  obtain ⟨⟨⟨⟨c1, c2⟩, c3⟩, c4⟩, c5⟩ := n1
  obtain ⟨_, _, x3, x4⟩ := T_of a1
  obtain ⟨_, _, y3, y4⟩ := T_of b1
  obtain ⟨_, _, z3⟩ := L_of a2
  have hi : FloatKind.f32.format.infRung = 2139095040 := by decide
  exact ⟨xw J, xw (J + 32), TW J, TW (J + 32), LW J, LW (J + 32), _, rfl, x3, c1, y3, fun W => (w_two a1 W).1, fun W => (w_two a1 W).2, fun W => (w_two b1 W).1,
    fun W => (w_log a1 a2 W).1, fun W => (w_log a1 a2 W).2, fun W => (w_log b1 b2 W).1, c2, isNaN_pos (k := .f32) (by rw [hi]; omega), isNaN_pos (k := .f32) (by rw [hi]; omega), z3, rfl, c5, c3, c4⟩
set_option maxRecDepth 100000 in
set_option maxHeartbeats 3200000 in
theorem r_Powers (a : Option Addr) (n c : Nat) (b : Option Addr) (m d : Nat) (w : World) (h : BS w a n) (h' : BS w b m) :
    Calls Try.prog 4 #[.slice a n c, .slice b m d] w (RetV (.bool true) w) := by
  by_cases hl : (4096 : Int) < n
  · go_enter Try.func4, Try.ntmps4
    go_wp2_with (go_at_call 13; refine (c_f6big _ _ _ _).mono ?_; rintro e w' ⟨rfl, rfl⟩)
    go_ret
    exact ⟨rfl, by (repeat (first | (with_reducible refine Below.drewN ?_) | (with_reducible refine Below.drew ?_) | ((with_reducible refine Below.alloc ?_ ?_ _); rotate_left; (first | omega | (simp <;> omega))) | ((with_reducible refine Below.setCell ?_ ?_ _); rotate_left; (first | omega | (simp <;> omega))) | (with_reducible exact Below.refl _ _) | (with_reducible assumption)))⟩
  by_cases hl' : (4096 : Int) < m
  · go_enter Try.func4, Try.ntmps4
    go_wp2_with (go_at_call 13; refine (c_f6big _ _ _ _).mono ?_; rintro e w' ⟨rfl, rfl⟩)
    go_ret
    exact ⟨rfl, by (repeat (first | (with_reducible refine Below.drewN ?_) | (with_reducible refine Below.drew ?_) | ((with_reducible refine Below.alloc ?_ ?_ _); rotate_left; (first | omega | (simp <;> omega))) | ((with_reducible refine Below.setCell ?_ ?_ _); rotate_left; (first | omega | (simp <;> omega))) | (with_reducible exact Below.refl _ _) | (with_reducible assumption)))⟩
  have P0 := Lib.hid h
  have Q0 := Lib.hid h'
  clear h h'
  go_enter Try.func4, Try.ntmps4
  go_wp2_with (go_at_call 13; refine (c_f6big _ _ _ _).mono ?_; rintro e w' ⟨rfl, rfl⟩)
  clear hl hl'
  refine (c_P6Pick _ a n c 100 (by omega) P0.out).mono ?_
  rintro e w1 ⟨z, z0, z1, rfl, hb⟩
  obtain ⟨K, hK⟩ : ∃ K, K = z - 50 := ⟨_, rfl⟩
  have e1 : IntKind.i64.wrap (z - 50) = K := by rw [hK]; exact IntWalk.i64_in _ (by omega)
  have k1 : -50 ≤ K := by omega
  have k2 : K ≤ 49 := by omega
  clear hK z0 z1
  have HB := Lib.hid hb
  have P1 := Lib.hid (P0.out.below hb (Nat.le_refl _))
  have Q1 := Lib.hid (Q0.out.below hb (Nat.le_refl _))
  clear hb P0 Q0
  go_wp2_with fail
  refine (c_P6Pick _ b m d 1600 (by omega) Q1.out).mono ?_
  rintro e w2 ⟨y, y0, y1, rfl, hb⟩
  obtain ⟨J, hJ⟩ : ∃ J, J = y - 800 := ⟨_, rfl⟩
  have e2 : IntKind.i64.wrap (y - 800) = J := by rw [hJ]; exact IntWalk.i64_in _ (by omega)
  have j1 : -800 ≤ J := by omega
  have j2 : J < 800 := by omega
  clear hJ y0 y1
  have HB2 := Lib.hid (HB.out.trans (hb.mono HB.out.size))
  have P2 := Lib.hid (P1.out.below hb (Nat.le_refl _))
  have Q2 := Lib.hid (Q1.out.below hb (Nat.le_refl _))
  clear hb P1 Q1 HB
  have e3 : IntKind.i64.wrap (K + 1) = K + 1 := IntWalk.i64_in _ (by omega)
  obtain ⟨A, B, G, cA, cB, cG, mA, nB, oG⟩ := kfacts k1 k2
  obtain ⟨X, X1, C, D, E, F, E1, eX, nX, eX1, nX1, cC, cC', cD, cE, cE', cF, mC, nC, nD, nE, eE1, nE1, g1, g2⟩ := jfacts j1 j2
  have CA := Lib.hid cA
  have CB := Lib.hid cB
  have CG := Lib.hid cG
  have CC := Lib.hid cC
  have CC' := Lib.hid cC'
  have CD := Lib.hid cD
  have CE := Lib.hid cE
  have CE' := Lib.hid cE'
  have CF := Lib.hid cF
  have CN1 : Hid (∀ W, Calls Try.prog 19 #[.float .f32 E, .float .f32 X, .float .f32 953267991] W (RetB true W)) := Lib.hid (fun W => g1 ▸ c_f6near E X 953267991 W)
  have CN2 : Hid (∀ W, Calls Try.prog 19 #[.float .f32 F, .float .f32 E1, .float .f32 953267991] W (RetB true W)) := Lib.hid (fun W => g2 ▸ c_f6near F E1 953267991 W)
  have vX : ∀ t, nv .f32 X t = X := fun t => nv_of t nX
  have vX1 : ∀ t, nv .f32 X1 t = X1 := fun t => nv_of t nX1
  have vB : ∀ t, nv .f32 B t = B := fun t => nv_of t nB
  have vD : ∀ t, nv .f32 D t = D := fun t => nv_of t nD
  have vE1 : ∀ t, nv .f32 E1 t = E1 := fun t => nv_of t nE1
  have oB := order_self .f32 B nB
  have oC := order_self .f32 C nC
  have oD := order_self .f32 D nD
  have oE := order_self .f32 E nE
  clear cA cB cG cC cC' cD cE cE' cF nX nX1 nB nD nC nE nE1 g1 g2 k1 k2 j1 j2
  go_wp2_with fail
  refine (CA.out _).mono ?_
  rintro e w' ⟨rfl, m1, rfl⟩
  go_wp2_with fail
  refine (CB.out _).mono ?_
  rintro e w' ⟨rfl, m2, rfl⟩
  go_wp2_with fail
  refine (CC.out _).mono ?_
  rintro e w' ⟨rfl, m3, rfl⟩
  go_wp2_with fail
  refine (CD.out _).mono ?_
  rintro e w' ⟨rfl, m4, rfl⟩
  go_wp2_with fail
  refine (CC'.out _).mono ?_
  rintro e w' ⟨rfl, m5, rfl⟩
  go_wp2_with fail
  refine (CE.out _).mono ?_
  rintro e w' ⟨rfl, m6, rfl⟩
  go_wp2_with fail
  refine (CF.out _).mono ?_
  rintro e w' ⟨rfl, m7, rfl⟩
  go_wp2_with fail
  refine (CE'.out _).mono ?_
  rintro e w' ⟨rfl, m8, rfl⟩
  go_wp2_with fail
  refine (CN1.out _).mono ?_
  rintro e w' ⟨rfl, m9, rfl⟩
  go_wp2_with fail
  refine (CN2.out _).mono ?_
  rintro e w' ⟨rfl, m10, rfl⟩
  go_wp2_with fail
  refine (CG.out _).mono ?_
  rintro e w' ⟨rfl, m11, rfl⟩
  clear CA CB CC CD CC' CE CF CE' CN1 CN2 CG mC eX eX1 eE1 vX vX1 vD vE1 oC oD oE
  have B2 := HB2.out
  go_wp2_with fail
  refine (c_P6Pick _ a n c 40 (by omega) (P2.out.below (B := w2.heap.size) (by (repeat (first | (with_reducible refine Below.drewN ?_) | (with_reducible refine Below.drew ?_) | ((with_reducible refine Below.alloc ?_ ?_ _); rotate_left; (first | omega | (simp <;> omega))) | ((with_reducible refine Below.setCell ?_ ?_ _); rotate_left; (first | omega | (simp <;> omega))) | (with_reducible exact Below.refl _ _) | (with_reducible assumption)))) (Nat.le_refl _))).mono ?_
  rintro e w3 ⟨u, u0, u1, rfl, hb⟩
  obtain ⟨p, hp⟩ : ∃ p : Nat, (p : Int) = 1 + u := ⟨(1 + u).toNat, by omega⟩
  have e4 : IntKind.i64.wrap (1 + u) = (p : Int) := by rw [hp]; exact IntWalk.i64_in _ (by omega)
  have p1 : 1 ≤ p := by omega
  have p2 : p ≤ 40 := by omega
  clear hp u0 u1
  have hc : Below w2.heap.size w2 w3 := Below.trans (by (repeat (first | (with_reducible refine Below.drewN ?_) | (with_reducible refine Below.drew ?_) | ((with_reducible refine Below.alloc ?_ ?_ _); rotate_left; (first | omega | (simp <;> omega))) | ((with_reducible refine Below.setCell ?_ ?_ _); rotate_left; (first | omega | (simp <;> omega))) | (with_reducible exact Below.refl _ _) | (with_reducible assumption)))) (hb.mono (by simp))
  have HB3 := Lib.hid (B2.trans (hc.mono B2.size))
  have Q3 := Lib.hid (Q2.out.below hc (Nat.le_refl _))
  clear hb hc B2 HB2 P2 Q2
  have B3 := HB3.out
  go_wp2_with fail
  refine (c_P6Pick _ b m d 40 (by omega) (Q3.out.below (B := w3.heap.size) (by (repeat (first | (with_reducible refine Below.drewN ?_) | (with_reducible refine Below.drew ?_) | ((with_reducible refine Below.alloc ?_ ?_ _); rotate_left; (first | omega | (simp <;> omega))) | ((with_reducible refine Below.setCell ?_ ?_ _); rotate_left; (first | omega | (simp <;> omega))) | (with_reducible exact Below.refl _ _) | (with_reducible assumption)))) (Nat.le_refl _))).mono ?_
  rintro e w4 ⟨u', u0, u1, rfl, hb⟩
  obtain ⟨q, hq⟩ : ∃ q : Nat, (q : Int) = 1 + u' := ⟨(1 + u').toNat, by omega⟩
  have e5 : IntKind.i64.wrap (1 + u') = (q : Int) := by rw [hq]; exact IntWalk.i64_in _ (by omega)
  have q1 : 1 ≤ q := by omega
  have q2 : q ≤ 40 := by omega
  clear hq u0 u1
  have hc : Below w3.heap.size w3 w4 := Below.trans (by (repeat (first | (with_reducible refine Below.drewN ?_) | (with_reducible refine Below.drew ?_) | ((with_reducible refine Below.alloc ?_ ?_ _); rotate_left; (first | omega | (simp <;> omega))) | ((with_reducible refine Below.setCell ?_ ?_ _); rotate_left; (first | omega | (simp <;> omega))) | (with_reducible exact Below.refl _ _) | (with_reducible assumption)))) (hb.mono (by simp))
  have HB4 := Lib.hid (B3.trans (hc.mono B3.size))
  clear hb hc B3 HB3 Q3
  obtain ⟨_, _, g3, oH⟩ := tcq p1 p2 q1 q2
  have CH : Hid (∀ W, Calls Try.prog 20 #[.int .i64 (p : Int), .int .i64 (q : Int)] W (RetW (cw p q) W)) := Lib.hid (fun W => w_cents p1 p2 q1 q2 W)
  have CI : Hid (∀ W, Calls Try.prog 20 #[.int .i64 (q : Int), .int .i64 (p : Int)] W (RetW (cw q p) W)) := Lib.hid (fun W => w_cents q1 q2 p1 p2 W)
  have CN3 : Hid (∀ W, Calls Try.prog 19 #[.float .f32 (cw p q), .float .f32 (Op.negFloat .f32 (cw q p)), .float .f32 1008981770] W (RetB true W)) := Lib.hid (fun W => g3 ▸ c_f6near (cw p q) (Op.negFloat .f32 (cw q p)) 1008981770 W)
  clear g3 p1 p2 q1 q2
  generalize cw p q = H at *
  generalize cw q p = I at *
  go_wp2_with fail
  refine (CH.out _).mono ?_
  rintro e w' ⟨rfl, m21, rfl⟩
  go_wp2_with fail
  refine (CI.out _).mono ?_
  rintro e w' ⟨rfl, m22, rfl⟩
  go_wp2_with fail
  refine (CN3.out _).mono ?_
  rintro e w' ⟨rfl, m23, rfl⟩
  have hb := HB4.out
  by_cases g : q < p
  · rw [decide_eq_true g] at oH
    have g' : (q : Int) < (p : Int) := by omega
    go_wp2
    go_ret
    exact ⟨rfl, by (repeat (first | (with_reducible refine Below.drewN ?_) | (with_reducible refine Below.drew ?_) | ((with_reducible refine Below.alloc ?_ ?_ _); rotate_left; (first | omega | (simp <;> omega))) | ((with_reducible refine Below.setCell ?_ ?_ _); rotate_left; (first | omega | (simp <;> omega))) | (with_reducible exact Below.refl _ _) | (with_reducible assumption)))⟩
  · rw [decide_eq_false g] at oH
    have g' : ¬ (q : Int) < (p : Int) := by omega
    go_wp2
    go_ret
    exact ⟨rfl, by (repeat (first | (with_reducible refine Below.drewN ?_) | (with_reducible refine Below.drew ?_) | ((with_reducible refine Below.alloc ?_ ?_ _); rotate_left; (first | omega | (simp <;> omega))) | ((with_reducible refine Below.setCell ?_ ?_ _); rotate_left; (first | omega | (simp <;> omega))) | (with_reducible exact Below.refl _ _) | (with_reducible assumption)))⟩
end Go.Proofs.Ytmhgcflccaflpaa
