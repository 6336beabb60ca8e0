
/-
Frequencies that glide; the law of a function that returns a new slice.
-/
import Derived.Test.YtdhiihmfgmempaaAp
import Derived.Test.YtdhiihmfgmempaaHz
namespace Go.Proofs.Ytdhiihmfgmempaa
open Go Go.RowKit Fl
/-- a new slice and a code -/
def NewS (n : Nat) (ys : List Nat) (code : Int) (w : World) (e : Ending) (w' : World) : Prop :=
  ∃ (a : Option Addr) (c g : Nat) (xs : List Nat), e = .returned (.tuple #[.slice a n c, .int .i64 code]) ∧ Below w.heap.size w w' ∧ (0 < n → w.heap.size ≤ g ∧ g < w'.heap.size) ∧ OF w' g a n c xs ∧ Alk ys xs
theorem nth_append_lt {xs ys : List Nat} {i : Nat} (h : i < xs.length) : nth (xs ++ ys) i = nth xs i := by
  unfold nth
  rw [List.getD_eq_getElem?_getD, List.getD_eq_getElem?_getD, List.getElem?_append_left h]
theorem nth_append_at (xs : List Nat) (v : Nat) : nth (xs ++ [v]) xs.length = v := by unfold nth; simp
theorem nth_append_gt {xs : List Nat} {v i : Nat} (h : xs.length < i) : nth (xs ++ [v]) i = 0 := by
  unfold nth
  rw [List.getD_eq_getElem?_getD, List.getElem?_eq_none (by simp; omega)]; rfl
theorem Alk.snoc {ys xs : List Nat} {v u : Nat} (h : Alk ys xs) (hl : ys.length = xs.length) (hv : up u = up v) : Alk (ys ++ [v]) (xs ++ [u]) := by
  intro i
  rcases Nat.lt_trichotomy i xs.length with h1 | h1 | h1
  · rw [nth_append_lt h1, nth_append_lt (by omega)]; exact h i
  · rw [h1, nth_append_at, ← hl, nth_append_at]; exact hv
  · rw [nth_append_gt h1, nth_append_gt (by omega)]
theorem Alk.both {ys xs zs : List Nat} (h : Alk ys xs) (k : Alk ys zs) : Alk xs zs := fun i => (k i).trans (h i).symm
set_option maxRecDepth 10000 in
set_option maxHeartbeats 1000000 in
theorem l_GlideOf (fr to : Nat) (ct : Int) (n : Nat) (ys : List Nat) (code : Int) (w : World) (m1 : n ≤ 1048576)
    (HS : ∀ w, Calls Try.prog 54 #[.float .f32 fr, .float .f32 to, .int .i64 ct] w (NewS n ys code w)) (HI : ∀ w, Calls Try.prog 55 #[.float .f32 fr, .float .f32 to, .int .i64 ct] w (NewS n ys code w)) :
    Calls Try.prog 13 #[.float .f32 fr, .float .f32 to, .int .i64 ct] w (RetV (.bool true) w) := by
  have HS := Lib.hid HS
  have HI := Lib.hid HI
  have hq : ¬ (1 + (n : Int)) < 0 := by omega
  go_enter Try.func13, Try.ntmps13
  go_wp2_with fail
  refine (HS.out _).mono ?_
  rintro e w1 ⟨a1, c1, g1, x1, rfl, hb1, q1, o1, A1⟩
  have Q1 := Lib.hid q1
  have O1 := Lib.hid o1
  have AA1 := Lib.hid A1
  clear q1 o1 A1
  go_wp2_with fail
  refine (HI.out _).mono ?_
  rintro e w2 ⟨a2, c2, g2, x2, rfl, hb2, q2, o2, A2⟩
  have O1 := Lib.hid (O1.out.below hb2 (Nat.le_refl _))
  have Q2 := Lib.hid q2
  have O2 := Lib.hid o2
  have AA2 := Lib.hid A2
  clear q2 o2 A2
  go_wp2_with fail
  refine (c_eqFloat32S' _ _ _ _ _ _ _ _ O2.out.fs O1.out.fs (AA2.out.both AA1.out)).mono ?_
  rintro e w3 ⟨rfl, hb3⟩
  have O1 := Lib.hid (O1.out.below hb3 (Nat.le_refl _))
  have O2 := Lib.hid (O2.out.below hb3 (Nat.le_refl _))
  go_wp2_with fail
  refine (c_markFloat32S' g2 a2 n c2 x2 1 _ O2.out (fun h => Nat.lt_of_lt_of_le (Q2.out h).2 hb3.size) (by omega) (by omega)).mono ?_
  rintro e w4 ⟨rfl, wr4, o2'⟩
  have O1 := Lib.hid (O1.out.wr wr4 (by
    rw [mem_gl]
    rintro ⟨h, he⟩
    have h1 := (Q1.out h).2
    have h2 := (Q2.out h).1
    omega))
  have O2 := Lib.hid o2'
  have b4 : Below w.heap.size w w4 := by
    have h1 : Below w.heap.size w w3 := (hb1.trans (hb2.mono hb1.size)).trans (hb3.mono (Nat.le_trans hb1.size hb2.size))
    refine h1.trans (wr4.below h1.size (fun g hg => ?_))
    rw [mem_gl] at hg
    have := (Q2.out hg.1).1
    have := hb1.size
    omega
  clear o2' wr4 hb1 hb2 hb3
  go_wp2_with fail
  refine (c_heldFloat32S' _ _ _ 1 _ O2.out.fs (by omega) (by omega)).mono ?_
  rintro e w5 ⟨rfl, hb5⟩
  have O1 := Lib.hid (O1.out.below hb5 (Nat.le_refl _))
  have O2 := Lib.hid (O2.out.below hb5 (Nat.le_refl _))
  go_wp2_with fail
  refine (HI.out _).mono ?_
  rintro e w6 ⟨a3, c3, g3, x3, rfl, hb6, q3, o3, A3⟩
  have O1 := Lib.hid (O1.out.below hb6 (Nat.le_refl _))
  have O2 := Lib.hid (O2.out.below hb6 (Nat.le_refl _))
  have O3 := Lib.hid o3
  have AA3 := Lib.hid A3
  clear q3 o3 A3
  go_wp2_with fail
  refine (c_eqFloat32S' _ _ _ _ _ _ _ _ O3.out.fs O1.out.fs (AA3.out.both AA1.out)).mono ?_
  rintro e w7 ⟨rfl, hb7⟩
  have O2 := Lib.hid (O2.out.below hb7 (Nat.le_refl _))
  go_wp2_with fail
  refine (c_heldFloat32S' _ _ _ 1 _ O2.out.fs (by omega) (by omega)).mono ?_
  rintro e w8 ⟨rfl, hb8⟩
  have b8 : Below w.heap.size w w8 := by
    have h5 := b4.trans (hb5.mono b4.size)
    have h6 := h5.trans (hb6.mono h5.size)
    have h7 := h6.trans (hb7.mono h6.size)
    exact h7.trans (hb8.mono h7.size)
  clear hb5 hb6 hb7 hb8 b4
  go_wp2
  go_ret
  exact ⟨rfl, by (repeat (first | (with_reducible refine Below.drewN ?_) | (with_reducible refine Below.drew ?_) | ((with_reducible refine Below.alloc ?_ ?_ _); rotate_left; (first | omega | (simp <;> omega))) | ((with_reducible refine Below.setCell ?_ ?_ _); rotate_left; (first | omega | (simp <;> omega))) | (with_reducible exact Below.refl _ _) | (with_reducible assumption)))⟩
/-! ### the two sides -/
def lgF (x : Nat) : Nat := if areaB x = true then logF (up x) else 0
def lgC (x : Nat) : Int := if areaB x = true then 0 else 2
theorem c_LogTwo_gen (x t : Nat) (hx : x < 4294967296) (w : World) : Calls Try.prog 49 #[.float .f32 (nv .f32 x t)] w (RetFK (lgF x) (lgC x) w) := by
  cases h : areaB x
  · have e1 : lgF x = 0 := by unfold lgF; rw [h]; rfl
    have e2 : lgC x = 2 := by unfold lgC; rw [h]; rfl
    rw [e1, e2]
    exact c_LogTwo_no _ w (by rw [areaB_nv]; exact h)
  · have e1 : lgF x = logF (up x) := by unfold lgF; rw [if_pos h]
    have e2 : lgC x = 0 := by unfold lgC; rw [if_pos h]
    rw [e1, e2, nv_of t (areaB_nan h)]
    exact c_LogTwo_ok x hx w h
theorem c_l07Log_gen (x t : Nat) (hx : x < 4294967296) (w : World) : Calls Try.prog 97 #[.float .f32 (nv .f32 x t)] w (RetFL (lgF x) (areaB x) w) := by
  cases h : areaB x
  · have e1 : lgF x = 0 := by unfold lgF; rw [h]; rfl
    rw [e1]
    exact c_l07Log_no _ w (by rw [areaB_nv]; exact h)
  · have e1 : lgF x = logF (up x) := by unfold lgF; rw [if_pos h]
    rw [e1, nv_of t (areaB_nan h)]
    exact c_l07Log_ok x hx w h
def glX (fr to : Nat) : Nat := fop .quo .f32 to fr
def glY (fr to : Nat) (ct : Int) : Nat := fop .quo .f32 (lgF (glX fr to)) (floatOfInt .f32 ct)
def glOk (fr to : Nat) (ct : Int) : Bool := inB ct 1 4096 && areaB fr && areaB to && areaB (glX fr to) && okX (glY fr to ct)
def glA (f fr : Nat) : Nat → Nat
  | 0 => fr
  | k + 1 => fop .mul .f32 (glA f fr k) f
def glP (f fr k : Nat) : List Nat := (List.range k).map (glA f fr)
theorem glP_succ (f fr k : Nat) : glP f fr (k + 1) = glP f fr k ++ [glA f fr k] := by unfold glP; rw [List.range_succ, List.map_append]; rfl
theorem glP_len (f fr k : Nat) : (glP f fr k).length = k := by unfold glP; simp
/-- a slice that is being filled -/
structure SB (w0 w : World) (a : Option Addr) (n c g : Nat) (ys : List Nat) : Prop where
  below : Below w0.heap.size w0 w
  room : ∃ xs, Room w g a n c xs ∧ Alk ys xs
  own : 0 < c → w0.heap.size ≤ g
theorem SB.start {w0 W : World} (h : Below w0.heap.size w0 W) (a : Option Addr) : SB w0 W a 0 0 0 [] := ⟨h, ⟨[], Room.nil _ _ _, Alk.refl _⟩, fun h => absurd h (by omega)⟩
theorem SB.draw {w0 W : World} {a : Option Addr} {n c g : Nat} {ys : List Nat} (h : SB w0 W a n c g ys) (q : Nat) : SB w0 (W.drewN q) a n c g ys := by
  obtain ⟨xs, hr, ha⟩ := h.room
  exact ⟨Below.drewN h.below, ⟨xs, hr.keep fun _ => rfl, ha⟩, h.own⟩
theorem SB.step {w0 w : World} {a : Option Addr} {n c g : Nat} {ys : List Nat} (h : SB w0 w a n c g ys) (hl : ys.length = n) (hn : n ≤ 100000) (W : World) (hW : Below w.heap.size w W) (s v u : Nat) (hs : W.cell? ⟨s, 0, none⟩ = some (.float .f32 v)) (hv : up v = up u) :
    ∃ (a' : Option Addr) (c' g' : Nat) (W' : World), (bigAppend #[29, 29] 29 #[.slice a n c, .slice (some ⟨s, 0, none⟩) 1 1]).run Try.prog W = .ok (.slice a' (n + 1) c') W' ∧ SB w0 W' a' (n + 1) c' g' (ys ++ [u]) := by
  have hsz := hW.size
  obtain ⟨xs, hr, ha⟩ := h.room
  obtain ⟨a', c', g', W', h1, h2, h3, h4, h5, h6⟩ := run_app1 (hr.below hW (Nat.le_refl _)) s v hs hn
  have hBel : Below w0.heap.size w0 W' := (h.below.trans (hW.mono h.below.size)).trans (h5 _ (by have := h.below.size; omega) h.own)
  have hge : w0.heap.size ≤ g' := by
    rcases h3 with ⟨rfl, hc⟩ | rfl
    · exact h.own hc
    · have := h.below.size; omega
  exact ⟨a', c', g', W', h1, hBel, ⟨_, h2, ha.snoc (by rw [hl, hr.len]) hv⟩, fun _ => hge⟩
theorem SB.new {w0 w : World} {a : Option Addr} {n c g : Nat} {ys : List Nat} (h : SB w0 w a n c g ys) : ∃ xs, (0 < n → w0.heap.size ≤ g ∧ g < w.heap.size) ∧ OF w g a n c xs ∧ Alk ys xs := by
  obtain ⟨xs, hr, ha⟩ := h.room
  have hle := hr.le
  exact ⟨xs, fun hn => ⟨h.own (by omega), hr.lt (by omega)⟩, hr.of, ha⟩
theorem NewS.no (w : World) {W : World} (hb : Below w.heap.size w W) : NewS 0 [] 2 w (.returned (.tuple #[.slice none 0 0, .int .i64 2])) W := ⟨Option.none, 0, 0, [], rfl, hb, fun h => absurd h (by omega), OF.nil _ _, Alk.refl _⟩
theorem NewS.empty (w : World) {W : World} (a : Option Addr) (hb : Below w.heap.size w W) : NewS 0 [] 2 w (.returned (.tuple #[.slice a 0 0, .int .i64 2])) W := ⟨a, 0, 0, [], rfl, hb, fun h => absurd h (by omega), ⟨⟨rfl, Nat.le_refl _, by omega, fun h => absurd h (by omega)⟩, fun h => absurd h (by omega)⟩, Alk.refl _⟩
theorem area_parts {x : Nat} (h : areaB x = true) : finB x = true ∧ (FloatKind.f32.format.order x 0 == some .gt) = true := by
  unfold areaB at h
  rwa [Bool.and_eq_true] at h
theorem gl_fls : ∀ (fr to : Nat) (ct : Int), glOk fr to ct = false → inB ct 1 4096 = false ∨ areaB fr = false ∨ areaB to = false ∨ areaB (glX fr to) = false ∨ okX (glY fr to ct) = false := by
  intro fr to ct h
  unfold glOk at h
  cases h1 : inB ct 1 4096
  · exact .inl rfl
  cases h2 : areaB fr
  · exact .inr (.inl rfl)
  cases h3 : areaB to
  · exact .inr (.inr (.inl rfl))
  cases h4 : areaB (glX fr to)
  · exact .inr (.inr (.inr (.inl rfl)))
  · rw [h1, h2, h3, h4] at h
    exact .inr (.inr (.inr (.inr (by simpa using h))))
set_option maxRecDepth 10000 in
set_option maxHeartbeats 4000000 in
theorem c_GlideOf_no (fr to : Nat) (ct : Int) (w : World) (h : glOk fr to ct = false) :
    Calls Try.prog 55 #[.float .f32 fr, .float .f32 to, .int .i64 ct] w (NewS 0 [] 2 w) := by
  cases h1 : inB ct 1 4096
  · go_enter Try.func55, Try.ntmps55
    go_wp2_with (go_at_call 74; refine (c_within _ _ _ _).mono ?_; rw [h1]; rintro e w' ⟨rfl, m1, rfl⟩)
    go_ret2
    exact NewS.no w (by (repeat (first | (with_reducible refine Below.drewN ?_) | (with_reducible refine Below.drew ?_) | ((with_reducible refine Below.alloc ?_ ?_ _); rotate_left; (first | omega | (simp <;> omega))) | ((with_reducible refine Below.setCell ?_ ?_ _); rotate_left; (first | omega | (simp <;> omega))) | (with_reducible exact Below.refl _ _) | (with_reducible assumption))))
  cases h2 : areaB fr
  · go_enter Try.func55, Try.ntmps55
    go_wp2_with (first | (go_at_call 74; refine (c_within _ _ _ _).mono ?_; rw [h1]; rintro e w' ⟨rfl, m1, rfl⟩) | (go_at_call 98; refine (c_isArea _ _).mono ?_; rw [h2]; rintro e w' ⟨rfl, m1, rfl⟩))
    go_ret2
    exact NewS.no w (by (repeat (first | (with_reducible refine Below.drewN ?_) | (with_reducible refine Below.drew ?_) | ((with_reducible refine Below.alloc ?_ ?_ _); rotate_left; (first | omega | (simp <;> omega))) | ((with_reducible refine Below.setCell ?_ ?_ _); rotate_left; (first | omega | (simp <;> omega))) | (with_reducible exact Below.refl _ _) | (with_reducible assumption))))
  have A2 := Lib.hid (fun w => h2 ▸ c_isArea fr w)
  cases h3 : areaB to
  · have A3 := Lib.hid (fun w => h3 ▸ c_isArea to w)
    go_enter Try.func55, Try.ntmps55
    go_wp2_with (first | (go_at_call 74; refine (c_within _ _ _ _).mono ?_; rw [h1]; rintro e w' ⟨rfl, m1, rfl⟩) | (go_at_call 98; (first | refine (A2.out _).mono ?_ | refine (A3.out _).mono ?_); rintro e w' ⟨rfl, m1, rfl⟩))
    go_ret2
    exact NewS.no w (by (repeat (first | (with_reducible refine Below.drewN ?_) | (with_reducible refine Below.drew ?_) | ((with_reducible refine Below.alloc ?_ ?_ _); rotate_left; (first | omega | (simp <;> omega))) | ((with_reducible refine Below.setCell ?_ ?_ _); rotate_left; (first | omega | (simp <;> omega))) | (with_reducible exact Below.refl _ _) | (with_reducible assumption))))
  have A3 := Lib.hid (fun w => h3 ▸ c_isArea to w)
  have hX : fop .quo .f32 to fr = glX fr to := rfl
  have HLG := Lib.hid (fun t w => c_LogTwo_gen (glX fr to) t (quo_lt _ _) w)
  have hY : fop .quo .f32 (lgF (glX fr to)) (floatOfInt .f32 ct) = glY fr to ct := rfl
  have HTW := Lib.hid (fun t w => c_TwoTo_any (glY fr to ct) t (quo_lt _ _) w)
  have hor : (lgC (glX fr to) = 2) ∨ (lgC (glX fr to) = 0 ∧ cdX (glY fr to ct) = 2) := by
    unfold lgC cdX
    cases h4 : areaB (glX fr to)
    · exact .inl rfl
    · right
      refine ⟨rfl, ?_⟩
      cases h5 : okX (glY fr to ct)
      · rfl
      · unfold glOk at h
        rw [h1, h2, h3, h4, h5] at h
        cases h
  generalize glY fr to ct = Y at *
  generalize lgF (glX fr to) = L at *
  generalize lgC (glX fr to) = C1 at *
  generalize cdX Y = C2 at *
  generalize pwF Y = P at *
  generalize glX fr to = X at *
  clear h h2 h3
  rcases hor with rfl | ⟨rfl, rfl⟩
  all_goals
    go_enter Try.func55, Try.ntmps55
    go_wp2_with (first | (go_at_call 74; refine (c_within _ _ _ _).mono ?_; rw [h1]; rintro e w' ⟨rfl, m1, rfl⟩) | (go_at_call 98; (first | refine (A2.out _).mono ?_ | refine (A3.out _).mono ?_); rintro e w' ⟨rfl, m1, rfl⟩) | (go_at_call 49; refine (HLG.out _ _).mono ?_; rintro e w' ⟨t1, m1, rfl, rfl⟩) | (go_at_call 51; refine (HTW.out _ _).mono ?_; rintro e w' ⟨t2, m2, rfl, rfl⟩))
    go_ret2
    exact NewS.no w (by (repeat (first | (with_reducible refine Below.drewN ?_) | (with_reducible refine Below.drew ?_) | ((with_reducible refine Below.alloc ?_ ?_ _); rotate_left; (first | omega | (simp <;> omega))) | ((with_reducible refine Below.setCell ?_ ?_ _); rotate_left; (first | omega | (simp <;> omega))) | (with_reducible exact Below.refl _ _) | (with_reducible assumption))))
set_option maxRecDepth 10000 in
set_option maxHeartbeats 1000000 in
theorem c_GlideOf_ok (fr to n : Nat) (w : World) (h : glOk fr to (n : Int) = true) :
    Calls Try.prog 55 #[.float .f32 fr, .float .f32 to, .int .i64 n] w (NewS n (glP (pwF (glY fr to n)) fr n) 0 w) := by
  unfold glOk at h
  simp only [Bool.and_eq_true] at h
  obtain ⟨⟨⟨⟨h1, h2⟩, h3⟩, h4⟩, h5⟩ := h
  have hn := (inB_yes h1).2
  have A2 := Lib.hid (fun w => h2 ▸ c_isArea fr w)
  have A3 := Lib.hid (fun w => h3 ▸ c_isArea to w)
  have hX : fop .quo .f32 to fr = glX fr to := rfl
  have e1 : lgC (glX fr to) = 0 := by unfold lgC; rw [if_pos h4]
  have e2 : cdX (glY fr to n) = 0 := by unfold cdX; rw [if_pos h5]
  have HLG := Lib.hid (fun t w => e1 ▸ c_LogTwo_gen (glX fr to) t (quo_lt _ _) w)
  have hY : fop .quo .f32 (lgF (glX fr to)) (floatOfInt .f32 (n : Int)) = glY fr to n := rfl
  have HTW := Lib.hid (fun t w => e2 ▸ c_TwoTo_any (glY fr to n) t (quo_lt _ _) w)
  generalize glY fr to (n : Int) = Y at *
  generalize lgF (glX fr to) = L at *
  generalize pwF Y = P at *
  generalize glX fr to = X at *
  clear h2 h3 h4 h5 e1 e2
  go_enter Try.func55, Try.ntmps55
  go_wp2_with (first | (go_at_call 74; refine (c_within _ _ _ _).mono ?_; rw [h1]; rintro e w' ⟨rfl, m1, rfl⟩) | (go_at_call 98; (first | refine (A2.out _).mono ?_ | refine (A3.out _).mono ?_); rintro e w' ⟨rfl, m1, rfl⟩) | (go_at_call 49; refine (HLG.out _ _).mono ?_; rintro e w' ⟨t1, m1, rfl, rfl⟩) | (go_at_call 51; refine (HTW.out _ _).mono ?_; rintro e w' ⟨t2, m2, rfl, rfl⟩))
  go_loopw [0, 12, 48] (fun x s i wr => ∃ (k : Nat) (a : Option Addr) (c g u : Nat), k ≤ n ∧ i = .int .i64 k ∧ s = .slice a k c ∧ x = .float .f32 (nv .f32 (glA P fr k) u) ∧ SB w wr a k c g (glP P fr k)) (fun _ _ i _ => n - (intOf i).toNat)
  case atStart => exact ⟨0, _, _, _, 0, by omega, rfl, rfl, rfl, SB.start (by (repeat (first | (with_reducible refine Below.drewN ?_) | (with_reducible refine Below.drew ?_) | ((with_reducible refine Below.alloc ?_ ?_ _); rotate_left; (first | omega | (simp <;> omega))) | ((with_reducible refine Below.setCell ?_ ?_ _); rotate_left; (first | omega | (simp <;> omega))) | (with_reducible exact Below.refl _ _) | (with_reducible assumption)))) _⟩
  case round =>
    clear HLG HTW A2 A3 hX hY
    obtain ⟨k, a, c, g, u, hk, rfl, rfl, rfl, hS⟩ := hrel
    by_cases hlt : k < n
    · have hM : fop .mul .f32 (glA P fr k) P = glA P fr (k + 1) := rfl
      have HP := Lib.hid (glP_succ P fr k)
      obtain ⟨a', c', g', W', hap, hS'⟩ := hS.step (glP_len _ _ _) (by omega) (wr.alloc (.cells #[.float .f32 (nv .f32 (glA P fr k) u)] 22)) (Below.alloc (Below.refl _ _) (Nat.le_refl _) _) wr.heap.size _ (glA P fr k) (cell_blk (blk_alloc wr _) 0) (up_nv _ _)
      rw [← HP.out] at hS'
      generalize hV1 : glA P fr (k + 1) = V1 at *
      have HV1 := Lib.hid hV1
      clear hV1
      generalize glA P fr k = V at *
      go_wp2
      go_roundw
      case rel => exact ⟨k + 1, a', c', g', _, by omega, by go_num, rfl, by rw [HV1.out], SB.draw hS' _⟩
      case measure => simp [intOf]; omega
    · obtain rfl : k = n := by omega
      obtain ⟨xs, q1, q2, q3⟩ := hS.new
      have Q1 := Lib.hid q1
      have Q2 := Lib.hid q2
      have Q3 := Lib.hid q3
      have hb := hS.below
      clear hS q1 q2 q3
      go_wp2
      go_ret2
      exact ⟨a, c, g, xs, rfl, by (repeat (first | (with_reducible refine Below.drewN ?_) | (with_reducible refine Below.drew ?_) | ((with_reducible refine Below.alloc ?_ ?_ _); rotate_left; (first | omega | (simp <;> omega))) | ((with_reducible refine Below.setCell ?_ ?_ _); rotate_left; (first | omega | (simp <;> omega))) | (with_reducible exact Below.refl _ _) | (with_reducible assumption))), Q1.out, Q2.out, Q3.out⟩
set_option maxRecDepth 10000 in
set_option maxHeartbeats 4000000 in
theorem c_sGlideOf_no (fr to : Nat) (ct : Int) (w : World) (h : glOk fr to ct = false) :
    Calls Try.prog 54 #[.float .f32 fr, .float .f32 to, .int .i64 ct] w (NewS 0 [] 2 w) := by
  cases h1 : inB ct 1 4096
  · go_enter Try.func54, Try.ntmps54
    go_wp2_with (go_at_call 72; refine (c_l00In _ _ _ _).mono ?_; rw [h1]; rintro e w' ⟨rfl, m1, rfl⟩)
    go_ret2
    exact NewS.empty w _ (by (repeat (first | (with_reducible refine Below.drewN ?_) | (with_reducible refine Below.drew ?_) | ((with_reducible refine Below.alloc ?_ ?_ _); rotate_left; (first | omega | (simp <;> omega))) | ((with_reducible refine Below.setCell ?_ ?_ _); rotate_left; (first | omega | (simp <;> omega))) | (with_reducible exact Below.refl _ _) | (with_reducible assumption))))
  cases f2 : finB fr
  · go_enter Try.func54, Try.ntmps54
    go_wp2_with (first | (go_at_call 72; refine (c_l00In _ _ _ _).mono ?_; rw [h1]; rintro e w' ⟨rfl, m1, rfl⟩) | (go_at_call 67; refine (c_l01Finite _ _).mono ?_; rw [f2]; rintro e w' ⟨rfl, m1, rfl⟩))
    go_ret2
    exact NewS.empty w _ (by (repeat (first | (with_reducible refine Below.drewN ?_) | (with_reducible refine Below.drew ?_) | ((with_reducible refine Below.alloc ?_ ?_ _); rotate_left; (first | omega | (simp <;> omega))) | ((with_reducible refine Below.setCell ?_ ?_ _); rotate_left; (first | omega | (simp <;> omega))) | (with_reducible exact Below.refl _ _) | (with_reducible assumption))))
  have A2 := Lib.hid (fun w => f2 ▸ c_l01Finite fr w)
  cases f3 : finB to
  · have A3 := Lib.hid (fun w => f3 ▸ c_l01Finite to w)
    go_enter Try.func54, Try.ntmps54
    go_wp2_with (first | (go_at_call 72; refine (c_l00In _ _ _ _).mono ?_; rw [h1]; rintro e w' ⟨rfl, m1, rfl⟩) | (go_at_call 67; (first | refine (A2.out _).mono ?_ | refine (A3.out _).mono ?_); rintro e w' ⟨rfl, m1, rfl⟩))
    go_ret2
    exact NewS.empty w _ (by (repeat (first | (with_reducible refine Below.drewN ?_) | (with_reducible refine Below.drew ?_) | ((with_reducible refine Below.alloc ?_ ?_ _); rotate_left; (first | omega | (simp <;> omega))) | ((with_reducible refine Below.setCell ?_ ?_ _); rotate_left; (first | omega | (simp <;> omega))) | (with_reducible exact Below.refl _ _) | (with_reducible assumption))))
  have A3 := Lib.hid (fun w => f3 ▸ c_l01Finite to w)
  cases o2 : (FloatKind.f32.format.order fr 0 == some .gt)
  · go_enter Try.func54, Try.ntmps54
    go_wp2_with (first | (go_at_call 72; refine (c_l00In _ _ _ _).mono ?_; rw [h1]; rintro e w' ⟨rfl, m1, rfl⟩) | (go_at_call 67; (first | refine (A2.out _).mono ?_ | refine (A3.out _).mono ?_); rintro e w' ⟨rfl, m1, rfl⟩))
    go_ret2
    exact NewS.empty w _ (by (repeat (first | (with_reducible refine Below.drewN ?_) | (with_reducible refine Below.drew ?_) | ((with_reducible refine Below.alloc ?_ ?_ _); rotate_left; (first | omega | (simp <;> omega))) | ((with_reducible refine Below.setCell ?_ ?_ _); rotate_left; (first | omega | (simp <;> omega))) | (with_reducible exact Below.refl _ _) | (with_reducible assumption))))
  cases o3 : (FloatKind.f32.format.order to 0 == some .gt)
  · go_enter Try.func54, Try.ntmps54
    go_wp2_with (first | (go_at_call 72; refine (c_l00In _ _ _ _).mono ?_; rw [h1]; rintro e w' ⟨rfl, m1, rfl⟩) | (go_at_call 67; (first | refine (A2.out _).mono ?_ | refine (A3.out _).mono ?_); rintro e w' ⟨rfl, m1, rfl⟩))
    go_ret2
    exact NewS.empty w _ (by (repeat (first | (with_reducible refine Below.drewN ?_) | (with_reducible refine Below.drew ?_) | ((with_reducible refine Below.alloc ?_ ?_ _); rotate_left; (first | omega | (simp <;> omega))) | ((with_reducible refine Below.setCell ?_ ?_ _); rotate_left; (first | omega | (simp <;> omega))) | (with_reducible exact Below.refl _ _) | (with_reducible assumption))))
  have h2 : areaB fr = true := by unfold areaB; rw [f2, o2]; rfl
  have h3 : areaB to = true := by unfold areaB; rw [f3, o3]; rfl
  have hX : fop .quo .f32 to fr = glX fr to := rfl
  have hY : fop .quo .f32 (lgF (glX fr to)) (floatOfInt .f32 ct) = glY fr to ct := rfl
  cases h4 : areaB (glX fr to)
  · have HLG := Lib.hid (fun t w => h4 ▸ c_l07Log_gen (glX fr to) t (quo_lt _ _) w)
    generalize glY fr to ct = Y at *
    generalize lgF (glX fr to) = L at *
    generalize glX fr to = X at *
    clear h h2 h3 f2 f3 h4
    go_enter Try.func54, Try.ntmps54
    go_wp2_with (first | (go_at_call 72; refine (c_l00In _ _ _ _).mono ?_; rw [h1]; rintro e w' ⟨rfl, m1, rfl⟩) | (go_at_call 67; (first | refine (A2.out _).mono ?_ | refine (A3.out _).mono ?_); rintro e w' ⟨rfl, m1, rfl⟩) | (go_at_call 97; refine (HLG.out _ _).mono ?_; rintro e w' ⟨t1, m1, rfl, rfl⟩))
    go_ret2
    exact NewS.empty w _ (by (repeat (first | (with_reducible refine Below.drewN ?_) | (with_reducible refine Below.drew ?_) | ((with_reducible refine Below.alloc ?_ ?_ _); rotate_left; (first | omega | (simp <;> omega))) | ((with_reducible refine Below.setCell ?_ ?_ _); rotate_left; (first | omega | (simp <;> omega))) | (with_reducible exact Below.refl _ _) | (with_reducible assumption))))
  · have h5 : okX (glY fr to ct) = false := by
      unfold glOk at h
      rw [h1, h2, h3, h4] at h
      simpa using h
    have HLG := Lib.hid (fun t w => h4 ▸ c_l07Log_gen (glX fr to) t (quo_lt _ _) w)
    have HTW := Lib.hid (fun t w => h5 ▸ c_l07Two_any (glY fr to ct) t (quo_lt _ _) w)
    generalize glY fr to ct = Y at *
    generalize lgF (glX fr to) = L at *
    generalize pwF Y = P at *
    generalize glX fr to = X at *
    clear h h2 h3 f2 f3 h4 h5
    go_enter Try.func54, Try.ntmps54
    go_wp2_with (first | (go_at_call 72; refine (c_l00In _ _ _ _).mono ?_; rw [h1]; rintro e w' ⟨rfl, m1, rfl⟩) | (go_at_call 67; (first | refine (A2.out _).mono ?_ | refine (A3.out _).mono ?_); rintro e w' ⟨rfl, m1, rfl⟩) | (go_at_call 97; refine (HLG.out _ _).mono ?_; rintro e w' ⟨t1, m1, rfl, rfl⟩) | (go_at_call 101; refine (HTW.out _ _).mono ?_; rintro e w' ⟨t2, m2, rfl, rfl⟩))
    go_ret2
    exact NewS.empty w _ (by (repeat (first | (with_reducible refine Below.drewN ?_) | (with_reducible refine Below.drew ?_) | ((with_reducible refine Below.alloc ?_ ?_ _); rotate_left; (first | omega | (simp <;> omega))) | ((with_reducible refine Below.setCell ?_ ?_ _); rotate_left; (first | omega | (simp <;> omega))) | (with_reducible exact Below.refl _ _) | (with_reducible assumption))))
set_option maxRecDepth 10000 in
set_option maxHeartbeats 1000000 in
theorem c_sGlideOf_ok (fr to n : Nat) (w : World) (h : glOk fr to (n : Int) = true) :
    Calls Try.prog 54 #[.float .f32 fr, .float .f32 to, .int .i64 n] w (NewS n (glP (pwF (glY fr to n)) fr n) 0 w) := by
  unfold glOk at h
  simp only [Bool.and_eq_true] at h
  obtain ⟨⟨⟨⟨h1, h2⟩, h3⟩, h4⟩, h5⟩ := h
  have hn := (inB_yes h1).2
  obtain ⟨f2, o2⟩ := area_parts h2
  obtain ⟨f3, o3⟩ := area_parts h3
  have A2 := Lib.hid (fun w => f2 ▸ c_l01Finite fr w)
  have A3 := Lib.hid (fun w => f3 ▸ c_l01Finite to w)
  have hX : fop .quo .f32 to fr = glX fr to := rfl
  have HLG := Lib.hid (fun t w => h4 ▸ c_l07Log_gen (glX fr to) t (quo_lt _ _) w)
  have hY : fop .quo .f32 (lgF (glX fr to)) (floatOfInt .f32 (n : Int)) = glY fr to n := rfl
  have HTW := Lib.hid (fun t w => h5 ▸ c_l07Two_any (glY fr to n) t (quo_lt _ _) w)
  generalize glY fr to (n : Int) = Y at *
  generalize lgF (glX fr to) = L at *
  generalize pwF Y = P at *
  generalize glX fr to = X at *
  clear h2 h3 h4 h5 f2 f3
  go_enter Try.func54, Try.ntmps54
  go_wp2_with (first | (go_at_call 72; refine (c_l00In _ _ _ _).mono ?_; rw [h1]; rintro e w' ⟨rfl, m1, rfl⟩) | (go_at_call 67; (first | refine (A2.out _).mono ?_ | refine (A3.out _).mono ?_); rintro e w' ⟨rfl, m1, rfl⟩) | (go_at_call 97; refine (HLG.out _ _).mono ?_; rintro e w' ⟨t1, m1, rfl, rfl⟩) | (go_at_call 101; refine (HTW.out _ _).mono ?_; rintro e w' ⟨t2, m2, rfl, rfl⟩))
  go_loopw [13, 12, 14] (fun x s i wr => ∃ (k : Nat) (a : Option Addr) (c g u : Nat), k ≤ n ∧ i = .int .i64 k ∧ s = .slice a k c ∧ x = .float .f32 (nv .f32 (glA P fr k) u) ∧ SB w wr a k c g (glP P fr k)) (fun _ _ i _ => n - (intOf i).toNat)
  case atStart => exact ⟨0, _, _, _, 0, by omega, rfl, rfl, rfl, SB.start (by (repeat (first | (with_reducible refine Below.drewN ?_) | (with_reducible refine Below.drew ?_) | ((with_reducible refine Below.alloc ?_ ?_ _); rotate_left; (first | omega | (simp <;> omega))) | ((with_reducible refine Below.setCell ?_ ?_ _); rotate_left; (first | omega | (simp <;> omega))) | (with_reducible exact Below.refl _ _) | (with_reducible assumption)))) _⟩
  case round =>
    clear HLG HTW A2 A3 hX hY o2 o3
    obtain ⟨k, a, c, g, u, hk, rfl, rfl, rfl, hS⟩ := hrel
    by_cases hlt : k < n
    · have hM : fop .mul .f32 (glA P fr k) P = glA P fr (k + 1) := rfl
      have HP := Lib.hid (glP_succ P fr k)
      obtain ⟨a', c', g', W', hap, hS'⟩ := hS.step (glP_len _ _ _) (by omega) (wr.alloc (.cells #[.float .f32 (nv .f32 (glA P fr k) u)] 22)) (Below.alloc (Below.refl _ _) (Nat.le_refl _) _) wr.heap.size _ (glA P fr k) (cell_blk (blk_alloc wr _) 0) (up_nv _ _)
      rw [← HP.out] at hS'
      generalize hV1 : glA P fr (k + 1) = V1 at *
      have HV1 := Lib.hid hV1
      clear hV1
      generalize glA P fr k = V at *
      go_wp2
      go_roundw
      case rel => exact ⟨k + 1, a', c', g', _, by omega, by go_num, rfl, by rw [HV1.out], SB.draw hS' _⟩
      case measure => simp [intOf]; omega
    · obtain rfl : k = n := by omega
      obtain ⟨xs, q1, q2, q3⟩ := hS.new
      have Q1 := Lib.hid q1
      have Q2 := Lib.hid q2
      have Q3 := Lib.hid q3
      have hb := hS.below
      clear hS q1 q2 q3
      go_wp2
      go_ret2
      exact ⟨a, c, g, xs, rfl, by (repeat (first | (with_reducible refine Below.drewN ?_) | (with_reducible refine Below.drew ?_) | ((with_reducible refine Below.alloc ?_ ?_ _); rotate_left; (first | omega | (simp <;> omega))) | ((with_reducible refine Below.setCell ?_ ?_ _); rotate_left; (first | omega | (simp <;> omega))) | (with_reducible exact Below.refl _ _) | (with_reducible assumption))), Q1.out, Q2.out, Q3.out⟩
theorem k_GlideOf (fr to : Nat) (ct : Int) (w : World) : Calls Try.prog 13 #[.float .f32 fr, .float .f32 to, .int .i64 ct] w (RetV (.bool true) w) := by
  cases h : glOk fr to ct
  · exact l_GlideOf fr to ct 0 [] 2 w (by omega) (fun w => c_sGlideOf_no fr to ct w h) (fun w => c_GlideOf_no fr to ct w h)
  · have h' := h
    unfold glOk at h'
    simp only [Bool.and_eq_true] at h'
    have hn := inB_yes h'.1.1.1.1
    obtain ⟨m, rfl⟩ := Int.eq_ofNat_of_zero_le (show 0 ≤ ct by omega)
    exact l_GlideOf fr to _ m _ 0 w (by omega) (fun w => c_sGlideOf_ok fr to m w h) (fun w => c_GlideOf_ok fr to m w h)
end Go.Proofs.Ytdhiihmfgmempaa
