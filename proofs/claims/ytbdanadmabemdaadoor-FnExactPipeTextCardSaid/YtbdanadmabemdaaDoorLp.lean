
/-
A region that draws its order, whose last operations follow all the others: the first ones are walked once in the order of the text, the last ones one after the other.
-/
import Derived.Test.YtbdanadmabemdaaDoorLw
namespace Go.Proofs.YtbdanadmabemdaaDoor.Fl
open Go Go.RowKit

section
variable {P : Program} {ops ops1 : Array Oper} {md : Region.Mode}

theorem wpAny_more {Q : Exit → Act → World → Prop} : ∀ (n : Nat) (l : Array Bool) (a : Act) (w : World), wpAny P md ops Q n l a w → wpAny P md ops Q (n + 1) l a w
  | 0, l, a, w, h => ⟨fun _ => h.2, fun i hi => by rw [h.1] at hi; cases hi⟩
  | n + 1, l, a, w, h => ⟨h.1, fun i hi => wpOp_mono (fun a w => wpAny_more n _ a w) (h.2 i hi)⟩
theorem wpAny_plus {Q : Exit → Act → World → Prop} : ∀ (m n : Nat) (l : Array Bool) (a : Act) (w : World), wpAny P md ops Q n l a w → wpAny P md ops Q (m + n) l a w
  | 0, n, _, _, _, h => by rw [Nat.zero_add]; exact h
  | m + 1, n, l, a, w, h => by rw [show m + 1 + n = (m + n) + 1 by omega]; exact wpAny_more _ _ _ _ (wpAny_plus m n l a w h)

/-- the first n1 operations lean on none behind them; all of them come ahead of the others -/
def preB (md : Region.Mode) (ops : Array Oper) (n1 : Nat) : Bool :=
  (List.range ops.size).all fun i => match ops[i]? with
    | none => false
    | some o =>
      if i < n1 then
        (o.after.all fun e => !Region.binds md e || decide (e.on < i)) && ((match o.guard with | none => true | some (j, _) => decide (j < n1)) &&
          ((List.range (n1 + 1)).any fun j => decide (i < j) && match ops[j]? with | some o' => o'.after.any fun e => Region.binds md e && (e.on == i) | none => false))
      else decide (i = n1) || (o.after.any fun e => Region.binds md e && decide (n1 ≤ e.on))

structure Pad (n1 size : Nat) (l L : Array Bool) : Prop where
  sl : l.size = n1
  sL : L.size = size
  le : n1 ≤ size
  lo : ∀ i, i < n1 → L[i]? = l[i]?
  hi : ∀ i, n1 ≤ i → i < size → L[i]? = some false
theorem Pad.set {n1 size : Nat} {l L : Array Bool} (h : Pad n1 size l L) {i : Nat} (hi : i < n1) : Pad n1 size (l.setIfInBounds i true) (L.setIfInBounds i true) :=
  ⟨by simp [h.sl], by simp [h.sL], h.le, fun j hj => by
    by_cases e : i = j
    · subst e
      have := h.sl; have := h.sL; have := h.le
      rw [Array.getElem?_setIfInBounds_self_of_lt (by omega), Array.getElem?_setIfInBounds_self_of_lt (by omega)]
    · rw [Array.getElem?_setIfInBounds_ne e, Array.getElem?_setIfInBounds_ne e]; exact h.lo j hj, fun j h1 h2 => by
    rw [Array.getElem?_setIfInBounds_ne (by omega)]; exact h.hi j h1 h2⟩
def Closed (md : Region.Mode) (ops : Array Oper) (n1 : Nat) (l : Array Bool) : Prop := ∀ i o, i < n1 → ops[i]? = some o → l[i]? = some true → ∀ e ∈ o.after, Region.binds md e = true → l[e.on]? = some true
theorem bool_at {l : Array Bool} {i : Nat} (h : i < l.size) : l[i]? = some true ∨ l[i]? = some false := by
  rw [Array.getElem?_eq_getElem h]
  cases l[i] <;> simp

theorem preB_lo {n1 i : Nat} {o : Oper} (h : preB md ops n1 = true) (hi : i < n1) (ho : ops[i]? = some o) :
    (∀ e ∈ o.after, Region.binds md e = true → e.on < i) ∧ (∀ j b, o.guard = some (j, b) → j < n1) ∧ ∃ j o', i < j ∧ j ≤ n1 ∧ ops[j]? = some o' ∧ ∃ e ∈ o'.after, Region.binds md e = true ∧ e.on = i := by
  unfold preB at h
  rw [List.all_eq_true] at h
  have h1 := h i (List.mem_range.2 (Array.getElem?_eq_some_iff.1 ho).1)
  simp only [ho, hi, if_true, Bool.and_eq_true] at h1
  obtain ⟨h2, h3, h4⟩ := h1
  refine ⟨fun e he hb => ?_, fun j b hg => ?_, ?_⟩
  · have := Array.all_eq_true_iff_forall_mem.1 h2 e he
    simpa [hb] using this
  · rw [hg] at h3; simpa using h3
  · obtain ⟨j, hj, h5⟩ := List.any_eq_true.1 h4
    rw [Bool.and_eq_true] at h5
    obtain ⟨h6, h7⟩ := h5
    cases hoj : ops[j]? with
    | none => rw [hoj] at h7; cases h7
    | some o' =>
      rw [hoj] at h7
      simp only at h7
      obtain ⟨e, he, hb⟩ := Array.any_eq_true'.1 h7
      rw [Bool.and_eq_true] at hb
      exact ⟨j, o', by simpa using h6, by have := List.mem_range.1 hj; omega, hoj, e, he, hb.1, by simpa using hb.2⟩
theorem preB_hi {n1 i : Nat} {o : Oper} (h : preB md ops n1 = true) (hi : n1 < i) (ho : ops[i]? = some o) : ∃ e ∈ o.after, Region.binds md e = true ∧ n1 ≤ e.on := by
  unfold preB at h
  rw [List.all_eq_true] at h
  have h1 := h i (List.mem_range.2 (Array.getElem?_eq_some_iff.1 ho).1)
  simp only [ho, if_neg (show ¬ i < n1 by omega), decide_eq_false (show ¬ i = n1 by omega), Bool.false_or] at h1
  obtain ⟨e, he, hb⟩ := Array.any_eq_true'.1 h1
  rw [Bool.and_eq_true] at hb
  exact ⟨e, he, hb.1, by simpa using hb.2⟩
theorem getD_of {l : Array Bool} {i : Nat} {b d : Bool} (h : l[i]? = some b) : l.getD i d = b := by simp [h]
/-- where the first of the last ones is ready, all the first ones are listed -/
theorem all_listed {n1 size : Nat} {l L : Array Bool} {o : Oper} (h : preB md ops n1 = true) (hp : Pad n1 size l L) (hc : Closed md ops n1 l) (hs : ops.size = size) (hn : ops[n1]? = some o) (hr : ∀ e ∈ o.after, Region.binds md e = true → L.getD e.on false = true) :
    ∀ d i, i < n1 → n1 - i ≤ d → l[i]? = some true
  | 0, i, hi, hd => by omega
  | d + 1, i, hi, hd => by
    have hlt : n1 < ops.size := (Array.getElem?_eq_some_iff.1 hn).1
    obtain ⟨oi, hoi⟩ : ∃ oi, ops[i]? = some oi := ⟨ops[i], Array.getElem?_eq_getElem (by omega)⟩
    obtain ⟨-, -, j, o', h1, h2, h3, e, he, hb, heq⟩ := preB_lo h hi hoi
    by_cases hj : j = n1
    · subst hj
      rw [hn] at h3
      obtain rfl := Option.some.inj h3
      have := hr e he hb
      rw [heq] at this
      have h5 := hp.lo i hi
      rcases bool_at (l := l) (i := i) (by rw [hp.sl]; exact hi) with h6 | h6
      · exact h6
      · rw [h6] at h5; rw [getD_of h5] at this; cases this
    · have := hc j o' (by omega) h3 (all_listed h hp hc hs hn hr d j (by omega) (by omega)) e he hb
      rw [heq] at this; exact this
theorem pre_ready {n1 size : Nat} {l L : Array Bool} (h : preB md ops n1 = true) (hp : Pad n1 size l L) (hc : Closed md ops n1 l) (hs : ops.size = size) (hs1 : ops1.size = n1) (h1 : ∀ i, i < n1 → ops1[i]? = ops[i]?) (hnot : ∃ i, i < n1 ∧ l[i]? = some false) (j : Nat)
    (hj : j ∈ Region.ready md ops L) : j < n1 ∧ j ∈ Region.ready md ops1 l := by
  obtain ⟨h2, o, ho, h3⟩ := mem_ready.1 hj
  have hjs : j < size := hs ▸ (Array.getElem?_eq_some_iff.1 ho).1
  have hlt : j < n1 := by
    rcases Nat.lt_trichotomy j n1 with h4 | h4 | h4
    · exact h4
    · subst h4
      obtain ⟨i, hi, hf⟩ := hnot
      rw [all_listed h hp hc hs ho h3 j i hi (by omega)] at hf
      cases hf
    · obtain ⟨e, he, hb, hle⟩ := preB_hi h h4 ho
      have := h3 e he hb
      rcases Nat.lt_or_ge e.on size with h5 | h5
      · rw [getD_of (hp.hi e.on hle h5)] at this; cases this
      · have : L[e.on]? = none := Array.getElem?_eq_none (by rw [hp.sL]; exact h5)
        simp [this] at *
  refine ⟨hlt, mem_ready.2 ⟨?_, o, (h1 j hlt).trans ho, fun e he hb => ?_⟩⟩
  · have := hp.lo j hlt
    rcases bool_at (l := l) (i := j) (by rw [hp.sl]; exact hlt) with h6 | h6
    · rw [h6] at this; rw [getD_of this] at h2; cases h2
    · exact getD_of h6
  · have h4 := h3 e he hb
    have h5 := (preB_lo h hlt ho).1 e he hb
    have := hp.lo e.on (by omega)
    rcases bool_at (l := l) (i := e.on) (by rw [hp.sl]; omega) with h6 | h6
    · exact getD_of h6
    · rw [h6] at this; rw [getD_of this] at h4; cases h4
/-- the first that is not listed -/
theorem first_unlisted {n1 : Nat} {l : Array Bool} (hs : l.size = n1) : ∀ d, (∃ i, i < n1 ∧ l[i]? = some false ∧ i ≤ d) → ∃ i, i < n1 ∧ l[i]? = some false ∧ ∀ j, j < i → l[j]? = some true
  | 0, ⟨i, hi, hf, hd⟩ => ⟨i, hi, hf, fun j hj => absurd hj (by omega)⟩
  | d + 1, ⟨i, hi, hf, hd⟩ => by
    by_cases h : ∃ j, j < n1 ∧ l[j]? = some false ∧ j ≤ d
    · exact first_unlisted hs d h
    · refine ⟨i, hi, hf, fun j hj => ?_⟩
      rcases bool_at (l := l) (i := j) (by omega) with h6 | h6
      · exact h6
      · exact absurd ⟨j, by omega, h6, by omega⟩ h
theorem some_ready {n1 : Nat} {l : Array Bool} (h : preB md ops n1 = true) (hs : l.size = n1) (hsz : n1 ≤ ops.size) (h1 : ∀ i, i < n1 → ops1[i]? = ops[i]?) (hnot : ∃ i, i < n1 ∧ l[i]? = some false) : ∃ i, i < n1 ∧ i ∈ Region.ready md ops1 l := by
  obtain ⟨i, hi, hf⟩ := hnot
  obtain ⟨i, hi, hf, hall⟩ := first_unlisted hs i ⟨i, hi, hf, Nat.le_refl _⟩
  have ho : ops[i]? = some ops[i] := Array.getElem?_eq_getElem (by omega)
  exact ⟨i, hi, mem_ready.2 ⟨getD_of hf, ops[i], (h1 i hi).trans ho, fun e he hb => getD_of (hall e.on ((preB_lo h hi ho).1 e he hb))⟩⟩
theorem yielded_pre {n1 : Nat} (h1 : ∀ i, i < n1 → ops1[i]? = ops[i]?) (tmps : Array Value) (j : Nat) (hj : j < n1) : yielded ops tmps j = yielded ops1 tmps j := by
  unfold yielded; rw [h1 j hj]
theorem wanted_pre {n1 : Nat} {o : Oper} (h1 : ∀ i, i < n1 → ops1[i]? = ops[i]?) (hg : ∀ j b, o.guard = some (j, b) → j < n1) (tmps : Array Value) : Region.wanted o (yielded ops tmps) = Region.wanted o (yielded ops1 tmps) := by
  unfold Region.wanted
  cases h : o.guard with
  | none => rfl
  | some g =>
    obtain ⟨j, b⟩ := g
    simp only
    rw [yielded_pre h1 tmps j (hg j b h)]
/-- where all the first ones are listed -/
def fullL (n1 size : Nat) : Array Bool := Array.replicate n1 true ++ Array.replicate (size - n1) false
theorem full_of {n1 size : Nat} {l L : Array Bool} (hp : Pad n1 size l L) (hall : ∀ i, i < n1 → l[i]? = some true) : L = fullL n1 size := by
  have := hp.le
  apply Array.ext_getElem?
  intro i
  unfold fullL
  rw [Array.getElem?_append]
  simp only [Array.size_replicate, Array.getElem?_replicate]
  by_cases h1 : i < n1
  · rw [hp.lo i h1, hall i h1]; simp [h1]
  · by_cases h2 : i < size
    · rw [hp.hi i (by omega) h2]
      simp only [h1, if_false]
      rw [if_pos (by omega)]
    · rw [Array.getElem?_eq_none (by rw [hp.sL]; omega)]
      simp only [h1, if_false]
      rw [if_neg (by omega)]

theorem pre_sound {n1 n2 : Nat} {G0 : World → Prop} {nd gv : Nat → Bool} {Vs : Nat → Sp} {Q : Act → (World → Prop) → Prop} {Q' : Exit → Act → World → Prop} (h : preB md ops n1 = true) (hsz : n1 ≤ ops.size) (hs1 : ops1.size = n1) (h1 : ∀ i, i < n1 → ops1[i]? = ops[i]?)
    (hQ : ∀ a G w, G w → Q a G → wpAny P md ops Q' n2 (fullL n1 ops.size) a w) :
    ∀ (n : Nat) (l L : Array Bool) (a : Act) (G : World → Prop) (u : Nat → Prop) (w : World), Mono G → (∀ w, G w → G0 w) → G w → (∀ g, u g → g < w.heap.size) → Pad n1 ops.size l L → Closed md ops n1 l → lhAny P md ops1 G0 nd gv Vs Q n l a G u → wpAny P md ops Q' (n + n2) L a w := by
  intro n
  induction n with
  | zero =>
    intro l L a G u w hm hG hw hu hp hc hh
    rw [Nat.zero_add]
    have hall : ∀ i, i < n1 → l[i]? = some true := fun i hi => by
      rcases bool_at (l := l) (i := i) (by rw [hp.sl]; exact hi) with h6 | h6
      · exact h6
      · obtain ⟨j, _, hj⟩ := some_ready h hp.sl hsz h1 ⟨i, hi, h6⟩
        rw [hh.1] at hj; cases hj
    rw [full_of hp hall]
    exact hQ a G w hw hh.2
  | succ n ih =>
    intro l L a G u w hm hG hw hu hp hc hh
    by_cases hnot : ∃ i, i < n1 ∧ l[i]? = some false
    · rw [show n + 1 + n2 = (n + n2) + 1 by omega]
      obtain ⟨j0, hj0, hr0⟩ := some_ready h hp.sl hsz h1 hnot
      refine ⟨fun h0 => ?_, fun i hi => ?_⟩
      · exfalso
        obtain ⟨g1, o, g2, g3⟩ := mem_ready.1 hr0
        have : j0 ∈ Region.ready md ops L := mem_ready.2 ⟨by
          have := hp.lo j0 hj0
          rcases bool_at (l := l) (i := j0) (by rw [hp.sl]; exact hj0) with h6 | h6
          · rw [getD_of h6] at g1; cases g1
          · rw [h6] at this; exact getD_of this, o, (h1 j0 hj0).symm.trans g2, fun e he hb => by
          have h4 := g3 e he hb
          have h5 := (preB_lo h hj0 ((h1 j0 hj0).symm.trans g2)).1 e he hb
          have := hp.lo e.on (by omega)
          rcases bool_at (l := l) (i := e.on) (by rw [hp.sl]; omega) with h6 | h6
          · rw [h6] at this; exact getD_of this
          · rw [getD_of h6] at h4; cases h4⟩
        rw [h0] at this; cases this
      · obtain ⟨hlt, hi1⟩ := pre_ready h hp hc rfl hs1 h1 hnot i hi
        obtain ⟨_, o, ho1, hall⟩ := mem_ready.1 hi1
        have ho : ops[i]? = some o := (h1 i hlt).symm.trans ho1
        obtain ⟨k1, k2⟩ := hh.2 i hi1 o ho1
        have hclo : Closed md ops n1 (l.setIfInBounds i true) := by
          intro j oj hj hoj hl e he hb
          by_cases hij : i = j
          · subst hij
            rw [ho] at hoj
            obtain rfl := Option.some.inj hoj
            have h5 := (preB_lo h hlt ho).1 e he hb
            rw [Array.getElem?_setIfInBounds_ne (by omega)]
            rcases bool_at (l := l) (i := e.on) (by rw [hp.sl]; omega) with h6 | h6
            · exact h6
            · have := hall e he hb
              rw [getD_of h6] at this; cases this
          · rw [Array.getElem?_setIfInBounds_ne hij] at hl
            have h7 := hc j oj hj hoj hl e he hb
            by_cases hie : i = e.on
            · rw [← hie, Array.getElem?_setIfInBounds_self_of_lt (by rw [hp.sl]; exact hlt)]
            · rw [Array.getElem?_setIfInBounds_ne hie]; exact h7
        have next : ∀ v w', Yl (gv i) (Vs i) w v w' → wpAny P md ops Q' (n + n2) (L.setIfInBounds i true) (a.put o.dst v) w' := fun v w' hy => by
          refine ih _ _ _ _ _ _ (hm.ctx v) (fun w h => hG w (ctx_le h)) ?_ ?_ (hp.set hlt) hclo (k2 v hy.l fun g hg hug => ?_)
          · cases hb : gv i
            · exact hm w w' hw hy.g
            · exact ⟨hm w w' hw hy.g, hy.k hb⟩
          · intro g hg
            rcases hg with hg | hg
            · exact (hy.f g hg).2
            · exact Nat.lt_of_lt_of_le (hu g hg) hy.g.size
          · exact absurd (hu g hug) (Nat.not_lt.2 (hy.f g hg).1)
        have hp' : pick (nd i) G G0 w := by
          cases nd i
          · exact hG w hw
          · exact hw
        unfold Lh at k1
        rw [← wanted_pre h1 (preB_lo h hlt ho).2.1] at k1
        unfold wpOp
        simp only [ho]
        split
        · rename_i hwant
          rw [if_pos hwant] at k1
          left
          have h3 := k1 w hp'
          unfold Oper.wp
          generalize (execOp a.eval o).run P w = r at h3
          cases r with
          | halt x w' => exact h3.elim
          | ok m w' =>
            cases m <;> simp only [lhUpon] at h3 <;> simp only [Oper.upon]
            case value u => exact next _ _ h3
            case skip => exact next _ _ h3
            case enter f args =>
              refine h3.mono ?_
              rintro e w'' ⟨v, rfl, hy⟩
              exact next _ _ hy
        · rename_i hwant
          rw [if_neg hwant] at k1
          exact next _ _ ⟨k1.1, fun hb => k1.2.1 hb w hp', (fun g hg => by rw [k1.2.2] at hg; cases hg), Grow.refl _⟩
    · have hall : ∀ i, i < n1 → l[i]? = some true := fun i hi => by
        rcases bool_at (l := l) (i := i) (by rw [hp.sl]; exact hi) with h6 | h6
        · exact h6
        · exact absurd ⟨i, hi, h6⟩ hnot
      have hr : Region.ready md ops1 l = [] := by
        cases hq : Region.ready md ops1 l with
        | nil => rfl
        | cons x xs =>
          exfalso
          have hx : x ∈ Region.ready md ops1 l := by rw [hq]; exact List.mem_cons_self
          obtain ⟨g1, o, g2, _⟩ := mem_ready.1 hx
          have : x < n1 := hs1 ▸ (Array.getElem?_eq_some_iff.1 g2).1
          rw [getD_of (hall x this)] at g1; cases g1
      rw [full_of hp hall]
      exact wpAny_plus _ _ _ _ _ (hQ a G w hw (hh.1 hr))

/-- the first n1 operations in the order of the text; then the others -/
theorem wp_region_pre {id : Nat} {Q : Exit → Act → World → Prop} {a : Act} {w : World} {l : List Oper} (n1 : Nat) (nd gv : List Nat) (hm : P.follows .mixedOrders = true) (hn : n1 ≤ l.length) (hpre : preB .any l.toArray n1 = true) (hB : Region.lexB .any (l.take n1).toArray = true)
    (hh : heavyB .any (l.take n1).toArray (fun i => nd.contains i) (fun i => gv.contains i) = true)
    (h : ∃ Vl, lhWalk P (l.take n1).toArray (Grow w) (fun i => nd.contains i) (fun i => gv.contains i) (fun a' G => ∀ w', G w' → wpAny P .any l.toArray Q (l.length - n1) (fullL n1 l.length) a' w') 0 (l.take n1) Vl a (Grow w) (fun g => g < w.heap.size)) : (Code.region id l.toArray true).wp P Q a w := by
  obtain ⟨Vl, h⟩ := h
  simp only [Region.lexB, Bool.and_eq_true] at hB
  refine wp_region_any hm ?_
  have hlen : (l.take n1).length = n1 := by simp; omega
  have key := pre_sound (P := P) (md := .any) (ops := l.toArray) (ops1 := (l.take n1).toArray) (n1 := n1) (n2 := l.length - n1) (G0 := Grow w) (nd := fun i => nd.contains i) (gv := fun i => gv.contains i) (Vs := fun i => Vl.getD i noSp) (Q := fun a' G => ∀ w', G w' → wpAny P .any l.toArray Q (l.length - n1) (fullL n1 l.length) a' w') (Q' := Q) hpre (by simpa using hn) (by simpa using hlen)
    (fun i hi => by simp [hi]) (fun a G w hw hq => by simpa using hq w hw) n1 (Array.replicate n1 false) (Array.replicate l.toArray.size false) a (Grow w) (fun g => g < w.heap.size) { w with drawn := w.drawn + 1 } (fun w1 w2 h1 h2 => h1.trans h2) (fun _ h => h) ⟨rfl, rfl, rfl, Nat.le_refl _, fun _ _ => rfl⟩ (fun _ h => h)
    ⟨by simp, by simp, by simpa using hn, fun i hi => (by have h5 : i < l.length := Nat.lt_of_lt_of_le hi hn; simp [hi, h5]), fun i h1 h2 => by simp at h2; simp [h2]⟩
    (fun i o hi ho hl => by simp [hi] at hl) ?_
  · have e : n1 + (l.length - n1) = l.toArray.size := by simp; omega
    rw [e] at key; exact key
  · have := lhAny_lex (md := .any) (P := P) (G0 := Grow w) (nd := fun i => nd.contains i) (gv := fun i => gv.contains i) (Q := fun a' G => ∀ w', G w' → wpAny P .any l.toArray Q (l.length - n1) (fullL n1 l.length) a' w') (Vs := fun i => Vl.getD i noSp) hB.1 hh (l.take n1) Vl 0 (Array.replicate (l.take n1).toArray.size false) a (Grow w) (fun g => g < w.heap.size) ⟨_, fun _ h => h⟩ (by simp) (fun j V hV => by simp [hV]) (by simp) (fun j hj => by simp at hj; simp [hj]) (by simpa using hB.2) h
    rw [hlen, show (l.take n1).toArray.size = n1 by simpa using hlen] at this
    exact this
/-- one of the last ones -/
theorem wpAny_one {Q : Exit → Act → World → Prop} {n i : Nat} {l : Array Bool} {o : Oper} {a : Act} {w : World} (hr : Region.ready md ops l = [i]) (ho : ops[i]? = some o) (hg : o.guard = none) (h : o.wp P a w (wpAny P md ops Q n (l.setIfInBounds i true)) Q) : wpAny P md ops Q (n + 1) l a w := by
  refine ⟨fun h0 => (by rw [hr] at h0; cases h0), fun j hj => ?_⟩
  rw [hr] at hj
  obtain rfl := List.mem_singleton.1 hj
  unfold wpOp
  simp only [ho]
  have : Region.wanted o (yielded ops a.tmps) = true := by unfold Region.wanted; rw [hg]
  rw [if_pos this]
  exact .inl h
theorem wpAny_end {Q : Exit → Act → World → Prop} {l : Array Bool} {a : Act} {w : World} (hr : Region.ready md ops l = []) (h : Q .normal a w) : wpAny P md ops Q 0 l a w := ⟨hr, h⟩
end
end Go.Proofs.YtbdanadmabemdaaDoor.Fl
