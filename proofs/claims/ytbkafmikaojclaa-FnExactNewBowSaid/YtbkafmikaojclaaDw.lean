
/-
Drawn regions whose value sets may lean on the act: a value that is made of what came before it is read off the operation itself.
-/
import Derived.Test.YtbkafmikaojclaaLp
namespace Go.Proofs.Ytbkafmikaojclaa.Fl.D
open Go Go.RowKit Go.Proofs.Ytbkafmikaojclaa.Fl

section
variable {P : Program} {ops : Array Oper} {md : Region.Mode}
def lhAny (P : Program) (md : Region.Mode) (ops : Array Oper) (G0 : World → Prop) (nd gv : Nat → Bool) (Vs : Nat → Sem Next → Sp) (Q : Act → (World → Prop) → Prop) : Nat → Array Bool → Act → (World → Prop) → (Nat → Prop) → Prop
  | 0, l, a, G, _ => Region.ready md ops l = [] ∧ Q a G
  | n + 1, l, a, G, u => (Region.ready md ops l = [] → Q a G) ∧
      ∀ i ∈ Region.ready md ops l, ∀ o, ops[i]? = some o → Lh P ops (pick (nd i) G G0) (gv i) (Vs i (execOp a.eval o)) o a ∧
        ∀ v, (Vs i (execOp a.eval o)).L v → okFr (Vs i (execOp a.eval o)) u v → lhAny P md ops G0 nd gv Vs Q n (l.setIfInBounds i true) (a.put o.dst v) (ctx (gv i) (Vs i (execOp a.eval o)) G v) (fr (Vs i (execOp a.eval o)) u v)

theorem lhAny_sound {G0 : World → Prop} {nd gv : Nat → Bool} {Vs : Nat → Sem Next → Sp} {Q : Act → (World → Prop) → Prop} {Q' : Exit → Act → World → Prop} (hQ : ∀ a G w, G w → Q a G → Q' .normal a w) :
    ∀ (n : Nat) (l : Array Bool) (a : Act) (G : World → Prop) (u : Nat → Prop) (w : World), Mono G → (∀ w, G w → G0 w) → G w → (∀ g, u g → g < w.heap.size) → lhAny P md ops G0 nd gv Vs Q n l a G u → wpAny P md ops Q' n l a w
  | 0, _, _, _, _, _, _, _, hw, _, h => ⟨h.1, hQ _ _ _ hw h.2⟩
  | n + 1, l, a, G, u, w, hm, hG, hw, hu, h => by
    refine ⟨fun h0 => hQ _ _ _ hw (h.1 h0), fun i hi => ?_⟩
    unfold wpOp
    cases ho : ops[i]? with
    | none =>
      exfalso
      obtain ⟨_, o, ho', _⟩ := mem_ready.1 hi
      rw [ho] at ho'; cases ho'
    | some o =>
      obtain ⟨h1, h2⟩ := h.2 i hi o ho
      have next : ∀ v w', Yl (gv i) (Vs i (execOp a.eval o)) w v w' → wpAny P md ops Q' n (l.setIfInBounds i true) (a.put o.dst v) w' := fun v w' hy => by
        refine lhAny_sound hQ n _ _ _ _ _ (hm.ctx v) (fun w h => hG w (ctx_le h)) ?_ ?_ (h2 v hy.l fun g hg hug => ?_)
        · cases hb : gv i
          · exact hm w w' hw hy.g
          · exact ⟨hm w w' hw hy.g, hy.k hb⟩
        · intro g hg
          rcases hg with hg | hg
          · exact (hy.f g hg).2
          · exact Nat.lt_of_lt_of_le (hu g hg) hy.g.size
        · exact absurd (hu g hug) (Nat.not_lt.2 (hy.f g hg).1)
      have hp : pick (nd i) G G0 w := by
        cases nd i
        · exact hG w hw
        · exact hw
      unfold Lh at h1
      simp only
      split
      · rename_i hwant
        rw [if_pos hwant] at h1
        left
        have h3 := h1 w hp
        unfold Oper.wp
        generalize (execOp a.eval o).run P w = r at h3
        cases r with
        | halt x w' => exact h3.elim
        | ok m w' =>
          cases m <;> simp only [lhUpon] at h3 <;> simp only [Oper.upon]
          case value u => exact next _ _ h3
          case skip => exact next _ _ h3
          case enter f args =>
            refine h3.mono ?_
            rintro e w'' ⟨v, rfl, hy⟩
            exact next _ _ hy
      · rename_i hwant
        rw [if_neg hwant] at h1
        exact next _ _ ⟨h1.1, fun hb => h1.2.1 hb w hp, (fun g hg => by rw [h1.2.2] at hg; cases hg), Grow.refl _⟩

theorem lhAny_first {G0 : World → Prop} {nd gv : Nat → Bool} {Vs : Nat → Sem Next → Sp} {Q : Act → (World → Prop) → Prop} {i : Nat} {oi : Oper} (hi : ops[i]? = some oi) (hsel : ∀ (j : Nat) (o : Oper) cs b, ops[j]? = some o → o.op ≠ .select cs b) :
    ∀ (n : Nat) (l : Array Bool) (a : Act) (G : World → Prop) (u : Nat → Prop), Bd u →
      (∀ j oj, ops[j]? = some oj → j ≠ i → l.getD j true = false → (∀ e ∈ oj.after, Region.binds md e = true → e.on ≠ i) → oi.apart ops oj = true) →
      i ∈ Region.ready md ops l → Lh P ops (pick (nd i) G G0) (gv i) (Vs i (execOp a.eval oi)) oi a →
      (gv i = true → ∃ S : Nat → Prop, (∀ k, S k → l.getD k true = false ∧ ∃ ok, ops[k]? = some ok ∧ ∃ e ∈ ok.after, Region.binds md e = true ∧ (e.on = i ∨ S e.on)) ∧ ∀ j, nd j = true → j ≠ i → l.getD j true = false → S j) →
      (∀ v, (Vs i (execOp a.eval oi)).L v → okFr (Vs i (execOp a.eval oi)) u v → lhAny P md ops G0 nd gv Vs Q n (l.setIfInBounds i true) (a.put oi.dst v) (ctx (gv i) (Vs i (execOp a.eval oi)) G v) (fr (Vs i (execOp a.eval oi)) u v)) → lhAny P md ops G0 nd gv Vs Q (n + 1) l a G u := by
  intro n
  induction n with
  | zero =>
    intro l a G u hbd _ hr hy _ H
    refine ⟨fun h => (by rw [h] at hr; cases hr), fun j hj o ho => ?_⟩
    by_cases hji : j = i
    · subst hji
      obtain rfl : oi = o := Option.some.inj (hi.symm.trans ho)
      exact ⟨hy, H⟩
    · exfalso
      obtain ⟨v0, hv0, hf0⟩ := (Vs i (execOp a.eval oi)).some' hbd
      have h1 := ready_mono hj hji
      rw [(H v0 hv0 hf0).1] at h1
      cases h1
  | succ n ih =>
    intro l a G u hbd hfree hr hy hS H
    refine ⟨fun h => (by rw [h] at hr; cases hr), fun j hj oj hoj => ?_⟩
    by_cases hji : j = i
    · subst hji
      obtain rfl : oi = oj := Option.some.inj (hi.symm.trans hoj)
      exact ⟨hy, H⟩
    · obtain ⟨v0, hv0, hf0⟩ := (Vs i (execOp a.eval oi)).some' hbd
      obtain ⟨hjun, oj', hoj', hall⟩ := mem_ready.1 hj
      obtain rfl : oj = oj' := Option.some.inj (hoj.symm.trans hoj')
      have hiun := (mem_ready.1 hr).1
      have notlisted : ∀ k, l.getD k true = false → l.getD k false = true → False := fun k h1 h2 => by
        rcases Nat.lt_or_ge k l.size with h' | h'
        · simp [h'] at h1 h2; rw [h1] at h2; cases h2
        · simp [Array.getElem?_eq_none h'] at h2
      have hnot : ∀ e ∈ oj.after, Region.binds md e = true → e.on ≠ i := fun e he hb heq => notlisted i hiun (heq ▸ hall e he hb)
      have hnS : ∀ S : Nat → Prop, (∀ k, S k → l.getD k true = false ∧ ∃ ok, ops[k]? = some ok ∧ ∃ e ∈ ok.after, Region.binds md e = true ∧ (e.on = i ∨ S e.on)) → ¬ S j := fun S h1 hsj => by
        obtain ⟨_, ok, hok, e, he, hb, ho⟩ := h1 j hsj
        obtain rfl : oj = ok := Option.some.inj (hoj.symm.trans hok)
        rcases ho with ho | ho
        · exact hnot e he hb ho
        · exact notlisted _ (h1 _ ho).1 (hall e he hb)
      have hone : gv i = true → nd j = false := fun hb => by
        obtain ⟨S, h1, h2⟩ := hS hb
        cases hj' : nd j
        · rfl
        · exact absurd (h2 j hj' hji hjun) (hnS S h1)
      obtain ⟨ap1, ap2, ap3⟩ := Oper.apart_spec (hfree j oj hoj hji hjun hnot)
      have hj' := ready_mono hj hji
      have eqj : ∀ v : Value, execOp (a.put oi.dst v).eval oj = execOp a.eval oj := fun v => execOp_put oj (fun cs b => hsel j oj cs b hoj) a oi.dst v ap1
      have eqi : ∀ v : Value, execOp (a.put oj.dst v).eval oi = execOp a.eval oi := fun v => execOp_put oi (fun cs b => hsel i oi cs b hi) a oj.dst v ap3
      have step := fun v hv hf => (H v hv hf).2 j hj' oj hoj
      simp only [eqj] at step
      refine ⟨?_, fun x hx hfx => ?_⟩
      · have h1 := (Lh.put (fun cs b => hsel j oj cs b hoj) oi.dst v0 ap1).1 (step v0 hv0 hf0).1
        cases hbj : nd j
        · rw [hbj] at h1; exact h1
        · have hbi : gv i = false := by
            cases hbi : gv i
            · rfl
            · rw [hone hbi] at hbj; cases hbj
          rw [hbj, hbi] at h1; exact h1
      · have IH := ih (l.setIfInBounds j true) (a.put oj.dst x)
        rw [eqi x] at IH
        refine IH _ _ (hbd.fr x) ?_ (ready_mono hr (Ne.symm hji)) ((Lh.put (fun cs b => hsel i oi cs b hi) oj.dst x ap3).2 ?_) ?_ fun v hvv hfv => ?_
        · intro k ok hk hki hun hno
          refine hfree k ok hk hki ?_ hno
          by_cases hjk : j = k
          · subst hjk; exact hjun
          · rw [getD_set_ne true hjk] at hun; exact hun
        · refine hy.le fun w hw => ?_
          cases hbi : nd i
          · rw [hbi] at hw; exact hw
          · rw [hbi] at hw; exact ctx_le hw
        · intro hb
          obtain ⟨S, h1, h2⟩ := hS hb
          refine ⟨S, fun k hk => ⟨?_, (h1 k hk).2⟩, fun k hk hki hun => h2 k hk hki ?_⟩
          · have : j ≠ k := fun h => hnS S h1 (h ▸ hk)
            rw [getD_set_ne true this]; exact (h1 k hk).1
          · by_cases hjk : j = k
            · subst hjk; exact hjun
            · rw [getD_set_ne true hjk] at hun; exact hun
        · have h2 := (step v hvv (fun g hg hu => hfv g hg (Or.inr hu))).2 x hx (fun g hg hu => hu.elim (fun h => hfv g h (Or.inl hg)) (hfx g hg))
          rw [Array.setIfInBounds_comm _ _ hji, ← Act.put_comm a v x ap2, ctx_comm, fr_comm]
          exact h2

def lhWalk (P : Program) (ops : Array Oper) (G0 : World → Prop) (nd gv : Nat → Bool) (Q : Act → (World → Prop) → Prop) : Nat → List Oper → List (Sem Next → Sp) → Act → (World → Prop) → (Nat → Prop) → Prop
  | _, [], _, a, G, _ => Q a G
  | k, o :: rest, s :: sr, a, G, u => Lh P ops (pick (nd k) G G0) (gv k) (s (execOp a.eval o)) o a ∧ ∀ v, (s (execOp a.eval o)).L v → okFr (s (execOp a.eval o)) u v → lhWalk P ops G0 nd gv Q (k + 1) rest sr (a.put o.dst v) (ctx (gv k) (s (execOp a.eval o)) G v) (fr (s (execOp a.eval o)) u v)
  | _, _ :: _, [], _, _, _ => False

theorem lhAny_lex {G0 : World → Prop} {nd gv : Nat → Bool} {Q : Act → (World → Prop) → Prop} {Vs : Nat → Sem Next → Sp} (hs : Region.noSelect ops = true) (hh : heavyB md ops nd gv = true) : ∀ (lo : List Oper) (Vl : List (Sem Next → Sp)) (k : Nat) (l : Array Bool) (a : Act) (G : World → Prop) (u : Nat → Prop), Bd u →
    (∀ j, lo[j]? = ops[k + j]?) → (∀ j V, Vl[j]? = some V → Vs (k + j) = V) → l.size = ops.size → (∀ j, j < ops.size → l.getD j true = decide (j < k)) →
    Region.lexFrom md ops lo.length k l = true → lhWalk P ops G0 nd gv Q k lo Vl a G u → lhAny P md ops G0 nd gv Vs Q lo.length l a G u
  | [], _, _, _, _, _, _, _, _, _, _, _, hB, h => ⟨by simpa [Region.lexFrom] using hB, h⟩
  | o :: lo, [], _, _, _, _, _, _, _, _, _, _, _, h => h.elim
  | o :: lo, V :: Vl, k, l, a, G, u, hbd, hl, hV, hsz, hli, hB, h => by
    have h0 : ops[k]? = some o := by simpa using (hl 0).symm
    have hk : k < ops.size := (Array.getElem?_eq_some_iff.1 h0).1
    have hVk : Vs k = V := by simpa using hV 0 V rfl
    simp only [List.length_cons, Region.lexFrom, Bool.and_eq_true] at hB
    obtain ⟨⟨hr, hf⟩, hB'⟩ := hB
    obtain ⟨h1, h2⟩ := h
    refine lhAny_first h0 (Region.noSelect_spec hs) lo.length l a G u hbd (Region.free_spec h0 hf) (by simpa using hr) (by rw [hVk]; exact h1) ?_ fun v hv' hf' => ?_
    · intro hb
      unfold heavyB at hh
      rw [List.all_eq_true] at hh
      have h3 := hh k (List.mem_range.2 hk)
      rw [hb] at h3
      exact chkS_spec (by simpa using h3) hsz hli
    · rw [hVk] at hv' hf'
      rw [hVk]
      refine lhAny_lex hs hh lo Vl (k + 1) _ _ _ _ (hbd.fr v) (fun j => by have := hl (j + 1); simpa [Nat.add_assoc, Nat.add_comm 1 j] using this) (fun j W hW => ?_) (by simpa using hsz) (fun j hj => ?_) hB' (h2 v hv' hf')
      · have := hV (j + 1) W (by simpa using hW)
        simpa [Nat.add_assoc, Nat.add_comm 1 j] using this
      · by_cases hjk : k = j
        · subst hjk
          rw [decide_eq_true (by omega)]
          simp [hsz, hj]
        · rw [getD_set_ne true hjk, hli j hj]
          by_cases h5 : j < k
          · rw [decide_eq_true h5, decide_eq_true (by omega)]
          · rw [decide_eq_false h5, decide_eq_false (by omega)]

end
section
variable {P : Program} {ops ops1 : Array Oper} {md : Region.Mode}
theorem pre_sound {n1 n2 : Nat} {G0 : World → Prop} {nd gv : Nat → Bool} {Vs : Nat → Sem Next → Sp} {Q : Act → (World → Prop) → Prop} {Q' : Exit → Act → World → Prop} (h : preB md ops n1 = true) (hsz : n1 ≤ ops.size) (hs1 : ops1.size = n1) (h1 : ∀ i, i < n1 → ops1[i]? = ops[i]?)
    (hQ : ∀ a G w, G w → Q a G → wpAny P md ops Q' n2 (fullL n1 ops.size) a w) :
    ∀ (n : Nat) (l L : Array Bool) (a : Act) (G : World → Prop) (u : Nat → Prop) (w : World), Mono G → (∀ w, G w → G0 w) → G w → (∀ g, u g → g < w.heap.size) → Pad n1 ops.size l L → Closed md ops n1 l → lhAny P md ops1 G0 nd gv Vs Q n l a G u → wpAny P md ops Q' (n + n2) L a w := by
  intro n
  induction n with
  | zero =>
    intro l L a G u w hm hG hw hu hp hc hh
    rw [Nat.zero_add]
    have hall : ∀ i, i < n1 → l[i]? = some true := fun i hi => by
      rcases bool_at (l := l) (i := i) (by rw [hp.sl]; exact hi) with h6 | h6
      · exact h6
      · obtain ⟨j, _, hj⟩ := some_ready h hp.sl hsz h1 ⟨i, hi, h6⟩
        rw [hh.1] at hj; cases hj
    rw [full_of hp hall]
    exact hQ a G w hw hh.2
  | succ n ih =>
    intro l L a G u w hm hG hw hu hp hc hh
    by_cases hnot : ∃ i, i < n1 ∧ l[i]? = some false
    · rw [show n + 1 + n2 = (n + n2) + 1 by omega]
      obtain ⟨j0, hj0, hr0⟩ := some_ready h hp.sl hsz h1 hnot
      refine ⟨fun h0 => ?_, fun i hi => ?_⟩
      · exfalso
        obtain ⟨g1, o, g2, g3⟩ := mem_ready.1 hr0
        have : j0 ∈ Region.ready md ops L := mem_ready.2 ⟨by
          have := hp.lo j0 hj0
          rcases bool_at (l := l) (i := j0) (by rw [hp.sl]; exact hj0) with h6 | h6
          · rw [getD_of h6] at g1; cases g1
          · rw [h6] at this; exact getD_of this, o, (h1 j0 hj0).symm.trans g2, fun e he hb => by
          have h4 := g3 e he hb
          have h5 := (preB_lo h hj0 ((h1 j0 hj0).symm.trans g2)).1 e he hb
          have := hp.lo e.on (by omega)
          rcases bool_at (l := l) (i := e.on) (by rw [hp.sl]; omega) with h6 | h6
          · rw [h6] at this; exact getD_of this
          · rw [getD_of h6] at h4; cases h4⟩
        rw [h0] at this; cases this
      · obtain ⟨hlt, hi1⟩ := pre_ready h hp hc rfl hs1 h1 hnot i hi
        obtain ⟨_, o, ho1, hall⟩ := mem_ready.1 hi1
        have ho : ops[i]? = some o := (h1 i hlt).symm.trans ho1
        obtain ⟨k1, k2⟩ := hh.2 i hi1 o ho1
        have hclo : Closed md ops n1 (l.setIfInBounds i true) := by
          intro j oj hj hoj hl e he hb
          by_cases hij : i = j
          · subst hij
            rw [ho] at hoj
            obtain rfl := Option.some.inj hoj
            have h5 := (preB_lo h hlt ho).1 e he hb
            rw [Array.getElem?_setIfInBounds_ne (by omega)]
            rcases bool_at (l := l) (i := e.on) (by rw [hp.sl]; omega) with h6 | h6
            · exact h6
            · have := hall e he hb
              rw [getD_of h6] at this; cases this
          · rw [Array.getElem?_setIfInBounds_ne hij] at hl
            have h7 := hc j oj hj hoj hl e he hb
            by_cases hie : i = e.on
            · rw [← hie, Array.getElem?_setIfInBounds_self_of_lt (by rw [hp.sl]; exact hlt)]
            · rw [Array.getElem?_setIfInBounds_ne hie]; exact h7
        have next : ∀ v w', Yl (gv i) (Vs i (execOp a.eval o)) w v w' → wpAny P md ops Q' (n + n2) (L.setIfInBounds i true) (a.put o.dst v) w' := fun v w' hy => by
          refine ih _ _ _ _ _ _ (hm.ctx v) (fun w h => hG w (ctx_le h)) ?_ ?_ (hp.set hlt) hclo (k2 v hy.l fun g hg hug => ?_)
          · cases hb : gv i
            · exact hm w w' hw hy.g
            · exact ⟨hm w w' hw hy.g, hy.k hb⟩
          · intro g hg
            rcases hg with hg | hg
            · exact (hy.f g hg).2
            · exact Nat.lt_of_lt_of_le (hu g hg) hy.g.size
          · exact absurd (hu g hug) (Nat.not_lt.2 (hy.f g hg).1)
        have hp' : pick (nd i) G G0 w := by
          cases nd i
          · exact hG w hw
          · exact hw
        unfold Lh at k1
        rw [← wanted_pre h1 (preB_lo h hlt ho).2.1] at k1
        unfold wpOp
        simp only [ho]
        split
        · rename_i hwant
          rw [if_pos hwant] at k1
          left
          have h3 := k1 w hp'
          unfold Oper.wp
          generalize (execOp a.eval o).run P w = r at h3
          cases r with
          | halt x w' => exact h3.elim
          | ok m w' =>
            cases m <;> simp only [lhUpon] at h3 <;> simp only [Oper.upon]
            case value u => exact next _ _ h3
            case skip => exact next _ _ h3
            case enter f args =>
              refine h3.mono ?_
              rintro e w'' ⟨v, rfl, hy⟩
              exact next _ _ hy
        · rename_i hwant
          rw [if_neg hwant] at k1
          exact next _ _ ⟨k1.1, fun hb => k1.2.1 hb w hp', (fun g hg => by rw [k1.2.2] at hg; cases hg), Grow.refl _⟩
    · have hall : ∀ i, i < n1 → l[i]? = some true := fun i hi => by
        rcases bool_at (l := l) (i := i) (by rw [hp.sl]; exact hi) with h6 | h6
        · exact h6
        · exact absurd ⟨i, hi, h6⟩ hnot
      have hr : Region.ready md ops1 l = [] := by
        cases hq : Region.ready md ops1 l with
        | nil => rfl
        | cons x xs =>
          exfalso
          have hx : x ∈ Region.ready md ops1 l := by rw [hq]; exact List.mem_cons_self
          obtain ⟨g1, o, g2, _⟩ := mem_ready.1 hx
          have : x < n1 := hs1 ▸ (Array.getElem?_eq_some_iff.1 g2).1
          rw [getD_of (hall x this)] at g1; cases g1
      rw [full_of hp hall]
      exact wpAny_plus _ _ _ _ _ (hQ a G w hw (hh.1 hr))

/-- the first n1 operations in the order of the text; then the others -/
theorem wp_region_pre {id : Nat} {Q : Exit → Act → World → Prop} {a : Act} {w : World} {l : List Oper} (n1 : Nat) (nd gv : List Nat) (hm : P.follows .mixedOrders = true) (hn : n1 ≤ l.length) (hpre : preB .any l.toArray n1 = true) (hB : Region.lexB .any (l.take n1).toArray = true)
    (hh : heavyB .any (l.take n1).toArray (fun i => nd.contains i) (fun i => gv.contains i) = true)
    (h : ∃ Vl, lhWalk P (l.take n1).toArray (Grow w) (fun i => nd.contains i) (fun i => gv.contains i) (fun a' G => ∀ w', G w' → wpAny P .any l.toArray Q (l.length - n1) (fullL n1 l.length) a' w') 0 (l.take n1) Vl a (Grow w) (fun g => g < w.heap.size)) : (Code.region id l.toArray true).wp P Q a w := by
  obtain ⟨Vl, h⟩ := h
  simp only [Region.lexB, Bool.and_eq_true] at hB
  refine wp_region_any hm ?_
  have hlen : (l.take n1).length = n1 := by simp; omega
  have key := pre_sound (P := P) (md := .any) (ops := l.toArray) (ops1 := (l.take n1).toArray) (n1 := n1) (n2 := l.length - n1) (G0 := Grow w) (nd := fun i => nd.contains i) (gv := fun i => gv.contains i) (Vs := fun i => Vl.getD i (fun _ => noSp)) (Q := fun a' G => ∀ w', G w' → wpAny P .any l.toArray Q (l.length - n1) (fullL n1 l.length) a' w') (Q' := Q) hpre (by simpa using hn) (by simpa using hlen)
    (fun i hi => by simp [hi]) (fun a G w hw hq => by simpa using hq w hw) n1 (Array.replicate n1 false) (Array.replicate l.toArray.size false) a (Grow w) (fun g => g < w.heap.size) { w with drawn := w.drawn + 1 } (fun w1 w2 h1 h2 => h1.trans h2) (fun _ h => h) ⟨rfl, rfl, rfl, Nat.le_refl _, fun _ _ => rfl⟩ (fun _ h => h)
    ⟨by simp, by simp, by simpa using hn, fun i hi => (by have h5 : i < l.length := Nat.lt_of_lt_of_le hi hn; simp [hi, h5]), fun i h1 h2 => by simp at h2; simp [h2]⟩
    (fun i o hi ho hl => by simp [hi] at hl) ?_
  · have e : n1 + (l.length - n1) = l.toArray.size := by simp; omega
    rw [e] at key; exact key
  · have := lhAny_lex (md := .any) (P := P) (G0 := Grow w) (nd := fun i => nd.contains i) (gv := fun i => gv.contains i) (Q := fun a' G => ∀ w', G w' → wpAny P .any l.toArray Q (l.length - n1) (fullL n1 l.length) a' w') (Vs := fun i => Vl.getD i (fun _ => noSp)) hB.1 hh (l.take n1) Vl 0 (Array.replicate (l.take n1).toArray.size false) a (Grow w) (fun g => g < w.heap.size) ⟨_, fun _ h => h⟩ (by simp) (fun j V hV => by simp [hV]) (by simp) (fun j hj => by simp at hj; simp [hj]) (by simpa using hB.2) h
    rw [hlen, show (l.take n1).toArray.size = n1 by simpa using hlen] at this
    exact this
end
section
variable {P : Program} {ops : Array Oper} {G0 : World → Prop} {nd gv : Nat → Bool} {Q : Act → (World → Prop) → Prop}
theorem lhWalk_le (hQ : Antitone Q) : ∀ (lo : List Oper) (k : Nat) (Vl : List (Sem Next → Sp)) (a : Act) (G G' : World → Prop) (u : Nat → Prop), (∀ w, G w → G' w) → lhWalk P ops G0 nd gv Q k lo Vl a G' u → lhWalk P ops G0 nd gv Q k lo Vl a G u
  | [], _, _, _, _, _, _, hG, h => hQ _ _ _ hG h
  | _ :: _, _, [], _, _, _, _, _, h => h.elim
  | o :: lo, k, s :: sr, a, G, G', u, hG, h => by
    refine ⟨h.1.le fun w hw => ?_, fun v hl hf => lhWalk_le hQ lo (k + 1) sr _ _ (ctx (gv k) (s (execOp a.eval o)) G' v) _ ?_ (h.2 v hl hf)⟩
    · unfold pick at *
      cases hb : nd k <;> rw [hb] at hw
      · exact hw
      · exact hG w hw
    · intro w
      cases gv k
      · exact hG w
      · exact fun ⟨h1, h2⟩ => ⟨hG w h1, h2⟩
variable {o : Oper} {rest : List Oper} {sr : List (Sem Next → Sp)} {a : Act} {G : World → Prop} {k : Nat} {u : Nat → Prop}
/-- an operation that leans on nothing new -/
theorem lh_o {v : Value} (hw : Region.wanted o (yielded ops a.tmps) = true) (hk : nd k = false) (hg : gv k = false) (h : ∀ w, G0 w → oneUpon P v w ((execOp a.eval o).run P w)) (hn : lhWalk P ops G0 nd gv Q (k + 1) rest sr (a.put o.dst v) G u) :
    lhWalk P ops G0 nd gv Q k (o :: rest) ((fun _ => oneS v) :: sr) a G u := by
  refine ⟨?_, fun x hx _ => ?_⟩
  · unfold Lh pick; rw [if_pos hw, hk]; exact fun w hw' => lh_one (h w hw')
  · cases hx; rw [hg, fr_one]; exact hn
theorem lh_f {kd : FloatKind} {b : Nat} (hw : Region.wanted o (yielded ops a.tmps) = true) (hk : nd k = false) (hg : gv k = false) (h : ∀ w, G0 w → lfUpon P kd b w ((execOp a.eval o).run P w)) (hn : ∀ t, lhWalk P ops G0 nd gv Q (k + 1) rest sr (a.put o.dst (.float kd (nv kd b t))) G u) :
    lhWalk P ops G0 nd gv Q k (o :: rest) ((fun _ => lfS kd b) :: sr) a G u := by
  refine ⟨?_, fun x hx _ => ?_⟩
  · unfold Lh pick; rw [if_pos hw, hk]
    intro w hw'
    have h1 := h w hw'
    generalize (execOp a.eval o).run P w = r at h1
    cases r with
    | halt x w' => exact h1
    | ok m w' =>
      cases m
      case value u => exact ⟨h1.1, (fun _ => trivial), (fun _ h => nomatch h), h1.2⟩
      case enter f args => exact h1.mono fun e w'' ⟨⟨t, he⟩, h2⟩ => ⟨_, he, ⟨⟨t, rfl⟩, (fun _ => trivial), (fun _ h => nomatch h), h2⟩⟩
      all_goals exact h1.elim
  · obtain ⟨t, rfl⟩ := hx; rw [hg, fr_lf]; exact hn t
/-- one that reads new memory -/
theorem lh_h {v : Value} (hw : Region.wanted o (yielded ops a.tmps) = true) (hk : nd k = true) (hg : gv k = false) (h : ∀ w, G w → oneUpon P v w ((execOp a.eval o).run P w)) (hn : lhWalk P ops G0 nd gv Q (k + 1) rest sr (a.put o.dst v) G u) :
    lhWalk P ops G0 nd gv Q k (o :: rest) ((fun _ => oneS v) :: sr) a G u := by
  refine ⟨?_, fun x hx _ => ?_⟩
  · unfold Lh pick; rw [if_pos hw, hk]; exact fun w hw' => lh_one (h w hw')
  · cases hx; rw [hg, fr_one]; exact hn
/-- one that makes a slice -/
theorem lh_new {n : Nat} {cs : Array Value} {T : TypeId} (hw : Region.wanted o (yielded ops a.tmps) = true) (hk : nd k = false) (hgv : gv k = true) (h : ∀ w, G0 w → newUpon n cs T w ((execOp a.eval o).run P w))
    (hn : ∀ g, ¬ u g → lhWalk P ops G0 nd gv Q (k + 1) rest sr (a.put o.dst (.slice (some ⟨g, 0, none⟩) n n)) (fun w => G w ∧ w.heap[g]? = some (.cells cs T)) (fun x => g = x ∨ u x)) :
    lhWalk P ops G0 nd gv Q k (o :: rest) ((fun _ => newS n cs T) :: sr) a G u := by
  refine ⟨?_, fun x hx hf => ?_⟩
  · unfold Lh pick; rw [if_pos hw, hk]
    intro w hw'
    have h1 := h w hw'
    generalize (execOp a.eval o).run P w = r at h1
    cases r with
    | halt x w' => exact h1
    | ok m w' =>
      cases m
      case value u =>
        obtain ⟨⟨g, rfl, hg, hb⟩, h2⟩ := h1
        exact ⟨⟨g, rfl⟩, (fun _ => hg), (fun x hx => by cases hx; exact ⟨hb, (Array.getElem?_eq_some_iff.1 hg).1⟩), h2⟩
      all_goals exact h1.elim
  · obtain ⟨g, rfl⟩ := hx
    have e : fr (newS n cs T) u (.slice (some ⟨g, 0, none⟩) n n) = fun x => g = x ∨ u x := funext fun x => propext ⟨fun h => h.elim (fun h => by cases h; exact Or.inl rfl) Or.inr, fun h => h.elim (fun h => Or.inl (congrArg some h)) Or.inr⟩
    rw [hgv, e]; exact hn g (hf g rfl)
/-- one that is passed over -/
theorem lh_skip (hw : Region.wanted o (yielded ops a.tmps) = false) (hg : gv k = false) (hn : lhWalk P ops G0 nd gv Q (k + 1) rest sr (a.put o.dst undef) G u) :
    lhWalk P ops G0 nd gv Q k (o :: rest) ((fun _ => oneS undef) :: sr) a G u := by
  refine ⟨?_, fun x hx _ => ?_⟩
  · unfold Lh; rw [hw]; exact ⟨rfl, (fun _ _ _ => trivial), rfl⟩
  · cases hx; rw [hg, fr_one]; exact hn
theorem lh_nil (h : Q a G) : lhWalk P ops G0 nd gv Q k [] [] a G u := h
theorem lh_w {ι : Type} (mk : ι → Value) (K : ι → World → Prop) (i0 : ι) (hmono : ∀ i w w', K i w → Grow w w' → K i w') (hinj : ∀ i j, mk i = mk j → i = j)
    (hw : Region.wanted o (yielded ops a.tmps) = true) (hk : nd k = false) (hgv : gv k = true) (h : ∀ w, G0 w → famUpon P mk K w ((execOp a.eval o).run P w))
    (hQ : Antitone Q) (hn : ∀ i, lhWalk P ops G0 nd gv Q (k + 1) rest sr (a.put o.dst (mk i)) (fun w => G w ∧ K i w) u) :
    lhWalk P ops G0 nd gv Q k (o :: rest) ((fun _ => famS mk K i0 hmono) :: sr) a G u := by
  refine ⟨?_, fun x hx hf => ?_⟩
  · unfold Lh pick; rw [if_pos hw, hk]
    intro w hw'
    have h1 := h w hw'
    generalize (execOp a.eval o).run P w = r at h1
    cases r with
    | halt x w' => exact h1
    | ok m w' =>
      cases m
      case value u =>
        obtain ⟨⟨i, rfl, hi⟩, h2⟩ := h1
        exact ⟨⟨i, rfl⟩, (fun _ => ⟨i, rfl, hi⟩), (fun x hx => nomatch hx), h2⟩
      case enter f args => exact h1.mono fun e w'' ⟨i, he, hi, h2⟩ => ⟨_, he, ⟨⟨i, rfl⟩, (fun _ => ⟨i, rfl, hi⟩), (fun x hx => nomatch hx), h2⟩⟩
      all_goals exact h1.elim
  · obtain ⟨i, rfl⟩ := hx
    rw [hgv, fr_fam]
    refine lhWalk_le hQ _ _ _ _ _ (fun w => G w ∧ K i w) _ (fun w hw => ⟨hw.1, ?_⟩) (hn i)
    obtain ⟨j, hj, hk⟩ := hw.2
    rw [hinj i j hj]; exact hk

/-- a value out of a family -/
def valS {ι : Type} (mk : ι → Value) (i0 : ι) : Sp := ⟨fun x => ∃ i, x = mk i, fun _ _ => True, fun _ => none, fun _ => ⟨mk i0, ⟨i0, rfl⟩, fun _ h => nomatch h⟩, fun _ _ _ _ _ => trivial⟩
def ValRet {ι : Type} (mk : ι → Value) (w : World) (e : Ending) (w'' : World) : Prop := (∃ i, e = .returned (mk i)) ∧ Grow w w''
def valUpon {ι : Type} (P : Program) (mk : ι → Value) (w : World) : Result Next → Prop
  | .ok (.value u) w' => (∃ i, u = mk i) ∧ Grow w w'
  | .ok (.enter f args) w' => Calls P f args w' (ValRet mk w)
  | _ => False
attribute [go_sem] valUpon
theorem fr_val {ι : Type} {mk : ι → Value} {i0 : ι} {x : Value} : fr (valS mk i0) u x = u := funext fun _ => propext ⟨fun h => h.elim (fun h => nomatch h) id, Or.inr⟩
theorem lh_v {ι : Type} (mk : ι → Value) (i0 : ι) (hw : Region.wanted o (yielded ops a.tmps) = true) (hk : nd k = false) (hg : gv k = false) (h : ∀ w, G0 w → valUpon P mk w ((execOp a.eval o).run P w))
    (hn : ∀ i, lhWalk P ops G0 nd gv Q (k + 1) rest sr (a.put o.dst (mk i)) G u) : lhWalk P ops G0 nd gv Q k (o :: rest) ((fun _ => valS mk i0) :: sr) a G u := by
  refine ⟨?_, fun x hx _ => ?_⟩
  · unfold Lh pick; rw [if_pos hw, hk]
    intro w hw'
    have h1 := h w hw'
    generalize (execOp a.eval o).run P w = r at h1
    cases r with
    | halt x w' => exact h1
    | ok m w' =>
      cases m
      case value u => exact ⟨h1.1, (fun _ => trivial), (fun _ h => nomatch h), h1.2⟩
      case enter f args => exact h1.mono fun e w'' ⟨⟨t, he⟩, h2⟩ => ⟨_, he, ⟨⟨t, rfl⟩, (fun _ => trivial), (fun _ h => nomatch h), h2⟩⟩
      all_goals exact h1.elim
  · obtain ⟨t, rfl⟩ := hx; rw [hg, fr_val]; exact hn t
def valOf (P : Program) (w0 : World) (x : Sem Next) : Value := match x.run P w0 with
  | .ok (.value u) _ => u
  | _ => undef
def detS (P : Program) (w0 : World) (x : Sem Next) : Sp := oneS (valOf P w0 x)
def detUpon (v : Value) (w : World) : Result Next → Prop
  | .ok (.value u) w' => OneV v u ∧ Grow w w'
  | _ => False
attribute [go_sem] detUpon
/-- a value that is made of those before it -/
theorem lh_d {w0 : World} {v : Value} (hw : Region.wanted o (yielded ops a.tmps) = true) (hk : nd k = false) (hg : gv k = false) (h : ∀ w, Grow w0 w → detUpon v w ((execOp a.eval o).run P w)) (hn : lhWalk P ops (Grow w0) nd gv Q (k + 1) rest sr (a.put o.dst v) G u) :
    lhWalk P ops (Grow w0) nd gv Q k (o :: rest) (detS P w0 :: sr) a G u := by
  have e : detS P w0 (execOp a.eval o) = oneS v := by
    have h1 := h w0 (Grow.refl _)
    unfold detS valOf
    generalize (execOp a.eval o).run P w0 = r at h1
    cases r with
    | halt x w' => exact h1.elim
    | ok m w' =>
      cases m
      case value u => obtain ⟨h2, -⟩ := h1; simp only; rw [show u = v from h2]
      all_goals exact h1.elim
  unfold lhWalk
  rw [e]
  refine ⟨?_, fun x hx _ => ?_⟩
  · unfold Lh pick; rw [if_pos hw, hk]
    intro w hw'
    have h1 := h w hw'
    generalize (execOp a.eval o).run P w = r at h1
    cases r with
    | halt x w' => exact h1
    | ok m w' =>
      cases m
      case value u => obtain ⟨h1, h2⟩ := h1; show Yl _ _ _ _ _; rw [show u = v from h1]; exact .one h2
      all_goals exact h1.elim
  · cases hx; rw [hg, fr_one]; exact hn
end
end Go.Proofs.Ytbkafmikaojclaa.Fl.D
