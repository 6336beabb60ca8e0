
/-
A region that draws its order, walked once in the order of the text, where an operation may yield one of several values (a not-a-number that the tape chooses): each operation has a set of values, laid down before the walk.
-/
import Derived.Test.YtbdanadmabemdaaDoorFl
import Derived.Still
import Derived.Deep.Draws
namespace Go.Proofs.YtbdanadmabemdaaDoor.Fl
open Go

section
variable {P : Program} {ops : Array Oper} {md : Region.Mode} {C : World → Prop}

/-- what has come of an operation lies in the set, and the world in the class -/
def lxUpon (P : Program) (C : World → Prop) (V : Value → Prop) : Result Next → Prop
  | .ok (.value u) w' => V u ∧ C w'
  | .ok .skip w' => V undef ∧ C w'
  | .ok (.enter f args) w' => Calls P f args w' (fun e w'' => ∃ v, V v ∧ e = .returned v ∧ C w'')
  | _ => False

/-- the operation yields a value of the set, in every world of the class; one that is passed over yields nothing -/
def Lx (P : Program) (ops : Array Oper) (C : World → Prop) (V : Value → Prop) (o : Oper) (a : Act) : Prop :=
  if Region.wanted o (yielded ops a.tmps) then ∀ w, C w → lxUpon P C V ((execOp a.eval o).run P w) else V undef

theorem Lx.inhabited {V : Value → Prop} {o : Oper} {a : Act} {w : World} (hC : C w) (h : Lx P ops C V o a) : ∃ v, V v := by
  unfold Lx at h
  split at h
  · have h1 := h w hC
    generalize (execOp a.eval o).run P w = r at h1
    cases r with
    | halt x w' => exact h1.elim
    | ok n w' =>
      cases n <;> simp only [lxUpon] at h1
      case value u => exact ⟨u, h1.1⟩
      case skip => exact ⟨_, h1.1⟩
      case enter f args =>
        obtain ⟨_, _, _, ⟨v, hv, _⟩, _⟩ := h1 []
        exact ⟨v, hv⟩
  · exact ⟨_, h⟩

theorem Lx.put {V : Value → Prop} {o : Oper} {a : Act} (hs : ∀ cs b, o.op ≠ .select cs b) (dst : Option Tmp) (v : Value) (h : ∀ d, dst = some d → d ∉ o.looksAt ops) :
    Lx P ops C V o (a.put dst v) ↔ Lx P ops C V o a := by
  unfold Lx
  rw [execOp_put o hs a dst v h, wanted_put o a dst v h]

/-- whatever order is picked from here on -/
def lxAny (P : Program) (md : Region.Mode) (ops : Array Oper) (C : World → Prop) (Vs : Nat → Value → Prop) (Q : Act → Prop) : Nat → Array Bool → Act → Prop
  | 0, l, a => Region.ready md ops l = [] ∧ Q a
  | n + 1, l, a => (Region.ready md ops l = [] → Q a) ∧
      ∀ i ∈ Region.ready md ops l, ∀ o, ops[i]? = some o → Lx P ops C (Vs i) o a ∧ ∀ v, Vs i v → lxAny P md ops C Vs Q n (l.setIfInBounds i true) (a.put o.dst v)

theorem lxAny_sound {Vs : Nat → Value → Prop} {Q : Act → Prop} {Q' : Exit → Act → World → Prop} (hQ : ∀ a w, C w → Q a → Q' .normal a w) :
    ∀ (n : Nat) (l : Array Bool) (a : Act) (w : World), C w → lxAny P md ops C Vs Q n l a → wpAny P md ops Q' n l a w
  | 0, _, _, _, hw, h => ⟨h.1, hQ _ _ hw h.2⟩
  | n + 1, l, a, w, hw, h => by
    refine ⟨fun h0 => hQ _ _ hw (h.1 h0), fun i hi => ?_⟩
    unfold wpOp
    cases ho : ops[i]? with
    | none =>
      exfalso
      obtain ⟨_, o, ho', _⟩ := mem_ready.1 hi
      rw [ho] at ho'; cases ho'
    | some o =>
      obtain ⟨h1, h2⟩ := h.2 i hi o ho
      have next : ∀ v w', C w' → Vs i v → wpAny P md ops Q' n (l.setIfInBounds i true) (a.put o.dst v) w' := fun v w' hw' hv => lxAny_sound hQ n _ _ _ hw' (h2 v hv)
      unfold Lx at h1
      simp only
      split
      · rename_i hwant
        rw [if_pos hwant] at h1
        left
        have h3 := h1 w hw
        unfold Oper.wp
        generalize (execOp a.eval o).run P w = r at h3
        cases r with
        | halt x w' => exact h3.elim
        | ok m w' =>
          cases m <;> simp only [lxUpon] at h3 <;> simp only [Oper.upon]
          case value u => exact next _ _ h3.2 h3.1
          case skip => exact next _ _ h3.2 h3.1
          case enter f args =>
            refine h3.mono ?_
            rintro e w'' ⟨v, hv, rfl, hc⟩
            exact next _ _ hc hv
      · rename_i hwant
        rw [if_neg hwant] at h1
        exact next _ _ hw h1

theorem lxAny_first {Vs : Nat → Value → Prop} {Q : Act → Prop} {i : Nat} {oi : Oper} {w0 : World} (hC : C w0) (hi : ops[i]? = some oi) (hsel : ∀ (j : Nat) (o : Oper) cs b, ops[j]? = some o → o.op ≠ .select cs b) :
    ∀ (n : Nat) (l : Array Bool) (a : Act),
      (∀ j oj, ops[j]? = some oj → j ≠ i → l.getD j true = false → (∀ e ∈ oj.after, Region.binds md e = true → e.on ≠ i) → oi.apart ops oj = true) →
      i ∈ Region.ready md ops l → Lx P ops C (Vs i) oi a →
      (∀ v, Vs i v → lxAny P md ops C Vs Q n (l.setIfInBounds i true) (a.put oi.dst v)) → lxAny P md ops C Vs Q (n + 1) l a := by
  intro n
  induction n with
  | zero =>
    intro l a _ hr hy H
    refine ⟨fun h => (by rw [h] at hr; cases hr), fun j hj o ho => ?_⟩
    by_cases hji : j = i
    · subst hji
      obtain rfl : oi = o := Option.some.inj (hi.symm.trans ho)
      exact ⟨hy, H⟩
    · exfalso
      obtain ⟨v0, hv0⟩ := hy.inhabited hC
      have h1 := ready_mono hj hji
      rw [(H v0 hv0).1] at h1
      cases h1
  | succ n ih =>
    intro l a hfree hr hy H
    refine ⟨fun h => (by rw [h] at hr; cases hr), fun j hj oj hoj => ?_⟩
    by_cases hji : j = i
    · subst hji
      obtain rfl : oi = oj := Option.some.inj (hi.symm.trans hoj)
      exact ⟨hy, H⟩
    · obtain ⟨v0, hv0⟩ := hy.inhabited hC
      obtain ⟨hjun, oj', hoj', hall⟩ := mem_ready.1 hj
      obtain rfl : oj = oj' := Option.some.inj (hoj.symm.trans hoj')
      have hnot : ∀ e ∈ oj.after, Region.binds md e = true → e.on ≠ i := fun e he hb heq => by
        have h1 := hall e he hb
        have h0 := (mem_ready.1 hr).1
        rw [heq] at h1
        rcases Nat.lt_or_ge i l.size with h' | h'
        · simp [h'] at h0 h1; rw [h0] at h1; cases h1
        · simp [Array.getElem?_eq_none h'] at h1
      obtain ⟨ap1, ap2, ap3⟩ := Oper.apart_spec (hfree j oj hoj hji hjun hnot)
      have hj' := ready_mono hj hji
      have step := fun v hv => (H v hv).2 j hj' oj hoj
      refine ⟨(Lx.put (fun cs b => hsel j oj cs b hoj) oi.dst v0 ap1).1 (step v0 hv0).1, fun u hu => ?_⟩
      refine ih (l.setIfInBounds j true) (a.put oj.dst u) ?_ (ready_mono hr (Ne.symm hji)) ((Lx.put (fun cs b => hsel i oi cs b hi) oj.dst u ap3).2 hy) fun v hv => ?_
      · intro k ok hk hki hun hno
        refine hfree k ok hk hki ?_ hno
        by_cases hjk : j = k
        · subst hjk; exact hjun
        · rw [getD_set_ne true hjk] at hun; exact hun
      · have h2 := (step v hv).2 u hu
        rw [Array.setIfInBounds_comm _ _ hji, ← Act.put_comm a v u ap2]
        exact h2

/-- the walk in the order of the text -/
def lxWalk (P : Program) (ops : Array Oper) (C : World → Prop) (Q : Act → Prop) : List Oper → List (Value → Prop) → Act → Prop
  | [], _, a => Q a
  | o :: rest, V :: Vr, a => Lx P ops C V o a ∧ ∀ v, V v → lxWalk P ops C Q rest Vr (a.put o.dst v)
  | _ :: _, [], _ => False

theorem lxAny_lex {Q : Act → Prop} {w0 : World} (hC : C w0) {Vs : Nat → Value → Prop} (hs : Region.noSelect ops = true) : ∀ (lo : List Oper) (Vl : List (Value → Prop)) (k : Nat) (l : Array Bool) (a : Act),
    (∀ j, lo[j]? = ops[k + j]?) → (∀ j V, Vl[j]? = some V → Vs (k + j) = V) →
    Region.lexFrom md ops lo.length k l = true → lxWalk P ops C Q lo Vl a → lxAny P md ops C Vs Q lo.length l a
  | [], _, _, _, _, _, _, hB, h => ⟨by simpa [Region.lexFrom] using hB, h⟩
  | o :: lo, [], _, _, _, _, _, _, h => h.elim
  | o :: lo, V :: Vl, k, l, a, hl, hV, hB, h => by
    have h0 : ops[k]? = some o := by simpa using (hl 0).symm
    have hVk : Vs k = V := by simpa using hV 0 V rfl
    simp only [List.length_cons, Region.lexFrom, Bool.and_eq_true] at hB
    obtain ⟨⟨hr, hf⟩, hB'⟩ := hB
    obtain ⟨h1, h2⟩ := h
    refine lxAny_first hC h0 (Region.noSelect_spec hs) lo.length l a (Region.free_spec h0 hf) (by simpa using hr) (by rw [hVk]; exact h1) fun v hv => ?_
    refine lxAny_lex hC hs lo Vl (k + 1) _ _ (fun j => by have := hl (j + 1); simpa [Nat.add_assoc, Nat.add_comm 1 j] using this) (fun j W hW => ?_) hB' (h2 v (by rw [← hVk]; exact hv))
    have := hV (j + 1) W (by simpa using hW)
    simpa [Nat.add_assoc, Nat.add_comm 1 j] using this

/-- one walk in the order of the text serves every order -/
theorem wp_region_sets {id : Nat} {Q : Exit → Act → World → Prop} {a : Act} {w : World} {l : List Oper} (Vl : List (Value → Prop)) (hm : P.follows .mixedOrders = true) (hB : Region.lexB .any l.toArray = true)
    (h : lxWalk P l.toArray (fun w' => ∃ n, w' = w.drewN n) (fun a' => ∀ n, Q .normal a' (w.drewN n)) l Vl a) : (Code.region id l.toArray true).wp P Q a w := by
  simp only [Region.lexB, Bool.and_eq_true] at hB
  refine wp_region_any hm (lxAny_sound (C := fun w' => ∃ n, w' = w.drewN n) (Vs := fun i => Vl.getD i (fun _ => False)) (Q := fun a' => ∀ n, Q .normal a' (w.drewN n)) ?_ _ _ _ _ ⟨1, rfl⟩ ?_)
  · rintro a' _ ⟨n, rfl⟩ h; exact h n
  · have := lxAny_lex (md := .any) (Vs := fun i => Vl.getD i (fun _ => False)) (w0 := w) ⟨0, rfl⟩ hB.1 l Vl 0 (Array.replicate l.toArray.size false) a (by simp) (fun j V hV => by simp [hV]) (by simpa using hB.2) h
    simpa using this

theorem wp_region_sets' {id : Nat} {Q : Exit → Act → World → Prop} {a : Act} {w : World} {l : List Oper} (hm : P.follows .mixedOrders = true) (hB : Region.lexB .any l.toArray = true)
    (h : ∃ Vl, lxWalk P l.toArray (fun w' => ∃ n, w' = w.drewN n) (fun a' => ∀ n, Q .normal a' (w.drewN n)) l Vl a) : (Code.region id l.toArray true).wp P Q a w :=
  let ⟨Vl, h'⟩ := h
  wp_region_sets Vl hm hB h'

/-- exactly one value; a float up to the not-a-number -/
def OneV (v : Value) : Value → Prop := fun x => x = v
def LF (k : FloatKind) (b : Nat) : Value → Prop := fun x => ∃ t, x = .float k (nv k b t)
theorem OneV.mk (v : Value) : OneV v v := rfl
theorem LF.mk (k : FloatKind) (b t : Nat) : LF k b (.float k (nv k b t)) := ⟨t, rfl⟩

theorem lx_nil {Q : Act → Prop} {Vl : List (Value → Prop)} {a : Act} (h : Q a) : lxWalk P ops C Q [] Vl a := h
theorem lx_want {Q : Act → Prop} {o : Oper} {rest : List Oper} {V : Value → Prop} {Vr : List (Value → Prop)} {a : Act} {w : World}
    (hw : Region.wanted o (yielded ops a.tmps) = true) (h : ∀ n, lxUpon P (fun w' => ∃ n, w' = w.drewN n) V ((execOp a.eval o).run P (w.drewN n))) (hn : ∀ v, V v → lxWalk P ops (fun w' => ∃ n, w' = w.drewN n) Q rest Vr (a.put o.dst v)) :
    lxWalk P ops (fun w' => ∃ n, w' = w.drewN n) Q (o :: rest) (V :: Vr) a := by
  refine ⟨?_, hn⟩
  unfold Lx
  rw [if_pos hw]
  rintro _ ⟨n, rfl⟩
  exact h n
theorem lx_skip {Q : Act → Prop} {o : Oper} {rest : List Oper} {Vr : List (Value → Prop)} {a : Act}
    (hw : Region.wanted o (yielded ops a.tmps) = false) (hn : lxWalk P ops C Q rest Vr (a.put o.dst undef)) :
    lxWalk P ops C Q (o :: rest) (OneV undef :: Vr) a := by
  refine ⟨?_, fun v hv => ?_⟩
  · unfold Lx; rw [hw]; exact OneV.mk _
  · cases hv; exact hn
attribute [go_sem] lxUpon
end
end Go.Proofs.YtbdanadmabemdaaDoor.Fl
