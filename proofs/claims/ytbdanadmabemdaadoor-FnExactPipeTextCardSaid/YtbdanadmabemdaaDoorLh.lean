
/-
A region that draws its order and makes memory: one walk in the order of the text serves every order, where the operations that lean on new memory follow one another by their edges.
-/
import Derived.Test.YtbdanadmabemdaaDoorLo
import Derived.Test.YtbdanadmabemdaaDoorDa
namespace Go.Proofs.YtbdanadmabemdaaDoor.Fl
open Go Go.RowKit

/-- the world has grown; what was there is there -/
def Grow (w w' : World) : Prop := Below w.heap.size w w'
theorem Grow.refl (w : World) : Grow w w := Below.refl _ _
theorem Grow.trans {a b c : World} (h : Grow a b) (k : Grow b c) : Grow a c := Below.trans h (Below.mono k h.size)

/-- what an operation yields: a set of values, and what is known of a value in the world -/
structure Sp where
  L : Value → Prop
  W : Value → World → Prop
  F : Value → Option Nat
  inh : ∀ B : Nat, ∃ v, L v ∧ ∀ g, F v = some g → B ≤ g
  mono : ∀ v w w', W v w → Grow w w' → W v w'

section
variable {P : Program} {ops : Array Oper} {md : Region.Mode}

/-- a value that an operation has yielded -/
structure Yl (gv : Bool) (s : Sp) (w : World) (u : Value) (w' : World) : Prop where
  l : s.L u
  k : gv = true → s.W u w'
  f : ∀ g, s.F u = some g → w.heap.size ≤ g ∧ g < w'.heap.size
  g : Grow w w'
def lhUpon (P : Program) (gv : Bool) (s : Sp) (w : World) : Result Next → Prop
  | .ok (.value u) w' => Yl gv s w u w'
  | .ok .skip w' => Yl gv s w undef w'
  | .ok (.enter f args) w' => Calls P f args w' (fun e w'' => ∃ v, e = .returned v ∧ Yl gv s w v w'')
  | _ => False

def Lh (P : Program) (ops : Array Oper) (G : World → Prop) (gv : Bool) (s : Sp) (o : Oper) (a : Act) : Prop :=
  if Region.wanted o (yielded ops a.tmps) then ∀ w, G w → lhUpon P gv s w ((execOp a.eval o).run P w) else s.L undef ∧ (gv = true → ∀ w, G w → s.W undef w) ∧ s.F undef = none

theorem Lh.put {G : World → Prop} {gv : Bool} {s : Sp} {o : Oper} {a : Act} (hs : ∀ cs b, o.op ≠ .select cs b) (dst : Option Tmp) (v : Value) (h : ∀ d, dst = some d → d ∉ o.looksAt ops) :
    Lh P ops G gv s o (a.put dst v) ↔ Lh P ops G gv s o a := by
  unfold Lh
  rw [execOp_put o hs a dst v h, wanted_put o a dst v h]
theorem Lh.le {G G' : World → Prop} {gv : Bool} {s : Sp} {o : Oper} {a : Act} (h : Lh P ops G gv s o a) (hG : ∀ w, G' w → G w) : Lh P ops G' gv s o a := by
  unfold Lh at *
  split
  · rename_i hw; rw [if_pos hw] at h; exact fun w hw' => h w (hG w hw')
  · rename_i hw; rw [if_neg hw] at h; exact ⟨h.1, fun hb w hw' => h.2.1 hb w (hG w hw'), h.2.2⟩
/-- the blocks that are taken -/
def fr (s : Sp) (u : Nat → Prop) (v : Value) : Nat → Prop := fun x => s.F v = some x ∨ u x
def okFr (s : Sp) (u : Nat → Prop) (v : Value) : Prop := ∀ g, s.F v = some g → ¬ u g
def Bd (u : Nat → Prop) : Prop := ∃ B, ∀ g, u g → g < B
theorem Bd.fr {s : Sp} {u : Nat → Prop} (h : Bd u) (v : Value) : Bd (fr s u v) := by
  obtain ⟨B, hB⟩ := h
  cases hf : s.F v with
  | none => exact ⟨B, fun g hg => hg.elim (fun h => by rw [hf] at h; cases h) (hB g)⟩
  | some x => exact ⟨max B (x + 1), fun g hg => hg.elim (fun h => by rw [hf] at h; cases h; omega) (fun h => by have := hB g h; omega)⟩
theorem Sp.some' (s : Sp) {u : Nat → Prop} (h : Bd u) : ∃ v, s.L v ∧ okFr s u v := by
  obtain ⟨B, hB⟩ := h
  obtain ⟨v, hl, hf⟩ := s.inh B
  exact ⟨v, hl, fun g hg hu => by have := hf g hg; have := hB g hu; omega⟩

/-- what is known of the world behind an operation -/
def ctx (hv : Bool) (s : Sp) (G : World → Prop) (v : Value) : World → Prop := if hv then fun w => G w ∧ s.W v w else G
theorem ctx_light {s : Sp} {G : World → Prop} {v : Value} : ctx false s G v = G := rfl
theorem ctx_heavy {s : Sp} {G : World → Prop} {v : Value} : ctx true s G v = fun w => G w ∧ s.W v w := rfl

def pick (b : Bool) (G G0 : World → Prop) : World → Prop := if b then G else G0

def lhAny (P : Program) (md : Region.Mode) (ops : Array Oper) (G0 : World → Prop) (nd gv : Nat → Bool) (Vs : Nat → Sp) (Q : Act → (World → Prop) → Prop) : Nat → Array Bool → Act → (World → Prop) → (Nat → Prop) → Prop
  | 0, l, a, G, _ => Region.ready md ops l = [] ∧ Q a G
  | n + 1, l, a, G, u => (Region.ready md ops l = [] → Q a G) ∧
      ∀ i ∈ Region.ready md ops l, ∀ o, ops[i]? = some o → Lh P ops (pick (nd i) G G0) (gv i) (Vs i) o a ∧
        ∀ v, (Vs i).L v → okFr (Vs i) u v → lhAny P md ops G0 nd gv Vs Q n (l.setIfInBounds i true) (a.put o.dst v) (ctx (gv i) (Vs i) G v) (fr (Vs i) u v)

def Mono (G : World → Prop) : Prop := ∀ w w', G w → Grow w w' → G w'
theorem Mono.ctx {hv : Bool} {s : Sp} {G : World → Prop} (h : Mono G) (v : Value) : Mono (ctx hv s G v) := by
  cases hv
  · exact h
  · exact fun w w' h1 h2 => ⟨h w w' h1.1 h2, s.mono v w w' h1.2 h2⟩
theorem ctx_le {hv : Bool} {s : Sp} {G : World → Prop} {v : Value} {w : World} (h : ctx hv s G v w) : G w := by
  cases hv
  · exact h
  · exact h.1

theorem lhAny_sound {G0 : World → Prop} {nd gv : Nat → Bool} {Vs : Nat → Sp} {Q : Act → (World → Prop) → Prop} {Q' : Exit → Act → World → Prop} (hQ : ∀ a G w, G w → Q a G → Q' .normal a w) :
    ∀ (n : Nat) (l : Array Bool) (a : Act) (G : World → Prop) (u : Nat → Prop) (w : World), Mono G → (∀ w, G w → G0 w) → G w → (∀ g, u g → g < w.heap.size) → lhAny P md ops G0 nd gv Vs Q n l a G u → wpAny P md ops Q' n l a w
  | 0, _, _, _, _, _, _, _, hw, _, h => ⟨h.1, hQ _ _ _ hw h.2⟩
  | n + 1, l, a, G, u, w, hm, hG, hw, hu, h => by
    refine ⟨fun h0 => hQ _ _ _ hw (h.1 h0), fun i hi => ?_⟩
    unfold wpOp
    cases ho : ops[i]? with
    | none =>
      exfalso
      obtain ⟨_, o, ho', _⟩ := mem_ready.1 hi
      rw [ho] at ho'; cases ho'
    | some o =>
      obtain ⟨h1, h2⟩ := h.2 i hi o ho
      have next : ∀ v w', Yl (gv i) (Vs i) w v w' → wpAny P md ops Q' n (l.setIfInBounds i true) (a.put o.dst v) w' := fun v w' hy => by
        refine lhAny_sound hQ n _ _ _ _ _ (hm.ctx v) (fun w h => hG w (ctx_le h)) ?_ ?_ (h2 v hy.l fun g hg hug => ?_)
        · cases hb : gv i
          · exact hm w w' hw hy.g
          · exact ⟨hm w w' hw hy.g, hy.k hb⟩
        · intro g hg
          rcases hg with hg | hg
          · exact (hy.f g hg).2
          · exact Nat.lt_of_lt_of_le (hu g hg) hy.g.size
        · exact absurd (hu g hug) (Nat.not_lt.2 (hy.f g hg).1)
      have hp : pick (nd i) G G0 w := by
        cases nd i
        · exact hG w hw
        · exact hw
      unfold Lh at h1
      simp only
      split
      · rename_i hwant
        rw [if_pos hwant] at h1
        left
        have h3 := h1 w hp
        unfold Oper.wp
        generalize (execOp a.eval o).run P w = r at h3
        cases r with
        | halt x w' => exact h3.elim
        | ok m w' =>
          cases m <;> simp only [lhUpon] at h3 <;> simp only [Oper.upon]
          case value u => exact next _ _ h3
          case skip => exact next _ _ h3
          case enter f args =>
            refine h3.mono ?_
            rintro e w'' ⟨v, rfl, hy⟩
            exact next _ _ hy
      · rename_i hwant
        rw [if_neg hwant] at h1
        exact next _ _ ⟨h1.1, fun hb => h1.2.1 hb w hp, (fun g hg => by rw [h1.2.2] at hg; cases hg), Grow.refl _⟩

theorem ctx_comm {b c : Bool} {s t : Sp} {G : World → Prop} {u v : Value} : ctx b s (ctx c t G u) v = ctx c t (ctx b s G v) u := by
  cases b <;> cases c <;> first | rfl | exact funext fun _ => propext and_right_comm
theorem fr_comm {s t : Sp} {f : Nat → Prop} {u v : Value} : fr s (fr t f u) v = fr t (fr s f v) u := funext fun _ => propext or_left_comm
theorem lhAny_first {G0 : World → Prop} {nd gv : Nat → Bool} {Vs : Nat → Sp} {Q : Act → (World → Prop) → Prop} {i : Nat} {oi : Oper} (hi : ops[i]? = some oi) (hsel : ∀ (j : Nat) (o : Oper) cs b, ops[j]? = some o → o.op ≠ .select cs b) :
    ∀ (n : Nat) (l : Array Bool) (a : Act) (G : World → Prop) (u : Nat → Prop), Bd u →
      (∀ j oj, ops[j]? = some oj → j ≠ i → l.getD j true = false → (∀ e ∈ oj.after, Region.binds md e = true → e.on ≠ i) → oi.apart ops oj = true) →
      i ∈ Region.ready md ops l → Lh P ops (pick (nd i) G G0) (gv i) (Vs i) oi a →
      (gv i = true → ∃ S : Nat → Prop, (∀ k, S k → l.getD k true = false ∧ ∃ ok, ops[k]? = some ok ∧ ∃ e ∈ ok.after, Region.binds md e = true ∧ (e.on = i ∨ S e.on)) ∧ ∀ j, nd j = true → j ≠ i → l.getD j true = false → S j) →
      (∀ v, (Vs i).L v → okFr (Vs i) u v → lhAny P md ops G0 nd gv Vs Q n (l.setIfInBounds i true) (a.put oi.dst v) (ctx (gv i) (Vs i) G v) (fr (Vs i) u v)) → lhAny P md ops G0 nd gv Vs Q (n + 1) l a G u := by
  intro n
  induction n with
  | zero =>
    intro l a G u hbd _ hr hy _ H
    refine ⟨fun h => (by rw [h] at hr; cases hr), fun j hj o ho => ?_⟩
    by_cases hji : j = i
    · subst hji
      obtain rfl : oi = o := Option.some.inj (hi.symm.trans ho)
      exact ⟨hy, H⟩
    · exfalso
      obtain ⟨v0, hv0, hf0⟩ := (Vs i).some' hbd
      have h1 := ready_mono hj hji
      rw [(H v0 hv0 hf0).1] at h1
      cases h1
  | succ n ih =>
    intro l a G u hbd hfree hr hy hS H
    refine ⟨fun h => (by rw [h] at hr; cases hr), fun j hj oj hoj => ?_⟩
    by_cases hji : j = i
    · subst hji
      obtain rfl : oi = oj := Option.some.inj (hi.symm.trans hoj)
      exact ⟨hy, H⟩
    · obtain ⟨v0, hv0, hf0⟩ := (Vs i).some' hbd
      obtain ⟨hjun, oj', hoj', hall⟩ := mem_ready.1 hj
      obtain rfl : oj = oj' := Option.some.inj (hoj.symm.trans hoj')
      have hiun := (mem_ready.1 hr).1
      have notlisted : ∀ k, l.getD k true = false → l.getD k false = true → False := fun k h1 h2 => by
        rcases Nat.lt_or_ge k l.size with h' | h'
        · simp [h'] at h1 h2; rw [h1] at h2; cases h2
        · simp [Array.getElem?_eq_none h'] at h2
      have hnot : ∀ e ∈ oj.after, Region.binds md e = true → e.on ≠ i := fun e he hb heq => notlisted i hiun (heq ▸ hall e he hb)
      have hnS : ∀ S : Nat → Prop, (∀ k, S k → l.getD k true = false ∧ ∃ ok, ops[k]? = some ok ∧ ∃ e ∈ ok.after, Region.binds md e = true ∧ (e.on = i ∨ S e.on)) → ¬ S j := fun S h1 hsj => by
        obtain ⟨_, ok, hok, e, he, hb, ho⟩ := h1 j hsj
        obtain rfl : oj = ok := Option.some.inj (hoj.symm.trans hok)
        rcases ho with ho | ho
        · exact hnot e he hb ho
        · exact notlisted _ (h1 _ ho).1 (hall e he hb)
      have hone : gv i = true → nd j = false := fun hb => by
        obtain ⟨S, h1, h2⟩ := hS hb
        cases hj' : nd j
        · rfl
        · exact absurd (h2 j hj' hji hjun) (hnS S h1)
      obtain ⟨ap1, ap2, ap3⟩ := Oper.apart_spec (hfree j oj hoj hji hjun hnot)
      have hj' := ready_mono hj hji
      have step := fun v hv hf => (H v hv hf).2 j hj' oj hoj
      refine ⟨?_, fun x hx hfx => ?_⟩
      · have h1 := (Lh.put (fun cs b => hsel j oj cs b hoj) oi.dst v0 ap1).1 (step v0 hv0 hf0).1
        cases hbj : nd j
        · rw [hbj] at h1; exact h1
        · have hbi : gv i = false := by
            cases hbi : gv i
            · rfl
            · rw [hone hbi] at hbj; cases hbj
          rw [hbj, hbi] at h1; exact h1
      · refine ih (l.setIfInBounds j true) (a.put oj.dst x) _ _ (hbd.fr x) ?_ (ready_mono hr (Ne.symm hji)) ((Lh.put (fun cs b => hsel i oi cs b hi) oj.dst x ap3).2 ?_) ?_ fun v hvv hfv => ?_
        · intro k ok hk hki hun hno
          refine hfree k ok hk hki ?_ hno
          by_cases hjk : j = k
          · subst hjk; exact hjun
          · rw [getD_set_ne true hjk] at hun; exact hun
        · refine hy.le fun w hw => ?_
          cases hbi : nd i
          · rw [hbi] at hw; exact hw
          · rw [hbi] at hw; exact ctx_le hw
        · intro hb
          obtain ⟨S, h1, h2⟩ := hS hb
          refine ⟨S, fun k hk => ⟨?_, (h1 k hk).2⟩, fun k hk hki hun => h2 k hk hki ?_⟩
          · have : j ≠ k := fun h => hnS S h1 (h ▸ hk)
            rw [getD_set_ne true this]; exact (h1 k hk).1
          · by_cases hjk : j = k
            · subst hjk; exact hjun
            · rw [getD_set_ne true hjk] at hun; exact hun
        · have h2 := (step v hvv (fun g hg hu => hfv g hg (Or.inr hu))).2 x hx (fun g hg hu => hu.elim (fun h => hfv g h (Or.inl hg)) (hfx g hg))
          rw [Array.setIfInBounds_comm _ _ hji, ← Act.put_comm a v x ap2, ctx_comm, fr_comm]
          exact h2

/-- the operations behind i by their edges -/
def depS (md : Region.Mode) (ops : Array Oper) (i : Nat) : List Nat :=
  (List.range ops.size).foldl (fun S k => match ops[k]? with | some ok => if decide (i < k) && ok.after.any (fun e => Region.binds md e && (e.on == i || S.contains e.on)) then k :: S else S | none => S) []
def chkS (md : Region.Mode) (ops : Array Oper) (nd : Nat → Bool) (i : Nat) (S : List Nat) : Bool :=
  S.all (fun k => decide (i < k) && decide (k < ops.size) && match ops[k]? with | some ok => ok.after.any (fun e => Region.binds md e && (e.on == i || S.contains e.on)) | none => false) &&
    (List.range ops.size).all fun j => decide (j ≤ i) || !nd j || S.contains j
/-- those that lean on new memory follow one another -/
def heavyB (md : Region.Mode) (ops : Array Oper) (nd gv : Nat → Bool) : Bool := (List.range ops.size).all fun i => !gv i || chkS md ops nd i (depS md ops i)

theorem chkS_spec {nd : Nat → Bool} {i : Nat} {S : List Nat} {l : Array Bool} (h : chkS md ops nd i S = true) (hsz : l.size = ops.size) (hl : ∀ j, j < ops.size → l.getD j true = decide (j < i)) :
    ∃ S : Nat → Prop, (∀ k, S k → l.getD k true = false ∧ ∃ ok, ops[k]? = some ok ∧ ∃ e ∈ ok.after, Region.binds md e = true ∧ (e.on = i ∨ S e.on)) ∧ ∀ j, nd j = true → j ≠ i → l.getD j true = false → S j := by
  unfold chkS at h
  rw [Bool.and_eq_true, List.all_eq_true, List.all_eq_true] at h
  refine ⟨fun k => k ∈ S, fun k hk => ?_, fun j hj hji hun => ?_⟩
  · have h1 := h.1 k hk
    simp only [Bool.and_eq_true, decide_eq_true_eq] at h1
    obtain ⟨⟨h2, h3⟩, h4⟩ := h1
    refine ⟨by rw [hl k h3, decide_eq_false (by omega)], ?_⟩
    cases ho : ops[k]? with
    | none => rw [ho] at h4; cases h4
    | some ok =>
      rw [ho] at h4
      simp only at h4
      obtain ⟨e, he, hb⟩ := Array.any_eq_true'.1 h4
      simp only [Bool.and_eq_true, Bool.or_eq_true, beq_iff_eq, List.contains_iff_mem] at hb
      exact ⟨ok, rfl, e, he, hb.1, hb.2⟩
  · have hlt : j < ops.size := by
      rw [← hsz]
      rcases Nat.lt_or_ge j l.size with h' | h'
      · exact h'
      · simp [Array.getElem?_eq_none h'] at hun
    have h1 := h.2 j (List.mem_range.2 hlt)
    rw [hl j hlt] at hun
    have hun' : ¬ j < i := of_decide_eq_false hun
    rw [hj] at h1
    simp only [Bool.or_eq_true, decide_eq_true_eq, Bool.not_true, Bool.false_eq_true, or_false, List.contains_iff_mem] at h1
    rcases h1 with h1 | h1
    · exact absurd (Nat.le_antisymm h1 (Nat.le_of_not_lt hun')) hji
    · exact h1

def lhWalk (P : Program) (ops : Array Oper) (G0 : World → Prop) (nd gv : Nat → Bool) (Q : Act → (World → Prop) → Prop) : Nat → List Oper → List Sp → Act → (World → Prop) → (Nat → Prop) → Prop
  | _, [], _, a, G, _ => Q a G
  | k, o :: rest, s :: sr, a, G, u => Lh P ops (pick (nd k) G G0) (gv k) s o a ∧ ∀ v, s.L v → okFr s u v → lhWalk P ops G0 nd gv Q (k + 1) rest sr (a.put o.dst v) (ctx (gv k) s G v) (fr s u v)
  | _, _ :: _, [], _, _, _ => False

theorem lhAny_lex {G0 : World → Prop} {nd gv : Nat → Bool} {Q : Act → (World → Prop) → Prop} {Vs : Nat → Sp} (hs : Region.noSelect ops = true) (hh : heavyB md ops nd gv = true) : ∀ (lo : List Oper) (Vl : List Sp) (k : Nat) (l : Array Bool) (a : Act) (G : World → Prop) (u : Nat → Prop), Bd u →
    (∀ j, lo[j]? = ops[k + j]?) → (∀ j V, Vl[j]? = some V → Vs (k + j) = V) → l.size = ops.size → (∀ j, j < ops.size → l.getD j true = decide (j < k)) →
    Region.lexFrom md ops lo.length k l = true → lhWalk P ops G0 nd gv Q k lo Vl a G u → lhAny P md ops G0 nd gv Vs Q lo.length l a G u
  | [], _, _, _, _, _, _, _, _, _, _, _, hB, h => ⟨by simpa [Region.lexFrom] using hB, h⟩
  | o :: lo, [], _, _, _, _, _, _, _, _, _, _, _, h => h.elim
  | o :: lo, V :: Vl, k, l, a, G, u, hbd, hl, hV, hsz, hli, hB, h => by
    have h0 : ops[k]? = some o := by simpa using (hl 0).symm
    have hk : k < ops.size := (Array.getElem?_eq_some_iff.1 h0).1
    have hVk : Vs k = V := by simpa using hV 0 V rfl
    simp only [List.length_cons, Region.lexFrom, Bool.and_eq_true] at hB
    obtain ⟨⟨hr, hf⟩, hB'⟩ := hB
    obtain ⟨h1, h2⟩ := h
    refine lhAny_first h0 (Region.noSelect_spec hs) lo.length l a G u hbd (Region.free_spec h0 hf) (by simpa using hr) (by rw [hVk]; exact h1) ?_ fun v hv' hf' => ?_
    · intro hb
      unfold heavyB at hh
      rw [List.all_eq_true] at hh
      have h3 := hh k (List.mem_range.2 hk)
      rw [hb] at h3
      exact chkS_spec (by simpa using h3) hsz hli
    · rw [hVk] at hv' hf'
      rw [hVk]
      refine lhAny_lex hs hh lo Vl (k + 1) _ _ _ _ (hbd.fr v) (fun j => by have := hl (j + 1); simpa [Nat.add_assoc, Nat.add_comm 1 j] using this) (fun j W hW => ?_) (by simpa using hsz) (fun j hj => ?_) hB' (h2 v hv' hf')
      · have := hV (j + 1) W (by simpa using hW)
        simpa [Nat.add_assoc, Nat.add_comm 1 j] using this
      · by_cases hjk : k = j
        · subst hjk
          rw [decide_eq_true (by omega)]
          simp [hsz, hj]
        · rw [getD_set_ne true hjk, hli j hj]
          by_cases h5 : j < k
          · rw [decide_eq_true h5, decide_eq_true (by omega)]
          · rw [decide_eq_false h5, decide_eq_false (by omega)]

def noSp : Sp := ⟨fun _ => True, fun _ _ => True, fun _ => none, fun _ => ⟨undef, trivial, fun _ h => nomatch h⟩, fun _ _ _ _ _ => trivial⟩
/-- one walk in the order of the text serves every order -/
theorem wp_region_grow {id : Nat} {Q : Exit → Act → World → Prop} {a : Act} {w : World} {l : List Oper} (nd gv : List Nat) (hm : P.follows .mixedOrders = true) (hB : Region.lexB .any l.toArray = true) (hh : heavyB .any l.toArray (fun i => nd.contains i) (fun i => gv.contains i) = true)
    (h : ∃ Vl, lhWalk P l.toArray (Grow w) (fun i => nd.contains i) (fun i => gv.contains i) (fun a' G => ∀ w', G w' → Q .normal a' w') 0 l Vl a (Grow w) (fun g => g < w.heap.size)) : (Code.region id l.toArray true).wp P Q a w := by
  obtain ⟨Vl, h⟩ := h
  simp only [Region.lexB, Bool.and_eq_true] at hB
  refine wp_region_any hm (lhAny_sound (G0 := Grow w) (nd := fun i => nd.contains i) (gv := fun i => gv.contains i) (Vs := fun i => Vl.getD i noSp) (Q := fun a' G => ∀ w', G w' → Q .normal a' w') ?_ _ _ _ (Grow w) (fun g => g < w.heap.size) _ ?_ (fun _ h => h) ?_ (fun _ h => h) ?_)
  · intro a' G w' hw h; exact h w' hw
  · exact fun w1 w2 h1 h2 => h1.trans h2
  · exact ⟨rfl, rfl, rfl, Nat.le_refl _, fun _ _ => rfl⟩
  · have := lhAny_lex (md := .any) (Vs := fun i => Vl.getD i noSp) hB.1 hh l Vl 0 (Array.replicate l.toArray.size false) a (Grow w) (fun g => g < w.heap.size) ⟨_, fun _ h => h⟩ (by simp) (fun j V hV => by simp [hV]) (by simp) (fun j hj => by simp at hj; simp [hj]) (by simpa using hB.2) h
    simpa using this
end
end Go.Proofs.YtbdanadmabemdaaDoor.Fl
