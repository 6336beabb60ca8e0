
/-
The steps of the walk through a region that draws its order and makes memory.
-/
import Derived.Test.YtbdanadmabemdaaDoorLh
import Derived.Test.YtbdanadmabemdaaDoorDf
namespace Go.Proofs.YtbdanadmabemdaaDoor.Fl
open Go Go.RowKit

section
variable {P : Program} {ops : Array Oper} {G0 : World → Prop} {nd gv : Nat → Bool} {Q : Act → (World → Prop) → Prop}
/-- exactly one value -/
def oneS (v : Value) : Sp := ⟨fun x => x = v, fun _ _ => True, fun _ => none, fun _ => ⟨v, rfl, fun _ h => nomatch h⟩, fun _ _ _ _ _ => trivial⟩
/-- a float up to the not-a-number -/
def lfS (k : FloatKind) (b : Nat) : Sp := ⟨fun x => ∃ t, x = .float k (nv k b t), fun _ _ => True, fun _ => none, fun _ => ⟨_, ⟨0, rfl⟩, fun _ h => nomatch h⟩, fun _ _ _ _ _ => trivial⟩
def newW (cs : Array Value) (T : TypeId) : Value → World → Prop
  | .slice (some ⟨g, _, _⟩) _ _, w => w.heap[g]? = some (.cells cs T)
  | _, _ => True
def slB : Value → Option Nat
  | .slice (some ⟨g, _, _⟩) _ _ => some g
  | _ => none
/-- a new slice -/
def newS (n : Nat) (cs : Array Value) (T : TypeId) : Sp := ⟨fun x => ∃ g, x = .slice (some ⟨g, 0, none⟩) n n, newW cs T, slB, fun B => ⟨.slice (some ⟨B, 0, none⟩) n n, ⟨B, rfl⟩, fun g h => by cases h; exact Nat.le_refl _⟩, fun v w w' h hg => by
  unfold newW at *
  split at h
  · rename_i g _ _ _ _
    have hlt : g < w.heap.size := (Array.getElem?_eq_some_iff.1 h).1
    rw [hg.block g hlt]; exact h
  · trivial⟩
def Antitone (Q : Act → (World → Prop) → Prop) : Prop := ∀ a G G', (∀ w, G w → G' w) → Q a G' → Q a G
theorem lhWalk_le (hQ : Antitone Q) : ∀ (lo : List Oper) (k : Nat) (Vl : List Sp) (a : Act) (G G' : World → Prop) (u : Nat → Prop), (∀ w, G w → G' w) → lhWalk P ops G0 nd gv Q k lo Vl a G' u → lhWalk P ops G0 nd gv Q k lo Vl a G u
  | [], _, _, _, _, _, _, hG, h => hQ _ _ _ hG h
  | _ :: _, _, [], _, _, _, _, _, h => h.elim
  | o :: lo, k, s :: sr, a, G, G', u, hG, h => by
    refine ⟨h.1.le fun w hw => ?_, fun v hl hf => lhWalk_le hQ lo (k + 1) sr _ _ (ctx (gv k) s G' v) _ ?_ (h.2 v hl hf)⟩
    · unfold pick at *
      cases hb : nd k <;> rw [hb] at hw
      · exact hw
      · exact hG w hw
    · intro w
      cases gv k
      · exact hG w
      · exact fun ⟨h1, h2⟩ => ⟨hG w h1, h2⟩
def OneR (v : Value) (e : Ending) : Prop := e = .returned v
def oneUpon (P : Program) (v : Value) (w : World) : Result Next → Prop
  | .ok (.value u) w' => OneV v u ∧ Grow w w'
  | .ok .skip w' => OneV v undef ∧ Grow w w'
  | .ok (.enter f args) w' => Calls P f args w' (fun e w'' => OneR v e ∧ Grow w w'')
  | _ => False
theorem Yl.one {b : Bool} {v : Value} {w w' : World} (h : Grow w w') : Yl b (oneS v) w v w' := ⟨rfl, fun _ => trivial, (fun _ h => nomatch h), h⟩
theorem lh_one {v : Value} {w : World} {b : Bool} {r : Result Next} (h : oneUpon P v w r) : lhUpon P b (oneS v) w r := by
  cases r with
  | halt x w' => exact h
  | ok m w' =>
    cases m
    case value u => obtain ⟨rfl, h2⟩ := h; exact .one h2
    case skip => obtain ⟨h1, h2⟩ := h; show Yl _ _ _ _ _; rw [show undef = v from h1]; exact .one h2
    case enter f args => exact h.mono fun e w'' ⟨h1, h2⟩ => ⟨v, h1, .one h2⟩
    all_goals exact h.elim
def lfUpon (P : Program) (k : FloatKind) (b : Nat) (w : World) : Result Next → Prop
  | .ok (.value u) w' => LF k b u ∧ Grow w w'
  | .ok (.enter f args) w' => Calls P f args w' (fun e w'' => (∃ t, e = .returned (.float k (nv k b t))) ∧ Grow w w'')
  | _ => False
def NewAt (n : Nat) (cs : Array Value) (T : TypeId) (u : Value) (w0 w : World) : Prop := ∃ g, u = .slice (some ⟨g, 0, none⟩) n n ∧ w.heap[g]? = some (.cells cs T) ∧ w0.heap.size ≤ g
theorem NewAt.mk (n : Nat) (cs : Array Value) (T : TypeId) (W : World) : NewAt n cs T (.slice (some ⟨W.heap.size, 0, none⟩) n n) W (W.alloc (.cells cs T)) := ⟨_, rfl, (MapKept.heap_alloc W _).1, Nat.le_refl _⟩
def newUpon (n : Nat) (cs : Array Value) (T : TypeId) (w : World) : Result Next → Prop
  | .ok (.value u) w' => NewAt n cs T u w w' ∧ Grow w w'
  | _ => False
variable {o : Oper} {rest : List Oper} {sr : List Sp} {a : Act} {G : World → Prop} {k : Nat} {u : Nat → Prop}
theorem fr_one {v x : Value} : fr (oneS v) u x = u := funext fun _ => propext ⟨fun h => h.elim (fun h => nomatch h) id, Or.inr⟩
theorem fr_lf {kd : FloatKind} {b : Nat} {x : Value} : fr (lfS kd b) u x = u := funext fun _ => propext ⟨fun h => h.elim (fun h => nomatch h) id, Or.inr⟩
/-- an operation that leans on nothing new -/
theorem lh_o {v : Value} (hw : Region.wanted o (yielded ops a.tmps) = true) (hk : nd k = false) (hg : gv k = false) (h : ∀ w, G0 w → oneUpon P v w ((execOp a.eval o).run P w)) (hn : lhWalk P ops G0 nd gv Q (k + 1) rest sr (a.put o.dst v) G u) :
    lhWalk P ops G0 nd gv Q k (o :: rest) (oneS v :: sr) a G u := by
  refine ⟨?_, fun x hx _ => ?_⟩
  · unfold Lh pick; rw [if_pos hw, hk]; exact fun w hw' => lh_one (h w hw')
  · cases hx; rw [hg, fr_one]; exact hn
theorem lh_f {kd : FloatKind} {b : Nat} (hw : Region.wanted o (yielded ops a.tmps) = true) (hk : nd k = false) (hg : gv k = false) (h : ∀ w, G0 w → lfUpon P kd b w ((execOp a.eval o).run P w)) (hn : ∀ t, lhWalk P ops G0 nd gv Q (k + 1) rest sr (a.put o.dst (.float kd (nv kd b t))) G u) :
    lhWalk P ops G0 nd gv Q k (o :: rest) (lfS kd b :: sr) a G u := by
  refine ⟨?_, fun x hx _ => ?_⟩
  · unfold Lh pick; rw [if_pos hw, hk]
    intro w hw'
    have h1 := h w hw'
    generalize (execOp a.eval o).run P w = r at h1
    cases r with
    | halt x w' => exact h1
    | ok m w' =>
      cases m
      case value u => exact ⟨h1.1, (fun _ => trivial), (fun _ h => nomatch h), h1.2⟩
      case enter f args => exact h1.mono fun e w'' ⟨⟨t, he⟩, h2⟩ => ⟨_, he, ⟨⟨t, rfl⟩, (fun _ => trivial), (fun _ h => nomatch h), h2⟩⟩
      all_goals exact h1.elim
  · obtain ⟨t, rfl⟩ := hx; rw [hg, fr_lf]; exact hn t
/-- one that reads new memory -/
theorem lh_h {v : Value} (hw : Region.wanted o (yielded ops a.tmps) = true) (hk : nd k = true) (hg : gv k = false) (h : ∀ w, G w → oneUpon P v w ((execOp a.eval o).run P w)) (hn : lhWalk P ops G0 nd gv Q (k + 1) rest sr (a.put o.dst v) G u) :
    lhWalk P ops G0 nd gv Q k (o :: rest) (oneS v :: sr) a G u := by
  refine ⟨?_, fun x hx _ => ?_⟩
  · unfold Lh pick; rw [if_pos hw, hk]; exact fun w hw' => lh_one (h w hw')
  · cases hx; rw [hg, fr_one]; exact hn
/-- one that makes a slice -/
theorem lh_new {n : Nat} {cs : Array Value} {T : TypeId} (hw : Region.wanted o (yielded ops a.tmps) = true) (hk : nd k = false) (hgv : gv k = true) (h : ∀ w, G0 w → newUpon n cs T w ((execOp a.eval o).run P w))
    (hn : ∀ g, ¬ u g → lhWalk P ops G0 nd gv Q (k + 1) rest sr (a.put o.dst (.slice (some ⟨g, 0, none⟩) n n)) (fun w => G w ∧ w.heap[g]? = some (.cells cs T)) (fun x => g = x ∨ u x)) :
    lhWalk P ops G0 nd gv Q k (o :: rest) (newS n cs T :: sr) a G u := by
  refine ⟨?_, fun x hx hf => ?_⟩
  · unfold Lh pick; rw [if_pos hw, hk]
    intro w hw'
    have h1 := h w hw'
    generalize (execOp a.eval o).run P w = r at h1
    cases r with
    | halt x w' => exact h1
    | ok m w' =>
      cases m
      case value u =>
        obtain ⟨⟨g, rfl, hg, hb⟩, h2⟩ := h1
        exact ⟨⟨g, rfl⟩, (fun _ => hg), (fun x hx => by cases hx; exact ⟨hb, (Array.getElem?_eq_some_iff.1 hg).1⟩), h2⟩
      all_goals exact h1.elim
  · obtain ⟨g, rfl⟩ := hx
    have e : fr (newS n cs T) u (.slice (some ⟨g, 0, none⟩) n n) = fun x => g = x ∨ u x := funext fun x => propext ⟨fun h => h.elim (fun h => by cases h; exact Or.inl rfl) Or.inr, fun h => h.elim (fun h => Or.inl (congrArg some h)) Or.inr⟩
    rw [hgv, e]; exact hn g (hf g rfl)
/-- one that is passed over -/
theorem lh_skip (hw : Region.wanted o (yielded ops a.tmps) = false) (hg : gv k = false) (hn : lhWalk P ops G0 nd gv Q (k + 1) rest sr (a.put o.dst undef) G u) :
    lhWalk P ops G0 nd gv Q k (o :: rest) (oneS undef :: sr) a G u := by
  refine ⟨?_, fun x hx _ => ?_⟩
  · unfold Lh; rw [hw]; exact ⟨rfl, (fun _ _ _ => trivial), rfl⟩
  · cases hx; rw [hg, fr_one]; exact hn
theorem lh_nil (h : Q a G) : lhWalk P ops G0 nd gv Q k [] [] a G u := h
theorem anti {Q' : Exit → Act → World → Prop} : Antitone (fun a' G => ∀ w', G w' → Q' .normal a' w') := fun _ _ _ hG h w hw => h w (hG w hw)
theorem Grow.alloc (w : World) (o : Obj) : Grow w (w.alloc o) := (Below.refl _ _).alloc (Nat.le_refl _) _
theorem Grow.drew (w : World) (n : Nat) : Grow w (w.drewN n) := below_drewN (Below.refl _ _) n
theorem gB {f : FuncId} {args : Array Value} {W : World} {b : Bool} (h : Calls P f args W (RetB b W)) : Calls P f args W (fun e w'' => OneR (.bool b) e ∧ Grow W w'') := h.mono fun _ _ ⟨he, n, hn⟩ => ⟨he, hn ▸ Grow.drew W n⟩
theorem gV {f : FuncId} {args : Array Value} {W : World} {v : Value} (h : Calls P f args W (RetV v W)) : Calls P f args W (fun e w'' => OneR v e ∧ Grow W w'') := h.mono fun _ _ ⟨he, hb⟩ => ⟨he, hb⟩
attribute [go_sem] oneUpon lfUpon newUpon
end
theorem Grow.cells {w W : World} (h : Grow w W) : ∀ b o, b < w.heap.size → W.cell? ⟨b, o, none⟩ = w.cell? ⟨b, o, none⟩ := fun b o hb => Below.cell (p := ⟨b, o, none⟩) h hb
theorem cell_block {w : World} {g : Nat} {cs : Array Value} {T : TypeId} (h : w.heap[g]? = some (.cells cs T)) (i : Nat) : w.cell? ⟨g, i, none⟩ = cs[i]? := by
  unfold World.cell?; rw [h]; rfl
end Go.Proofs.YtbdanadmabemdaaDoor.Fl
