
/-
A step of the walk through a region that draws its order: an operation whose value brings facts about new memory.
-/
import Derived.Test.YtbdanadmabemdaaDoorLi
namespace Go.Proofs.YtbdanadmabemdaaDoor.Fl
open Go Go.RowKit

section
variable {P : Program} {ops : Array Oper} {G0 : World → Prop} {nd gv : Nat → Bool} {Q : Act → (World → Prop) → Prop}
/-- a value out of a family, with what is known of it in the world -/
def famS {ι : Type} (mk : ι → Value) (K : ι → World → Prop) (i0 : ι) (hmono : ∀ i w w', K i w → Grow w w' → K i w') : Sp :=
  ⟨fun x => ∃ i, x = mk i, fun x w => ∃ i, x = mk i ∧ K i w, fun _ => none, fun _ => ⟨mk i0, ⟨i0, rfl⟩, fun _ h => nomatch h⟩, fun _ w w' ⟨i, hi, hk⟩ hg => ⟨i, hi, hmono i w w' hk hg⟩⟩
def FamAt {ι : Type} (mk : ι → Value) (K : ι → World → Prop) (u : Value) (w : World) : Prop := ∃ i, u = mk i ∧ K i w
def FamRet {ι : Type} (mk : ι → Value) (K : ι → World → Prop) (w : World) (e : Ending) (w'' : World) : Prop := ∃ i, e = .returned (mk i) ∧ K i w'' ∧ Grow w w''
def famUpon {ι : Type} (P : Program) (mk : ι → Value) (K : ι → World → Prop) (w : World) : Result Next → Prop
  | .ok (.value u) w' => FamAt mk K u w' ∧ Grow w w'
  | .ok (.enter f args) w' => Calls P f args w' (FamRet mk K w)
  | _ => False
attribute [go_sem] famUpon
variable {o : Oper} {rest : List Oper} {sr : List Sp} {a : Act} {G : World → Prop} {k : Nat} {u : Nat → Prop}
theorem fr_fam {ι : Type} {mk : ι → Value} {K : ι → World → Prop} {i0 : ι} {hm} {x : Value} : fr (famS mk K i0 hm) u x = u := funext fun _ => propext ⟨fun h => h.elim (fun h => nomatch h) id, Or.inr⟩
theorem lh_w {ι : Type} (mk : ι → Value) (K : ι → World → Prop) (i0 : ι) (hmono : ∀ i w w', K i w → Grow w w' → K i w') (hinj : ∀ i j, mk i = mk j → i = j)
    (hw : Region.wanted o (yielded ops a.tmps) = true) (hk : nd k = false) (hgv : gv k = true) (h : ∀ w, G0 w → famUpon P mk K w ((execOp a.eval o).run P w))
    (hQ : Antitone Q) (hn : ∀ i, lhWalk P ops G0 nd gv Q (k + 1) rest sr (a.put o.dst (mk i)) (fun w => G w ∧ K i w) u) :
    lhWalk P ops G0 nd gv Q k (o :: rest) (famS mk K i0 hmono :: sr) a G u := by
  refine ⟨?_, fun x hx hf => ?_⟩
  · unfold Lh pick; rw [if_pos hw, hk]
    intro w hw'
    have h1 := h w hw'
    generalize (execOp a.eval o).run P w = r at h1
    cases r with
    | halt x w' => exact h1
    | ok m w' =>
      cases m
      case value u =>
        obtain ⟨⟨i, rfl, hi⟩, h2⟩ := h1
        exact ⟨⟨i, rfl⟩, (fun _ => ⟨i, rfl, hi⟩), (fun x hx => nomatch hx), h2⟩
      case enter f args => exact h1.mono fun e w'' ⟨i, he, hi, h2⟩ => ⟨_, he, ⟨⟨i, rfl⟩, (fun _ => ⟨i, rfl, hi⟩), (fun x hx => nomatch hx), h2⟩⟩
      all_goals exact h1.elim
  · obtain ⟨i, rfl⟩ := hx
    rw [hgv, fr_fam]
    refine lhWalk_le hQ _ _ _ _ _ (fun w => G w ∧ K i w) _ (fun w hw => ⟨hw.1, ?_⟩) (hn i)
    obtain ⟨j, hj, hk⟩ := hw.2
    rw [hinj i j hj]; exact hk
end
end Go.Proofs.YtbdanadmabemdaaDoor.Fl
