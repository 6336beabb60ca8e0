
/-
The rows' last step, the same for each law: the arguments read behind the call as they read before.
-/
import Derived.Test.YtbdanadmabemdaaDoorRows
import Derived.WalkKit
import Derived.ProofKit
import Derived.OpenShut
namespace Go.Proofs.YtbdanadmabemdaaDoor
open Go Go.RowKit Go.ChangeShapes Go.WideShapes Go.ChangeAt

section
variable {H : Type} {enc : TypeId × Value → H} {P : Program}
theorem trodAll_stays {W W' : World} (hl : laidOutB P = true) (hb : Below W.heap.size W W') : ∀ {ts : List TypeId} {vs : List Value} {ds : List (DataW H)} {ps : List MemPlace},
    DataW.TrodAll enc P W 0 (fun _ => true) true ts vs ds ps → (∀ x ∈ ps, x.block < W.heap.size) → (∀ t ∈ ts, P.readableRec t = true ∧ t < P.types.size) →
    DataW.TrodAll enc P W' 0 (fun b => decide (b < W.heap.size)) true ts vs ds ps
  | [], [], [], _, h, _, _ => h
  | t :: ts, v :: vs, d :: ds, _, h, hlt, hr => by
    obtain ⟨p, q, h1, h2, rfl⟩ := h
    refine ⟨p, q, Below.trod hl (hr t (by simp)).1 (hr t (by simp)).2 h1 hb fun x hx => hlt x (by simp [hx]), ?_, rfl⟩
    exact trodAll_stays hl hb h2 (fun x hx => hlt x (by simp [hx])) (fun t ht => hr t (by simp [ht]))
  | [], _ :: _, _, _, h, _, _ => h.elim
  | [], [], _ :: _, _, h, _, _ => h.elim
  | _ :: _, [], _, _, h, _, _ => h.elim
  | _ :: _, _ :: _, [], _, h, _, _ => h.elim

theorem law_post {f : Func} {s : ChangeSpec} {W W' : World} {args : Array Value} {ds gs : List (DataW H)} {before : List MemPlace} {B : TypeId}
    (hl : laidOutB P = true) (hr : (f.params.toList.all fun t => P.readableRec t && decide (t < P.types.size)) = true)
    (hW : DataW.Whole enc P f.params.toList s.vars false W args.toList ds gs before) (hv : s.vars = [])
    (hs : s.fn H (ds ++ gs) = { results := [.lit (.bool true)], args := ds }) (hres : f.resultTypes = #[B]) (hB : P.underlying B = some .bool)
    (hb : Below W.heap.size W W') : s.post enc P f false true false false W args (.bool true) W' := by
  have hW' := hW
  obtain ⟨p, q, hA, hV, rfl, hfz, hnd⟩ := hW
  rw [hv] at hV
  obtain ⟨rfl, rfl⟩ := trodVars_none hV
  refine ⟨ds, [], p ++ [], [], p ++ [], [], hW', ?_, ?_, ?_, hb.frame _, fun h => by cases h⟩
  · rw [hs, hres]
    exact trodAll_cons_mk (shut_bool hB true) trodAll_mk0
  · rw [hs]
    simp only [List.append_nil]
    exact trodAll_stays hl hb hA (fun x hx => by simpa using hW'.lt x (by simpa using hx)) fun t ht => by simpa using List.all_eq_true.1 hr t ht
  · rw [hv, hs]
    exact rfl

/-- a value of a type, behind a name that nothing opens by itself -/
structure OkW (P : Program) (W : World) (base : Nat) (t : TypeId) (v : Value) : Prop where
  out : Value.okWide P W .any base t v
structure OkC (P : Program) (W : World) (base : Nat) (t : TypeId) (v : Value) : Prop where
  out : Cell.okWide P W .any base t v
/-- the cells of a value of an array's or a struct's type -/
theorem agg_open {W : World} {base : Nat} {t : TypeId} {v : Value} {ts : List TypeId} {n : Nat} (ht : (∃ n e, P.underlying t = some (.array n e)) ∨ ∃ fs, P.underlying t = some (.struct fs))
    (hts : P.cellTypes P.depth t = some ts) (hn : P.cellsOf t = n) (h0 : OkW P W base t v) :
    ∃ cs : List Value, v = .agg cs.toArray ∧ cs.length = n ∧ ∀ (i : Nat) (c : Value) (u : TypeId), cs[i]? = some c → ts[i]? = some u → OkC P W base u c := by
  have h := h0.out
  have key : ∃ cs, v = .agg cs ∧ cs.size = P.cellsOf t ∧ Row.okWide P W .any base t cs := by
    unfold Value.okWide at h
    rcases ht with ⟨n, e, ht⟩ | ⟨fs, ht⟩
    · rw [ht] at h; exact h
    · rw [ht] at h; exact h
  obtain ⟨cs, rfl, hsz, ts', h1, h2, h3⟩ := key
  rw [hts] at h1
  obtain rfl := Option.some.inj h1
  obtain ⟨l⟩ := cs
  refine ⟨l, rfl, by rw [← hn]; exact hsz, fun i c u hc hu => ?_⟩
  obtain ⟨u', hu', ho⟩ := h3 i c (by simpa using hc)
  have hi : i < ts.length := (List.getElem?_eq_some_iff.1 hu).1
  rw [Nat.mod_eq_of_lt hi, hu] at hu'
  obtain rfl := Option.some.inj hu'
  exact ⟨ho⟩
theorem cell_f32 {W : World} {base : Nat} {u : TypeId} {c : Value} (hu : P.underlying u = some (.float .f32)) (h0 : OkC P W base u c) : ∃ b, c = .float .f32 b ∧ b < 4294967296 := by
  have h := h0.out
  unfold Cell.okWide at h
  rw [hu] at h
  cases c <;> simp_all [Cell.ok, FloatKind.has]
theorem cell_int {W : World} {base : Nat} {u : TypeId} {c : Value} (hu : P.underlying u = some (.int .i64)) (h0 : OkC P W base u c) : ∃ n, c = .int .i64 n ∧ -9223372036854775808 ≤ n ∧ n ≤ 9223372036854775807 := by
  have h := h0.out
  unfold Cell.okWide at h
  rw [hu] at h
  cases c <;> simp_all [Cell.ok, IntKind.has, IntKind.min, IntKind.max, IntKind.signed, IntKind.bits]
theorem len_cons {l : List Value} {n : Nat} (h : l.length = n + 1) : ∃ c t, l = c :: t ∧ t.length = n := by
  cases l with
  | nil => cases h
  | cons c t => exact ⟨c, t, rfl, Nat.succ.inj h⟩
theorem len_nil {l : List Value} (h : l.length = 0) : l = [] := List.eq_nil_of_length_eq_zero h
theorem val_f32 {W : World} {base : Nat} {u : TypeId} {c : Value} (hu : P.underlying u = some (.float .f32)) (h0 : OkW P W base u c) : ∃ b, c = .float .f32 b ∧ b < 4294967296 := by
  have h := h0.out
  unfold Value.okWide at h
  rw [hu] at h
  exact cell_f32 hu ⟨h⟩
theorem val_int {W : World} {base : Nat} {u : TypeId} {c : Value} (hu : P.underlying u = some (.int .i64)) (h0 : OkW P W base u c) : ∃ n, c = .int .i64 n ∧ -9223372036854775808 ≤ n ∧ n ≤ 9223372036854775807 := by
  have h := h0.out
  unfold Value.okWide at h
  rw [hu] at h
  exact cell_int hu ⟨h⟩
end
end Go.Proofs.YtbdanadmabemdaaDoor
