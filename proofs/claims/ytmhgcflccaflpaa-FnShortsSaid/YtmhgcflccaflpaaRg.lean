
/-
Contracts over rings: valid ones, finite samples, lists of rings in memory.
-/
import Derived.Test.YtmhgcflccaflpaaSn
import Derived.IntWalk
namespace Go.Proofs.Ytmhgcflccaflpaa
open Go Go.RowKit Fl

/-- the first k are finite -/
def finTo (xs : List Nat) : Nat → Bool
  | 0 => true
  | k + 1 => finTo xs k && finB (nth xs k)
theorem finTo_false {xs : List Nat} {k : Nat} (h : finB (nth xs k) = false) : ∀ n, k < n → finTo xs n = false
  | n + 1, hk => by
    by_cases e : k = n
    · subst e; rw [finTo, h, Bool.and_false]
    · rw [finTo, finTo_false h n (by omega), Bool.false_and]
theorem finTo_nth {xs : List Nat} : ∀ {n : Nat}, finTo xs n = true → ∀ k, k < n → finB (nth xs k) = true
  | n + 1, h, k, hk => by
    rw [finTo, Bool.and_eq_true] at h
    by_cases e : k = n
    · subst e; exact h.2
    · exact finTo_nth h.1 k (by omega)
/-- is a ring of so many samples valid -/
def ringB (n : Nat) (i : Int) : Bool := inB n 1 1024 && inB i 0 ((n : Int) - 1)
theorem c_withinB {n lo hi : Int} {b : Bool} {w : World} (h : inB n lo hi = b) : Calls Try.prog 53 #[.int .i64 n, .int .i64 lo, .int .i64 hi] w (RetB b w) := h ▸ c_within n lo hi w
theorem lx_callV {P : Program} {f : FuncId} {args : Array Value} {w : World} {n : Nat} {v : Value} (h : Calls P f args (w.drewN n) (fun e w' => e = .returned v ∧ ∃ m, w' = (w.drewN n).drewN m)) :
    Calls P f args (w.drewN n) (fun e w'' => ∃ u, OneV v u ∧ e = .returned u ∧ ∃ m, w'' = w.drewN m) :=
  h.mono fun _ _ ⟨he, m, hm⟩ => ⟨_, OneV.mk _, he, n + m, by rw [hm, World.drewN_drewN]⟩
theorem lx_callV2 {P : Program} {f : FuncId} {args : Array Value} {w : World} {n k : Nat} {v : Value} (h : Calls P f args (w.drewN (k + n)) (fun e w' => e = .returned v ∧ ∃ m, w' = (w.drewN (k + n)).drewN m)) :
    Calls P f args (w.drewN (k + n)) (fun e w'' => ∃ u, OneV v u ∧ e = .returned u ∧ ∃ m, w'' = w.drewN (k + m)) :=
  h.mono fun _ _ ⟨he, m, hm⟩ => ⟨_, OneV.mk _, he, n + m, by rw [hm, World.drewN_drewN, Nat.add_assoc]⟩
/-- a ring -/
structure Rg where
  a : Option Addr
  n : Nat
  c : Nat
  xs : List Nat
  i : Int
def Rg.ok (r : Rg) : Bool := ringB r.n r.i && finTo r.xs r.n
def rat (rs : List Rg) (j : Nat) : Rg := rs.getD j ⟨none, 0, 0, [], 0⟩
def rgsTo (rs : List Rg) : Nat → Bool
  | 0 => true
  | k + 1 => rgsTo rs k && (rat rs k).ok
theorem rgsTo_false {rs : List Rg} {k : Nat} (h : (rat rs k).ok = false) : ∀ n, k < n → rgsTo rs n = false
  | n + 1, hk => by
    by_cases e : k = n
    · subst e; rw [rgsTo, h, Bool.and_false]
    · rw [rgsTo, rgsTo_false h n (by omega), Bool.false_and]
/-- a list of rings in memory -/
structure RAt (w : World) (b o : Nat) (r : Rg) : Prop where
  c0 : w.cell? ⟨b, o, none⟩ = some (.slice r.a r.n r.c)
  c1 : w.cell? ⟨b, o + 1, none⟩ = some (.int .i64 r.i)
  fs : FS w r.a r.n r.c r.xs
theorem RAt.draw {w : World} {b o m : Nat} {r : Rg} (h : RAt w b o r) : RAt (w.drewN m) b o r := ⟨h.c0, h.c1, h.fs.draw⟩
end Go.Proofs.Ytmhgcflccaflpaa
