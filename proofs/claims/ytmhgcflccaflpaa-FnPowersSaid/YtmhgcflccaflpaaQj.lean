
/-
Powers and logarithms: what the law asks.
-/
import Derived.Test.YtmhgcflccaflpaaQb
import Derived.Test.YtmhgcflccaflpaaQc
import Derived.Test.YtmhgcflccaflpaaQd
import Derived.Test.YtmhgcflccaflpaaQe
import Derived.Test.YtmhgcflccaflpaaQf
import Derived.Test.YtmhgcflccaflpaaQg
import Derived.Test.YtmhgcflccaflpaaQi
namespace Go.Proofs.Ytmhgcflccaflpaa.Fl
open Ieee Go Go.RowKit
set_option exponentiation.threshold 2000
theorem tj {j : Int} (h1 : -800 ≤ j) (h2 : j < 832) : pqT j = true ∧ pqL j = true := by
  obtain ⟨n, hn⟩ : ∃ n : Nat, (n : Int) - 800 = j := ⟨(j + 800).toNat, by omega⟩
  have k : (pqT ((n : Int) - 800) && pqL ((n : Int) - 800)) = true := by
    rcases Nat.lt_or_ge n 256 with g | g
    · exact all2_spec _ 8 0 tj0 n (by omega) (by omega)
    rcases Nat.lt_or_ge n 512 with g | g
    · exact all2_spec _ 8 256 tj1 n (by omega) (by omega)
    rcases Nat.lt_or_ge n 768 with g | g
    · exact all2_spec _ 8 512 tj2 n (by omega) (by omega)
    rcases Nat.lt_or_ge n 1024 with g | g
    · exact all2_spec _ 8 768 tj3 n (by omega) (by omega)
    rcases Nat.lt_or_ge n 1280 with g | g
    · exact all2_spec _ 8 1024 tj4 n (by omega) (by omega)
    rcases Nat.lt_or_ge n 1536 with g | g
    · exact all2_spec _ 8 1280 tj5 n (by omega) (by omega)
    rcases Nat.lt_or_ge n 1600 with g | g
    · exact all2_spec _ 6 1536 tj6 n (by omega) (by omega)
    exact all2_spec _ 5 1600 tj7 n (by omega) (by omega)
  rw [hn, Bool.and_eq_true] at k
  exact k
theorem tn {j : Int} (h1 : -800 ≤ j) (h2 : j < 800) : pqN j = true := by
  obtain ⟨n, hn⟩ : ∃ n : Nat, (n : Int) - 800 = j := ⟨(j + 800).toNat, by omega⟩
  have k : pqN ((n : Int) - 800) = true := by
    rcases Nat.lt_or_ge n 256 with g | g
    · exact all2_spec _ 8 0 tn0 n (by omega) (by omega)
    rcases Nat.lt_or_ge n 512 with g | g
    · exact all2_spec _ 8 256 tn1 n (by omega) (by omega)
    rcases Nat.lt_or_ge n 768 with g | g
    · exact all2_spec _ 8 512 tn2 n (by omega) (by omega)
    rcases Nat.lt_or_ge n 1024 with g | g
    · exact all2_spec _ 8 768 tn3 n (by omega) (by omega)
    rcases Nat.lt_or_ge n 1280 with g | g
    · exact all2_spec _ 8 1024 tn4 n (by omega) (by omega)
    rcases Nat.lt_or_ge n 1536 with g | g
    · exact all2_spec _ 8 1280 tn5 n (by omega) (by omega)
    exact all2_spec _ 6 1536 tn6 n (by omega) (by omega)
  rw [hn] at k
  exact k
theorem tk {j : Int} (h1 : -50 ≤ j) (h2 : j ≤ 50) : pqK j = true := by
  obtain ⟨n, hn⟩ : ∃ n : Nat, (n : Int) - 50 = j := ⟨(j + 50).toNat, by omega⟩
  have k : pqK ((n : Int) - 50) = true := by
    rcases Nat.lt_or_ge n 64 with g | g
    · exact all2_spec _ 6 0 tk0 n (by omega) (by omega)
    rcases Nat.lt_or_ge n 96 with g | g
    · exact all2_spec _ 5 64 tk1 n (by omega) (by omega)
    rcases Nat.lt_or_ge n 100 with g | g
    · exact all2_spec _ 2 96 tk2 n (by omega) (by omega)
    exact all2_spec _ 0 100 tk3 n (by omega) (by omega)
  rw [hn] at k
  exact k
theorem ts {n : Nat} (h : n < 400) : ss (ZT.getD n 0) 0 30 = ((ST.getD n 0 : Nat) : Int) := by
  have k : pqS n = true := by
    rcases Nat.lt_or_ge n 64 with g | g
    · exact all2_spec _ 6 0 ts0 n (by omega) (by omega)
    rcases Nat.lt_or_ge n 128 with g | g
    · exact all2_spec _ 6 64 ts1 n (by omega) (by omega)
    rcases Nat.lt_or_ge n 192 with g | g
    · exact all2_spec _ 6 128 ts2 n (by omega) (by omega)
    rcases Nat.lt_or_ge n 256 with g | g
    · exact all2_spec _ 6 192 ts3 n (by omega) (by omega)
    rcases Nat.lt_or_ge n 320 with g | g
    · exact all2_spec _ 6 256 ts4 n (by omega) (by omega)
    rcases Nat.lt_or_ge n 384 with g | g
    · exact all2_spec _ 6 320 ts5 n (by omega) (by omega)
    exact all2_spec _ 4 384 ts6 n (by omega) (by omega)
  unfold pqS at k
  simpa using k
/-- the cents of a ratio of small numbers -/
theorem tcq {p q : Nat} (hp : 1 ≤ p) (hp' : p ≤ 40) (hq : 1 ≤ q) (hq' : q ≤ 40) :
    centF (p : Int) (q : Int) = cw p q ∧ isNaN .f32 (cw p q) = false ∧ nearB (cw p q) (Op.negFloat .f32 (cw q p)) 1008981770 = true ∧ (FloatKind.f32.format.order (cw p q) 0 == some .gt) = decide (q < p) := by
  have k : pqC ((p - 1) * 40 + (q - 1)) = true := by
    rcases Nat.lt_or_ge ((p - 1) * 40 + (q - 1)) 256 with g | g
    · exact all2_spec _ 8 0 tc0 _ (by omega) (by omega)
    rcases Nat.lt_or_ge ((p - 1) * 40 + (q - 1)) 512 with g | g
    · exact all2_spec _ 8 256 tc1 _ (by omega) (by omega)
    rcases Nat.lt_or_ge ((p - 1) * 40 + (q - 1)) 768 with g | g
    · exact all2_spec _ 8 512 tc2 _ (by omega) (by omega)
    rcases Nat.lt_or_ge ((p - 1) * 40 + (q - 1)) 1024 with g | g
    · exact all2_spec _ 8 768 tc3 _ (by omega) (by omega)
    rcases Nat.lt_or_ge ((p - 1) * 40 + (q - 1)) 1280 with g | g
    · exact all2_spec _ 8 1024 tc4 _ (by omega) (by omega)
    rcases Nat.lt_or_ge ((p - 1) * 40 + (q - 1)) 1536 with g | g
    · exact all2_spec _ 8 1280 tc5 _ (by omega) (by omega)
    exact all2_spec _ 6 1536 tc6 _ (by omega) (by omega)
  unfold pqC at k
  have e1 : ((p - 1) * 40 + (q - 1)) / 40 + 1 = p := by omega
  have e2 : ((p - 1) * 40 + (q - 1)) % 40 + 1 = q := by omega
  have e3 : ((p - 1) * 40 + (q - 1)) / 40 = p - 1 := by omega
  have e4 : ((p - 1) * 40 + (q - 1)) % 40 = q - 1 := by omega
  rw [e1, e2, e3, e4] at k
  simp only [Bool.and_eq_true, beq_iff_eq, Bool.not_eq_true', decide_eq_true_eq] at k
  obtain ⟨⟨⟨⟨⟨k1, k2⟩, k3⟩, k4⟩, k5⟩, k6⟩ := k
  refine ⟨?_, k5, k3, ?_⟩
  · unfold centF ratR cw
    rw [if_pos k2]
    unfold logF
    rw [k1, show ex0 (up (ratX (p : Int) (q : Int))) * 2 ^ 30 = ex0 (up (ratX (p : Int) (q : Int))) * 2 ^ 30 + 0 by omega, ss_add, ts k6]
    congr 3
    omega
  · rw [k4]
    congr 1
    exact propext (by omega)
end Go.Proofs.Ytmhgcflccaflpaa.Fl
