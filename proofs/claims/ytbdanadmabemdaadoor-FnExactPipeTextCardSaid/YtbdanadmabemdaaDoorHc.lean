
/-
The text of the bits of a sample: the program.
-/
import Derived.Test.YtbdanadmabemdaaDoorHb
namespace Go.Proofs.YtbdanadmabemdaaDoor
open Go Go.RowKit Fl
/-- eight digits -/
def hexL (u : Nat) : List UInt8 := [UInt8.ofNat (hd (u / 268435456)), UInt8.ofNat (hd (u / 16777216)), UInt8.ofNat (hd (u / 1048576)), UInt8.ofNat (hd (u / 65536)), UInt8.ofNat (hd (u / 4096)), UInt8.ofNat (hd (u / 256)), UInt8.ofNat (hd (u / 16)), UInt8.ofNat (hd u)]
theorem ba_app (a b : List UInt8) : (⟨a.toArray⟩ : ByteArray) ++ ⟨b.toArray⟩ = ⟨(a ++ b).toArray⟩ := by
  apply ByteArray.ext
  simp
abbrev RetS (l : List UInt8) (w : World) : Ending → World → Prop := RetV (.string ⟨l.toArray⟩) w
theorem c_iFU1 (u : Nat) (h2 : u < 16) (w : World) (hT : Tb w) : Calls Tryd.prog 89 #[.int .u64 (u : Int), .int .i64 16] w (RetS [UInt8.ofNat (hd u)] w) := by
  obtain ⟨RR, hRR⟩ : ∃ RR, RR = ([UInt8.ofNat (hd u)] : List UInt8).toArray := ⟨_, rfl⟩
  have C : Hid (Calls Tryd.prog 101 #[.slice none 0 0, .int .u64 (u : Int), .int .i64 16, .bool false, .bool false] w (fun e w' => e = .returned (.tuple #[.slice none 0 0, .string ⟨RR⟩]) ∧ Below w.heap.size w w')) := by
    rw [hRR]
    exact c_fb1 u h2 w hT
  unfold RetS
  rw [← hRR]
  clear hRR hT h2 
  go_enter Tryd.func89, Tryd.ntmps89
  go_wp2_with fail
  refine C.out.mono ?_
  rintro e w' ⟨rfl, hb⟩
  go_wp2
  go_ret
  exact ⟨rfl, hb⟩
theorem c_FU1 (u : Nat) (h2 : u < 16) (w : World) (hT : Tb w) : Calls Tryd.prog 69 #[.int .u64 (u : Int), .int .i64 16] w (RetS [UInt8.ofNat (hd u)] w) := by
  have C := Lib.hid (c_iFU1 u h2 w hT)
  generalize [UInt8.ofNat (hd u)] = LL at *
  clear hT h2 
  go_enter Tryd.func69, Tryd.ntmps69
  go_wp2_with fail
  refine C.out.mono ?_
  rintro e w' ⟨rfl, hb⟩
  go_wp2
  go_ret
  exact ⟨rfl, hb⟩
theorem c_iFU2 (u : Nat) (h1 : 16 ≤ u) (h2 : u < 256) (w : World) (hT : Tb w) : Calls Tryd.prog 89 #[.int .u64 (u : Int), .int .i64 16] w (RetS [UInt8.ofNat (hd (u / 16)), UInt8.ofNat (hd u)] w) := by
  obtain ⟨RR, hRR⟩ : ∃ RR, RR = ([UInt8.ofNat (hd (u / 16)), UInt8.ofNat (hd u)] : List UInt8).toArray := ⟨_, rfl⟩
  have C : Hid (Calls Tryd.prog 101 #[.slice none 0 0, .int .u64 (u : Int), .int .i64 16, .bool false, .bool false] w (fun e w' => e = .returned (.tuple #[.slice none 0 0, .string ⟨RR⟩]) ∧ Below w.heap.size w w')) := by
    rw [hRR]
    exact c_fb2 u h1 h2 w hT
  unfold RetS
  rw [← hRR]
  clear hRR hT h2 h1 
  go_enter Tryd.func89, Tryd.ntmps89
  go_wp2_with fail
  refine C.out.mono ?_
  rintro e w' ⟨rfl, hb⟩
  go_wp2
  go_ret
  exact ⟨rfl, hb⟩
theorem c_FU2 (u : Nat) (h1 : 16 ≤ u) (h2 : u < 256) (w : World) (hT : Tb w) : Calls Tryd.prog 69 #[.int .u64 (u : Int), .int .i64 16] w (RetS [UInt8.ofNat (hd (u / 16)), UInt8.ofNat (hd u)] w) := by
  have C := Lib.hid (c_iFU2 u h1 h2 w hT)
  generalize [UInt8.ofNat (hd (u / 16)), UInt8.ofNat (hd u)] = LL at *
  clear hT h2 h1 
  go_enter Tryd.func69, Tryd.ntmps69
  go_wp2_with fail
  refine C.out.mono ?_
  rintro e w' ⟨rfl, hb⟩
  go_wp2
  go_ret
  exact ⟨rfl, hb⟩
theorem c_iFU3 (u : Nat) (h1 : 256 ≤ u) (h2 : u < 4096) (w : World) (hT : Tb w) : Calls Tryd.prog 89 #[.int .u64 (u : Int), .int .i64 16] w (RetS [UInt8.ofNat (hd (u / 256)), UInt8.ofNat (hd (u / 16)), UInt8.ofNat (hd u)] w) := by
  obtain ⟨RR, hRR⟩ : ∃ RR, RR = ([UInt8.ofNat (hd (u / 256)), UInt8.ofNat (hd (u / 16)), UInt8.ofNat (hd u)] : List UInt8).toArray := ⟨_, rfl⟩
  have C : Hid (Calls Tryd.prog 101 #[.slice none 0 0, .int .u64 (u : Int), .int .i64 16, .bool false, .bool false] w (fun e w' => e = .returned (.tuple #[.slice none 0 0, .string ⟨RR⟩]) ∧ Below w.heap.size w w')) := by
    rw [hRR]
    exact c_fb3 u h1 h2 w hT
  unfold RetS
  rw [← hRR]
  clear hRR hT h2 h1 
  go_enter Tryd.func89, Tryd.ntmps89
  go_wp2_with fail
  refine C.out.mono ?_
  rintro e w' ⟨rfl, hb⟩
  go_wp2
  go_ret
  exact ⟨rfl, hb⟩
theorem c_FU3 (u : Nat) (h1 : 256 ≤ u) (h2 : u < 4096) (w : World) (hT : Tb w) : Calls Tryd.prog 69 #[.int .u64 (u : Int), .int .i64 16] w (RetS [UInt8.ofNat (hd (u / 256)), UInt8.ofNat (hd (u / 16)), UInt8.ofNat (hd u)] w) := by
  have C := Lib.hid (c_iFU3 u h1 h2 w hT)
  generalize [UInt8.ofNat (hd (u / 256)), UInt8.ofNat (hd (u / 16)), UInt8.ofNat (hd u)] = LL at *
  clear hT h2 h1 
  go_enter Tryd.func69, Tryd.ntmps69
  go_wp2_with fail
  refine C.out.mono ?_
  rintro e w' ⟨rfl, hb⟩
  go_wp2
  go_ret
  exact ⟨rfl, hb⟩
theorem c_iFU4 (u : Nat) (h1 : 4096 ≤ u) (h2 : u < 65536) (w : World) (hT : Tb w) : Calls Tryd.prog 89 #[.int .u64 (u : Int), .int .i64 16] w (RetS [UInt8.ofNat (hd (u / 4096)), UInt8.ofNat (hd (u / 256)), UInt8.ofNat (hd (u / 16)), UInt8.ofNat (hd u)] w) := by
  obtain ⟨RR, hRR⟩ : ∃ RR, RR = ([UInt8.ofNat (hd (u / 4096)), UInt8.ofNat (hd (u / 256)), UInt8.ofNat (hd (u / 16)), UInt8.ofNat (hd u)] : List UInt8).toArray := ⟨_, rfl⟩
  have C : Hid (Calls Tryd.prog 101 #[.slice none 0 0, .int .u64 (u : Int), .int .i64 16, .bool false, .bool false] w (fun e w' => e = .returned (.tuple #[.slice none 0 0, .string ⟨RR⟩]) ∧ Below w.heap.size w w')) := by
    rw [hRR]
    exact c_fb4 u h1 h2 w hT
  unfold RetS
  rw [← hRR]
  clear hRR hT h2 h1 
  go_enter Tryd.func89, Tryd.ntmps89
  go_wp2_with fail
  refine C.out.mono ?_
  rintro e w' ⟨rfl, hb⟩
  go_wp2
  go_ret
  exact ⟨rfl, hb⟩
theorem c_FU4 (u : Nat) (h1 : 4096 ≤ u) (h2 : u < 65536) (w : World) (hT : Tb w) : Calls Tryd.prog 69 #[.int .u64 (u : Int), .int .i64 16] w (RetS [UInt8.ofNat (hd (u / 4096)), UInt8.ofNat (hd (u / 256)), UInt8.ofNat (hd (u / 16)), UInt8.ofNat (hd u)] w) := by
  have C := Lib.hid (c_iFU4 u h1 h2 w hT)
  generalize [UInt8.ofNat (hd (u / 4096)), UInt8.ofNat (hd (u / 256)), UInt8.ofNat (hd (u / 16)), UInt8.ofNat (hd u)] = LL at *
  clear hT h2 h1 
  go_enter Tryd.func69, Tryd.ntmps69
  go_wp2_with fail
  refine C.out.mono ?_
  rintro e w' ⟨rfl, hb⟩
  go_wp2
  go_ret
  exact ⟨rfl, hb⟩
theorem c_iFU5 (u : Nat) (h1 : 65536 ≤ u) (h2 : u < 1048576) (w : World) (hT : Tb w) : Calls Tryd.prog 89 #[.int .u64 (u : Int), .int .i64 16] w (RetS [UInt8.ofNat (hd (u / 65536)), UInt8.ofNat (hd (u / 4096)), UInt8.ofNat (hd (u / 256)), UInt8.ofNat (hd (u / 16)), UInt8.ofNat (hd u)] w) := by
  obtain ⟨RR, hRR⟩ : ∃ RR, RR = ([UInt8.ofNat (hd (u / 65536)), UInt8.ofNat (hd (u / 4096)), UInt8.ofNat (hd (u / 256)), UInt8.ofNat (hd (u / 16)), UInt8.ofNat (hd u)] : List UInt8).toArray := ⟨_, rfl⟩
  have C : Hid (Calls Tryd.prog 101 #[.slice none 0 0, .int .u64 (u : Int), .int .i64 16, .bool false, .bool false] w (fun e w' => e = .returned (.tuple #[.slice none 0 0, .string ⟨RR⟩]) ∧ Below w.heap.size w w')) := by
    rw [hRR]
    exact c_fb5 u h1 h2 w hT
  unfold RetS
  rw [← hRR]
  clear hRR hT h2 h1 
  go_enter Tryd.func89, Tryd.ntmps89
  go_wp2_with fail
  refine C.out.mono ?_
  rintro e w' ⟨rfl, hb⟩
  go_wp2
  go_ret
  exact ⟨rfl, hb⟩
theorem c_FU5 (u : Nat) (h1 : 65536 ≤ u) (h2 : u < 1048576) (w : World) (hT : Tb w) : Calls Tryd.prog 69 #[.int .u64 (u : Int), .int .i64 16] w (RetS [UInt8.ofNat (hd (u / 65536)), UInt8.ofNat (hd (u / 4096)), UInt8.ofNat (hd (u / 256)), UInt8.ofNat (hd (u / 16)), UInt8.ofNat (hd u)] w) := by
  have C := Lib.hid (c_iFU5 u h1 h2 w hT)
  generalize [UInt8.ofNat (hd (u / 65536)), UInt8.ofNat (hd (u / 4096)), UInt8.ofNat (hd (u / 256)), UInt8.ofNat (hd (u / 16)), UInt8.ofNat (hd u)] = LL at *
  clear hT h2 h1 
  go_enter Tryd.func69, Tryd.ntmps69
  go_wp2_with fail
  refine C.out.mono ?_
  rintro e w' ⟨rfl, hb⟩
  go_wp2
  go_ret
  exact ⟨rfl, hb⟩
theorem c_iFU6 (u : Nat) (h1 : 1048576 ≤ u) (h2 : u < 16777216) (w : World) (hT : Tb w) : Calls Tryd.prog 89 #[.int .u64 (u : Int), .int .i64 16] w (RetS [UInt8.ofNat (hd (u / 1048576)), UInt8.ofNat (hd (u / 65536)), UInt8.ofNat (hd (u / 4096)), UInt8.ofNat (hd (u / 256)), UInt8.ofNat (hd (u / 16)), UInt8.ofNat (hd u)] w) := by
  obtain ⟨RR, hRR⟩ : ∃ RR, RR = ([UInt8.ofNat (hd (u / 1048576)), UInt8.ofNat (hd (u / 65536)), UInt8.ofNat (hd (u / 4096)), UInt8.ofNat (hd (u / 256)), UInt8.ofNat (hd (u / 16)), UInt8.ofNat (hd u)] : List UInt8).toArray := ⟨_, rfl⟩
  have C : Hid (Calls Tryd.prog 101 #[.slice none 0 0, .int .u64 (u : Int), .int .i64 16, .bool false, .bool false] w (fun e w' => e = .returned (.tuple #[.slice none 0 0, .string ⟨RR⟩]) ∧ Below w.heap.size w w')) := by
    rw [hRR]
    exact c_fb6 u h1 h2 w hT
  unfold RetS
  rw [← hRR]
  clear hRR hT h2 h1 
  go_enter Tryd.func89, Tryd.ntmps89
  go_wp2_with fail
  refine C.out.mono ?_
  rintro e w' ⟨rfl, hb⟩
  go_wp2
  go_ret
  exact ⟨rfl, hb⟩
theorem c_FU6 (u : Nat) (h1 : 1048576 ≤ u) (h2 : u < 16777216) (w : World) (hT : Tb w) : Calls Tryd.prog 69 #[.int .u64 (u : Int), .int .i64 16] w (RetS [UInt8.ofNat (hd (u / 1048576)), UInt8.ofNat (hd (u / 65536)), UInt8.ofNat (hd (u / 4096)), UInt8.ofNat (hd (u / 256)), UInt8.ofNat (hd (u / 16)), UInt8.ofNat (hd u)] w) := by
  have C := Lib.hid (c_iFU6 u h1 h2 w hT)
  generalize [UInt8.ofNat (hd (u / 1048576)), UInt8.ofNat (hd (u / 65536)), UInt8.ofNat (hd (u / 4096)), UInt8.ofNat (hd (u / 256)), UInt8.ofNat (hd (u / 16)), UInt8.ofNat (hd u)] = LL at *
  clear hT h2 h1 
  go_enter Tryd.func69, Tryd.ntmps69
  go_wp2_with fail
  refine C.out.mono ?_
  rintro e w' ⟨rfl, hb⟩
  go_wp2
  go_ret
  exact ⟨rfl, hb⟩
theorem c_iFU7 (u : Nat) (h1 : 16777216 ≤ u) (h2 : u < 268435456) (w : World) (hT : Tb w) : Calls Tryd.prog 89 #[.int .u64 (u : Int), .int .i64 16] w (RetS [UInt8.ofNat (hd (u / 16777216)), UInt8.ofNat (hd (u / 1048576)), UInt8.ofNat (hd (u / 65536)), UInt8.ofNat (hd (u / 4096)), UInt8.ofNat (hd (u / 256)), UInt8.ofNat (hd (u / 16)), UInt8.ofNat (hd u)] w) := by
  obtain ⟨RR, hRR⟩ : ∃ RR, RR = ([UInt8.ofNat (hd (u / 16777216)), UInt8.ofNat (hd (u / 1048576)), UInt8.ofNat (hd (u / 65536)), UInt8.ofNat (hd (u / 4096)), UInt8.ofNat (hd (u / 256)), UInt8.ofNat (hd (u / 16)), UInt8.ofNat (hd u)] : List UInt8).toArray := ⟨_, rfl⟩
  have C : Hid (Calls Tryd.prog 101 #[.slice none 0 0, .int .u64 (u : Int), .int .i64 16, .bool false, .bool false] w (fun e w' => e = .returned (.tuple #[.slice none 0 0, .string ⟨RR⟩]) ∧ Below w.heap.size w w')) := by
    rw [hRR]
    exact c_fb7 u h1 h2 w hT
  unfold RetS
  rw [← hRR]
  clear hRR hT h2 h1 
  go_enter Tryd.func89, Tryd.ntmps89
  go_wp2_with fail
  refine C.out.mono ?_
  rintro e w' ⟨rfl, hb⟩
  go_wp2
  go_ret
  exact ⟨rfl, hb⟩
theorem c_FU7 (u : Nat) (h1 : 16777216 ≤ u) (h2 : u < 268435456) (w : World) (hT : Tb w) : Calls Tryd.prog 69 #[.int .u64 (u : Int), .int .i64 16] w (RetS [UInt8.ofNat (hd (u / 16777216)), UInt8.ofNat (hd (u / 1048576)), UInt8.ofNat (hd (u / 65536)), UInt8.ofNat (hd (u / 4096)), UInt8.ofNat (hd (u / 256)), UInt8.ofNat (hd (u / 16)), UInt8.ofNat (hd u)] w) := by
  have C := Lib.hid (c_iFU7 u h1 h2 w hT)
  generalize [UInt8.ofNat (hd (u / 16777216)), UInt8.ofNat (hd (u / 1048576)), UInt8.ofNat (hd (u / 65536)), UInt8.ofNat (hd (u / 4096)), UInt8.ofNat (hd (u / 256)), UInt8.ofNat (hd (u / 16)), UInt8.ofNat (hd u)] = LL at *
  clear hT h2 h1 
  go_enter Tryd.func69, Tryd.ntmps69
  go_wp2_with fail
  refine C.out.mono ?_
  rintro e w' ⟨rfl, hb⟩
  go_wp2
  go_ret
  exact ⟨rfl, hb⟩
theorem c_iFU8 (u : Nat) (h1 : 268435456 ≤ u) (h2 : u < 4294967296) (w : World) (hT : Tb w) : Calls Tryd.prog 89 #[.int .u64 (u : Int), .int .i64 16] w (RetS [UInt8.ofNat (hd (u / 268435456)), UInt8.ofNat (hd (u / 16777216)), UInt8.ofNat (hd (u / 1048576)), UInt8.ofNat (hd (u / 65536)), UInt8.ofNat (hd (u / 4096)), UInt8.ofNat (hd (u / 256)), UInt8.ofNat (hd (u / 16)), UInt8.ofNat (hd u)] w) := by
  obtain ⟨RR, hRR⟩ : ∃ RR, RR = ([UInt8.ofNat (hd (u / 268435456)), UInt8.ofNat (hd (u / 16777216)), UInt8.ofNat (hd (u / 1048576)), UInt8.ofNat (hd (u / 65536)), UInt8.ofNat (hd (u / 4096)), UInt8.ofNat (hd (u / 256)), UInt8.ofNat (hd (u / 16)), UInt8.ofNat (hd u)] : List UInt8).toArray := ⟨_, rfl⟩
  have C : Hid (Calls Tryd.prog 101 #[.slice none 0 0, .int .u64 (u : Int), .int .i64 16, .bool false, .bool false] w (fun e w' => e = .returned (.tuple #[.slice none 0 0, .string ⟨RR⟩]) ∧ Below w.heap.size w w')) := by
    rw [hRR]
    exact c_fb8 u h1 h2 w hT
  unfold RetS
  rw [← hRR]
  clear hRR hT h2 h1 
  go_enter Tryd.func89, Tryd.ntmps89
  go_wp2_with fail
  refine C.out.mono ?_
  rintro e w' ⟨rfl, hb⟩
  go_wp2
  go_ret
  exact ⟨rfl, hb⟩
theorem c_FU8 (u : Nat) (h1 : 268435456 ≤ u) (h2 : u < 4294967296) (w : World) (hT : Tb w) : Calls Tryd.prog 69 #[.int .u64 (u : Int), .int .i64 16] w (RetS [UInt8.ofNat (hd (u / 268435456)), UInt8.ofNat (hd (u / 16777216)), UInt8.ofNat (hd (u / 1048576)), UInt8.ofNat (hd (u / 65536)), UInt8.ofNat (hd (u / 4096)), UInt8.ofNat (hd (u / 256)), UInt8.ofNat (hd (u / 16)), UInt8.ofNat (hd u)] w) := by
  have C := Lib.hid (c_iFU8 u h1 h2 w hT)
  generalize [UInt8.ofNat (hd (u / 268435456)), UInt8.ofNat (hd (u / 16777216)), UInt8.ofNat (hd (u / 1048576)), UInt8.ofNat (hd (u / 65536)), UInt8.ofNat (hd (u / 4096)), UInt8.ofNat (hd (u / 256)), UInt8.ofNat (hd (u / 16)), UInt8.ofNat (hd u)] = LL at *
  clear hT h2 h1 
  go_enter Tryd.func69, Tryd.ntmps69
  go_wp2_with fail
  refine C.out.mono ?_
  rintro e w' ⟨rfl, hb⟩
  go_wp2
  go_ret
  exact ⟨rfl, hb⟩
theorem c_bt1 (a u : Nat) (hc : can .f32 a = u) (h2 : u < 16) (w : World) (hT : Tb w) : Calls Tryd.prog 43 #[.float .f32 a] w (RetS (hexL u) w) := by
  obtain ⟨RR, hRR⟩ : ∃ RR, RR = ([UInt8.ofNat (hd u)] : List UInt8).toArray := ⟨_, rfl⟩
  have hsz : RR.size = 1 := by rw [hRR]; rfl
  have C : Hid (∀ W, Tb W → Calls Tryd.prog 69 #[.int .u64 (u : Int), .int .i64 16] W (fun e w' => e = .returned (.string ⟨RR⟩) ∧ Below W.heap.size W w')) := fun W hW => by
    rw [hRR]
    exact c_FU1 u h2 W hW
  have D : Hid (∀ W, Calls Tryd.prog 70 #[.float .f32 a] W (RetI .u32 (u : Int) W)) := fun W => by
    have := c_bitsOf a W
    rw [hc] at this
    exact this
  have w1 : IntKind.u64.wrap (u : Int) = (u : Int) := IntWalk.u64_in _ (by omega)
  have HE : Hid ((⟨([48, 48, 48, 48, 48, 48, 48] : List UInt8).toArray⟩ : ByteArray) ++ ⟨RR⟩ = ⟨(hexL u).toArray⟩) := by
    rw [hRR, ba_app]
    unfold hexL
    rw [show u / 16 = 0 from Nat.div_eq_of_lt (by omega)]
    rw [show u / 256 = 0 from Nat.div_eq_of_lt (by omega)]
    rw [show u / 4096 = 0 from Nat.div_eq_of_lt (by omega)]
    rw [show u / 65536 = 0 from Nat.div_eq_of_lt (by omega)]
    rw [show u / 1048576 = 0 from Nat.div_eq_of_lt (by omega)]
    rw [show u / 16777216 = 0 from Nat.div_eq_of_lt (by omega)]
    rw [show u / 268435456 = 0 from Nat.div_eq_of_lt (by omega)]
    rfl
  have HT := Lib.hid hT
  have hbs : (⟨RR⟩ : ByteArray).size = 1 := hsz
  clear hRR hT h2 hc hsz
  go_enter Tryd.func43, Tryd.ntmps43
  go_wp2_with fail
  refine (D.out _).mono ?_
  rintro e w' ⟨rfl, m1, rfl⟩
  go_wp2_with fail
  refine (C.out _ (HT.out.below (B := w.heap.size) (by (repeat (first | (with_reducible refine Below.drewN ?_) | (with_reducible refine Below.drew ?_) | ((with_reducible refine Below.alloc ?_ ?_ _); rotate_left; (first | omega | (simp <;> omega))) | ((with_reducible refine Below.setCell ?_ ?_ _); rotate_left; (first | omega | (simp <;> omega))) | (with_reducible exact Below.refl _ _) | (with_reducible assumption)))) (Nat.le_refl _))).mono ?_
  rintro e w2 ⟨rfl, hb⟩
  go_wp2_with fail
  refine (c_rep7 _).mono ?_
  rintro e w3 ⟨rfl, rfl⟩
  have hb2 : Below w.heap.size w w3 := Below.trans (by (repeat (first | (with_reducible refine Below.drewN ?_) | (with_reducible refine Below.drew ?_) | ((with_reducible refine Below.alloc ?_ ?_ _); rotate_left; (first | omega | (simp <;> omega))) | ((with_reducible refine Below.setCell ?_ ?_ _); rotate_left; (first | omega | (simp <;> omega))) | (with_reducible exact Below.refl _ _) | (with_reducible assumption)))) (hb.mono (by simp))
  go_wp2
  go_ret
  exact ⟨by rw [← HE.out]; rfl, hb2⟩
theorem c_bt2 (a u : Nat) (hc : can .f32 a = u) (h1 : 16 ≤ u) (h2 : u < 256) (w : World) (hT : Tb w) : Calls Tryd.prog 43 #[.float .f32 a] w (RetS (hexL u) w) := by
  obtain ⟨RR, hRR⟩ : ∃ RR, RR = ([UInt8.ofNat (hd (u / 16)), UInt8.ofNat (hd u)] : List UInt8).toArray := ⟨_, rfl⟩
  have hsz : RR.size = 2 := by rw [hRR]; rfl
  have C : Hid (∀ W, Tb W → Calls Tryd.prog 69 #[.int .u64 (u : Int), .int .i64 16] W (fun e w' => e = .returned (.string ⟨RR⟩) ∧ Below W.heap.size W w')) := fun W hW => by
    rw [hRR]
    exact c_FU2 u h1 h2 W hW
  have D : Hid (∀ W, Calls Tryd.prog 70 #[.float .f32 a] W (RetI .u32 (u : Int) W)) := fun W => by
    have := c_bitsOf a W
    rw [hc] at this
    exact this
  have w1 : IntKind.u64.wrap (u : Int) = (u : Int) := IntWalk.u64_in _ (by omega)
  have HE : Hid ((⟨([48, 48, 48, 48, 48, 48] : List UInt8).toArray⟩ : ByteArray) ++ ⟨RR⟩ = ⟨(hexL u).toArray⟩) := by
    rw [hRR, ba_app]
    unfold hexL
    rw [show u / 256 = 0 from Nat.div_eq_of_lt (by omega)]
    rw [show u / 4096 = 0 from Nat.div_eq_of_lt (by omega)]
    rw [show u / 65536 = 0 from Nat.div_eq_of_lt (by omega)]
    rw [show u / 1048576 = 0 from Nat.div_eq_of_lt (by omega)]
    rw [show u / 16777216 = 0 from Nat.div_eq_of_lt (by omega)]
    rw [show u / 268435456 = 0 from Nat.div_eq_of_lt (by omega)]
    rfl
  have HT := Lib.hid hT
  have hbs : (⟨RR⟩ : ByteArray).size = 2 := hsz
  clear hRR hT h2 h1 hc hsz
  go_enter Tryd.func43, Tryd.ntmps43
  go_wp2_with fail
  refine (D.out _).mono ?_
  rintro e w' ⟨rfl, m1, rfl⟩
  go_wp2_with fail
  refine (C.out _ (HT.out.below (B := w.heap.size) (by (repeat (first | (with_reducible refine Below.drewN ?_) | (with_reducible refine Below.drew ?_) | ((with_reducible refine Below.alloc ?_ ?_ _); rotate_left; (first | omega | (simp <;> omega))) | ((with_reducible refine Below.setCell ?_ ?_ _); rotate_left; (first | omega | (simp <;> omega))) | (with_reducible exact Below.refl _ _) | (with_reducible assumption)))) (Nat.le_refl _))).mono ?_
  rintro e w2 ⟨rfl, hb⟩
  go_wp2_with fail
  refine (c_rep6 _).mono ?_
  rintro e w3 ⟨rfl, rfl⟩
  have hb2 : Below w.heap.size w w3 := Below.trans (by (repeat (first | (with_reducible refine Below.drewN ?_) | (with_reducible refine Below.drew ?_) | ((with_reducible refine Below.alloc ?_ ?_ _); rotate_left; (first | omega | (simp <;> omega))) | ((with_reducible refine Below.setCell ?_ ?_ _); rotate_left; (first | omega | (simp <;> omega))) | (with_reducible exact Below.refl _ _) | (with_reducible assumption)))) (hb.mono (by simp))
  go_wp2
  go_ret
  exact ⟨by rw [← HE.out]; rfl, hb2⟩
theorem c_bt3 (a u : Nat) (hc : can .f32 a = u) (h1 : 256 ≤ u) (h2 : u < 4096) (w : World) (hT : Tb w) : Calls Tryd.prog 43 #[.float .f32 a] w (RetS (hexL u) w) := by
  obtain ⟨RR, hRR⟩ : ∃ RR, RR = ([UInt8.ofNat (hd (u / 256)), UInt8.ofNat (hd (u / 16)), UInt8.ofNat (hd u)] : List UInt8).toArray := ⟨_, rfl⟩
  have hsz : RR.size = 3 := by rw [hRR]; rfl
  have C : Hid (∀ W, Tb W → Calls Tryd.prog 69 #[.int .u64 (u : Int), .int .i64 16] W (fun e w' => e = .returned (.string ⟨RR⟩) ∧ Below W.heap.size W w')) := fun W hW => by
    rw [hRR]
    exact c_FU3 u h1 h2 W hW
  have D : Hid (∀ W, Calls Tryd.prog 70 #[.float .f32 a] W (RetI .u32 (u : Int) W)) := fun W => by
    have := c_bitsOf a W
    rw [hc] at this
    exact this
  have w1 : IntKind.u64.wrap (u : Int) = (u : Int) := IntWalk.u64_in _ (by omega)
  have HE : Hid ((⟨([48, 48, 48, 48, 48] : List UInt8).toArray⟩ : ByteArray) ++ ⟨RR⟩ = ⟨(hexL u).toArray⟩) := by
    rw [hRR, ba_app]
    unfold hexL
    rw [show u / 4096 = 0 from Nat.div_eq_of_lt (by omega)]
    rw [show u / 65536 = 0 from Nat.div_eq_of_lt (by omega)]
    rw [show u / 1048576 = 0 from Nat.div_eq_of_lt (by omega)]
    rw [show u / 16777216 = 0 from Nat.div_eq_of_lt (by omega)]
    rw [show u / 268435456 = 0 from Nat.div_eq_of_lt (by omega)]
    rfl
  have HT := Lib.hid hT
  have hbs : (⟨RR⟩ : ByteArray).size = 3 := hsz
  clear hRR hT h2 h1 hc hsz
  go_enter Tryd.func43, Tryd.ntmps43
  go_wp2_with fail
  refine (D.out _).mono ?_
  rintro e w' ⟨rfl, m1, rfl⟩
  go_wp2_with fail
  refine (C.out _ (HT.out.below (B := w.heap.size) (by (repeat (first | (with_reducible refine Below.drewN ?_) | (with_reducible refine Below.drew ?_) | ((with_reducible refine Below.alloc ?_ ?_ _); rotate_left; (first | omega | (simp <;> omega))) | ((with_reducible refine Below.setCell ?_ ?_ _); rotate_left; (first | omega | (simp <;> omega))) | (with_reducible exact Below.refl _ _) | (with_reducible assumption)))) (Nat.le_refl _))).mono ?_
  rintro e w2 ⟨rfl, hb⟩
  go_wp2_with fail
  refine (c_rep5 _).mono ?_
  rintro e w3 ⟨rfl, rfl⟩
  have hb2 : Below w.heap.size w w3 := Below.trans (by (repeat (first | (with_reducible refine Below.drewN ?_) | (with_reducible refine Below.drew ?_) | ((with_reducible refine Below.alloc ?_ ?_ _); rotate_left; (first | omega | (simp <;> omega))) | ((with_reducible refine Below.setCell ?_ ?_ _); rotate_left; (first | omega | (simp <;> omega))) | (with_reducible exact Below.refl _ _) | (with_reducible assumption)))) (hb.mono (by simp))
  go_wp2
  go_ret
  exact ⟨by rw [← HE.out]; rfl, hb2⟩
theorem c_bt4 (a u : Nat) (hc : can .f32 a = u) (h1 : 4096 ≤ u) (h2 : u < 65536) (w : World) (hT : Tb w) : Calls Tryd.prog 43 #[.float .f32 a] w (RetS (hexL u) w) := by
  obtain ⟨RR, hRR⟩ : ∃ RR, RR = ([UInt8.ofNat (hd (u / 4096)), UInt8.ofNat (hd (u / 256)), UInt8.ofNat (hd (u / 16)), UInt8.ofNat (hd u)] : List UInt8).toArray := ⟨_, rfl⟩
  have hsz : RR.size = 4 := by rw [hRR]; rfl
  have C : Hid (∀ W, Tb W → Calls Tryd.prog 69 #[.int .u64 (u : Int), .int .i64 16] W (fun e w' => e = .returned (.string ⟨RR⟩) ∧ Below W.heap.size W w')) := fun W hW => by
    rw [hRR]
    exact c_FU4 u h1 h2 W hW
  have D : Hid (∀ W, Calls Tryd.prog 70 #[.float .f32 a] W (RetI .u32 (u : Int) W)) := fun W => by
    have := c_bitsOf a W
    rw [hc] at this
    exact this
  have w1 : IntKind.u64.wrap (u : Int) = (u : Int) := IntWalk.u64_in _ (by omega)
  have HE : Hid ((⟨([48, 48, 48, 48] : List UInt8).toArray⟩ : ByteArray) ++ ⟨RR⟩ = ⟨(hexL u).toArray⟩) := by
    rw [hRR, ba_app]
    unfold hexL
    rw [show u / 65536 = 0 from Nat.div_eq_of_lt (by omega)]
    rw [show u / 1048576 = 0 from Nat.div_eq_of_lt (by omega)]
    rw [show u / 16777216 = 0 from Nat.div_eq_of_lt (by omega)]
    rw [show u / 268435456 = 0 from Nat.div_eq_of_lt (by omega)]
    rfl
  have HT := Lib.hid hT
  have hbs : (⟨RR⟩ : ByteArray).size = 4 := hsz
  clear hRR hT h2 h1 hc hsz
  go_enter Tryd.func43, Tryd.ntmps43
  go_wp2_with fail
  refine (D.out _).mono ?_
  rintro e w' ⟨rfl, m1, rfl⟩
  go_wp2_with fail
  refine (C.out _ (HT.out.below (B := w.heap.size) (by (repeat (first | (with_reducible refine Below.drewN ?_) | (with_reducible refine Below.drew ?_) | ((with_reducible refine Below.alloc ?_ ?_ _); rotate_left; (first | omega | (simp <;> omega))) | ((with_reducible refine Below.setCell ?_ ?_ _); rotate_left; (first | omega | (simp <;> omega))) | (with_reducible exact Below.refl _ _) | (with_reducible assumption)))) (Nat.le_refl _))).mono ?_
  rintro e w2 ⟨rfl, hb⟩
  go_wp2_with fail
  refine (c_rep4 _).mono ?_
  rintro e w3 ⟨rfl, rfl⟩
  have hb2 : Below w.heap.size w w3 := Below.trans (by (repeat (first | (with_reducible refine Below.drewN ?_) | (with_reducible refine Below.drew ?_) | ((with_reducible refine Below.alloc ?_ ?_ _); rotate_left; (first | omega | (simp <;> omega))) | ((with_reducible refine Below.setCell ?_ ?_ _); rotate_left; (first | omega | (simp <;> omega))) | (with_reducible exact Below.refl _ _) | (with_reducible assumption)))) (hb.mono (by simp))
  go_wp2
  go_ret
  exact ⟨by rw [← HE.out]; rfl, hb2⟩
theorem c_bt5 (a u : Nat) (hc : can .f32 a = u) (h1 : 65536 ≤ u) (h2 : u < 1048576) (w : World) (hT : Tb w) : Calls Tryd.prog 43 #[.float .f32 a] w (RetS (hexL u) w) := by
  obtain ⟨RR, hRR⟩ : ∃ RR, RR = ([UInt8.ofNat (hd (u / 65536)), UInt8.ofNat (hd (u / 4096)), UInt8.ofNat (hd (u / 256)), UInt8.ofNat (hd (u / 16)), UInt8.ofNat (hd u)] : List UInt8).toArray := ⟨_, rfl⟩
  have hsz : RR.size = 5 := by rw [hRR]; rfl
  have C : Hid (∀ W, Tb W → Calls Tryd.prog 69 #[.int .u64 (u : Int), .int .i64 16] W (fun e w' => e = .returned (.string ⟨RR⟩) ∧ Below W.heap.size W w')) := fun W hW => by
    rw [hRR]
    exact c_FU5 u h1 h2 W hW
  have D : Hid (∀ W, Calls Tryd.prog 70 #[.float .f32 a] W (RetI .u32 (u : Int) W)) := fun W => by
    have := c_bitsOf a W
    rw [hc] at this
    exact this
  have w1 : IntKind.u64.wrap (u : Int) = (u : Int) := IntWalk.u64_in _ (by omega)
  have HE : Hid ((⟨([48, 48, 48] : List UInt8).toArray⟩ : ByteArray) ++ ⟨RR⟩ = ⟨(hexL u).toArray⟩) := by
    rw [hRR, ba_app]
    unfold hexL
    rw [show u / 1048576 = 0 from Nat.div_eq_of_lt (by omega)]
    rw [show u / 16777216 = 0 from Nat.div_eq_of_lt (by omega)]
    rw [show u / 268435456 = 0 from Nat.div_eq_of_lt (by omega)]
    rfl
  have HT := Lib.hid hT
  have hbs : (⟨RR⟩ : ByteArray).size = 5 := hsz
  clear hRR hT h2 h1 hc hsz
  go_enter Tryd.func43, Tryd.ntmps43
  go_wp2_with fail
  refine (D.out _).mono ?_
  rintro e w' ⟨rfl, m1, rfl⟩
  go_wp2_with fail
  refine (C.out _ (HT.out.below (B := w.heap.size) (by (repeat (first | (with_reducible refine Below.drewN ?_) | (with_reducible refine Below.drew ?_) | ((with_reducible refine Below.alloc ?_ ?_ _); rotate_left; (first | omega | (simp <;> omega))) | ((with_reducible refine Below.setCell ?_ ?_ _); rotate_left; (first | omega | (simp <;> omega))) | (with_reducible exact Below.refl _ _) | (with_reducible assumption)))) (Nat.le_refl _))).mono ?_
  rintro e w2 ⟨rfl, hb⟩
  go_wp2_with fail
  refine (c_rep3 _).mono ?_
  rintro e w3 ⟨rfl, rfl⟩
  have hb2 : Below w.heap.size w w3 := Below.trans (by (repeat (first | (with_reducible refine Below.drewN ?_) | (with_reducible refine Below.drew ?_) | ((with_reducible refine Below.alloc ?_ ?_ _); rotate_left; (first | omega | (simp <;> omega))) | ((with_reducible refine Below.setCell ?_ ?_ _); rotate_left; (first | omega | (simp <;> omega))) | (with_reducible exact Below.refl _ _) | (with_reducible assumption)))) (hb.mono (by simp))
  go_wp2
  go_ret
  exact ⟨by rw [← HE.out]; rfl, hb2⟩
theorem c_bt6 (a u : Nat) (hc : can .f32 a = u) (h1 : 1048576 ≤ u) (h2 : u < 16777216) (w : World) (hT : Tb w) : Calls Tryd.prog 43 #[.float .f32 a] w (RetS (hexL u) w) := by
  obtain ⟨RR, hRR⟩ : ∃ RR, RR = ([UInt8.ofNat (hd (u / 1048576)), UInt8.ofNat (hd (u / 65536)), UInt8.ofNat (hd (u / 4096)), UInt8.ofNat (hd (u / 256)), UInt8.ofNat (hd (u / 16)), UInt8.ofNat (hd u)] : List UInt8).toArray := ⟨_, rfl⟩
  have hsz : RR.size = 6 := by rw [hRR]; rfl
  have C : Hid (∀ W, Tb W → Calls Tryd.prog 69 #[.int .u64 (u : Int), .int .i64 16] W (fun e w' => e = .returned (.string ⟨RR⟩) ∧ Below W.heap.size W w')) := fun W hW => by
    rw [hRR]
    exact c_FU6 u h1 h2 W hW
  have D : Hid (∀ W, Calls Tryd.prog 70 #[.float .f32 a] W (RetI .u32 (u : Int) W)) := fun W => by
    have := c_bitsOf a W
    rw [hc] at this
    exact this
  have w1 : IntKind.u64.wrap (u : Int) = (u : Int) := IntWalk.u64_in _ (by omega)
  have HE : Hid ((⟨([48, 48] : List UInt8).toArray⟩ : ByteArray) ++ ⟨RR⟩ = ⟨(hexL u).toArray⟩) := by
    rw [hRR, ba_app]
    unfold hexL
    rw [show u / 16777216 = 0 from Nat.div_eq_of_lt (by omega)]
    rw [show u / 268435456 = 0 from Nat.div_eq_of_lt (by omega)]
    rfl
  have HT := Lib.hid hT
  have hbs : (⟨RR⟩ : ByteArray).size = 6 := hsz
  clear hRR hT h2 h1 hc hsz
  go_enter Tryd.func43, Tryd.ntmps43
  go_wp2_with fail
  refine (D.out _).mono ?_
  rintro e w' ⟨rfl, m1, rfl⟩
  go_wp2_with fail
  refine (C.out _ (HT.out.below (B := w.heap.size) (by (repeat (first | (with_reducible refine Below.drewN ?_) | (with_reducible refine Below.drew ?_) | ((with_reducible refine Below.alloc ?_ ?_ _); rotate_left; (first | omega | (simp <;> omega))) | ((with_reducible refine Below.setCell ?_ ?_ _); rotate_left; (first | omega | (simp <;> omega))) | (with_reducible exact Below.refl _ _) | (with_reducible assumption)))) (Nat.le_refl _))).mono ?_
  rintro e w2 ⟨rfl, hb⟩
  go_wp2_with fail
  refine (c_rep2 _).mono ?_
  rintro e w3 ⟨rfl, rfl⟩
  have hb2 : Below w.heap.size w w3 := Below.trans (by (repeat (first | (with_reducible refine Below.drewN ?_) | (with_reducible refine Below.drew ?_) | ((with_reducible refine Below.alloc ?_ ?_ _); rotate_left; (first | omega | (simp <;> omega))) | ((with_reducible refine Below.setCell ?_ ?_ _); rotate_left; (first | omega | (simp <;> omega))) | (with_reducible exact Below.refl _ _) | (with_reducible assumption)))) (hb.mono (by simp))
  go_wp2
  go_ret
  exact ⟨by rw [← HE.out]; rfl, hb2⟩
theorem c_bt7 (a u : Nat) (hc : can .f32 a = u) (h1 : 16777216 ≤ u) (h2 : u < 268435456) (w : World) (hT : Tb w) : Calls Tryd.prog 43 #[.float .f32 a] w (RetS (hexL u) w) := by
  obtain ⟨RR, hRR⟩ : ∃ RR, RR = ([UInt8.ofNat (hd (u / 16777216)), UInt8.ofNat (hd (u / 1048576)), UInt8.ofNat (hd (u / 65536)), UInt8.ofNat (hd (u / 4096)), UInt8.ofNat (hd (u / 256)), UInt8.ofNat (hd (u / 16)), UInt8.ofNat (hd u)] : List UInt8).toArray := ⟨_, rfl⟩
  have hsz : RR.size = 7 := by rw [hRR]; rfl
  have C : Hid (∀ W, Tb W → Calls Tryd.prog 69 #[.int .u64 (u : Int), .int .i64 16] W (fun e w' => e = .returned (.string ⟨RR⟩) ∧ Below W.heap.size W w')) := fun W hW => by
    rw [hRR]
    exact c_FU7 u h1 h2 W hW
  have D : Hid (∀ W, Calls Tryd.prog 70 #[.float .f32 a] W (RetI .u32 (u : Int) W)) := fun W => by
    have := c_bitsOf a W
    rw [hc] at this
    exact this
  have w1 : IntKind.u64.wrap (u : Int) = (u : Int) := IntWalk.u64_in _ (by omega)
  have HE : Hid ((⟨([48] : List UInt8).toArray⟩ : ByteArray) ++ ⟨RR⟩ = ⟨(hexL u).toArray⟩) := by
    rw [hRR, ba_app]
    unfold hexL
    rw [show u / 268435456 = 0 from Nat.div_eq_of_lt (by omega)]
    rfl
  have HT := Lib.hid hT
  have hbs : (⟨RR⟩ : ByteArray).size = 7 := hsz
  clear hRR hT h2 h1 hc hsz
  go_enter Tryd.func43, Tryd.ntmps43
  go_wp2_with fail
  refine (D.out _).mono ?_
  rintro e w' ⟨rfl, m1, rfl⟩
  go_wp2_with fail
  refine (C.out _ (HT.out.below (B := w.heap.size) (by (repeat (first | (with_reducible refine Below.drewN ?_) | (with_reducible refine Below.drew ?_) | ((with_reducible refine Below.alloc ?_ ?_ _); rotate_left; (first | omega | (simp <;> omega))) | ((with_reducible refine Below.setCell ?_ ?_ _); rotate_left; (first | omega | (simp <;> omega))) | (with_reducible exact Below.refl _ _) | (with_reducible assumption)))) (Nat.le_refl _))).mono ?_
  rintro e w2 ⟨rfl, hb⟩
  go_wp2_with fail
  refine (c_rep1 _).mono ?_
  rintro e w3 ⟨rfl, rfl⟩
  have hb2 : Below w.heap.size w w3 := Below.trans (by (repeat (first | (with_reducible refine Below.drewN ?_) | (with_reducible refine Below.drew ?_) | ((with_reducible refine Below.alloc ?_ ?_ _); rotate_left; (first | omega | (simp <;> omega))) | ((with_reducible refine Below.setCell ?_ ?_ _); rotate_left; (first | omega | (simp <;> omega))) | (with_reducible exact Below.refl _ _) | (with_reducible assumption)))) (hb.mono (by simp))
  go_wp2
  go_ret
  exact ⟨by rw [← HE.out]; rfl, hb2⟩
theorem c_bt8 (a u : Nat) (hc : can .f32 a = u) (h1 : 268435456 ≤ u) (h2 : u < 4294967296) (w : World) (hT : Tb w) : Calls Tryd.prog 43 #[.float .f32 a] w (RetS (hexL u) w) := by
  obtain ⟨RR, hRR⟩ : ∃ RR, RR = ([UInt8.ofNat (hd (u / 268435456)), UInt8.ofNat (hd (u / 16777216)), UInt8.ofNat (hd (u / 1048576)), UInt8.ofNat (hd (u / 65536)), UInt8.ofNat (hd (u / 4096)), UInt8.ofNat (hd (u / 256)), UInt8.ofNat (hd (u / 16)), UInt8.ofNat (hd u)] : List UInt8).toArray := ⟨_, rfl⟩
  have hsz : RR.size = 8 := by rw [hRR]; rfl
  have C : Hid (∀ W, Tb W → Calls Tryd.prog 69 #[.int .u64 (u : Int), .int .i64 16] W (fun e w' => e = .returned (.string ⟨RR⟩) ∧ Below W.heap.size W w')) := fun W hW => by
    rw [hRR]
    exact c_FU8 u h1 h2 W hW
  have D : Hid (∀ W, Calls Tryd.prog 70 #[.float .f32 a] W (RetI .u32 (u : Int) W)) := fun W => by
    have := c_bitsOf a W
    rw [hc] at this
    exact this
  have w1 : IntKind.u64.wrap (u : Int) = (u : Int) := IntWalk.u64_in _ (by omega)
  have HE : Hid ((⟨([] : List UInt8).toArray⟩ : ByteArray) ++ ⟨RR⟩ = ⟨(hexL u).toArray⟩) := by
    rw [hRR, ba_app]
    unfold hexL
    rfl
  have HT := Lib.hid hT
  have hbs : (⟨RR⟩ : ByteArray).size = 8 := hsz
  clear hRR hT h2 h1 hc hsz
  go_enter Tryd.func43, Tryd.ntmps43
  go_wp2_with fail
  refine (D.out _).mono ?_
  rintro e w' ⟨rfl, m1, rfl⟩
  go_wp2_with fail
  refine (C.out _ (HT.out.below (B := w.heap.size) (by (repeat (first | (with_reducible refine Below.drewN ?_) | (with_reducible refine Below.drew ?_) | ((with_reducible refine Below.alloc ?_ ?_ _); rotate_left; (first | omega | (simp <;> omega))) | ((with_reducible refine Below.setCell ?_ ?_ _); rotate_left; (first | omega | (simp <;> omega))) | (with_reducible exact Below.refl _ _) | (with_reducible assumption)))) (Nat.le_refl _))).mono ?_
  rintro e w2 ⟨rfl, hb⟩
  go_wp2_with fail
  refine (c_rep0 _).mono ?_
  rintro e w3 ⟨rfl, rfl⟩
  have hb2 : Below w.heap.size w w3 := Below.trans (by (repeat (first | (with_reducible refine Below.drewN ?_) | (with_reducible refine Below.drew ?_) | ((with_reducible refine Below.alloc ?_ ?_ _); rotate_left; (first | omega | (simp <;> omega))) | ((with_reducible refine Below.setCell ?_ ?_ _); rotate_left; (first | omega | (simp <;> omega))) | (with_reducible exact Below.refl _ _) | (with_reducible assumption)))) (hb.mono (by simp))
  go_wp2
  go_ret
  exact ⟨by rw [← HE.out]; rfl, hb2⟩
theorem c_bitsText (a : Nat) (h : can .f32 a < 4294967296) (w : World) (hT : Tb w) : Calls Tryd.prog 43 #[.float .f32 a] w (RetS (hexL (can .f32 a)) w) := by
  by_cases g1 : can .f32 a < 16
  · exact c_bt1 a _ rfl g1 w hT
  by_cases g2 : can .f32 a < 256
  · exact c_bt2 a _ rfl (by omega) g2 w hT
  by_cases g3 : can .f32 a < 4096
  · exact c_bt3 a _ rfl (by omega) g3 w hT
  by_cases g4 : can .f32 a < 65536
  · exact c_bt4 a _ rfl (by omega) g4 w hT
  by_cases g5 : can .f32 a < 1048576
  · exact c_bt5 a _ rfl (by omega) g5 w hT
  by_cases g6 : can .f32 a < 16777216
  · exact c_bt6 a _ rfl (by omega) g6 w hT
  by_cases g7 : can .f32 a < 268435456
  · exact c_bt7 a _ rfl (by omega) g7 w hT
  exact c_bt8 a _ rfl (by omega) h w hT
end Go.Proofs.YtbdanadmabemdaaDoor
