/- CLOSED: the roots of the first primes, by the kernel. -/
import Derived.KernelRfl
import Derived.Test.YtfdhgakalojahaaGreatDoorM22
set_option linter.unusedSimpArgs false
set_option linter.unusedVariables false
set_option linter.unnecessarySimpa false
set_option linter.unusedSectionVars false
namespace Go.Proofs.YtfdhgakalojahaaGreatDoor
open Go Go.RowKit

def PL : List Nat := [2, 3, 5, 7, 11, 13, 17, 19, 23, 29, 31, 37, 41, 43, 47, 53, 59, 61, 67, 71, 73, 79, 83, 89, 97, 101, 103, 107, 109, 113, 127, 131, 137, 139, 149, 151, 157, 163, 167, 173, 179, 181, 191, 193, 197, 199, 211, 223, 227, 229, 233, 239, 241, 251, 257, 263, 269, 271, 277, 281, 283, 293, 307, 311]

def KL : List Nat := [1116352408, 1899447441, 3049323471, 3921009573, 961987163, 1508970993, 2453635748, 2870763221, 3624381080, 310598401, 607225278, 1426881987, 1925078388, 2162078206, 2614888103, 3248222580, 3835390401, 4022224774, 264347078, 604807628, 770255983, 1249150122, 1555081692, 1996064986, 2554220882, 2821834349, 2952996808, 3210313671, 3336571891, 3584528711, 113926993, 338241895, 666307205, 773529912, 1294757372, 1396182291, 1695183700, 1986661051, 2177026350, 2456956037, 2730485921, 2820302411, 3259730800, 3345764771, 3516065817, 3600352804, 4094571909, 275423344, 430227734, 506948616, 659060556, 883997877, 958139571, 1322822218, 1537002063, 1747873779, 1955562222, 2024104815, 2227730452, 2361852424, 2428436474, 2756734187, 3204031479, 3329325298]

def FL : List Nat := [1779033703, 3144134277, 1013904242, 2773480762, 1359893119, 2600822924, 528734635, 1541459225]

theorem eval_one : rootN true 2 40 % 4294967296 = 1116352408 := by kernel_rfl

theorem eval_K : PL.map (fun p => rootN true p 40 % 4294967296) = KL := by kernel_rfl

theorem eval_F : (PL.take 8).map (fun p => rootN false p 40 % 4294967296) = FL := by kernel_rfl

/-- is it a prime? by trial: fuel, divisor, what was found so far -/
def loopP (p : Nat) : Nat → Nat → Bool → Bool
  | 0, _, is => is
  | f + 1, d, is => if decide (d * d ≤ p) && is then loopP p f (d + 1) (decide (p % d ≠ 0)) else is

def prB (p : Nat) : Bool := loopP p 512 2 true

def chkP : Bool := (List.range 312).all fun p => prB p == (decide (p < 2) || PL.contains p)
theorem eval_P : chkP = true := by kernel_rfl

theorem prB_eq {p : Nat} (h : p < 312) : prB p = (decide (p < 2) || PL.contains p) := by
  have := List.all_eq_true.1 (show (List.range 312).all (fun p => prB p == (decide (p < 2) || PL.contains p)) = true from eval_P) p (List.mem_range.2 h)
  simpa using this

/-- the primes below a number -/
def lp (p : Nat) : List Nat := PL.filter fun q => decide (q < p)

def chkL : Bool := (List.range 312).all fun p => lp (p + 1) == if PL.contains p then lp p ++ [p] else lp p
theorem eval_L : chkL = true := by kernel_rfl

theorem lp_succ {p : Nat} (h : p < 312) : lp (p + 1) = if PL.contains p then lp p ++ [p] else lp p := by
  have := List.all_eq_true.1 (show (List.range 312).all (fun p => lp (p + 1) == if PL.contains p then lp p ++ [p] else lp p) = true from eval_L) p (List.mem_range.2 h)
  simpa using this

def chkN : Bool := (List.range 312).all fun p => decide ((lp p).length < 64)
theorem eval_N : chkN = true := by kernel_rfl
theorem lp_lt {p : Nat} (h : p < 312) : (lp p).length < 64 := by
  have := List.all_eq_true.1 (show (List.range 312).all (fun p => decide ((lp p).length < 64)) = true from eval_N) p (List.mem_range.2 h)
  simpa using this
theorem lp_last : lp 312 = PL := by kernel_rfl
theorem lp_first : lp 2 = [] := by kernel_rfl
theorem PL_length : PL.length = 64 := by rfl
end Go.Proofs.YtfdhgakalojahaaGreatDoor
