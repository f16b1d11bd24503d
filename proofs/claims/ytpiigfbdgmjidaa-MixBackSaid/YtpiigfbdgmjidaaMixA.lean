/- Bits mixed: the plain mathematics of the layers' mix, as words of 64 bits. No program in sight. -/
import Derived.WalkKit
namespace Go.Proofs.Ytpiigfbdgmjidaa
open Go.RowKit

/-- a word of 64 bits as a number -/
def u (x : BitVec 64) : Int := (x.toNat : Int)
theorem u_lo (x : BitVec 64) : 0 ≤ u x := Int.natCast_nonneg _
theorem u_hi (x : BitVec 64) : u x < 18446744073709551616 := by have := x.isLt; unfold u; omega
theorem u_inj {x y : BitVec 64} (h : u x = u y) : x = y := BitVec.eq_of_toNat_eq (by unfold u at h; omega)
theorem u_beq (x y : BitVec 64) : (u x == u y) = (x == y) := by
  rw [Bool.eq_iff_iff, beq_iff_eq, beq_iff_eq]
  exact ⟨u_inj, fun h => by rw [h]⟩
theorem u_ofInt (n : Int) (h : 0 ≤ n) (h' : n < 18446744073709551616) : u (BitVec.ofInt 64 n) = n := by
  unfold u
  rw [BitVec.toNat_ofInt]
  have : n % ((2 ^ 64 : Nat) : Int) = n := Int.emod_eq_of_lt h (by simpa using h')
  rw [this]
  omega
/-- a word of 64 bits as Go's value -/
abbrev U (x : BitVec 64) : Value := .int .u64 (u x)

namespace Bv
theorem xor_ (x y : BitVec 64) : bits .xor .u64 (u x) (u y) = u (x ^^^ y) := by
  unfold u; rw [bits_xor_u64_nat _ _ x.isLt y.isLt, BitVec.toNat_xor]
theorem mul_ (x : BitVec 64) (c : Nat) : IntKind.u64.wrap (u x * (c : Int)) = u (x * BitVec.ofNat 64 c) := by
  unfold u
  rw [IntKind.wrap_u64, BitVec.toNat_mul, BitVec.toNat_ofNat]
  simp
theorem mulv (x y : BitVec 64) : IntKind.u64.wrap (u x * u y) = u (x * y) := by
  unfold u
  rw [IntKind.wrap_u64, BitVec.toNat_mul]; simp
theorem addv (x y : BitVec 64) : IntKind.u64.wrap (u x + u y) = u (x + y) := by
  unfold u
  rw [IntKind.wrap_u64, BitVec.toNat_add]; simp
theorem subv (c : Nat) (y : BitVec 64) : IntKind.u64.wrap ((c : Int) - u y) = u (BitVec.ofNat 64 c - y) := by
  unfold u
  rw [IntKind.wrap_u64, BitVec.toNat_sub, BitVec.toNat_ofNat]
  have := y.isLt
  simp only [Nat.reducePow] at *
  omega
theorem addi (x : BitVec 64) (n : Int) : IntKind.u64.wrap (u x + n) = u (x + BitVec.ofInt 64 n) := by
  unfold u
  rw [IntKind.wrap_u64, BitVec.toNat_add, BitVec.toNat_ofInt]
  simp only [Nat.reducePow] at *
  omega
theorem ofi (n : Int) : IntKind.u64.wrap n = u (BitVec.ofInt 64 n) := by
  unfold u
  rw [IntKind.wrap_u64, BitVec.toNat_ofInt]
  simp only [Nat.reducePow] at *
  omega
theorem shr_ (x : BitVec 64) (k : Nat) : u x / ((2 ^ k : Nat) : Int) = u (x >>> k) := by
  unfold u
  rw [BitVec.toNat_ushiftRight, Nat.shiftRight_eq_div_pow]; rfl
theorem shr32 (x : BitVec 64) : u x / (4294967296 : Int) = u (x >>> 32) := shr_ x 32
theorem shr29 (x : BitVec 64) : u x / (536870912 : Int) = u (x >>> 29) := shr_ x 29
theorem shr1 (x : BitVec 64) : u x / (2 : Int) = u (x >>> 1) := shr_ x 1
theorem mulA (x : BitVec 64) : IntKind.u64.wrap (u x * (15485907386658061715 : Int)) = u (x * 15485907386658061715#64) := mul_ x 15485907386658061715
theorem mulB (x : BitVec 64) : IntKind.u64.wrap (u x * (11562461410679940143 : Int)) = u (x * 11562461410679940143#64) := mul_ x 11562461410679940143
theorem sub2 (y : BitVec 64) : IntKind.u64.wrap ((2 : Int) - u y) = u (2#64 - y) := subv 2 y

theorem quo2 (x : BitVec 64) : IntKind.u64.wrap ((u x).tdiv 2) = u (x >>> 1) := by
  rw [IntWalk.u64_quo _ _ ⟨u_lo x, by have := u_hi x; omega, by omega⟩, shr1]

theorem ofInt_add (x y : BitVec 64) : BitVec.ofInt 64 (u x + u y) = x + y := by
  rw [BitVec.ofInt_add]; simp [u]
theorem ofInt_u (x : BitVec 64) : BitVec.ofInt 64 (u x) = x := by simp [u]

def mix (x : BitVec 64) : BitVec 64 :=
  let a := (x ^^^ x >>> 32) * 15485907386658061715#64
  let b := (a ^^^ a >>> 29) * 11562461410679940143#64
  b ^^^ b >>> 32

/-- one turn, and the five turns of the inverse -/
def turn (a x : BitVec 64) : BitVec 64 := x * (2#64 - a * x)
def inv (a : BitVec 64) : BitVec 64 := turn a (turn a (turn a (turn a (turn a a))))
def unmix (x : BitVec 64) : BitVec 64 :=
  let f32 := fun y : BitVec 64 => y ^^^ y >>> 32
  let f29 := fun y : BitVec 64 => y ^^^ (y ^^^ y >>> 29) >>> 29
  f32 (f29 (f32 x * inv 11562461410679940143#64) * inv 15485907386658061715#64)
theorem f32_inv (x : BitVec 64) : (x ^^^ x >>> 32) ^^^ (x ^^^ x >>> 32) >>> 32 = x := by
  have h : x >>> 32 >>> 32 = 0#64 := by
    rw [← BitVec.shiftRight_add]
    exact BitVec.ushiftRight_eq_zero (by omega)
  rw [BitVec.ushiftRight_xor_distrib, h, BitVec.xor_zero, BitVec.xor_assoc, BitVec.xor_self, BitVec.xor_zero]
theorem f29_inv (x : BitVec 64) :
    (x ^^^ x >>> 29) ^^^ ((x ^^^ x >>> 29) ^^^ (x ^^^ x >>> 29) >>> 29) >>> 29 = x := by
  have h : x >>> 29 >>> 29 >>> 29 = 0#64 := by
    rw [← BitVec.shiftRight_add, ← BitVec.shiftRight_add]
    exact BitVec.ushiftRight_eq_zero (by omega)
  simp only [BitVec.ushiftRight_xor_distrib, h, BitVec.xor_zero]
  generalize x >>> 29 = a
  generalize a >>> 29 = b
  have e : a ^^^ b ^^^ b = a := by rw [BitVec.xor_assoc, BitVec.xor_self, BitVec.xor_zero]
  rw [e, BitVec.xor_assoc, BitVec.xor_self, BitVec.xor_zero]
theorem f29_inv' (y : BitVec 64) :
    (y ^^^ (y ^^^ y >>> 29) >>> 29) ^^^ (y ^^^ (y ^^^ y >>> 29) >>> 29) >>> 29 = y := by
  have h : y >>> 29 >>> 29 >>> 29 = 0#64 := by
    rw [← BitVec.shiftRight_add, ← BitVec.shiftRight_add]
    exact BitVec.ushiftRight_eq_zero (by omega)
  simp only [BitVec.ushiftRight_xor_distrib, h, BitVec.xor_zero]
  generalize y >>> 29 = a
  generalize a >>> 29 = b
  rw [BitVec.xor_assoc, BitVec.xor_self, BitVec.xor_zero]
theorem mul_invA (x : BitVec 64) : x * 15485907386658061715#64 * inv 15485907386658061715#64 = x := by
  rw [BitVec.mul_assoc, show 15485907386658061715#64 * inv 15485907386658061715#64 = 1#64 by decide, BitVec.mul_one]
theorem mul_invA' (x : BitVec 64) : x * inv 15485907386658061715#64 * 15485907386658061715#64 = x := by
  rw [BitVec.mul_assoc, show inv 15485907386658061715#64 * 15485907386658061715#64 = 1#64 by decide, BitVec.mul_one]
theorem mul_invB (x : BitVec 64) : x * 11562461410679940143#64 * inv 11562461410679940143#64 = x := by
  rw [BitVec.mul_assoc, show 11562461410679940143#64 * inv 11562461410679940143#64 = 1#64 by decide, BitVec.mul_one]
theorem mul_invB' (x : BitVec 64) : x * inv 11562461410679940143#64 * 11562461410679940143#64 = x := by
  rw [BitVec.mul_assoc, show inv 11562461410679940143#64 * 11562461410679940143#64 = 1#64 by decide, BitVec.mul_one]
theorem unmix_mix (x : BitVec 64) : unmix (mix x) = x := by
  unfold unmix mix
  simp only [f32_inv, mul_invB, f29_inv, mul_invA]
theorem mix_unmix (x : BitVec 64) : mix (unmix x) = x := by
  unfold unmix mix
  simp only [f32_inv, mul_invA', f29_inv', mul_invB']
theorem mix_inj {x y : BitVec 64} (h : mix x = mix y) : x = y := by rw [← unmix_mix x, h, unmix_mix]
theorem mix_beq (x y : BitVec 64) : (mix x == mix y) = (x == y) := by
  rw [Bool.eq_iff_iff, beq_iff_eq, beq_iff_eq]
  exact ⟨mix_inj, fun h => by rw [h]⟩
def ints (h : BitVec 64) (l : List Int) : BitVec 64 := l.foldl (fun h n => mix (h ^^^ BitVec.ofInt 64 n)) h
def fin (h : BitVec 64) (n : Int) : BitVec 64 := mix (h + BitVec.ofInt 64 n)
theorem ints_take (h : BitVec 64) (l : List Int) (k : Nat) (hk : k < l.length) :
    ints h (l.take (k + 1)) = mix (ints h (l.take k) ^^^ BitVec.ofInt 64 l[k]) := by
  unfold ints
  rw [List.take_succ_eq_append_getElem hk, List.foldl_append]
  rfl
theorem ints_append (h : BitVec 64) (a b : List Int) : ints h (a ++ b) = ints (ints h a) b := List.foldl_append
end Bv
end Go.Proofs.Ytpiigfbdgmjidaa
