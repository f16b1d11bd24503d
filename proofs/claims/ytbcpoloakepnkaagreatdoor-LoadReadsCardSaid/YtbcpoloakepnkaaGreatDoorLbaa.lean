/- Bits mixed: the plain mathematics of the layers' mix, as words of 64 bits. No program in sight. -/
import Derived.WalkKit
namespace Go.Proofs.YtbcpoloakepnkaaGreatDoor
set_option linter.unusedVariables false
set_option linter.unusedSimpArgs false
section
open Go.RowKit
def u (x:BitVec 64):Int:=(x.toNat:Int)
theorem Zen (x:BitVec 64):0≤u x:=Int.natCast_nonneg _
theorem Zeo (x:BitVec 64):u x<18446744073709551616:=by have:=x.isLt;unfold u;omega
theorem Zbf (n:Int) (h:0≤n) (h':n<18446744073709551616):u (BitVec.ofInt 64 n)=n:=by
 unfold u;rw[BitVec.toNat_ofInt];have:n%((2 ^ 64:Nat):Int)=n:=Int.emod_eq_of_lt h (by simpa using h');rw[this];omega
abbrev U (x:BitVec 64):Value:= .int .u64 (u x)
namespace Bv
theorem xor_ (x y:BitVec 64):bits .xor .u64 (u x) (u y)=u (x ^^^ y):=by
 unfold u;rw[bits_xor_u64_nat _ _ x.isLt y.isLt,BitVec.toNat_xor]
theorem mul_ (x:BitVec 64) (c:Nat):IntKind.u64.wrap (u x*(c:Int))=u (x*BitVec.ofNat 64 c):=by
 unfold u;rw[IntKind.wrap_u64,BitVec.toNat_mul,BitVec.toNat_ofNat];simp
theorem mulv (x y:BitVec 64):IntKind.u64.wrap (u x*u y)=u (x*y):=by
 unfold u;rw[IntKind.wrap_u64,BitVec.toNat_mul];simp
theorem addv (x y:BitVec 64):IntKind.u64.wrap (u x+u y)=u (x+y):=by
 unfold u;rw[IntKind.wrap_u64,BitVec.toNat_add];simp
theorem subv (c:Nat) (y:BitVec 64):IntKind.u64.wrap ((c:Int)-u y)=u (BitVec.ofNat 64 c-y):=by
 unfold u;rw[IntKind.wrap_u64,BitVec.toNat_sub,BitVec.toNat_ofNat];have:=y.isLt;simp only[Nat.reducePow]at*;omega
theorem shr_ (x:BitVec 64) (k:Nat):u x/((2 ^ k:Nat):Int)=u (x >>> k):=by
 unfold u;rw[BitVec.toNat_ushiftRight,Nat.shiftRight_eq_div_pow];rfl
theorem shr32 (x:BitVec 64):u x/(4294967296:Int)=u (x >>> 32):=shr_ x 32
theorem shr29 (x:BitVec 64):u x/(536870912:Int)=u (x >>> 29):=shr_ x 29
theorem shr1 (x:BitVec 64):u x/(2:Int)=u (x >>> 1):=shr_ x 1
theorem mulA (x:BitVec 64):IntKind.u64.wrap (u x*(15485907386658061715:Int))=u (x*15485907386658061715#64):=mul_ x 15485907386658061715
theorem mulB (x:BitVec 64):IntKind.u64.wrap (u x*(11562461410679940143:Int))=u (x*11562461410679940143#64):=mul_ x 11562461410679940143
theorem sub2 (y:BitVec 64):IntKind.u64.wrap ((2:Int)-u y)=u (2#64-y):=subv 2 y
theorem quo2 (x:BitVec 64):IntKind.u64.wrap ((u x).tdiv 2)=u (x >>> 1):=by
 rw[IntWalk.u64_quo _ _ ⟨Zen x,by have:=Zeo x;omega,by omega⟩,shr1]
def mix (x:BitVec 64):BitVec 64:=
 let a:=(x ^^^ x >>> 32)*15485907386658061715#64
 let b:=(a ^^^ a >>> 29)*11562461410679940143#64
 b ^^^ b >>> 32
def ints (h:BitVec 64) (l:List Int):BitVec 64:=l.foldl (fun h n=>mix (h ^^^ BitVec.ofInt 64 n)) h
end Bv
end
end Go.Proofs.YtbcpoloakepnkaaGreatDoor
