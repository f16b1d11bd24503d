/- Maps by a key and a number, and by versions. -/
import Derived.Test.YtaicemjckagcaaaGreatProg
import Derived.Test.YtaicemjckagcaaaGreatMah
import Derived.Test.YtaicemjckagcaaaGreatMai
namespace Go.Proofs.YtaicemjckagcaaaGreat
set_option linter.unusedVariables false
open Go.RowKit
def spotV (p : Int × Int) : Value := .agg #[.int .i64 p.1, .int .i64 p.2]
def verV (v : Ver) : Value := .agg #[.int .i64 v.tx, .int .i64 v.key, .int .i64 v.nth]
theorem spot_eq (w : World) (x y : Int × Int) : (Op.equal 167 (spotV x) (spotV y)).run Tryz.prog w = .ok (decide (x = y)) w := by
  obtain ⟨a, b⟩ := x
  obtain ⟨a', b'⟩ := y
  unfold spotV
  show (Op.equalIn 10000 _ _ _).run _ w = _
  rw [run_equalIn_struct w _ _ _ _ (by kernel_rfl) (by kernel_rfl)]
  have hI : ∀ (w : World) (d : Nat) (x y : Int), (Op.equalIn (d + 1) 3 (.int .i64 x) (.int .i64 y)).run Tryz.prog w = .ok (x == y) w := fun w d x y => run_equalIn_int w d _ _ _ x y Tryz.underlying3
  by_cases h1 : a = a' <;> by_cases h2 : b = b' <;>
    simp [Program.fieldsOf, Tryz.underlying167, Op.eqFields, part, hI, h1, h2, Result.andThen]
theorem ver_equal (w : World) (x y : Ver) : (Op.equalIn 10000 42 (verV x) (verV y)).run Tryz.prog w = .ok (decide (x = y)) w := by
  obtain ⟨a, b, c⟩ := x
  obtain ⟨a', b', c'⟩ := y
  unfold verV
  rw [run_equalIn_struct w _ _ _ _ (by kernel_rfl) (by kernel_rfl)]
  have hI : ∀ (w : World) (d : Nat) (x y : Int), (Op.equalIn (d + 1) 3 (.int .i64 x) (.int .i64 y)).run Tryz.prog w = .ok (x == y) w := fun w d x y => run_equalIn_int w d _ _ _ x y Tryz.underlying3
  by_cases h1 : a = a' <;> by_cases h2 : b = b' <;> by_cases h3 : c = c' <;>
    simp [Program.fieldsOf, Tryz.underlying42, Op.eqFields, part, hI, h1, h2, h3, Result.andThen]
theorem spot_check (w : World) (e : Bool) (p : Int × Int) : (Instr.checkKey e 10000 167 (spotV p)).run Tryz.prog w = .ok () w := by
  show (Instr.checkKey e (9998 + 1 + 1) _ _).run _ w = _
  generalize 9998 = d
  have hI : ∀ (w : World) (x : Int), (Instr.checkKey e (d + 1) 3 (.int .i64 x)).run Tryz.prog w = .ok () w := fun w x => by unfold Instr.checkKey; simp [run_underlying Tryz.underlying3]
  unfold Instr.checkKey spotV
  simp [run_underlying Tryz.underlying167, ← Array.forIn_toList, part, hI, Result.andThen]
theorem ver_check (w : World) (e : Bool) (p : Ver) : (Instr.checkKey e 10000 42 (verV p)).run Tryz.prog w = .ok () w := by
  show (Instr.checkKey e (9998 + 1 + 1) _ _).run _ w = _
  generalize 9998 = d
  have hI : ∀ (w : World) (x : Int), (Instr.checkKey e (d + 1) 3 (.int .i64 x)).run Tryz.prog w = .ok () w := fun w x => by unfold Instr.checkKey; simp [run_underlying Tryz.underlying3]
  unfold Instr.checkKey verV
  simp [run_underlying Tryz.underlying42, ← Array.forIn_toList, part, hI, Result.andThen]
theorem kbyspot : KeyBy Tryz.prog 167 spotV := KeyBy.agg_ Tryz.underlying167 (fun a => ⟨_, rfl⟩) spot_check (fun a => by simp [spotV, Instr.sameBits]) spot_eq
theorem kbyver : KeyBy Tryz.prog 42 verV := KeyBy.agg_ Tryz.underlying42 (fun a => ⟨_, rfl⟩) ver_check (fun a => by simp [verV, Instr.sameBits]) ver_equal
theorem zeroN (w : World) : (zeroValue 3).run Tryz.prog w = .ok (.int .i64 0) w := by kernel_rfl

/-- the code that an operation at a place gives; 0: none -/
def badAt (id : Int) (l : List HOp) (k : Nat) : Int :=
  match l[k]? with
  | none => 0
  | some o => if opB o = false then 1 else if o.read && o.tx == id && !decide (o.nth ≤ (wrN l o.key k : Int)) then 6 else 0
/-- the first code of the first k -/
def opsErr (id : Int) (l : List HOp) : Nat → Int
  | 0 => 0
  | k + 1 => if opsErr id l k = 0 then badAt id l k else opsErr id l k
def txErr (id : Int) (l : List HOp) : Int := if idB id = false then 1 else if 4095 < l.length then 9 else opsErr id l l.length
/-- what the map of writes tells -/
def WrM (m : List ((Int × Int) × Value)) (l : List HOp) (k : Nat) : Prop :=
  ∀ key n : Int, (mget m (key, n)).getD (.int .i64 0) = .int .i64 (if n = 0 then (wrN l key k : Int) else if 1 ≤ n ∧ n ≤ (wrN l key k : Int) then 1 else 0)
theorem WrM.nil (l : List HOp) : WrM [] l 0 := fun key n => by
  rw [mget_nil]
  have : wrN l key 0 = 0 := rfl
  rw [this]
  by_cases h : n = 0
  · rw [if_pos h]; rfl
  · rw [if_neg h, if_neg (by omega)]; rfl
theorem WrM.skip {m : List ((Int × Int) × Value)} {l : List HOp} {k : Nat} (h : WrM m l k) (hk : k < l.length) (hr : l[k].read = true) : WrM m l (k + 1) := fun key n => by
  rw [wrN_no hk rfl (by unfold isW; rw [hr]; rfl)]
  exact h key n
theorem WrM.put {m : List ((Int × Int) × Value)} {l : List HOp} {k : Nat} {x : HOp} (h : WrM m l k) (hk : k < l.length) (hx : l[k] = x) (hr : x.read = false) :
    WrM (mput (mput m (x.key, 0) (.int .i64 ((wrN l x.key k : Int) + 1))) (x.key, (wrN l x.key k : Int) + 1) (.int .i64 1)) l (k + 1) := fun key n => by
  subst hx
  by_cases hkey : key = l[k].key
  · subst hkey
    rw [wrN_yes hk rfl (by unfold isW; rw [hr]; simp)]
    by_cases h0 : n = 0
    · subst h0
      rw [mget_other _ _ (fun e => by injection e with _ e; omega), mget_same, if_pos rfl]
      rfl
    · rw [if_neg h0]
      by_cases h1 : n = (wrN l l[k].key k : Int) + 1
      · rw [h1, mget_same, if_pos (by omega)]
        rfl
      · rw [mget_other _ _ (fun e => by injection e with _ e; exact h1 e), mget_other _ _ (fun e => by injection e with _ e; exact h0 e), h l[k].key n, if_neg h0]
        by_cases h2 : 1 ≤ n ∧ n ≤ (wrN l l[k].key k : Int)
        · rw [if_pos h2, if_pos (by omega)]
        · rw [if_neg h2, if_neg (by omega)]
  · rw [mget_other _ _ (fun e => by injection e with e _; exact hkey e), mget_other _ _ (fun e => by injection e with e _; exact hkey e), h key n,
      wrN_no hk rfl (by
        unfold isW
        have : (l[k].key == key) = false := by rw [beq_eq_false_iff_ne]; exact fun e => hkey e.symm
        rw [this]; simp)]
end Go.Proofs.YtaicemjckagcaaaGreat
