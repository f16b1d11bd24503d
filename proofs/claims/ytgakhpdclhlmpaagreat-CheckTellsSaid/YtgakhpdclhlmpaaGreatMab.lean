/- Maps that the calls themselves make: what is in them, by key, whatever the kind of keys and elements. -/
import Derived.WideLaws
import Derived.Laws.StructEq
import Derived.Test.YtgakhpdclhlmpaaGreatProg
import Derived.Shelf.Sort.Plain
import Derived.Ground.NamesProg
import Derived.Shelf.SlGeneric
import Derived.Shelf.SlicesG.Equal
import Derived.Ground.SlgnProg
import Derived.Lib.SliceRun
import Derived.Shelf.Slices.In.SortNone
import Derived.Test.YtgakhpdclhlmpaaGreatMaa
namespace Go.Proofs.YtgakhpdclhlmpaaGreat
set_option linter.unusedVariables false
open Go.RowKit

section
variable {α : Type} [DecidableEq α]
/-- the first entry of a key, and its place -/
def look (a : α) : List (α × Value) → Nat → Option (Nat × Value)
  | [], _ => none
  | p :: l, i => if a = p.1 then some (i, p.2) else look a l (i + 1)
def mget (m : List (α × Value)) (a : α) : Option Value := (look a m 0).map (·.2)
def mput (m : List (α × Value)) (a : α) (v : Value) : List (α × Value) :=
  match look a m 0 with
  | some (i, _) => m.modify i fun p => (p.1, v)
  | none => m ++ [(a, v)]
/-- keys of a type, as values: they are found as they are -/
structure KeyBy (P : Program) (kt : TypeId) (enc : α → Value) : Prop where
  check : ∀ (w : World) (e : Bool) (a : α), (Instr.checkKey e 10000 kt (enc a)).run P w = .ok () w
  bits : ∀ a, Instr.sameBits 10000 (enc a) (enc a) = true
  find : ∀ (w : World) (a : α) (es : List MapEntry) (m : List (α × Value)), es.map (fun e => (e.key, e.val)) = m.map (fun p => (enc p.1, p.2)) →
    (Instr.findKey kt (enc a) es).run P w = .ok (look a m 0) w

/-- block b is a map of just these entries -/
def MapIs (w : World) (b : Nat) (enc : α → Value) (m : List (α × Value)) : Prop :=
  ∃ es clock, w.heap[b]? = some (.map es clock) ∧ es.toList.map (fun e => (e.key, e.val)) = m.map (fun p => (enc p.1, p.2))
end

section
variable {α : Type} [DecidableEq α] {P : Program} {w w' : World} {b : Nat} {enc : α → Value} {m : List (α × Value)} {S : Nat → Prop} {t kt et : TypeId}
omit [DecidableEq α] in
theorem MapIs.lt (h : MapIs w b enc m) : b < w.heap.size := by
  obtain ⟨es, c, hb, _⟩ := h
  exact (Array.getElem?_eq_some_iff.1 hb).1
omit [DecidableEq α] in
theorem MapIs.upd (h : MapIs w b enc m) (k : Upd S w w') (hn : ¬ S b) : MapIs w' b enc m := by
  have hl := h.lt
  obtain ⟨es, c, hb, he⟩ := h
  exact ⟨es, c, (k.block b hl hn).trans hb, he⟩
omit [DecidableEq α] in
theorem MapIs.new (w : World) (enc : α → Value) : MapIs (w.alloc (.map #[] 0)) w.heap.size enc ([] : List (α × Value)) := ⟨#[], 0, heap_alloc_new w _, rfl⟩

theorem find_asking {a : α} (heq : ∀ (w : World) (x y : α), (Op.equal kt (enc x) (enc y)).run P w = .ok (decide (x = y)) w) (w : World) :
    ∀ (es : List MapEntry) (m : List (α × Value)) (i : Nat), es.map (fun e => (e.key, e.val)) = m.map (fun p => (enc p.1, p.2)) → (Instr.findAsking kt (enc a) es i).run P w = .ok (look a m i) w
  | [], [], i, _ => by simp [Instr.findAsking, look]
  | [], p :: m, i, h => by simp at h
  | e :: es, [], i, h => by simp at h
  | e :: es, p :: m, i, h => by
    simp only [List.map_cons, List.cons.injEq, Prod.mk.injEq] at h
    obtain ⟨⟨hk, hv⟩, hr⟩ := h
    have ih := find_asking (a := a) heq w es m (i + 1) hr
    simp only [Instr.findAsking, Sem.run_bind, hk, heq, Result.andThen, look]
    by_cases hab : a = p.1
    · simp [hab, hv]
    · simp [hab, ih]
theorem find_now {a : α} {d : TypeDesc} (heq : ∀ (x y : α), Instr.sameNow d (enc x) (enc y) = some (decide (x = y))) :
    ∀ (es : List MapEntry) (m : List (α × Value)) (i : Nat), es.map (fun e => (e.key, e.val)) = m.map (fun p => (enc p.1, p.2)) → Instr.findNow d (enc a) es i = some (look a m i)
  | [], [], i, _ => rfl
  | [], p :: m, i, h => by simp at h
  | e :: es, [], i, h => by simp at h
  | e :: es, p :: m, i, h => by
    simp only [List.map_cons, List.cons.injEq, Prod.mk.injEq] at h
    obtain ⟨⟨hk, hv⟩, hr⟩ := h
    have ih := find_now (a := a) heq es m (i + 1) hr
    simp only [Instr.findNow, hk, heq, look]
    by_cases hab : a = p.1
    · simp [hab, hv]
    · simp [hab, ih]
theorem KeyBy.int_ {k k' : IntKind} (ht : P.underlying kt = some (.int k')) : KeyBy P kt (fun n : Int => Value.int k n) where
  check w e a := by unfold Instr.checkKey; simp [run_underlying ht]
  bits a := by simp [Instr.sameBits]
  find w a es m h := by
    have := find_now (a := a) (enc := fun n : Int => Value.int k n) (d := .int k') (fun x y => by simp [Instr.sameNow]; rfl) es m 0 h
    simp [Instr.findKey, run_underlying ht, this]

theorem run_look (K : KeyBy P kt enc) (ht : P.underlying t = some (.map kt et)) {z : Value} (hz : ∀ w : World, (zeroValue et).run P w = .ok z w) (h : MapIs w b enc m) (a : α) :
    (Instr.lookup t (.map (some b)) (enc a) false).run P w = .ok ((mget m a).getD z) w := by
  obtain ⟨es, c, hb, he⟩ := h
  simp only [Instr.lookup, run_underlying ht, Sem.run_bind, Result.andThen, run_getObj_map w b es c hb, Sem.run_pure, K.check, K.find w a _ _ he, mget]
  cases look a m 0 with
  | none => simp [hz, Result.andThen]
  | some p => simp
theorem look_lt (a : α) : ∀ (m : List (α × Value)) (i : Nat) (r : Nat × Value), look a m i = some r → i ≤ r.1 ∧ m[r.1 - i]? = some (a, r.2)
  | [], i, r, h => by simp [look] at h
  | p :: m, i, r, h => by
    unfold look at h
    split at h
    · rename_i hab
      cases h
      subst hab
      simp
    · obtain ⟨h1, h2⟩ := look_lt a m (i + 1) r h
      refine ⟨by omega, ?_⟩
      rw [show r.1 - i = (r.1 - (i + 1)) + 1 by omega, List.getElem?_cons_succ]
      exact h2
theorem setObj_upd (w : World) (b : Nat) (o : Obj) : Upd (One b) w { w with heap := w.heap.setIfInBounds b o } :=
  ⟨rfl, rfl, rfl, by simp, fun k _ hn => by
    show (w.heap.setIfInBounds b o)[k]? = w.heap[k]?
    rw [Array.getElem?_setIfInBounds_ne (fun e => hn (by exact e.symm))]⟩
theorem run_put (K : KeyBy P kt enc) (ht : P.underlying t = some (.map kt et)) (h : MapIs w b enc m) (a : α) (v : Value) :
    ∃ w', (Instr.mapUpdate t (.map (some b)) (enc a) v).run P w = .ok () w' ∧ MapIs w' b enc (mput m a v) ∧ Upd (One b) w w' := by
  have hl := h.lt
  obtain ⟨es, c, hb, he⟩ := h
  cases hlk : look a m 0 with
  | none =>
    refine ⟨{ w with heap := w.heap.setIfInBounds b (.map (es.push { key := enc a, val := v, born := c }) (c + 1)) }, ?_, ⟨es.push { key := enc a, val := v, born := c }, c + 1, ?_, ?_⟩, setObj_upd w b _⟩
    · simp only [Instr.mapUpdate, run_underlying ht, Sem.run_bind, Result.andThen, run_getObj_map w b es c hb, K.check, K.find w a _ _ he, hlk]
      exact Go.MapKept.run_setObj_map _ hb
    · show (w.heap.setIfInBounds b _)[b]? = _
      simp [hl]
    · simp [mput, hlk, he]
  | some r =>
    obtain ⟨_, hr⟩ := look_lt a m 0 r hlk
    rw [Nat.sub_zero] at hr
    have hke : (es.toList.map (fun e => (e.key, e.val)))[r.1]? = some (enc a, r.2) := by rw [he, List.getElem?_map, hr]; rfl
    rw [List.getElem?_map, Option.map_eq_some_iff] at hke
    obtain ⟨e0, he0, hee⟩ := hke
    have hkk : ((es[r.1]?).map (·.key)).getD (enc a) = enc a := by
      rw [← Array.getElem?_toList, he0]
      simp only [Option.map_some, Option.getD_some]
      exact congrArg Prod.fst hee
    refine ⟨{ w with heap := w.heap.setIfInBounds b (.map (es.modify r.1 fun e => { e with key := enc a, val := v }) c) }, ?_, ⟨es.modify r.1 fun e => { e with key := enc a, val := v }, c, ?_, ?_⟩, setObj_upd w b _⟩
    · simp only [Instr.mapUpdate, run_underlying ht, Sem.run_bind, Result.andThen, run_getObj_map w b es c hb, K.check, K.find w a _ _ he, hlk, hkk, Instr.keyThatStays, K.bits, if_true, Sem.run_pure]
      exact Go.MapKept.run_setObj_map _ hb
    · show (w.heap.setIfInBounds b _)[b]? = _
      simp [hl]
    · simp only [mput, hlk, Array.toList_modify]
      apply List.ext_getElem?
      intro j
      have hj : (es.toList.map (fun e => (e.key, e.val)))[j]? = (m.map (fun p => (enc p.1, p.2)))[j]? := by rw [he]
      simp only [List.getElem?_map, List.getElem?_modify] at hj ⊢
      by_cases hij : r.1 = j
      · subst hij
        rw [hr, he0]
        simp
      · cases h1 : es.toList[j]? <;> cases h2 : m[j]? <;> rw [h1, h2] at hj <;> simp_all
omit [DecidableEq α] in
theorem run_mlen (ht : P.underlying t = some (.map kt et)) (h : MapIs w b enc m) (ty : TypeId) : (Builtin.len_ #[t] ty #[.map (some b)]).run P w = .ok (.int .i64 m.length) w := by
  obtain ⟨es, c, hb, he⟩ := h
  have hl : es.size = m.length := by have := congrArg List.length he; simpa using this
  simp [Builtin.len_, run_underlying ht, Result.andThen, run_getObj_map w b es c hb, hl]
  rfl

/-- a store into a map of the call's own, in a plain region -/
theorem mapput {ops : Array Oper} {rest : List Oper} {o : Oper} {ac : Act} {Q : Exit → Act → World → Prop} (hgd : o.guard = none) {x y v : Operand}
    (ho : o.op = .mapUpdate t x y v) (K : KeyBy P kt enc) (ht : P.underlying t = some (.map kt et)) {a : α} {val : Value} (hx : ac.eval x = .map (some b)) (hy : ac.eval y = enc a) (hv : ac.eval v = val)
    (h : MapIs w b enc m) (hk : ∀ w', MapIs w' b enc (mput m a val) → Upd (One b) w w' → wpList P ops Q rest (ac.put o.dst undef) w') : wpList P ops Q (o :: rest) ac w := by
  obtain ⟨w', hr, h1, h2⟩ := run_put K ht h a val
  refine wpList_plain hgd fun _ hK => ?_
  unfold Oper.wp
  simp [execOp, ho, hx, hy, hv, hr, Result.andThen]
  exact hK _ _ (hk w' h1 h2)
end

end Go.Proofs.YtgakhpdclhlmpaaGreat

/- Maps that the calls themselves make: what is got behind a put; keys that are structs. -/
namespace Go.Proofs.YtgakhpdclhlmpaaGreat
set_option linter.unusedVariables false
open Go.RowKit

section
variable {α : Type} [DecidableEq α]
theorem look_app (a b : α) (v : Value) : ∀ (m : List (α × Value)) (i : Nat), look a m i = none → (look b (m ++ [(a, v)]) i).map (·.2) = if b = a then some v else (look b m i).map (·.2)
  | [], i, _ => by
    by_cases h : b = a <;> simp [look, h]
  | p :: m, i, h => by
    unfold look at h
    split at h
    · cases h
    · rename_i hne
      have ih := look_app a b v m (i + 1) h
      simp only [List.cons_append, look]
      by_cases hb : b = p.1
      · rw [if_pos hb, if_pos hb, if_neg (by rw [hb]; exact fun e => hne e.symm)]
      · rw [if_neg hb, if_neg hb]
        exact ih
theorem look_mod (a b : α) (v : Value) : ∀ (m : List (α × Value)) (i : Nat) (r : Nat × Value), look a m i = some r → (look b (m.modify (r.1 - i) fun p => (p.1, v)) i).map (·.2) = if b = a then some v else (look b m i).map (·.2)
  | [], i, r, h => by simp [look] at h
  | p :: m, i, r, h => by
    have hl := look_lt a (p :: m) i r h
    unfold look at h
    split at h
    · rename_i hab
      cases h
      simp only [Nat.sub_self, List.modify_zero_cons, look]
      by_cases hb : b = a
      · rw [if_pos (by rw [hb, hab]), if_pos hb]
        rfl
      · rw [if_neg (by rw [← hab]; exact hb), if_neg hb, if_neg (by rw [← hab]; exact hb)]
    · rename_i hne
      have h1 := (look_lt a m (i + 1) r h).1
      have ih := look_mod a b v m (i + 1) r h
      rw [show r.1 - i = (r.1 - (i + 1)) + 1 by omega, List.modify_succ_cons]
      simp only [look]
      by_cases hb : b = p.1
      · rw [if_pos hb, if_pos hb, if_neg (by rw [hb]; exact fun e => hne e.symm)]
      · rw [if_neg hb, if_neg hb]
        exact ih
theorem mget_mput (m : List (α × Value)) (a b : α) (v : Value) : mget (mput m a v) b = if b = a then some v else mget m b := by
  unfold mget mput
  cases h : look a m 0 with
  | none => exact look_app a b v m 0 h
  | some r =>
    have := look_mod a b v m 0 r h
    rw [Nat.sub_zero] at this
    exact this
theorem mget_same (m : List (α × Value)) (a : α) (v : Value) : mget (mput m a v) a = some v := by rw [mget_mput, if_pos rfl]
theorem mget_other (m : List (α × Value)) {a b : α} (v : Value) (h : b ≠ a) : mget (mput m a v) b = mget m b := by rw [mget_mput, if_neg h]
theorem mget_nil (a : α) : mget ([] : List (α × Value)) a = none := rfl
end

theorem KeyBy.agg_ {α : Type} [DecidableEq α] {P : Program} {kt : TypeId} {enc : α → Value} {fs : Array Field} (ht : P.underlying kt = some (.struct fs)) (hagg : ∀ a, ∃ cs, enc a = .agg cs)
    (hc : ∀ (w : World) (e : Bool) (a : α), (Instr.checkKey e 10000 kt (enc a)).run P w = .ok () w) (hb : ∀ a, Instr.sameBits 10000 (enc a) (enc a) = true)
    (heq : ∀ (w : World) (x y : α), (Op.equal kt (enc x) (enc y)).run P w = .ok (decide (x = y)) w) : KeyBy P kt enc := by
  refine ⟨hc, hb, fun w a es m h => ?_⟩
  have h2 := find_asking (a := a) (enc := enc) heq w es m 0 h
  unfold Instr.findKey
  obtain ⟨cs, ha⟩ := hagg a
  cases es with
  | nil =>
    cases m with
    | nil => simp [run_underlying ht, Instr.findNow, look]
    | cons p m => simp at h
  | cons e es =>
    have hn : Instr.findNow (.struct fs) (enc a) (e :: es) 0 = none := by
      unfold Instr.findNow
      rw [ha]
      simp [Instr.sameNow]
    simp [run_underlying ht, hn, h2]
end Go.Proofs.YtgakhpdclhlmpaaGreat

/- Operations and versions: which are right, by the program and by the document. -/
namespace Go.Proofs.YtgakhpdclhlmpaaGreat
set_option linter.unusedVariables false
open Go.RowKit
def errI (b : Bool) : Int := if b then 0 else 1
theorem pid (w : World) (n : Int) : Calls Tryz.prog 85 #[.int .i64 n] w fun e w' => e = .returned (.bool (idB n)) ∧ w = w' := by
  unfold idB
  by_cases h1 : 1 ≤ n
  · by_cases h2 : n ≤ 1048575
    · go_enter Tryz.func85, Tryz.ntmps85
      go_wp2
      go_ret
      exact ⟨by rw [decide_eq_true h1, decide_eq_true h2]; rfl, rfl⟩
    · go_enter Tryz.func85, Tryz.ntmps85
      go_wp2
      go_ret
      exact ⟨by rw [decide_eq_false (show ¬ n ≤ 1048575 by omega)]; rfl, rfl⟩
  · go_enter Tryz.func85, Tryz.ntmps85
    go_wp2
    go_ret
    exact ⟨by rw [decide_eq_false (show ¬ 1 ≤ n by omega), Bool.false_and]; rfl, rfl⟩
theorem rid (w : World) (n : Int) : Calls Tryz.prog 63 #[.int .i64 n] w fun e w' => e = .returned (.bool (idB n)) ∧ w = w' := by
  unfold idB
  by_cases h1 : 1 ≤ n
  · by_cases h2 : n ≤ 1048575
    · go_enter Tryz.func63, Tryz.ntmps63
      go_wp2
      go_ret
      exact ⟨by rw [decide_eq_true h1, decide_eq_true h2]; rfl, rfl⟩
    · go_enter Tryz.func63, Tryz.ntmps63
      go_wp2
      go_ret
      exact ⟨by rw [decide_eq_false (show ¬ n ≤ 1048575 by omega)]; rfl, rfl⟩
  · go_enter Tryz.func63, Tryz.ntmps63
    go_wp2
    go_ret
    exact ⟨by rw [decide_eq_false (show ¬ 1 ≤ n by omega), Bool.false_and]; rfl, rfl⟩
theorem pidV {w : World} {n : Int} {b : Bool} (h : idB n = b) : Calls Tryz.prog 85 #[.int .i64 n] w fun e w' => e = .returned (.bool b) ∧ w = w' := by subst h; exact pid w n
theorem ridV {w : World} {n : Int} {b : Bool} (h : idB n = b) : Calls Tryz.prog 63 #[.int .i64 n] w fun e w' => e = .returned (.bool b) ∧ w = w' := by subst h; exact rid w n
/-- a number, and an error that tells whether it is right -/
def Numbered (w : World) (b : Bool) (e : Ending) (w' : World) : Prop := ∃ x, e = .returned (.tuple #[.int .u64 x, .int .i64 (errI b)]) ∧ Upd No w w'
theorem bne_of {b : Bool} (h : ¬ b = true) : b = false := by simpa using h
set_option maxRecDepth 100000 in
set_option maxHeartbeats 1000000 in
theorem pver (w : World) (v : Ver) : Calls Tryz.prog 72 #[.agg v.cells.toArray] w (Numbered w (verB v)) := by
  unfold Ver.cells
  have i0 : idB 0 = false := by decide
  by_cases ht : v.tx = 0
  · by_cases hn : v.nth = 0
    · by_cases hk : idB v.key = true
      · have hv := Lib.hid (show verB v = true by unfold verB; rw [hk, ht, hn]; rfl)
        rw [ht, hn]
        clear ht hn i0
        have Hk := Lib.hid hk
        clear hk
        go_enter Tryz.func72, Tryz.ntmps72
        go_wp2_with fail
        refine (pidV Hk.out).mono ?_
        rintro e w1 ⟨rfl, rfl⟩
        go_wp2
        go_ret2
        exact ⟨_, by rw [hv.out]; rfl, (Upd.refl _ _).alloc _⟩
      · have hv := Lib.hid (show verB v = false by unfold verB; rw [bne_of hk]; rfl)
        rw [ht, hn]
        clear ht hn i0
        have Hk := Lib.hid (bne_of hk)
        clear hk
        go_enter Tryz.func72, Tryz.ntmps72
        go_wp2_with fail
        refine (pidV Hk.out).mono ?_
        rintro e w1 ⟨rfl, rfl⟩
        go_wp2
        go_ret2
        exact ⟨_, by rw [hv.out]; rfl, (Upd.refl _ _).alloc _⟩
    · have hv := Lib.hid (show verB v = false by
        have : (v.nth == 0) = false := by simpa using hn
        unfold verB; rw [ht, this, i0]; simp)
      rw [ht]
      clear ht
      have Hi := Lib.hid i0
      clear i0
      have hnb : (v.nth == 0) = false := by simpa using hn
      have Hn := Lib.hid hn
      clear hn
      go_enter Tryz.func72, Tryz.ntmps72
      go_wp2_with fail
      refine (pidV Hi.out).mono ?_
      rintro e w1 ⟨rfl, rfl⟩
      go_wp2
      go_ret2
      exact ⟨_, by rw [hv.out]; rfl, (Upd.refl _ _).alloc _⟩
  · have htb : (v.tx == 0) = false := by simpa using ht
    have Ht := Lib.hid ht
    clear ht i0
    by_cases hi : idB v.tx = true
    · have Hi := Lib.hid hi
      clear hi
      by_cases h1 : v.nth < 1
      · have hv := Lib.hid (show verB v = false by
          unfold verB; rw [htb, Hi.out, decide_eq_false (show ¬ 1 ≤ v.nth by omega)]; simp)
        go_enter Tryz.func72, Tryz.ntmps72
        go_wp2_with fail
        refine (pidV Hi.out).mono ?_
        rintro e w1 ⟨rfl, rfl⟩
        go_wp2
        go_ret2
        exact ⟨_, by rw [hv.out]; rfl, (Upd.refl _ _).alloc _⟩
      · by_cases h2 : 4095 < v.nth
        · have hv := Lib.hid (show verB v = false by
            unfold verB; rw [htb, Hi.out, decide_eq_false (show ¬ v.nth ≤ 4095 by omega)]; simp)
          go_enter Tryz.func72, Tryz.ntmps72
          go_wp2_with fail
          refine (pidV Hi.out).mono ?_
          rintro e w1 ⟨rfl, rfl⟩
          go_wp2
          go_ret2
          exact ⟨_, by rw [hv.out]; rfl, (Upd.refl _ _).alloc _⟩
        · by_cases hk : idB v.key = true
          · have hv := Lib.hid (show verB v = true by
              unfold verB; rw [htb, Hi.out, hk, decide_eq_true (show v.nth ≤ 4095 by omega), decide_eq_true (show 1 ≤ v.nth by omega)]; rfl)
            have Hk := Lib.hid hk
            clear hk
            go_enter Tryz.func72, Tryz.ntmps72
            go_wp2_with fail
            refine (pidV Hi.out).mono ?_
            rintro e w1 ⟨rfl, rfl⟩
            go_wp2_with fail
            refine (pidV Hk.out).mono ?_
            rintro e w1 ⟨rfl, rfl⟩
            go_wp2
            go_ret2
            exact ⟨_, by rw [hv.out]; rfl, (Upd.refl _ _).alloc _⟩
          · have hv := Lib.hid (show verB v = false by unfold verB; rw [bne_of hk]; rfl)
            have Hk := Lib.hid (bne_of hk)
            clear hk
            go_enter Tryz.func72, Tryz.ntmps72
            go_wp2_with fail
            refine (pidV Hi.out).mono ?_
            rintro e w1 ⟨rfl, rfl⟩
            go_wp2_with fail
            refine (pidV Hk.out).mono ?_
            rintro e w1 ⟨rfl, rfl⟩
            go_wp2
            go_ret2
            exact ⟨_, by rw [hv.out]; rfl, (Upd.refl _ _).alloc _⟩
    · have hv := Lib.hid (show verB v = false by unfold verB; rw [htb, bne_of hi]; simp)
      have Hi := Lib.hid (bne_of hi)
      clear hi
      go_enter Tryz.func72, Tryz.ntmps72
      go_wp2_with fail
      refine (pidV Hi.out).mono ?_
      rintro e w1 ⟨rfl, rfl⟩
      go_wp2
      go_ret2
      exact ⟨_, by rw [hv.out]; rfl, (Upd.refl _ _).alloc _⟩
end Go.Proofs.YtgakhpdclhlmpaaGreat

/- Operations: the version that they read, whether they are right. -/
namespace Go.Proofs.YtgakhpdclhlmpaaGreat
set_option linter.unusedVariables false
open Go.RowKit
theorem hop_eq (w : World) (x y : HOp) : (Op.equalIn 10000 53 (.agg x.cells.toArray) (.agg y.cells.toArray)).run Tryz.prog w = .ok (decide (x = y)) w := by
  obtain ⟨a, b, c, d⟩ := x
  obtain ⟨a', b', c', d'⟩ := y
  unfold HOp.cells
  rw [run_equalIn_struct w _ _ _ _ (by kernel_rfl) (by kernel_rfl)]
  have hI : ∀ (w : World) (d : Nat) (x y : Int), (Op.equalIn (d + 1) 3 (.int .i64 x) (.int .i64 y)).run Tryz.prog w = .ok (x == y) w := fun w d x y => run_equalIn_int w d _ _ _ x y Tryz.underlying3
  have hB : ∀ (w : World) (d : Nat) (x y : Bool), (Op.equalIn (d + 1) 4 (.bool x) (.bool y)).run Tryz.prog w = .ok (x == y) w := fun w d x y => run_equalIn_bool w d _ x y Tryz.underlying4
  by_cases h1 : a = a' <;> by_cases h2 : b = b' <;> by_cases h3 : c = c' <;> by_cases h4 : d = d' <;>
    simp [Program.fieldsOf, Tryz.underlying53, Op.eqFields, part, hI, hB, h1, h2, h3, h4, Result.andThen]
theorem hop_neq (w : World) (x y : HOp) : (binOp .neq 53 (.agg #[.bool x.read, .int .i64 x.key, .int .i64 x.tx, .int .i64 x.nth]) (.agg #[.bool y.read, .int .i64 y.key, .int .i64 y.tx, .int .i64 y.nth])).run Tryz.prog w = .ok (.bool (x != y)) w := by
  rw [run_neq_struct]
  have := hop_eq w x y
  unfold HOp.cells at this
  rw [this]
  simp only [Result.andThen]
  by_cases h : x = y <;> simp [h]
theorem oof (w : World) (o : HOp) : Calls Tryz.prog 48 #[.agg o.cells.toArray] w fun e w' => e = .returned (.agg (verOf o).cells.toArray) ∧ Upd No w w' := by
  obtain ⟨r, k, t, n⟩ := o
  cases r
  · unfold HOp.cells
    go_enter Tryz.func48, Tryz.ntmps48
    go_wp2
    exact bodyPost_ret (v := .agg #[.int .i64 0, .int .i64 0, .int .i64 0]) (by simp [results, Tryz.results48, go_sem]) rfl ⟨rfl, ((Upd.refl _ _).alloc _).alloc _⟩
  · unfold HOp.cells
    go_enter Tryz.func48, Tryz.ntmps48
    go_wp2
    exact bodyPost_ret (v := .agg #[.int .i64 t, .int .i64 k, .int .i64 n]) (by simp [results, Tryz.results48, go_sem]) rfl ⟨rfl, ((Upd.refl _ _).alloc _).alloc _⟩
theorem rof (w : World) (o : HOp) : Calls Tryz.prog 20 #[.agg o.cells.toArray] w fun e w' => e = .returned (.agg (verOf o).cells.toArray) ∧ Upd No w w' := by
  obtain ⟨r, k, t, n⟩ := o
  cases r
  · unfold HOp.cells
    go_enter Tryz.func20, Tryz.ntmps20
    go_wp2
    exact bodyPost_ret (v := .agg #[.int .i64 0, .int .i64 0, .int .i64 0]) (by simp [results, Tryz.results20, go_sem]) rfl ⟨rfl, ((Upd.refl _ _).alloc _).alloc _⟩
  · unfold HOp.cells
    go_enter Tryz.func20, Tryz.ntmps20
    go_wp2
    exact bodyPost_ret (v := .agg #[.int .i64 t, .int .i64 k, .int .i64 n]) (by simp [results, Tryz.results20, go_sem]) rfl ⟨rfl, ((Upd.refl _ _).alloc _).alloc _⟩
theorem rver (w : World) (v : Ver) : Calls Tryz.prog 81 #[.agg v.cells.toArray] w fun e w' => e = .returned (.bool (verB v)) ∧ Upd No w w' := by
  unfold Ver.cells
  have i0 : idB 0 = false := by decide
  by_cases ht : v.tx = 0
  · by_cases hk : idB v.key = true
    · have hv := Lib.hid (show verB v = (v.nth == 0) by unfold verB; rw [hk, ht, i0]; simp)
      rw [ht]
      have Hk := Lib.hid hk
      clear ht hk i0
      by_cases hn : v.nth = 0
      · have hnb : (v.nth == 0) = true := by simpa using hn
        have Hn := Lib.hid hn
        clear hn
        go_enter Tryz.func81, Tryz.ntmps81
        go_wp2_with fail
        refine (ridV Hk.out).mono ?_
        rintro e w1 ⟨rfl, rfl⟩
        go_wp2
        go_ret
        exact ⟨by rw [hv.out, hnb]; rfl, (Upd.refl _ _).alloc _⟩
      · have hnb : (v.nth == 0) = false := by simpa using hn
        have Hn := Lib.hid hn
        clear hn
        go_enter Tryz.func81, Tryz.ntmps81
        go_wp2_with fail
        refine (ridV Hk.out).mono ?_
        rintro e w1 ⟨rfl, rfl⟩
        go_wp2
        go_ret
        exact ⟨by rw [hv.out, hnb]; rfl, (Upd.refl _ _).alloc _⟩
    · have hv := Lib.hid (show verB v = false by unfold verB; rw [bne_of hk]; rfl)
      rw [ht]
      have Hk := Lib.hid (bne_of hk)
      clear ht hk i0
      go_enter Tryz.func81, Tryz.ntmps81
      go_wp2_with fail
      refine (ridV Hk.out).mono ?_
      rintro e w1 ⟨rfl, rfl⟩
      go_wp2
      go_ret
      exact ⟨by rw [hv.out]; rfl, (Upd.refl _ _).alloc _⟩
  · have htb : (v.tx == 0) = false := by simpa using ht
    have Ht := Lib.hid ht
    clear ht i0
    by_cases hi : idB v.tx = true
    · have Hi := Lib.hid hi
      clear hi
      by_cases hk : idB v.key = true
      · have Hk := Lib.hid hk
        clear hk
        by_cases h1 : 1 ≤ v.nth
        · by_cases h2 : v.nth ≤ 4095
          · have hv := Lib.hid (show verB v = true by unfold verB; rw [htb, Hi.out, Hk.out, decide_eq_true h1, decide_eq_true h2]; rfl)
            go_enter Tryz.func81, Tryz.ntmps81
            go_wp2_with fail
            refine (ridV Hi.out).mono ?_
            rintro e w1 ⟨rfl, rfl⟩
            go_wp2_with fail
            refine (ridV Hk.out).mono ?_
            rintro e w1 ⟨rfl, rfl⟩
            go_wp2
            go_ret
            exact ⟨by rw [hv.out]; rfl, (Upd.refl _ _).alloc _⟩
          · have hv := Lib.hid (show verB v = false by unfold verB; rw [htb, Hi.out, Hk.out, decide_eq_false h2]; simp)
            have h2b : decide (v.nth ≤ 4095) = false := decide_eq_false h2
            go_enter Tryz.func81, Tryz.ntmps81
            go_wp2_with fail
            refine (ridV Hi.out).mono ?_
            rintro e w1 ⟨rfl, rfl⟩
            go_wp2_with fail
            refine (ridV Hk.out).mono ?_
            rintro e w1 ⟨rfl, rfl⟩
            go_wp2
            go_ret
            exact ⟨by rw [hv.out]; rfl, (Upd.refl _ _).alloc _⟩
        · have hv := Lib.hid (show verB v = false by unfold verB; rw [htb, Hi.out, Hk.out, decide_eq_false h1]; simp)
          go_enter Tryz.func81, Tryz.ntmps81
          go_wp2_with fail
          refine (ridV Hi.out).mono ?_
          rintro e w1 ⟨rfl, rfl⟩
          go_wp2_with fail
          refine (ridV Hk.out).mono ?_
          rintro e w1 ⟨rfl, rfl⟩
          go_wp2
          go_ret
          exact ⟨by rw [hv.out]; rfl, (Upd.refl _ _).alloc _⟩
      · have hv := Lib.hid (show verB v = false by unfold verB; rw [bne_of hk]; rfl)
        have Hk := Lib.hid (bne_of hk)
        clear hk
        go_enter Tryz.func81, Tryz.ntmps81
        go_wp2_with fail
        refine (ridV Hi.out).mono ?_
        rintro e w1 ⟨rfl, rfl⟩
        go_wp2_with fail
        refine (ridV Hk.out).mono ?_
        rintro e w1 ⟨rfl, rfl⟩
        go_wp2
        go_ret
        exact ⟨by rw [hv.out]; rfl, (Upd.refl _ _).alloc _⟩
    · have hv := Lib.hid (show verB v = false by unfold verB; rw [htb, bne_of hi]; simp)
      have Hi := Lib.hid (bne_of hi)
      clear hi
      go_enter Tryz.func81, Tryz.ntmps81
      go_wp2_with fail
      refine (ridV Hi.out).mono ?_
      rintro e w1 ⟨rfl, rfl⟩
      go_wp2
      go_ret
      exact ⟨by rw [hv.out]; rfl, (Upd.refl _ _).alloc _⟩
theorem oright (w : World) (o : HOp) : Calls Tryz.prog 52 #[.agg o.cells.toArray] w fun e w' => e = .returned (.int .i64 (errI (opB o))) ∧ Upd No w w' := by
  obtain ⟨r, k, t, n⟩ := o
  cases r
  · have hN := hop_neq
    unfold HOp.cells
    by_cases hz : (⟨false, k, t, n⟩ : HOp) = ⟨false, k, 0, 0⟩
    · have hzb : ((⟨false, k, t, n⟩ : HOp) != ⟨false, k, 0, 0⟩) = false := by rw [hz]; simp
      have h0 : t = 0 ∧ n = 0 := by injection hz with _ _ h3 h4; exact ⟨h3, h4⟩
      by_cases h1 : k < 1
      · have hv := Lib.hid (show opB ⟨false, k, t, n⟩ = false by unfold opB idB; rw [decide_eq_false (show ¬ 1 ≤ k by omega)]; rfl)
        clear hz h0
        have qn := fun w => (hN w ⟨false, k, t, n⟩ ⟨false, k, 0, 0⟩).trans (by rw [hzb])
        clear hN hzb
        go_enter Tryz.func52, Tryz.ntmps52
        go_wp2
        go_ret
        exact ⟨by rw [hv.out]; rfl, (Upd.refl _ _).alloc _⟩
      · by_cases h2 : 1048575 < k
        · have hv := Lib.hid (show opB ⟨false, k, t, n⟩ = false by unfold opB idB; rw [decide_eq_false (show ¬ k ≤ 1048575 by omega)]; simp)
          clear hz h0
          have qn := fun w => (hN w ⟨false, k, t, n⟩ ⟨false, k, 0, 0⟩).trans (by rw [hzb])
          clear hN hzb
          go_enter Tryz.func52, Tryz.ntmps52
          go_wp2
          go_ret
          exact ⟨by rw [hv.out]; rfl, (Upd.refl _ _).alloc _⟩
        · have hv := Lib.hid (show opB ⟨false, k, t, n⟩ = true by unfold opB idB; rw [decide_eq_true (show k ≤ 1048575 by omega), decide_eq_true (show 1 ≤ k by omega), h0.1, h0.2]; rfl)
          clear hz h0
          have qn := fun w => (hN w ⟨false, k, t, n⟩ ⟨false, k, 0, 0⟩).trans (by rw [hzb])
          clear hN hzb
          go_enter Tryz.func52, Tryz.ntmps52
          go_wp2
          go_ret
          exact ⟨by rw [hv.out]; rfl, (Upd.refl _ _).alloc _⟩
    · have hzb : ((⟨false, k, t, n⟩ : HOp) != ⟨false, k, 0, 0⟩) = true := by simpa using hz
      have hv := Lib.hid (show opB ⟨false, k, t, n⟩ = false by
        unfold opB
        by_cases h3 : t = 0
        · by_cases h4 : n = 0
          · exact absurd (by rw [h3, h4]) hz
          · simp [h4]
        · simp [h3])
      clear hz
      have qn := fun w => (hN w ⟨false, k, t, n⟩ ⟨false, k, 0, 0⟩).trans (by rw [hzb])
      clear hN hzb
      go_enter Tryz.func52, Tryz.ntmps52
      go_wp2
      go_ret
      exact ⟨by rw [hv.out]; rfl, (Upd.refl _ _).alloc _⟩
  · have hv := Lib.hid (show opB ⟨true, k, t, n⟩ = verB ⟨t, k, n⟩ from rfl)
    unfold HOp.cells
    go_enter Tryz.func52, Tryz.ntmps52
    go_wp2_with fail
    refine (oof _ ⟨true, k, t, n⟩).mono ?_
    rintro e w1 ⟨rfl, hu1⟩
    go_wp2_with fail
    refine (pver _ ⟨t, k, n⟩).mono ?_
    rintro e w2 ⟨x, rfl, hu2⟩
    go_wp2
    go_ret
    exact ⟨by rw [hv.out]; rfl, (((Upd.refl _ _).alloc _).trans hu1).trans hu2⟩
theorem rright (w : World) (o : HOp) : Calls Tryz.prog 64 #[.agg o.cells.toArray] w fun e w' => e = .returned (.bool (opB o)) ∧ Upd No w w' := by
  obtain ⟨r, k, t, n⟩ := o
  cases r
  · unfold HOp.cells
    by_cases hk : idB k = true
    · have Hk := Lib.hid hk
      clear hk
      by_cases h3 : t = 0
      · have hv := Lib.hid (show opB ⟨false, k, t, n⟩ = (n == 0) by unfold opB; rw [h3, Hk.out]; rfl)
        have h3b : (t == 0) = true := by simpa using h3
        clear h3
        by_cases h4 : n = 0
        · have h4b : (n == 0) = true := by simpa using h4
          clear h4
          go_enter Tryz.func64, Tryz.ntmps64
          go_wp2_with fail
          refine (ridV Hk.out).mono ?_
          rintro e w1 ⟨rfl, rfl⟩
          go_wp2
          go_ret
          exact ⟨by rw [hv.out, h4b]; rfl, (Upd.refl _ _).alloc _⟩
        · have h4b : (n == 0) = false := by simpa using h4
          clear h4
          go_enter Tryz.func64, Tryz.ntmps64
          go_wp2_with fail
          refine (ridV Hk.out).mono ?_
          rintro e w1 ⟨rfl, rfl⟩
          go_wp2
          go_ret
          exact ⟨by rw [hv.out, h4b]; rfl, (Upd.refl _ _).alloc _⟩
      · have h3b : (t == 0) = false := by simpa using h3
        have hv := Lib.hid (show opB ⟨false, k, t, n⟩ = false by unfold opB; simp [h3])
        clear h3
        go_enter Tryz.func64, Tryz.ntmps64
        go_wp2_with fail
        refine (ridV Hk.out).mono ?_
        rintro e w1 ⟨rfl, rfl⟩
        go_wp2
        go_ret
        exact ⟨by rw [hv.out]; rfl, (Upd.refl _ _).alloc _⟩
    · have hv := Lib.hid (show opB ⟨false, k, t, n⟩ = false by unfold opB; simp [bne_of hk])
      have Hk := Lib.hid (bne_of hk)
      clear hk
      go_enter Tryz.func64, Tryz.ntmps64
      go_wp2_with fail
      refine (ridV Hk.out).mono ?_
      rintro e w1 ⟨rfl, rfl⟩
      go_wp2
      go_ret
      exact ⟨by rw [hv.out]; rfl, (Upd.refl _ _).alloc _⟩
  · have hv := Lib.hid (show opB ⟨true, k, t, n⟩ = verB ⟨t, k, n⟩ from rfl)
    unfold HOp.cells
    go_enter Tryz.func64, Tryz.ntmps64
    go_wp2_with fail
    refine (rof _ ⟨true, k, t, n⟩).mono ?_
    rintro e w1 ⟨rfl, hu1⟩
    go_wp2_with fail
    refine (rver _ ⟨t, k, n⟩).mono ?_
    rintro e w2 ⟨rfl, hu2⟩
    go_wp2
    go_ret
    exact ⟨by rw [hv.out]; rfl, (((Upd.refl _ _).alloc _).trans hu1).trans hu2⟩
end Go.Proofs.YtgakhpdclhlmpaaGreat

/- How many writes of a key there are; whether a history is light. -/
namespace Go.Proofs.YtgakhpdclhlmpaaGreat
set_option linter.unusedVariables false
open Go.RowKit
def isW (key : Int) (o : HOp) : Bool := !o.read && o.key == key
/-- among the first k -/
def wrN (l : List HOp) (key : Int) (k : Nat) : Nat := ((l.take k).filter (isW key)).length
def writesN (l : List HOp) (key : Int) : Nat := wrN l key l.length
theorem wrN_succ {l : List HOp} {key : Int} {k : Nat} (hk : k < l.length) : wrN l key (k + 1) = wrN l key k + if isW key l[k] = true then 1 else 0 := by
  unfold wrN
  rw [List.take_succ_eq_append_getElem hk, List.filter_append, List.length_append]
  by_cases h : isW key l[k] = true
  · rw [if_pos h, List.filter_cons_of_pos h]; rfl
  · rw [if_neg h, List.filter_cons_of_neg h]; rfl
theorem wrN_yes {l : List HOp} {key : Int} {k : Nat} {x : HOp} (hk : k < l.length) (hx : l[k] = x) (h : isW key x = true) : wrN l key (k + 1) = wrN l key k + 1 := by
  subst hx; rw [wrN_succ hk, if_pos h]
theorem wrN_no {l : List HOp} {key : Int} {k : Nat} {x : HOp} (hk : k < l.length) (hx : l[k] = x) (h : isW key x = false) : wrN l key (k + 1) = wrN l key k := by
  subst hx; rw [wrN_succ hk, if_neg (by rw [h]; decide), Nat.add_zero]
theorem wrN_le (l : List HOp) (key : Int) (k : Nat) : wrN l key k ≤ k := by
  unfold wrN
  have h1 := List.length_filter_le (isW key) (l.take k)
  have h2 := List.length_take_le k l
  omega
set_option maxRecDepth 100000 in
theorem rwrites (F : Nat → Prop) (w : World) (A : Option Addr) (c : Nat) (l : List HOp) (key : Int) (h : HOps F w A l) (hl : fewOps l.length) :
    Calls Tryz.prog 46 #[.slice A l.length c, .int .i64 key] w fun e w' => e = .returned (.int .i64 ((writesN l key : Nat) : Int)) ∧ Upd No w w' := by
  unfold fewOps at hl
  go_enter Tryz.func46, Tryz.ntmps46
  go_wp2
  go_loopg [5, 10] l.length (fun gk n i wr => ∃ k : Nat, k + gk = l.length ∧ i = .int .i64 k ∧ n = .int .i64 ((wrN l key k : Nat) : Int) ∧ Upd No w wr)
  case atStart => exact ⟨0, by omega, rfl, rfl, Upd.refl _ _⟩
  case round =>
    obtain ⟨k, hgk, rfl, rfl, hu⟩ := hrel
    by_cases hlt : k < l.length
    · obtain ⟨ad, hAd, c0, c1, c2, c3⟩ := (h.upd hu (fun _ _ => id)).at_ hlt
      obtain ⟨x, hx⟩ : ∃ x, l[k] = x := ⟨_, rfl⟩
      rw [hx] at c0 c1 c2 c3
      have hw := wrN_le l key k
      obtain ⟨r, ky, tx, nt⟩ := x
      have X := Lib.hid hx
      clear hx
      subst hAd
      cases r
      · by_cases hk : ky = key
        · have hkb : (ky == key) = true := by simpa using hk
          have HS := Lib.hid (wrN_yes (key := key) hlt X.out (by unfold isW; rw [hkb]; rfl))
          clear hk
          go_wp2
          go_roundg (gk - 1)
          case measure => omega
          case rel => exact ⟨k + 1, by omega, by go_num, by rw [HS.out]; go_num, hu.alloc _⟩
        · have hkb : (ky == key) = false := by simpa using hk
          have HS := Lib.hid (wrN_no (key := key) hlt X.out (by unfold isW; rw [hkb]; rfl))
          clear hk
          go_wp2
          go_roundg (gk - 1)
          case measure => omega
          case rel => exact ⟨k + 1, by omega, by go_num, by rw [HS.out], hu.alloc _⟩
      · have HS := Lib.hid (wrN_no (key := key) hlt X.out rfl)
        go_wp2
        go_roundg (gk - 1)
        case measure => omega
        case rel => exact ⟨k + 1, by omega, by go_num, by rw [HS.out], hu.alloc _⟩
    · obtain rfl : k = l.length := by omega
      go_wp2
      go_ret
      exact ⟨rfl, hu⟩
set_option maxRecDepth 100000 in
theorem pwrites (F : Nat → Prop) (w : World) (i0 : Int) (dn : Bool) (A : Option Addr) (c : Nat) (l : List HOp) (key : Int) (h : HOps F w A l) (hl : fewOps l.length) :
    Calls Tryz.prog 50 #[.agg #[.int .i64 i0, .bool dn, .slice A l.length c], .int .i64 key] w fun e w' => e = .returned (.int .i64 ((writesN l key : Nat) : Int)) ∧ Upd No w w' := by
  unfold fewOps at hl
  go_enter Tryz.func50, Tryz.ntmps50
  go_wp2
  go_loopg [5, 11] l.length (fun gk n i wr => ∃ k : Nat, k + gk = l.length ∧ i = .int .i64 k ∧ n = .int .i64 ((wrN l key k : Nat) : Int) ∧ Upd No w wr)
  case atStart => exact ⟨0, by omega, rfl, rfl, (Upd.refl _ _).alloc _⟩
  case round =>
    obtain ⟨k, hgk, rfl, rfl, hu⟩ := hrel
    by_cases hlt : k < l.length
    · obtain ⟨ad, hAd, c0, c1, c2, c3⟩ := (h.upd hu (fun _ _ => id)).at_ hlt
      obtain ⟨x, hx⟩ : ∃ x, l[k] = x := ⟨_, rfl⟩
      rw [hx] at c0 c1 c2 c3
      have hw := wrN_le l key k
      obtain ⟨r, ky, tx, nt⟩ := x
      have X := Lib.hid hx
      clear hx
      subst hAd
      cases r
      · by_cases hk : ky = key
        · have hkb : (ky == key) = true := by simpa using hk
          have HS := Lib.hid (wrN_yes (key := key) hlt X.out (by unfold isW; rw [hkb]; rfl))
          clear hk
          go_wp2
          go_roundg (gk - 1)
          case measure => omega
          case rel => exact ⟨k + 1, by omega, by go_num, by rw [HS.out]; go_num, hu.alloc _⟩
        · have hkb : (ky == key) = false := by simpa using hk
          have HS := Lib.hid (wrN_no (key := key) hlt X.out (by unfold isW; rw [hkb]; rfl))
          clear hk
          go_wp2
          go_roundg (gk - 1)
          case measure => omega
          case rel => exact ⟨k + 1, by omega, by go_num, by rw [HS.out], hu.alloc _⟩
      · have HS := Lib.hid (wrN_no (key := key) hlt X.out rfl)
        go_wp2
        go_roundg (gk - 1)
        case measure => omega
        case rel => exact ⟨k + 1, by omega, by go_num, by rw [HS.out], hu.alloc _⟩
    · obtain rfl : k = l.length := by omega
      go_wp2
      go_ret
      exact ⟨rfl, hu⟩
/-- is a history not too much for a statement -/
def lightB (h : Hist) : Bool := decide (h.txs.length ≤ 12) && decide (h.ords.length ≤ 24) && h.txs.all (fun t => decide (t.ops.length ≤ 24)) && h.ords.all (fun o => decide (o.txs.length ≤ 24))
end Go.Proofs.YtgakhpdclhlmpaaGreat

/- Whether a history is light, by the document. -/
namespace Go.Proofs.YtgakhpdclhlmpaaGreat
set_option linter.unusedVariables false
open Go.RowKit
theorem all_take {α : Type} {l : List α} {p : α → Bool} {k : Nat} (hk : k < l.length) (h : (l.take k).all p = true) (h1 : p l[k] = true) : (l.take (k + 1)).all p = true := by
  rw [List.take_succ_eq_append_getElem hk, List.all_append, h]
  simp [h1]
theorem all_not {α : Type} {l : List α} {p : α → Bool} {k : Nat} (hk : k < l.length) (h1 : p l[k] = false) : l.all p = false := by
  rw [← Bool.not_eq_true]
  intro h
  rw [List.all_eq_true.1 h _ (List.getElem_mem hk)] at h1
  cases h1
set_option maxRecDepth 100000 in
theorem rlight (F : Nat → Prop) (w : World) (h : Hist) (H : h.lies F w) : Calls Tryz.prog 4 #[h.val] w fun e w' => e = .returned (.bool (lightB h)) ∧ Upd No w w' := by
  obtain ⟨txs, ords, A, c, B, d⟩ := h
  unfold Hist.val
  have hf := H.few
  have hfo := H.fewo
  simp only at hf hfo
  by_cases h1 : 12 < txs.length
  · have hv := Lib.hid (show lightB ⟨txs, ords, A, c, B, d⟩ = false by unfold lightB; rw [decide_eq_false (by simp only; omega)]; rfl)
    go_enter Tryz.func4, Tryz.ntmps4
    go_wp2
    go_ret
    exact ⟨by rw [hv.out]; rfl, (Upd.refl _ _).alloc _⟩
  · by_cases h2 : 24 < ords.length
    · have hv := Lib.hid (show lightB ⟨txs, ords, A, c, B, d⟩ = false by unfold lightB; rw [decide_eq_false (show ¬ ords.length ≤ 24 by omega)]; simp)
      go_enter Tryz.func4, Tryz.ntmps4
      go_wp2
      go_ret
      exact ⟨by rw [hv.out]; rfl, (Upd.refl _ _).alloc _⟩
    · have hb := Blk.new w 25 [.slice A txs.length c, .slice B ords.length d]
      have e0 : (w.alloc (.cells #[.slice A txs.length c, .slice B ords.length d] 25)).cell? ⟨w.heap.size, 1, none⟩ = some (.slice B ords.length d) := hb.cell 1
      have E0 := Lib.hid e0
      clear e0 hb
      go_enter Tryz.func4, Tryz.ntmps4
      go_wp2
      go_loopg [20] txs.length (fun gk i wr => ∃ k : Nat, k + gk = txs.length ∧ i = .int .i64 k ∧ Hid ((txs.take k).all (fun t => decide (t.ops.length ≤ 24)) = true) ∧ Upd No (w.alloc (.cells #[.slice A txs.length c, .slice B ords.length d] 25)) wr)
      case atStart => exact ⟨0, by omega, rfl, Lib.hid (by simp), Upd.refl _ _⟩
      case round =>
        obtain ⟨k, hgk, rfl, hall, hu⟩ := hrel
        have hu0 : Upd No w wr := ((Upd.refl No w).alloc _).trans hu
        by_cases hlt : k < txs.length
        · obtain ⟨ad, hAd, c0, c1, c2⟩ := (H.upd hu0 (fun _ _ => id)).tx_at hlt
          simp only at hAd c0 c1 c2
          obtain ⟨x, hx⟩ : ∃ x, txs[k] = x := ⟨_, rfl⟩
          rw [hx] at c0 c1 c2
          subst hAd
          have X := Lib.hid hx
          clear hx
          have hfx := ((H.upd hu0 (fun _ _ => id)).tx x (by rw [← X.out]; exact List.getElem_mem hlt)).2.2.1
          unfold fewOps at hfx
          by_cases ht : 24 < x.ops.length
          · have hv := Lib.hid (show lightB ⟨txs, ords, some ad, c, B, d⟩ = false by
              unfold lightB
              rw [all_not (l := txs) (k := k) hlt (by rw [X.out]; exact decide_eq_false (by omega))]
              simp)
            go_wp2
            go_ret
            exact ⟨by rw [hv.out]; rfl, hu0.alloc _⟩
          · go_wp2
            go_roundg (gk - 1)
            case measure => omega
            case rel => exact ⟨k + 1, by omega, by go_num, Lib.hid (all_take hlt hall.out (by rw [X.out]; exact decide_eq_true (by omega))), hu.alloc _⟩
        · obtain rfl : k = txs.length := by omega
          have e1 : wr.cell? ⟨w.heap.size, 1, none⟩ = some (.slice B ords.length d) := hu.keepNo E0.out
          have hall1 := Lib.hid (show txs.all (fun t => decide (t.ops.length ≤ 24)) = true by have := hall.out; rwa [List.take_length] at this)
          clear hall
          go_wp2
          go_loopg [32] ords.length (fun gk i wr => ∃ k : Nat, k + gk = ords.length ∧ i = .int .i64 k ∧ Hid ((ords.take k).all (fun t => decide (t.txs.length ≤ 24)) = true) ∧ Upd No w wr)
          case atStart => exact ⟨0, by omega, rfl, Lib.hid (by simp), hu0⟩
          case round =>
            obtain ⟨k, hgk, rfl, hall, hu2⟩ := hrel
            by_cases hlt2 : k < ords.length
            · obtain ⟨ad, hAd, c0, c1⟩ := (H.upd hu2 (fun _ _ => id)).ord_at hlt2
              simp only at hAd c0 c1
              obtain ⟨x, hx⟩ : ∃ x, ords[k] = x := ⟨_, rfl⟩
              rw [hx] at c0 c1
              subst hAd
              have X := Lib.hid hx
              clear hx
              have hfx := ((H.upd hu2 (fun _ _ => id)).ord x (by rw [← X.out]; exact List.getElem_mem hlt2)).2.2.1
              by_cases ht : 24 < x.txs.length
              · have hv := Lib.hid (show lightB ⟨txs, ords, A, c, some ad, d⟩ = false by
                  unfold lightB
                  rw [all_not (l := ords) (k := k) hlt2 (by rw [X.out]; exact decide_eq_false (by omega))]
                  simp)
                go_wp2
                go_ret
                exact ⟨by rw [hv.out]; rfl, hu2.alloc _⟩
              · go_wp2
                go_roundg (gk - 1)
                case measure => omega
                case rel => exact ⟨k + 1, by omega, by go_num, Lib.hid (all_take hlt2 hall.out (by rw [X.out]; exact decide_eq_true (by omega))), hu2.alloc _⟩
            · obtain rfl : k = ords.length := by omega
              have hv := Lib.hid (show lightB ⟨txs, ords, A, c, B, d⟩ = true by
                have h3 := hall.out
                rw [List.take_length] at h3
                unfold lightB
                rw [decide_eq_true (show txs.length ≤ 12 by omega), decide_eq_true (show ords.length ≤ 24 by omega), hall1.out, h3]
                rfl)
              go_wp2
              go_ret
              exact ⟨by rw [hv.out]; rfl, hu2⟩
end Go.Proofs.YtgakhpdclhlmpaaGreat

/- Maps by a key and a number, and by versions. -/
namespace Go.Proofs.YtgakhpdclhlmpaaGreat
set_option linter.unusedVariables false
open Go.RowKit
def spotV (p : Int × Int) : Value := .agg #[.int .i64 p.1, .int .i64 p.2]
def verV (v : Ver) : Value := .agg #[.int .i64 v.tx, .int .i64 v.key, .int .i64 v.nth]
theorem spot_eq (w : World) (x y : Int × Int) : (Op.equal 90 (spotV x) (spotV y)).run Tryz.prog w = .ok (decide (x = y)) w := by
  obtain ⟨a, b⟩ := x
  obtain ⟨a', b'⟩ := y
  unfold spotV
  show (Op.equalIn 10000 _ _ _).run _ w = _
  rw [run_equalIn_struct w _ _ _ _ (by kernel_rfl) (by kernel_rfl)]
  have hI : ∀ (w : World) (d : Nat) (x y : Int), (Op.equalIn (d + 1) 3 (.int .i64 x) (.int .i64 y)).run Tryz.prog w = .ok (x == y) w := fun w d x y => run_equalIn_int w d _ _ _ x y Tryz.underlying3
  by_cases h1 : a = a' <;> by_cases h2 : b = b' <;>
    simp [Program.fieldsOf, Tryz.underlying90, Op.eqFields, part, hI, h1, h2, Result.andThen]
theorem ver_equal (w : World) (x y : Ver) : (Op.equalIn 10000 29 (verV x) (verV y)).run Tryz.prog w = .ok (decide (x = y)) w := by
  obtain ⟨a, b, c⟩ := x
  obtain ⟨a', b', c'⟩ := y
  unfold verV
  rw [run_equalIn_struct w _ _ _ _ (by kernel_rfl) (by kernel_rfl)]
  have hI : ∀ (w : World) (d : Nat) (x y : Int), (Op.equalIn (d + 1) 3 (.int .i64 x) (.int .i64 y)).run Tryz.prog w = .ok (x == y) w := fun w d x y => run_equalIn_int w d _ _ _ x y Tryz.underlying3
  by_cases h1 : a = a' <;> by_cases h2 : b = b' <;> by_cases h3 : c = c' <;>
    simp [Program.fieldsOf, Tryz.underlying29, Op.eqFields, part, hI, h1, h2, h3, Result.andThen]
theorem ver_neq (w : World) (x y : Ver) : (binOp .neq 29 (verV x) (verV y)).run Tryz.prog w = .ok (.bool (x != y)) w := by
  have := ver_equal w x y
  unfold verV at this ⊢
  rw [run_neq_struct, this]
  simp only [Result.andThen]
  by_cases h : x = y <;> simp [h]
theorem spot_check (w : World) (e : Bool) (p : Int × Int) : (Instr.checkKey e 10000 90 (spotV p)).run Tryz.prog w = .ok () w := by
  show (Instr.checkKey e (9998 + 1 + 1) _ _).run _ w = _
  generalize 9998 = d
  have hI : ∀ (w : World) (x : Int), (Instr.checkKey e (d + 1) 3 (.int .i64 x)).run Tryz.prog w = .ok () w := fun w x => by unfold Instr.checkKey; simp [run_underlying Tryz.underlying3]
  unfold Instr.checkKey spotV
  simp [run_underlying Tryz.underlying90, ← Array.forIn_toList, part, hI, Result.andThen]
theorem ver_check (w : World) (e : Bool) (p : Ver) : (Instr.checkKey e 10000 29 (verV p)).run Tryz.prog w = .ok () w := by
  show (Instr.checkKey e (9998 + 1 + 1) _ _).run _ w = _
  generalize 9998 = d
  have hI : ∀ (w : World) (x : Int), (Instr.checkKey e (d + 1) 3 (.int .i64 x)).run Tryz.prog w = .ok () w := fun w x => by unfold Instr.checkKey; simp [run_underlying Tryz.underlying3]
  unfold Instr.checkKey verV
  simp [run_underlying Tryz.underlying29, ← Array.forIn_toList, part, hI, Result.andThen]
theorem kbyspot : KeyBy Tryz.prog 90 spotV := KeyBy.agg_ Tryz.underlying90 (fun a => ⟨_, rfl⟩) spot_check (fun a => by simp [spotV, Instr.sameBits]) spot_eq
theorem kbyver : KeyBy Tryz.prog 29 verV := KeyBy.agg_ Tryz.underlying29 (fun a => ⟨_, rfl⟩) ver_check (fun a => by simp [verV, Instr.sameBits]) ver_equal
theorem zeroN (w : World) : (zeroValue 3).run Tryz.prog w = .ok (.int .i64 0) w := by kernel_rfl

/-- the code that an operation at a place gives; 0: none -/
def badAt (id : Int) (l : List HOp) (k : Nat) : Int :=
  match l[k]? with
  | none => 0
  | some o => if opB o = false then 1 else if o.read && o.tx == id && !decide (o.nth ≤ (wrN l o.key k : Int)) then 6 else 0
/-- the first code of the first k -/
def opsErr (id : Int) (l : List HOp) : Nat → Int
  | 0 => 0
  | k + 1 => if opsErr id l k = 0 then badAt id l k else opsErr id l k
def txErr (id : Int) (l : List HOp) : Int := if idB id = false then 1 else if 4095 < l.length then 9 else opsErr id l l.length
/-- what the map of writes tells -/
def WrM (m : List ((Int × Int) × Value)) (l : List HOp) (k : Nat) : Prop :=
  ∀ key n : Int, (mget m (key, n)).getD (.int .i64 0) = .int .i64 (if n = 0 then (wrN l key k : Int) else if 1 ≤ n ∧ n ≤ (wrN l key k : Int) then 1 else 0)
theorem WrM.nil (l : List HOp) : WrM [] l 0 := fun key n => by
  rw [mget_nil]
  have : wrN l key 0 = 0 := rfl
  rw [this]
  by_cases h : n = 0
  · rw [if_pos h]; rfl
  · rw [if_neg h, if_neg (by omega)]; rfl
theorem WrM.skip {m : List ((Int × Int) × Value)} {l : List HOp} {k : Nat} (h : WrM m l k) (hk : k < l.length) (hr : l[k].read = true) : WrM m l (k + 1) := fun key n => by
  rw [wrN_no hk rfl (by unfold isW; rw [hr]; rfl)]
  exact h key n
theorem WrM.put {m : List ((Int × Int) × Value)} {l : List HOp} {k : Nat} {x : HOp} (h : WrM m l k) (hk : k < l.length) (hx : l[k] = x) (hr : x.read = false) :
    WrM (mput (mput m (x.key, 0) (.int .i64 ((wrN l x.key k : Int) + 1))) (x.key, (wrN l x.key k : Int) + 1) (.int .i64 1)) l (k + 1) := fun key n => by
  subst hx
  by_cases hkey : key = l[k].key
  · subst hkey
    rw [wrN_yes hk rfl (by unfold isW; rw [hr]; simp)]
    by_cases h0 : n = 0
    · subst h0
      rw [mget_other _ _ (fun e => by injection e with _ e; omega), mget_same, if_pos rfl]
      rfl
    · rw [if_neg h0]
      by_cases h1 : n = (wrN l l[k].key k : Int) + 1
      · rw [h1, mget_same, if_pos (by omega)]
        rfl
      · rw [mget_other _ _ (fun e => by injection e with _ e; exact h1 e), mget_other _ _ (fun e => by injection e with _ e; exact h0 e), h l[k].key n, if_neg h0]
        by_cases h2 : 1 ≤ n ∧ n ≤ (wrN l l[k].key k : Int)
        · rw [if_pos h2, if_pos (by omega)]
        · rw [if_neg h2, if_neg (by omega)]
  · rw [mget_other _ _ (fun e => by injection e with e _; exact hkey e), mget_other _ _ (fun e => by injection e with e _; exact hkey e), h key n,
      wrN_no hk rfl (by
        unfold isW
        have : (l[k].key == key) = false := by rw [beq_eq_false_iff_ne]; exact fun e => hkey e.symm
        rw [this]; simp)]
end Go.Proofs.YtgakhpdclhlmpaaGreat

/- A contract of the library, laid at this dump: the table of numbers typed out. -/
namespace Go.Proofs.YtgakhpdclhlmpaaGreat
open Go.Shelf Go.Proofs
def sortI_lay_ren : Go.Shelf.Ren := ⟨fun | 189 => 59 | 125 => 77 | 257 => 76 | 128 => 96 | 129 => 97 | 294 => 87 | 295 => 88 | 296 => 89 | 297 => 90 | 298 => 91 | 299 => 92 | 216 => 93 | 300 => 94 | 301 => 95 | 328 => 98 | 329 => 99 | 330 => 100 | 331 => 101 | 332 => 102 | 215 => 103 | 343 => 104 | n => n, fun | 28 => 48 | 3 => 3 | 46 => 85 | 0 => 0 | 51 => 124 | 53 => 104 | 4 => 4 | 183 => 118 | 182 => 117 | 131 => 80 | 5 => 5 | 9 => 9 | 218 => 126 | 222 => 130 | 228 => 132 | 229 => 60 | n => n, fun | n => n⟩
theorem sortI_lay : Go.Proofs.Lays.n189 Tryz.prog sortI_lay_ren := {
  mixed := by kernel_rfl
  f125 := Tryz.func77.trans (congrArg some (by kernel_rfl))
  f128 := Tryz.func96.trans (congrArg some (by kernel_rfl))
  f129 := Tryz.func97.trans (congrArg some (by kernel_rfl))
  f189 := Tryz.func59.trans (congrArg some (by kernel_rfl))
  f215 := Tryz.func103.trans (congrArg some (by kernel_rfl))
  f216 := Tryz.func93.trans (congrArg some (by kernel_rfl))
  f257 := Tryz.func76.trans (congrArg some (by kernel_rfl))
  f294 := Tryz.func87.trans (congrArg some (by kernel_rfl))
  f295 := Tryz.func88.trans (congrArg some (by kernel_rfl))
  f296 := Tryz.func89.trans (congrArg some (by kernel_rfl))
  f297 := Tryz.func90.trans (congrArg some (by kernel_rfl))
  f298 := Tryz.func91.trans (congrArg some (by kernel_rfl))
  f299 := Tryz.func92.trans (congrArg some (by kernel_rfl))
  f300 := Tryz.func94.trans (congrArg some (by kernel_rfl))
  f301 := Tryz.func95.trans (congrArg some (by kernel_rfl))
  f328 := Tryz.func98.trans (congrArg some (by kernel_rfl))
  f329 := Tryz.func99.trans (congrArg some (by kernel_rfl))
  f330 := Tryz.func100.trans (congrArg some (by kernel_rfl))
  f331 := Tryz.func101.trans (congrArg some (by kernel_rfl))
  f332 := Tryz.func102.trans (congrArg some (by kernel_rfl))
  f343 := Tryz.func104.trans (congrArg some (by kernel_rfl))
  t0 := Tryz.underlying0
  a0 := Tryz.isAgg0
  z0 := Tryz.sizeOf0
  v0 := Tryz.zeroValue0
  t3 := Tryz.underlying3
  a3 := Tryz.isAgg3
  z3 := Tryz.sizeOf3
  v3 := Tryz.zeroValue3
  t4 := Tryz.underlying4
  a4 := Tryz.isAgg4
  z4 := Tryz.sizeOf4
  v4 := Tryz.zeroValue4
  t5 := Tryz.underlying5
  a5 := Tryz.isAgg5
  z5 := Tryz.sizeOf5
  v5 := Tryz.zeroValue5
  t9 := Tryz.underlying9
  a9 := Tryz.isAgg9
  z9 := Tryz.sizeOf9
  v9 := Tryz.zeroValue9
  t28 := Tryz.underlying48
  a28 := Tryz.isAgg48
  z28 := Tryz.sizeOf48
  v28 := Tryz.zeroValue48
  t46 := Tryz.underlying85
  a46 := Tryz.isAgg85
  z46 := Tryz.sizeOf85
  v46 := Tryz.zeroValue85
  t51 := Tryz.underlying124
  a51 := Tryz.isAgg124
  z51 := Tryz.sizeOf124
  v51 := Tryz.zeroValue124
  t53 := Tryz.underlying104
  a53 := Tryz.isAgg104
  z53 := Tryz.sizeOf104
  v53 := Tryz.zeroValue104
  t131 := Tryz.underlying80
  a131 := Tryz.isAgg80
  z131 := Tryz.sizeOf80
  v131 := Tryz.zeroValue80
  t182 := Tryz.underlying117
  a182 := Tryz.isAgg117
  z182 := Tryz.sizeOf117
  v182 := Tryz.zeroValue117
  t183 := Tryz.underlying118
  a183 := Tryz.isAgg118
  z183 := Tryz.sizeOf118
  v183 := Tryz.zeroValue118
  t218 := Tryz.underlying126
  a218 := Tryz.isAgg126
  z218 := Tryz.sizeOf126
  v218 := Tryz.zeroValue126
  t222 := Tryz.underlying130
  a222 := Tryz.isAgg130
  z222 := Tryz.sizeOf130
  v222 := Tryz.zeroValue130
  t228 := Tryz.underlying132
  a228 := Tryz.isAgg132
  z228 := Tryz.sizeOf132
  v228 := Tryz.zeroValue132
  t229 := Tryz.underlying60
  a229 := Tryz.isAgg60
  z229 := Tryz.sizeOf60
  v229 := Tryz.zeroValue60 }
end Go.Proofs.YtgakhpdclhlmpaaGreat

/- A contract of the library, laid at this dump: the table of numbers typed out. -/
namespace Go.Proofs.YtgakhpdclhlmpaaGreat
open Go.Shelf Go.Proofs
def equalI_lay_ren : Go.Shelf.Ren := ⟨fun | 33 => 60 | n => n, fun | 22 => 48 | 23 => 3 | 4 => 4 | 3 => 3 | 0 => 0 | n => n, fun | n => n⟩
theorem equalI_lay : Go.Proofs.SlLaysN.n33 Tryz.prog equalI_lay_ren := {
  mixed := by kernel_rfl
  f33 := ⟨Tryz.f60.name, by decide, Tryz.func60.trans (congrArg some (by kernel_rfl))⟩
  t0 := Tryz.underlying0
  a0 := Tryz.isAgg0
  z0 := Tryz.sizeOf0
  v0 := Tryz.zeroValue0
  t3 := Tryz.underlying3
  a3 := Tryz.isAgg3
  z3 := Tryz.sizeOf3
  v3 := Tryz.zeroValue3
  t4 := Tryz.underlying4
  a4 := Tryz.isAgg4
  z4 := Tryz.sizeOf4
  v4 := Tryz.zeroValue4
  t22 := Tryz.underlying48
  a22 := Tryz.isAgg48
  z22 := Tryz.sizeOf48
  v22 := Tryz.zeroValue48
  t23 := Tryz.underlying3
  a23 := Tryz.isAgg3
  z23 := Tryz.sizeOf3
  v23 := Tryz.zeroValue3 }
end Go.Proofs.YtgakhpdclhlmpaaGreat

/- Slices of ints: cloned, sorted, held against one another. -/
namespace Go.Proofs.YtgakhpdclhlmpaaGreat
set_option linter.unusedVariables false
open Go.RowKit
theorem slt_int : SlT Tryz.prog 48 3 1 8 := SlT.mk_ Tryz.underlying48 (z := .int .i64 0) (by kernel_rfl) rfl (by omega)
/-- ints of the call's own -/
def NewI (w : World) (l : List Int) (e : Ending) (w' : World) : Prop := ∃ A c, e = .returned (.slice A l.length c) ∧ w'.ownsRow w.heap.size 3 1 (.slice A l.length c) l.length (l.map (Value.int .i64)) ∧ Upd No w w'
theorem own_empI {W : World} {B n : Nat} {e : TypeId} (hn : n = W.heap.size) (hB : B ≤ W.heap.size) : (W.alloc (.cells #[] e)).ownsRow B e 1 (.slice (some ⟨n, 0, none⟩) 0 0) 0 [] := by
  subst hn
  exact own_base (World.ownsRow_made W #[] 0 (Nat.le_refl _) (by decide) (by simp)) hB
theorem iclone (F : Nat → Prop) (w : World) (A : Option Addr) (c : Nat) (l : List Int) (h : Ints F w A l) (hl : l.length ≤ 17592186044415) :
    Calls Tryz.prog 58 #[.slice A l.length c] w (NewI w l) := by
  have qT : ∀ (w : World) (a : Option Addr) (n c : Nat), (binOp .eql 48 (.slice a n c) (.slice none 0 0)).run Tryz.prog w = .ok (.bool a.isNone) w := fun w a n c => Lib.run_eql_slice_nil w _ _ a n c 0 0 Tryz.underlying48
  cases A with
  | none =>
    have h0 : l = [] := by
      cases l with
      | nil => rfl
      | cons a l => obtain ⟨_, e, _⟩ := h (by simp); cases e
    subst h0
    go_enter Tryz.func58, Tryz.ntmps58
    go_wp2
    go_ret
    exact ⟨none, 0, rfl, World.ownsRow_nil _ _ _ _, Upd.refl _ _⟩
  | some ad =>
    have hs := Lib.hid (show Src (w.alloc (.cells #[] 3)) (some ad) l.length 1 (l.map (Value.int .i64)) from Ints.src (h.upd ((Upd.refl No w).alloc (.cells #[] 3)) (fun _ _ => id)))
    go_enter Tryz.func58, Tryz.ntmps58
    go_wp2_with (at_builtin; refine appN rfl rfl slt_int (base := w.heap.size) (v := .slice (some ⟨w.heap.size, 0, none⟩) 0 0) (n := 0) (m := l.length) (xs := []) rfl rfl (own_empI rfl (Nat.le_refl _)) hs.out (Ints.one_ l) (by omega) (by omega) (by simp) ?_)
    intro v4 w4 hown4 hu4 hg4
    obtain ⟨A4, c4, rfl⟩ := own_slice hown4
    have uw4 : Upd No w w4 := ((Upd.refl No w).alloc _).then_ hu4 (fun j e => .inr (own_ge e))
    go_wp2
    go_ret
    exact ⟨A4, c4, rfl, hown4, uw4⟩
def sortI (l : List Int) : List Int := l.mergeSort fun x y => decide (x ≤ y)
theorem sortI_len (l : List Int) : (sortI l).length = l.length := List.length_mergeSort ..
theorem putI_list (F : Array Int) (cs : Array Value) (h : F.size ≤ cs.size) : Sort.putCells (Value.int .i64) 0 F cs = ((F.toList.map (Value.int .i64)) ++ cs.toList.drop F.size).toArray := by
  apply Array.ext'
  apply List.ext_getElem?
  intro t
  unfold Sort.putCells
  simp only [Nat.zero_add, Nat.zero_le, true_and, Nat.sub_zero, Array.getElem?_toList, Array.getElem?_mapIdx]
  by_cases h1 : t < F.size
  · rw [List.getElem?_append_left (by simpa using h1), List.getElem?_map, Array.getElem?_toList, Array.getElem?_eq_getElem (show t < cs.size by omega), Array.getElem?_eq_getElem h1]
    simp [h1]
  · rw [List.getElem?_append_right (by simpa using h1), List.getElem?_drop]
    simp only [List.length_map, Array.length_toList, Array.getElem?_toList]
    rw [show F.size + (t - F.size) = t by omega]
    cases cs[t]? <;> simp [h1]
theorem isort (w : World) (base : Nat) (A : Option Addr) (c : Nat) (l : List Int) (hown : w.ownsRow base 3 1 (.slice A l.length c) l.length (l.map (Value.int .i64))) (hl : l.length ≤ 17592186044415) :
    Calls Tryz.prog 59 #[.slice A l.length c] w fun e w' => e = .returned (.tuple #[]) ∧ w'.ownsRow base 3 1 (.slice A l.length c) l.length ((sortI l).map (Value.int .i64)) ∧ Upd (Own (.slice A l.length c)) w w' := by
  rcases hown.2 with ⟨hv, hn⟩ | ⟨g, cap, cur, hv, hbg, hg, hnc, hcm, hcs, htake⟩
  · have hl0 : l = [] := List.eq_nil_of_length_eq_zero hn
    subst hl0
    refine Calls.mono (Any.slices_Sort_int_none sortI_lay A c w) ?_
    rintro e w' ⟨rfl, rfl⟩
    exact ⟨rfl, by rw [show sortI [] = [] by unfold sortI; simp]; exact hown, Upd.refl _ _⟩
  · cases hv
    have hb : Blk w g 3 cur.toList := by unfold Blk; rw [Array.toArray_toList]; exact hg
    have hcs' : cur.size = c := by simpa using hcs
    have htake' : cur.toList.take l.length = l.map (Value.int .i64) := by simpa using htake
    have hH : Sort.Holds (Value.int .i64) w g 0 l.toArray := fun j hj => by
      simp only [List.size_toArray] at hj
      rw [Nat.zero_add]
      refine ⟨?_, hb.free j⟩
      rw [hb.cell j]
      have h1 : (cur.toList.take l.length)[j]? = cur.toList[j]? := by rw [List.getElem?_take, if_pos hj]
      rw [← h1, htake', List.getElem?_map, List.getElem?_eq_getElem hj]
      simp [hj]
    have hlt := hb.lt
    refine Calls.mono (Any.slices_Sort_int sortI_lay g 0 c l w hH hlt (by omega)) ?_
    rintro e w' ⟨rfl, n, os, rfl⟩
    have e1 : (Sort.grow (Sort.putRow (Value.int .i64) (Sort.ahead w n) g 0 (l.mergeSort fun x y => decide (x ≤ y)).toArray) os).heap[g]? = some (.cells (Sort.putCells (Value.int .i64) 0 (sortI l).toArray cur) 3 (0, 0)) := by
      unfold Sort.grow Sort.putRow Sort.mapBlock
      simp only
      rw [Array.getElem?_append_left (by simpa using hlt), Array.getElem?_modify]
      simp only [if_true]
      rw [show (Sort.ahead w n).heap = w.heap from rfl, hg]
      rfl
    have hsl := sortI_len l
    rw [putI_list _ _ (by simp only [List.size_toArray]; omega)] at e1
    refine ⟨rfl, ⟨by simp [hsl], .inr ⟨g, c, _, rfl, hbg, e1, hnc, hcm, ?_, ?_⟩⟩, ⟨rfl, rfl, rfl, ?_, fun k hk hn => ?_⟩⟩
    · simp [hsl]; omega
    · simp [hsl]
    · unfold Sort.grow Sort.putRow Sort.mapBlock
      simp only [Array.size_append, Array.size_modify]
      show w.heap.size ≤ w.heap.size + os.size
      omega
    · have hne : g ≠ k := fun e => hn (by unfold Own; rw [e]; rfl)
      unfold Sort.grow Sort.putRow Sort.mapBlock
      simp only
      rw [Array.getElem?_append_left (by simpa using hk), Array.getElem?_modify, if_neg hne]
      rfl
theorem flat_of_cell {w : World} {a : Addr} {v : Value} (h : w.cell? a = some v) : a = ⟨a.block, a.off, none⟩ := by
  obtain ⟨b, o, s⟩ := a
  cases s with
  | none => rfl
  | some s =>
    unfold World.cell? at h
    split at h
    · simp at h
    · cases h
theorem lit_add (b o j : Nat) : (⟨b, o, none⟩ : Addr).add j = ⟨b, o + j, none⟩ := by unfold Addr.add; split <;> simp_all
theorem Ints.cells_ {F : Nat → Prop} {w : World} {A : Option Addr} {l : List Int} (h : Ints F w A l) (hne : l ≠ []) : ∃ b o, A = some ⟨b, o, none⟩ ∧ ∀ j, j < l.length → w.cell? ⟨b, o + j, none⟩ = some (.int .i64 (l.getD j 0)) := by
  obtain ⟨ad, e, _, _, hc⟩ := h hne
  have h0 : 0 < l.length := List.length_pos_iff.2 hne
  have c0 := hc 0 _ (List.getElem?_eq_getElem h0)
  have ha : ad.add 0 = ad := by unfold Addr.add; simp
  rw [ha] at c0
  have hf := flat_of_cell c0
  refine ⟨ad.block, ad.off, by rw [e, ← hf], fun j hj => ?_⟩
  have cj := hc j _ (List.getElem?_eq_getElem hj)
  rw [hf] at cj
  rw [lit_add] at cj
  rw [cj, List.getD_eq_getElem?_getD, List.getElem?_eq_getElem hj]
  rfl
set_option maxRecDepth 100000 in
theorem iequal (F G : Nat → Prop) (w : World) (A B : Option Addr) (c d : Nat) (xs ys : List Int) (hx : Ints F w A xs) (hy : Ints G w B ys) (hl : xs.length ≤ 17592186044415) (hl2 : ys.length ≤ 17592186044415) :
    Calls Tryz.prog 60 #[.slice A xs.length c, .slice B ys.length d] w fun e w' => e = .returned (.bool (xs == ys)) ∧ Upd No w w' := by
  by_cases h0 : xs = []
  · subst h0
    refine Calls.mono (AnyG.slices_Equal_int_empty equalI_lay A B c ys.length d w (by omega)) ?_
    rintro e w' ⟨rfl, rfl⟩
    refine ⟨?_, Upd.refl _ _⟩
    cases ys <;> rfl
  · by_cases h1 : ys = []
    · subst h1
      have hne : 0 < xs.length := List.length_pos_iff.2 h0
      have hf : (xs == []) = false := by rw [beq_eq_false_iff_ne]; exact h0
      have hb : ((xs.length : Int) != ((0 : Nat) : Int)) = true := by rw [bne_iff_ne]; omega
      have Hf := Lib.hid hf
      clear hf h0
      go_enter Tryz.func60, Tryz.ntmps60
      go_wp2
      go_ret
      exact ⟨by rw [Hf.out]; rfl, Upd.refl _ _⟩
    · obtain ⟨b1, o1, rfl, hc1⟩ := hx.cells_ h0
      obtain ⟨b2, o2, rfl, hc2⟩ := hy.cells_ h1
      refine Calls.mono (AnyG.slices_Equal_int equalI_lay b1 o1 xs.length c b2 o2 ys.length d xs ys w (Nat.le_refl _) (Nat.le_refl _) (by omega) (by omega) hc1 hc2) ?_
      rintro e w' ⟨rfl, q, rfl⟩
      rw [List.take_length, List.take_length]
      exact ⟨rfl, (Upd.refl _ _).drewN q⟩
theorem Ints.of_owned {w : World} {base : Nat} {A : Option Addr} {c : Nat} {l : List Int} (h : w.ownsRow base 3 1 (.slice A l.length c) l.length (l.map (Value.int .i64))) : Ints (fun i => base ≤ i) w A l := Ints.of_own h
/-- have two lists the same numbers -/
def permB (a b : List Int) : Bool := sortI a == sortI b
set_option maxRecDepth 100000 in
theorem operm (F G : Nat → Prop) (w : World) (A B : Option Addr) (c d : Nat) (a b : List Int) (ha : Ints F w A a) (hb : Ints G w B b) (hl : a.length ≤ 17592186044415) (hl2 : b.length ≤ 17592186044415) :
    Calls Tryz.prog 31 #[.slice A a.length c, .slice B b.length d] w fun e w' => e = .returned (.bool (permB a b)) ∧ Upd No w w' := by
  have hsa := sortI_len a
  have hsb := sortI_len b
  have Hsa := Lib.hid hsa
  have Hsb := Lib.hid hsb
  clear hsa hsb
  go_enter Tryz.func31, Tryz.ntmps31
  go_wp2_with fail
  refine (iclone F w A c a ha hl).mono ?_
  rintro e w1 ⟨A1, c1, rfl, ho1, hu1⟩
  go_wp2_with fail
  refine (iclone G _ B d b (hb.upd hu1 (fun _ _ => id)) hl2).mono ?_
  rintro e w2 ⟨A2, c2, rfl, ho2, hu2⟩
  have ho1' := own_upd ho1 hu2 (fun _ _ => id)
  have hz2 := hu2.size
  have hlt1 := ho1.lt
  have hap : ∀ i, Value.ownBlock (.slice A1 a.length c1) = some i → ¬ Own (.slice A2 b.length c2) i := fun i hi e => by
    have h1 := (hlt1 i hi).2
    have h2 := (ho2.lt i e).1
    omega
  have Hap := Lib.hid hap
  have Hlt := Lib.hid hlt1
  clear hap hlt1 ho1
  go_wp2_with fail
  refine (isort _ _ A1 c1 a ho1' hl).mono ?_
  rintro e w3 ⟨rfl, ho3, hu3⟩
  have ho2' := own_upd ho2 hu3 (fun i hi e => Hap.out i e hi)
  go_wp2_with fail
  refine (isort _ _ A2 c2 b ho2' hl2).mono ?_
  rintro e w4 ⟨rfl, ho4, hu4⟩
  have ho3' := own_upd ho3 hu4 (fun i hi e => Hap.out i hi e)
  have hI1 : Ints (fun i => w.heap.size ≤ i) w4 A1 (sortI a) := Ints.of_own (n := a.length) (c := c1) ho3'
  have hI2 : Ints (fun i => w1.heap.size ≤ i) w4 A2 (sortI b) := Ints.of_own (n := b.length) (c := c2) ho4
  have hq := iequal _ _ w4 A1 A2 c1 c2 (sortI a) (sortI b) hI1 hI2 (by rw [Hsa.out]; exact hl) (by rw [Hsb.out]; exact hl2)
  rw [Hsa.out, Hsb.out] at hq
  have Hq := Lib.hid hq
  clear hq
  have hu12 := hu1.trans hu2
  have hu123 : Upd No w w3 := hu12.then_ hu3 fun i e => .inr (Hlt.out i e).1
  have hu1234 : Upd No w w4 := hu123.then_ hu4 fun i e => .inr (by have := (ho2.lt i e).1; have := hu1.size; omega)
  clear ho1' ho2 ho2' ho3 ho3' ho4 hI1 hI2 hu3 hu4 hu12 hu123
  go_wp2_with fail
  refine (Hq.out).mono ?_
  rintro e w5 ⟨rfl, hu5⟩
  go_wp2
  go_ret
  exact ⟨rfl, hu1234.trans hu5⟩
end Go.Proofs.YtgakhpdclhlmpaaGreat
