/- Maps that the calls themselves make: what is got behind a put; keys that are structs. -/
import Derived.Laws.StructEq
import Derived.Test.YtmnhgdedkniafaaProg
import Derived.Shelf.Sort.Plain
import Derived.Ground.NamesProg
import Derived.Shelf.SlGeneric
import Derived.Lib.SliceRun
import Derived.Shelf.Slices.In.SortNone
import Derived.Lib.SlicesCompact
import Derived.Shelf.SlicesG.Turned
import Derived.Ground.SlgnProg
import Derived.Deep.RegionHeld3
import Derived.Lib.AppendZerosOnto
import Derived.Test.YtmnhgdedkniafaaMaj
namespace Go.Proofs.Ytmnhgdedkniafaa
set_option linter.unusedVariables false
open Go.RowKit

section
variable {α : Type} [DecidableEq α]
theorem look_app (a b : α) (v : Value) : ∀ (m : List (α × Value)) (i : Nat), look a m i = none → (look b (m ++ [(a, v)]) i).map (·.2) = if b = a then some v else (look b m i).map (·.2)
  | [], i, _ => by
    by_cases h : b = a <;> simp [look, h]
  | p :: m, i, h => by
    unfold look at h
    split at h
    · cases h
    · rename_i hne
      have ih := look_app a b v m (i + 1) h
      simp only [List.cons_append, look]
      by_cases hb : b = p.1
      · rw [if_pos hb, if_pos hb, if_neg (by rw [hb]; exact fun e => hne e.symm)]
      · rw [if_neg hb, if_neg hb]
        exact ih
theorem look_mod (a b : α) (v : Value) : ∀ (m : List (α × Value)) (i : Nat) (r : Nat × Value), look a m i = some r → (look b (m.modify (r.1 - i) fun p => (p.1, v)) i).map (·.2) = if b = a then some v else (look b m i).map (·.2)
  | [], i, r, h => by simp [look] at h
  | p :: m, i, r, h => by
    have hl := look_lt a (p :: m) i r h
    unfold look at h
    split at h
    · rename_i hab
      cases h
      simp only [Nat.sub_self, List.modify_zero_cons, look]
      by_cases hb : b = a
      · rw [if_pos (by rw [hb, hab]), if_pos hb]
        rfl
      · rw [if_neg (by rw [← hab]; exact hb), if_neg hb, if_neg (by rw [← hab]; exact hb)]
    · rename_i hne
      have h1 := (look_lt a m (i + 1) r h).1
      have ih := look_mod a b v m (i + 1) r h
      rw [show r.1 - i = (r.1 - (i + 1)) + 1 by omega, List.modify_succ_cons]
      simp only [look]
      by_cases hb : b = p.1
      · rw [if_pos hb, if_pos hb, if_neg (by rw [hb]; exact fun e => hne e.symm)]
      · rw [if_neg hb, if_neg hb]
        exact ih
theorem mget_mput (m : List (α × Value)) (a b : α) (v : Value) : mget (mput m a v) b = if b = a then some v else mget m b := by
  unfold mget mput
  cases h : look a m 0 with
  | none => exact look_app a b v m 0 h
  | some r =>
    have := look_mod a b v m 0 r h
    rw [Nat.sub_zero] at this
    exact this
theorem mget_same (m : List (α × Value)) (a : α) (v : Value) : mget (mput m a v) a = some v := by rw [mget_mput, if_pos rfl]
theorem mget_other (m : List (α × Value)) {a b : α} (v : Value) (h : b ≠ a) : mget (mput m a v) b = mget m b := by rw [mget_mput, if_neg h]
theorem mget_nil (a : α) : mget ([] : List (α × Value)) a = none := rfl
end

end Go.Proofs.Ytmnhgdedkniafaa

/- Histories: how operations, transactions, orders and histories lie in memory. -/
namespace Go.Proofs.Ytmnhgdedkniafaa
set_option linter.unusedVariables false
open Go.RowKit

def i64 (n : Int) : Prop := -9223372036854775808 ≤ n ∧ n ≤ 9223372036854775807
/-- an operation -/
structure HOp where
  read : Bool
  key : Int
  tx : Int
  nth : Int
deriving DecidableEq
def HOp.cells (o : HOp) : List Value := [.bool o.read, .int .i64 o.key, .int .i64 o.tx, .int .i64 o.nth]
def HOp.ok (o : HOp) : Prop := i64 o.key ∧ i64 o.tx ∧ i64 o.nth
/-- a version -/
structure Ver where
  tx : Int
  key : Int
  nth : Int
deriving DecidableEq
def Ver.cells (v : Ver) : List Value := [.int .i64 v.tx, .int .i64 v.key, .int .i64 v.nth]
/-- operations lie there -/
def HOps (F : Nat → Prop) (w : World) (A : Option Addr) (l : List HOp) : Prop := Recs F w A 4 (l.map HOp.cells)
/-- a transaction; its operations from A on -/
structure HTx where
  id : Int
  done : Bool
  ops : List HOp
  A : Option Addr
  c : Nat
def HTx.cells (t : HTx) : List Value := [.int .i64 t.id, .bool t.done, .slice t.A t.ops.length t.c]
/-- so many operations at the most as can be read -/
def fewOps (n : Nat) : Prop := n ≤ 4398046511103
def HTx.lies (F : Nat → Prop) (w : World) (t : HTx) : Prop := HOps F w t.A t.ops ∧ t.ops.length ≤ t.c ∧ fewOps t.ops.length ∧ i64 t.id ∧ ∀ o ∈ t.ops, o.ok
/-- an order -/
structure HOrd where
  key : Int
  txs : List Int
  A : Option Addr
  c : Nat
def HOrd.cells (o : HOrd) : List Value := [.int .i64 o.key, .slice o.A o.txs.length o.c]
def HOrd.lies (F : Nat → Prop) (w : World) (o : HOrd) : Prop := Ints F w o.A o.txs ∧ o.txs.length ≤ o.c ∧ o.txs.length ≤ 17592186044415 ∧ i64 o.key ∧ ∀ n ∈ o.txs, i64 n
/-- a history -/
structure Hist where
  txs : List HTx
  ords : List HOrd
  A : Option Addr
  c : Nat
  B : Option Addr
  d : Nat
def Hist.val (h : Hist) : Value := .agg #[.slice h.A h.txs.length h.c, .slice h.B h.ords.length h.d]
def Hist.cells (h : Hist) : List Value := [.slice h.A h.txs.length h.c, .slice h.B h.ords.length h.d]
structure Hist.lies (F : Nat → Prop) (w : World) (h : Hist) : Prop where
  txs : Recs F w h.A 3 (h.txs.map HTx.cells)
  ords : Recs F w h.B 2 (h.ords.map HOrd.cells)
  tx : ∀ t ∈ h.txs, t.lies F w
  ord : ∀ o ∈ h.ords, o.lies F w
  c : h.txs.length ≤ h.c
  d : h.ords.length ≤ h.d
  few : h.txs.length ≤ 4398046511103
  fewo : h.ords.length ≤ 4398046511103
section
variable {F S : Nat → Prop} {w w' : World}
theorem HOps.upd {A : Option Addr} {l : List HOp} (h : HOps F w A l) (k : Upd S w w') (hn : ∀ i, F i → ¬ S i) : HOps F w' A l := Recs.upd h k hn
theorem HTx.lies.upd {t : HTx} (h : t.lies F w) (k : Upd S w w') (hn : ∀ i, F i → ¬ S i) : t.lies F w' := ⟨HOps.upd h.1 k hn, h.2⟩
theorem HOrd.lies.upd {o : HOrd} (h : o.lies F w) (k : Upd S w w') (hn : ∀ i, F i → ¬ S i) : o.lies F w' := ⟨h.1.upd k hn, h.2⟩
theorem Hist.lies.upd {h : Hist} (H : h.lies F w) (k : Upd S w w') (hn : ∀ i, F i → ¬ S i) : h.lies F w' :=
  ⟨Recs.upd H.txs k hn, Recs.upd H.ords k hn, fun t ht => (H.tx t ht).upd k hn, fun o ho => (H.ord o ho).upd k hn, H.c, H.d, H.few, H.fewo⟩
theorem HOps.at_ {A : Option Addr} {l : List HOp} (h : HOps F w A l) {k : Nat} (hk : k < l.length) : ∃ ad, A = some ad ∧
    w.cell? (ad.add (k * 4)) = some (.bool l[k].read) ∧ w.cell? ⟨(ad.add (k * 4)).block, (ad.add (k * 4)).off + 1, none⟩ = some (.int .i64 l[k].key) ∧
    w.cell? ⟨(ad.add (k * 4)).block, (ad.add (k * 4)).off + 2, none⟩ = some (.int .i64 l[k].tx) ∧ w.cell? ⟨(ad.add (k * 4)).block, (ad.add (k * 4)).off + 3, none⟩ = some (.int .i64 l[k].nth) := by
  have hk' : k < (l.map HOp.cells).length := by simpa using hk
  obtain ⟨ad, e, _, _, hc⟩ := Recs.at_ h hk'
  rw [List.getElem_map] at hc
  exact ⟨ad, e, by simpa using hc 0 _ rfl, by simpa using hc 1 _ rfl, by simpa using hc 2 _ rfl, by simpa using hc 3 _ rfl⟩
end
end Go.Proofs.Ytmnhgdedkniafaa

/- Operations and versions: which are right, by the program and by the document. -/
namespace Go.Proofs.Ytmnhgdedkniafaa
set_option linter.unusedVariables false
open Go.RowKit
end Go.Proofs.Ytmnhgdedkniafaa

/- Operations: the version that they read, whether they are right. -/
namespace Go.Proofs.Ytmnhgdedkniafaa
set_option linter.unusedVariables false
open Go.RowKit
end Go.Proofs.Ytmnhgdedkniafaa

/- How many writes of a key there are; whether a history is light. -/
namespace Go.Proofs.Ytmnhgdedkniafaa
set_option linter.unusedVariables false
open Go.RowKit
def isW (key : Int) (o : HOp) : Bool := !o.read && o.key == key
/-- among the first k -/
def wrN (l : List HOp) (key : Int) (k : Nat) : Nat := ((l.take k).filter (isW key)).length
theorem wrN_succ {l : List HOp} {key : Int} {k : Nat} (hk : k < l.length) : wrN l key (k + 1) = wrN l key k + if isW key l[k] = true then 1 else 0 := by
  unfold wrN
  rw [List.take_succ_eq_append_getElem hk, List.filter_append, List.length_append]
  by_cases h : isW key l[k] = true
  · rw [if_pos h, List.filter_cons_of_pos h]; rfl
  · rw [if_neg h, List.filter_cons_of_neg h]; rfl
theorem wrN_yes {l : List HOp} {key : Int} {k : Nat} {x : HOp} (hk : k < l.length) (hx : l[k] = x) (h : isW key x = true) : wrN l key (k + 1) = wrN l key k + 1 := by
  subst hx; rw [wrN_succ hk, if_pos h]
theorem wrN_no {l : List HOp} {key : Int} {k : Nat} {x : HOp} (hk : k < l.length) (hx : l[k] = x) (h : isW key x = false) : wrN l key (k + 1) = wrN l key k := by
  subst hx; rw [wrN_succ hk, if_neg (by rw [h]; decide), Nat.add_zero]
end Go.Proofs.Ytmnhgdedkniafaa

/- Whether a history is light, by the document. -/
namespace Go.Proofs.Ytmnhgdedkniafaa
set_option linter.unusedVariables false
open Go.RowKit
end Go.Proofs.Ytmnhgdedkniafaa

/- Maps by a key and a number, and by versions. -/
namespace Go.Proofs.Ytmnhgdedkniafaa
set_option linter.unusedVariables false
open Go.RowKit
/-- what the map of writes tells -/
def WrM (m : List ((Int × Int) × Value)) (l : List HOp) (k : Nat) : Prop :=
  ∀ key n : Int, (mget m (key, n)).getD (.int .i64 0) = .int .i64 (if n = 0 then (wrN l key k : Int) else if 1 ≤ n ∧ n ≤ (wrN l key k : Int) then 1 else 0)
theorem WrM.nil (l : List HOp) : WrM [] l 0 := fun key n => by
  rw [mget_nil]
  have : wrN l key 0 = 0 := rfl
  rw [this]
  by_cases h : n = 0
  · rw [if_pos h]; rfl
  · rw [if_neg h, if_neg (by omega)]; rfl
theorem WrM.skip {m : List ((Int × Int) × Value)} {l : List HOp} {k : Nat} (h : WrM m l k) (hk : k < l.length) (hr : l[k].read = true) : WrM m l (k + 1) := fun key n => by
  rw [wrN_no hk rfl (by unfold isW; rw [hr]; rfl)]
  exact h key n
theorem WrM.put {m : List ((Int × Int) × Value)} {l : List HOp} {k : Nat} {x : HOp} (h : WrM m l k) (hk : k < l.length) (hx : l[k] = x) (hr : x.read = false) :
    WrM (mput (mput m (x.key, 0) (.int .i64 ((wrN l x.key k : Int) + 1))) (x.key, (wrN l x.key k : Int) + 1) (.int .i64 1)) l (k + 1) := fun key n => by
  subst hx
  by_cases hkey : key = l[k].key
  · subst hkey
    rw [wrN_yes hk rfl (by unfold isW; rw [hr]; simp)]
    by_cases h0 : n = 0
    · subst h0
      rw [mget_other _ _ (fun e => by injection e with _ e; omega), mget_same, if_pos rfl]
      rfl
    · rw [if_neg h0]
      by_cases h1 : n = (wrN l l[k].key k : Int) + 1
      · rw [h1, mget_same, if_pos (by omega)]
        rfl
      · rw [mget_other _ _ (fun e => by injection e with _ e; exact h1 e), mget_other _ _ (fun e => by injection e with _ e; exact h0 e), h l[k].key n, if_neg h0]
        by_cases h2 : 1 ≤ n ∧ n ≤ (wrN l l[k].key k : Int)
        · rw [if_pos h2, if_pos (by omega)]
        · rw [if_neg h2, if_neg (by omega)]
  · rw [mget_other _ _ (fun e => by injection e with e _; exact hkey e), mget_other _ _ (fun e => by injection e with e _; exact hkey e), h key n,
      wrN_no hk rfl (by
        unfold isW
        have : (l[k].key == key) = false := by rw [beq_eq_false_iff_ne]; exact fun e => hkey e.symm
        rw [this]; simp)]
end Go.Proofs.Ytmnhgdedkniafaa

/- A contract of the library, laid at this dump: the table of numbers typed out. -/
namespace Go.Proofs.Ytmnhgdedkniafaa
open Go.Shelf Go.Proofs
def sortI_lay_ren : Go.Shelf.Ren := ⟨fun | 189 => 116 | 125 => 168 | 257 => 167 | 128 => 210 | 129 => 211 | 294 => 201 | 295 => 202 | 296 => 203 | 297 => 204 | 298 => 205 | 299 => 206 | 216 => 207 | 300 => 208 | 301 => 209 | 328 => 236 | 329 => 237 | 330 => 238 | 331 => 239 | 332 => 240 | 215 => 195 | 343 => 252 | n => n, fun | 28 => 50 | 3 => 3 | 46 => 97 | 0 => 0 | 51 => 264 | 53 => 201 | 4 => 4 | 183 => 258 | 182 => 257 | 131 => 144 | 5 => 5 | 9 => 9 | 218 => 280 | 222 => 283 | 228 => 296 | 229 => 297 | n => n, fun | n => n⟩
theorem sortI_lay : Go.Proofs.Lays.n189 Try.prog sortI_lay_ren := {
  mixed := by kernel_rfl
  f125 := Try.func168.trans (congrArg some (by kernel_rfl))
  f128 := Try.func210.trans (congrArg some (by kernel_rfl))
  f129 := Try.func211.trans (congrArg some (by kernel_rfl))
  f189 := Try.func116.trans (congrArg some (by kernel_rfl))
  f215 := Try.func195.trans (congrArg some (by kernel_rfl))
  f216 := Try.func207.trans (congrArg some (by kernel_rfl))
  f257 := Try.func167.trans (congrArg some (by kernel_rfl))
  f294 := Try.func201.trans (congrArg some (by kernel_rfl))
  f295 := Try.func202.trans (congrArg some (by kernel_rfl))
  f296 := Try.func203.trans (congrArg some (by kernel_rfl))
  f297 := Try.func204.trans (congrArg some (by kernel_rfl))
  f298 := Try.func205.trans (congrArg some (by kernel_rfl))
  f299 := Try.func206.trans (congrArg some (by kernel_rfl))
  f300 := Try.func208.trans (congrArg some (by kernel_rfl))
  f301 := Try.func209.trans (congrArg some (by kernel_rfl))
  f328 := Try.func236.trans (congrArg some (by kernel_rfl))
  f329 := Try.func237.trans (congrArg some (by kernel_rfl))
  f330 := Try.func238.trans (congrArg some (by kernel_rfl))
  f331 := Try.func239.trans (congrArg some (by kernel_rfl))
  f332 := Try.func240.trans (congrArg some (by kernel_rfl))
  f343 := Try.func252.trans (congrArg some (by kernel_rfl))
  t0 := Try.underlying0
  a0 := Try.isAgg0
  z0 := Try.sizeOf0
  v0 := Try.zeroValue0
  t3 := Try.underlying3
  a3 := Try.isAgg3
  z3 := Try.sizeOf3
  v3 := Try.zeroValue3
  t4 := Try.underlying4
  a4 := Try.isAgg4
  z4 := Try.sizeOf4
  v4 := Try.zeroValue4
  t5 := Try.underlying5
  a5 := Try.isAgg5
  z5 := Try.sizeOf5
  v5 := Try.zeroValue5
  t9 := Try.underlying9
  a9 := Try.isAgg9
  z9 := Try.sizeOf9
  v9 := Try.zeroValue9
  t28 := Try.underlying50
  a28 := Try.isAgg50
  z28 := Try.sizeOf50
  v28 := Try.zeroValue50
  t46 := Try.underlying97
  a46 := Try.isAgg97
  z46 := Try.sizeOf97
  v46 := Try.zeroValue97
  t51 := Try.underlying264
  a51 := Try.isAgg264
  z51 := Try.sizeOf264
  v51 := Try.zeroValue264
  t53 := Try.underlying201
  a53 := Try.isAgg201
  z53 := Try.sizeOf201
  v53 := Try.zeroValue201
  t131 := Try.underlying144
  a131 := Try.isAgg144
  z131 := Try.sizeOf144
  v131 := Try.zeroValue144
  t182 := Try.underlying257
  a182 := Try.isAgg257
  z182 := Try.sizeOf257
  v182 := Try.zeroValue257
  t183 := Try.underlying258
  a183 := Try.isAgg258
  z183 := Try.sizeOf258
  v183 := Try.zeroValue258
  t218 := Try.underlying280
  a218 := Try.isAgg280
  z218 := Try.sizeOf280
  v218 := Try.zeroValue280
  t222 := Try.underlying283
  a222 := Try.isAgg283
  z222 := Try.sizeOf283
  v222 := Try.zeroValue283
  t228 := Try.underlying296
  a228 := Try.isAgg296
  z228 := Try.sizeOf296
  v228 := Try.zeroValue296
  t229 := Try.underlying297
  a229 := Try.isAgg297
  z229 := Try.sizeOf297
  v229 := Try.zeroValue297 }
end Go.Proofs.Ytmnhgdedkniafaa

/- Left empty: the seat lacks the function. -/

/- Slices of ints: cloned, sorted, held against one another. -/
namespace Go.Proofs.Ytmnhgdedkniafaa
set_option linter.unusedVariables false
open Go.RowKit
theorem slt_int : SlT Try.prog 50 3 1 8 := SlT.mk_ Try.underlying50 (z := .int .i64 0) (by kernel_rfl) rfl (by omega)
/-- ints of the call's own -/
def NewI (w : World) (l : List Int) (e : Ending) (w' : World) : Prop := ∃ A c, e = .returned (.slice A l.length c) ∧ w'.ownsRow w.heap.size 3 1 (.slice A l.length c) l.length (l.map (Value.int .i64)) ∧ Upd No w w'
def sortI (l : List Int) : List Int := l.mergeSort fun x y => decide (x ≤ y)
theorem sortI_len (l : List Int) : (sortI l).length = l.length := List.length_mergeSort ..
theorem putI_list (F : Array Int) (cs : Array Value) (h : F.size ≤ cs.size) : Sort.putCells (Value.int .i64) 0 F cs = ((F.toList.map (Value.int .i64)) ++ cs.toList.drop F.size).toArray := by
  apply Array.ext'
  apply List.ext_getElem?
  intro t
  unfold Sort.putCells
  simp only [Nat.zero_add, Nat.zero_le, true_and, Nat.sub_zero, Array.getElem?_toList, Array.getElem?_mapIdx]
  by_cases h1 : t < F.size
  · rw [List.getElem?_append_left (by simpa using h1), List.getElem?_map, Array.getElem?_toList, Array.getElem?_eq_getElem (show t < cs.size by omega), Array.getElem?_eq_getElem h1]
    simp [h1]
  · rw [List.getElem?_append_right (by simpa using h1), List.getElem?_drop]
    simp only [List.length_map, Array.length_toList, Array.getElem?_toList]
    rw [show F.size + (t - F.size) = t by omega]
    cases cs[t]? <;> simp [h1]
theorem isort (w : World) (base : Nat) (A : Option Addr) (c : Nat) (l : List Int) (hown : w.ownsRow base 3 1 (.slice A l.length c) l.length (l.map (Value.int .i64))) (hl : l.length ≤ 17592186044415) :
    Calls Try.prog 116 #[.slice A l.length c] w fun e w' => e = .returned (.tuple #[]) ∧ w'.ownsRow base 3 1 (.slice A l.length c) l.length ((sortI l).map (Value.int .i64)) ∧ Upd (Own (.slice A l.length c)) w w' := by
  rcases hown.2 with ⟨hv, hn⟩ | ⟨g, cap, cur, hv, hbg, hg, hnc, hcm, hcs, htake⟩
  · have hl0 : l = [] := List.eq_nil_of_length_eq_zero hn
    subst hl0
    refine Calls.mono (Any.slices_Sort_int_none sortI_lay A c w) ?_
    rintro e w' ⟨rfl, rfl⟩
    exact ⟨rfl, by rw [show sortI [] = [] by unfold sortI; simp]; exact hown, Upd.refl _ _⟩
  · cases hv
    have hb : Blk w g 3 cur.toList := by unfold Blk; rw [Array.toArray_toList]; exact hg
    have hcs' : cur.size = c := by simpa using hcs
    have htake' : cur.toList.take l.length = l.map (Value.int .i64) := by simpa using htake
    have hH : Sort.Holds (Value.int .i64) w g 0 l.toArray := fun j hj => by
      simp only [List.size_toArray] at hj
      rw [Nat.zero_add]
      refine ⟨?_, hb.free j⟩
      rw [hb.cell j]
      have h1 : (cur.toList.take l.length)[j]? = cur.toList[j]? := by rw [List.getElem?_take, if_pos hj]
      rw [← h1, htake', List.getElem?_map, List.getElem?_eq_getElem hj]
      simp [hj]
    have hlt := hb.lt
    refine Calls.mono (Any.slices_Sort_int sortI_lay g 0 c l w hH hlt (by omega)) ?_
    rintro e w' ⟨rfl, n, os, rfl⟩
    have e1 : (Sort.grow (Sort.putRow (Value.int .i64) (Sort.ahead w n) g 0 (l.mergeSort fun x y => decide (x ≤ y)).toArray) os).heap[g]? = some (.cells (Sort.putCells (Value.int .i64) 0 (sortI l).toArray cur) 3 (0, 0)) := by
      unfold Sort.grow Sort.putRow Sort.mapBlock
      simp only
      rw [Array.getElem?_append_left (by simpa using hlt), Array.getElem?_modify]
      simp only [if_true]
      rw [show (Sort.ahead w n).heap = w.heap from rfl, hg]
      rfl
    have hsl := sortI_len l
    rw [putI_list _ _ (by simp only [List.size_toArray]; omega)] at e1
    refine ⟨rfl, ⟨by simp [hsl], .inr ⟨g, c, _, rfl, hbg, e1, hnc, hcm, ?_, ?_⟩⟩, ⟨rfl, rfl, rfl, ?_, fun k hk hn => ?_⟩⟩
    · simp [hsl]; omega
    · simp [hsl]
    · unfold Sort.grow Sort.putRow Sort.mapBlock
      simp only [Array.size_append, Array.size_modify]
      show w.heap.size ≤ w.heap.size + os.size
      omega
    · have hne : g ≠ k := fun e => hn (by unfold Own; rw [e]; rfl)
      unfold Sort.grow Sort.putRow Sort.mapBlock
      simp only
      rw [Array.getElem?_append_left (by simpa using hk), Array.getElem?_modify, if_neg hne]
      rfl
end Go.Proofs.Ytmnhgdedkniafaa

/- Lists of numbers: sorted by putting one after another, each once. -/
namespace Go.Proofs.Ytmnhgdedkniafaa
set_option linter.unusedVariables false
def insK (x : Int) : List Int → List Int
  | [] => [x]
  | y :: l => if x ≤ y then x :: y :: l else y :: insK x l
def sortK : List Int → List Int
  | [] => []
  | x :: l => insK x (sortK l)
theorem insK_perm (x : Int) : ∀ l : List Int, (insK x l).Perm (x :: l)
  | [] => List.Perm.refl _
  | y :: l => by
    unfold insK
    split
    · exact List.Perm.refl _
    · exact ((insK_perm x l).cons y).trans (List.Perm.swap x y l)
theorem sortK_perm : ∀ l : List Int, (sortK l).Perm l
  | [] => List.Perm.refl _
  | x :: l => (insK_perm x _).trans ((sortK_perm l).cons x)
theorem insK_le (x : Int) : ∀ l : List Int, l.Pairwise (· ≤ ·) → (insK x l).Pairwise (· ≤ ·)
  | [], _ => by simp [insK]
  | y :: l, h => by
    rw [List.pairwise_cons] at h
    unfold insK
    split
    · rename_i hxy
      rw [List.pairwise_cons]
      refine ⟨fun a ha => ?_, List.pairwise_cons.2 h⟩
      rcases List.mem_cons.1 ha with rfl | ha
      · exact hxy
      · exact Int.le_trans hxy (h.1 a ha)
    · rename_i hxy
      rw [List.pairwise_cons]
      refine ⟨fun a ha => ?_, insK_le x l h.2⟩
      rcases List.mem_cons.1 ((insK_perm x l).mem_iff.1 ha) with rfl | ha
      · omega
      · exact h.1 a ha
theorem sortK_le : ∀ l : List Int, (sortK l).Pairwise (· ≤ ·)
  | [] => List.Pairwise.nil
  | x :: l => insK_le x _ (sortK_le l)
theorem sortI_le (l : List Int) : (sortI l).Pairwise (· ≤ ·) := by
  have := List.pairwise_mergeSort (le := fun x y : Int => decide (x ≤ y)) (fun a b c h k => by simp only [decide_eq_true_eq] at *; omega) (fun a b => by simp only [Bool.or_eq_true, decide_eq_true_eq]; omega) l
  unfold sortI
  exact this.imp fun h => by simpa using h
theorem sorted_eq {a b : List Int} (h : a.Perm b) (ha : a.Pairwise (· ≤ ·)) (hb : b.Pairwise (· ≤ ·)) : a = b :=
  List.Perm.eq_of_pairwise (le := fun x y => x ≤ y) (fun x y _ _ h1 h2 => Int.le_antisymm h1 h2) ha hb h
theorem sortI_eq (l : List Int) : sortI l = sortK l :=
  sorted_eq (((List.mergeSort_perm _ _)).trans (sortK_perm l).symm) (sortI_le l) (sortK_le l)
/-- of the first k, each once: what is not the one ahead -/
def ddI (l : List Int) : Nat → List Int
  | 0 => []
  | k + 1 => ddI l k ++ (match l[k]? with | none => [] | some x => if k = 0 then [x] else if l[k - 1]? = some x then [] else [x])
theorem ddI_succ (l : List Int) (k : Nat) : ddI l (k + 1) = ddI l k ++ (match l[k]? with | none => [] | some x => if k = 0 then [x] else if l[k - 1]? = some x then [] else [x]) := rfl
theorem compact_upto (l : List Int) : ∀ k, k ≤ l.length → Lib.compactUpTo l.toArray k = ddI l k
  | 0, _ => rfl
  | k + 1, h => by
    rw [Lib.compactUpTo_succ, compact_upto l k (by omega)]
    rw [ddI_succ]
    have hk : l[k]? = some l[k] := List.getElem?_eq_getElem (by omega)
    rw [hk]
    have e1 : l.toArray[k]! = l[k] := by simp [show k < l.length by omega]
    simp only [e1]
    unfold Lib.keeps
    by_cases h0 : k = 0
    · subst h0; simp
    · have hk1 : l[k - 1]? = some l[k - 1] := List.getElem?_eq_getElem (by omega)
      have e2 : l.toArray[k - 1]! = l[k - 1] := by simp [show k - 1 < l.length by omega]
      rw [if_neg h0, hk1]
      simp only [e1, e2, h0, Option.some.injEq]
      by_cases h1 : l[k - 1] = l[k]
      · simp [h1]
      · have h2 : ¬ l[k] = l[k - 1] := fun e => h1 e.symm
        simp [h1, h2]
theorem compact_eq (l : List Int) : Lib.compact l = ddI l l.length := compact_upto l l.length (Nat.le_refl _)
theorem ddI_len (l : List Int) : ∀ k, (ddI l k).length ≤ k
  | 0 => Nat.le_refl _
  | k + 1 => by
    rw [ddI_succ]
    have := ddI_len l k
    rw [List.length_append]
    split
    · simp; omega
    · split
      · simp; omega
      · split <;> simp <;> omega
theorem mem_ddI (l : List Int) (a : Int) : ∀ k, k ≤ l.length → (a ∈ ddI l k ↔ a ∈ l.take k)
  | 0, _ => by simp [ddI]
  | k + 1, h => by
    have ih := mem_ddI l a k (by omega)
    rw [ddI_succ]
    rw [List.getElem?_eq_getElem (show k < l.length by omega), List.take_succ_eq_append_getElem (show k < l.length by omega), List.mem_append, List.mem_append, ih]
    by_cases h0 : k = 0
    · subst h0; simp
    · simp only [if_neg h0]
      by_cases h1 : l[k - 1]? = some l[k]
      · rw [if_pos h1]
        have hm : l[k] ∈ l.take k := by
          rw [List.mem_take_iff_getElem]
          refine ⟨k - 1, by omega, ?_⟩
          rw [List.getElem?_eq_getElem (by omega)] at h1
          simpa using h1
        constructor
        · rintro (h | h)
          · exact .inl h
          · simp at h
        · rintro (h | h)
          · exact .inl h
          · simp only [List.mem_singleton] at h
            subst h
            exact .inl hm
      · rw [if_neg h1]
theorem ddI_lt (l : List Int) (hs : l.Pairwise (· ≤ ·)) : ∀ k, k ≤ l.length → (ddI l k).Pairwise (· < ·)
  | 0, _ => List.Pairwise.nil
  | k + 1, h => by
    have ih := ddI_lt l hs k (by omega)
    rw [ddI_succ]
    rw [List.getElem?_eq_getElem (show k < l.length by omega)]
    by_cases h0 : k = 0
    · subst h0; simp [ddI]
    · simp only [if_neg h0]
      by_cases h1 : l[k - 1]? = some l[k]
      · rw [if_pos h1, List.append_nil]; exact ih
      · rw [if_neg h1, List.pairwise_append]
        refine ⟨ih, by simp, fun a ha b hb => ?_⟩
        simp only [List.mem_singleton] at hb
        subst hb
        rw [mem_ddI l a k (by omega), List.mem_take_iff_getElem] at ha
        obtain ⟨j, hj, rfl⟩ := ha
        have hp := List.pairwise_iff_getElem.1 hs
        have e1 : l[j] ≤ l[k - 1] := by
          by_cases e : j = k - 1
          · subst e; exact Int.le_refl _
          · exact hp j (k - 1) (by omega) (by omega) (by omega)
        have e2 : l[k - 1] ≤ l[k] := hp (k - 1) k (by omega) (by omega) (by omega)
        have e3 : l[k - 1] ≠ l[k] := fun e => h1 (by rw [List.getElem?_eq_getElem (by omega), e])
        omega
/-- numbers, rising, each once -/
def setK (l : List Int) : List Int := ddI (sortK l) (sortK l).length
theorem mem_setK (l : List Int) (a : Int) : a ∈ setK l ↔ a ∈ l := by
  unfold setK
  rw [mem_ddI _ _ _ (Nat.le_refl _), List.take_length]
  exact (sortK_perm l).mem_iff
theorem setK_lt (l : List Int) : (setK l).Pairwise (· < ·) := ddI_lt _ (sortK_le l) _ (Nat.le_refl _)
theorem setK_compact (l : List Int) : Lib.compact (sortI l) = setK l := by rw [sortI_eq, compact_eq]; rfl
end Go.Proofs.Ytmnhgdedkniafaa

/- A contract of the library, laid at this dump: the table of numbers typed out. -/
namespace Go.Proofs.Ytmnhgdedkniafaa
open Go.Shelf Go.Proofs
end Go.Proofs.Ytmnhgdedkniafaa

/- Walks held against one another, from whichever places they begin. -/
namespace Go.Proofs.Ytmnhgdedkniafaa
set_option linter.unusedVariables false
open Go.RowKit

end Go.Proofs.Ytmnhgdedkniafaa

/- Walks: whether two are one; one begun elsewhere, by the program and by the document. -/
namespace Go.Proofs.Ytmnhgdedkniafaa
set_option linter.unusedVariables false
open Go.RowKit

end Go.Proofs.Ytmnhgdedkniafaa

/- Operations cloned, transactions copied and found. -/
namespace Go.Proofs.Ytmnhgdedkniafaa
set_option linter.unusedVariables false
open Go.RowKit
end Go.Proofs.Ytmnhgdedkniafaa

/- The kinds of a phenomenon; who is next in an order. -/
namespace Go.Proofs.Ytmnhgdedkniafaa
set_option linter.unusedVariables false
open Go.RowKit
end Go.Proofs.Ytmnhgdedkniafaa

/- The order of a key. -/
namespace Go.Proofs.Ytmnhgdedkniafaa
set_option linter.unusedVariables false
open Go.RowKit
end Go.Proofs.Ytmnhgdedkniafaa

/- Walks begun elsewhere, and turned, by the program and by the document. -/
namespace Go.Proofs.Ytmnhgdedkniafaa
set_option linter.unusedVariables false
open Go.RowKit

theorem Walk.drop {F : Nat → Prop} {w : World} {A : Option Addr} {l : List Edge} (h : Walk F w A l) {i c : Nat} (hc : l.length ≤ c) : Walk F w (cutA A c i 4) (l.drop i) := by
  unfold Walk
  rw [List.map_drop]
  exact Recs.cut h (by simpa using hc)
theorem Walk.take {F : Nat → Prop} {w : World} {A : Option Addr} {l : List Edge} (h : Walk F w A l) {i : Nat} : Walk F w A (l.take i) := by
  unfold Walk
  rw [List.map_take]
  exact Recs.take h
end Go.Proofs.Ytmnhgdedkniafaa

/- Walks: simple by the program; the bits of their kinds, by the program and by the document. -/
namespace Go.Proofs.Ytmnhgdedkniafaa
set_option linter.unusedVariables false
open Go.RowKit

section
variable {α : Type} [DecidableEq α]
end
end Go.Proofs.Ytmnhgdedkniafaa

/- Walks turned: the plain law: the least of all that are begun elsewhere is one, from whichever place it is begun. -/
namespace Go.Proofs.Ytmnhgdedkniafaa
set_option linter.unusedVariables false
open Go.RowKit

end Go.Proofs.Ytmnhgdedkniafaa

/- What the program tells of histories, in plain words: needs, keys, writers, right; and of edges, reads and witnesses. -/
namespace Go.Proofs.Ytmnhgdedkniafaa
set_option linter.unusedVariables false
open Go.RowKit
/-- a bad read -/
structure HBad where
  tx : Int
  place : Int
  of : Ver
deriving DecidableEq
def HBad.cells (b : HBad) : List Value := [.int .i64 b.tx, .int .i64 b.place, .int .i64 b.of.tx, .int .i64 b.of.key, .int .i64 b.of.nth]
/-! from any place -/
end Go.Proofs.Ytmnhgdedkniafaa
