/- Slices of ints: cloned, sorted, held against one another. -/
import Derived.Lib.SliceRun
import Derived.Shelf.Slices.In.SortNone
import Derived.Test.YtaicemjckagcaaaGreatMab
import Derived.Test.YtaicemjckagcaaaGreatMac
import Derived.Test.YtaicemjckagcaaaGreatMae
namespace Go.Proofs.YtaicemjckagcaaaGreat
set_option linter.unusedVariables false
open Go.RowKit
theorem slt_int : SlT Tryz.prog 72 3 1 8 := SlT.mk_ Tryz.underlying72 (z := .int .i64 0) (by kernel_rfl) rfl (by omega)
/-- ints of the call's own -/
def NewI (w : World) (l : List Int) (e : Ending) (w' : World) : Prop := ∃ A c, e = .returned (.slice A l.length c) ∧ w'.ownsRow w.heap.size 3 1 (.slice A l.length c) l.length (l.map (Value.int .i64)) ∧ Upd No w w'
theorem own_empI {W : World} {B n : Nat} {e : TypeId} (hn : n = W.heap.size) (hB : B ≤ W.heap.size) : (W.alloc (.cells #[] e)).ownsRow B e 1 (.slice (some ⟨n, 0, none⟩) 0 0) 0 [] := by
  subst hn
  exact own_base (World.ownsRow_made W #[] 0 (Nat.le_refl _) (by decide) (by simp)) hB
theorem iclone (F : Nat → Prop) (w : World) (A : Option Addr) (c : Nat) (l : List Int) (h : Ints F w A l) (hl : l.length ≤ 17592186044415) :
    Calls Tryz.prog 112 #[.slice A l.length c] w (NewI w l) := by
  have qT : ∀ (w : World) (a : Option Addr) (n c : Nat), (binOp .eql 72 (.slice a n c) (.slice none 0 0)).run Tryz.prog w = .ok (.bool a.isNone) w := fun w a n c => Lib.run_eql_slice_nil w _ _ a n c 0 0 Tryz.underlying72
  cases A with
  | none =>
    have h0 : l = [] := by
      cases l with
      | nil => rfl
      | cons a l => obtain ⟨_, e, _⟩ := h (by simp); cases e
    subst h0
    go_enter Tryz.func112, Tryz.ntmps112
    go_wp2
    go_ret
    exact ⟨none, 0, rfl, World.ownsRow_nil _ _ _ _, Upd.refl _ _⟩
  | some ad =>
    have hs := Lib.hid (show Src (w.alloc (.cells #[] 3)) (some ad) l.length 1 (l.map (Value.int .i64)) from Ints.src (h.upd ((Upd.refl No w).alloc (.cells #[] 3)) (fun _ _ => id)))
    go_enter Tryz.func112, Tryz.ntmps112
    go_wp2_with (at_builtin; refine appN rfl rfl slt_int (base := w.heap.size) (v := .slice (some ⟨w.heap.size, 0, none⟩) 0 0) (n := 0) (m := l.length) (xs := []) rfl rfl (own_empI rfl (Nat.le_refl _)) hs.out (Ints.one_ l) (by omega) (by omega) (by simp) ?_)
    intro v4 w4 hown4 hu4 hg4
    obtain ⟨A4, c4, rfl⟩ := own_slice hown4
    have uw4 : Upd No w w4 := ((Upd.refl No w).alloc _).then_ hu4 (fun j e => .inr (own_ge e))
    go_wp2
    go_ret
    exact ⟨A4, c4, rfl, hown4, uw4⟩
def sortI (l : List Int) : List Int := l.mergeSort fun x y => decide (x ≤ y)
theorem sortI_len (l : List Int) : (sortI l).length = l.length := List.length_mergeSort ..
theorem putI_list (F : Array Int) (cs : Array Value) (h : F.size ≤ cs.size) : Sort.putCells (Value.int .i64) 0 F cs = ((F.toList.map (Value.int .i64)) ++ cs.toList.drop F.size).toArray := by
  apply Array.ext'
  apply List.ext_getElem?
  intro t
  unfold Sort.putCells
  simp only [Nat.zero_add, Nat.zero_le, true_and, Nat.sub_zero, Array.getElem?_toList, Array.getElem?_mapIdx]
  by_cases h1 : t < F.size
  · rw [List.getElem?_append_left (by simpa using h1), List.getElem?_map, Array.getElem?_toList, Array.getElem?_eq_getElem (show t < cs.size by omega), Array.getElem?_eq_getElem h1]
    simp [h1]
  · rw [List.getElem?_append_right (by simpa using h1), List.getElem?_drop]
    simp only [List.length_map, Array.length_toList, Array.getElem?_toList]
    rw [show F.size + (t - F.size) = t by omega]
    cases cs[t]? <;> simp [h1]
theorem isort (w : World) (base : Nat) (A : Option Addr) (c : Nat) (l : List Int) (hown : w.ownsRow base 3 1 (.slice A l.length c) l.length (l.map (Value.int .i64))) (hl : l.length ≤ 17592186044415) :
    Calls Tryz.prog 100 #[.slice A l.length c] w fun e w' => e = .returned (.tuple #[]) ∧ w'.ownsRow base 3 1 (.slice A l.length c) l.length ((sortI l).map (Value.int .i64)) ∧ Upd (Own (.slice A l.length c)) w w' := by
  rcases hown.2 with ⟨hv, hn⟩ | ⟨g, cap, cur, hv, hbg, hg, hnc, hcm, hcs, htake⟩
  · have hl0 : l = [] := List.eq_nil_of_length_eq_zero hn
    subst hl0
    refine Calls.mono (Any.slices_Sort_int_none sortI_lay A c w) ?_
    rintro e w' ⟨rfl, rfl⟩
    exact ⟨rfl, by rw [show sortI [] = [] by unfold sortI; simp]; exact hown, Upd.refl _ _⟩
  · cases hv
    have hb : Blk w g 3 cur.toList := by unfold Blk; rw [Array.toArray_toList]; exact hg
    have hcs' : cur.size = c := by simpa using hcs
    have htake' : cur.toList.take l.length = l.map (Value.int .i64) := by simpa using htake
    have hH : Sort.Holds (Value.int .i64) w g 0 l.toArray := fun j hj => by
      simp only [List.size_toArray] at hj
      rw [Nat.zero_add]
      refine ⟨?_, hb.free j⟩
      rw [hb.cell j]
      have h1 : (cur.toList.take l.length)[j]? = cur.toList[j]? := by rw [List.getElem?_take, if_pos hj]
      rw [← h1, htake', List.getElem?_map, List.getElem?_eq_getElem hj]
      simp [hj]
    have hlt := hb.lt
    refine Calls.mono (Any.slices_Sort_int sortI_lay g 0 c l w hH hlt (by omega)) ?_
    rintro e w' ⟨rfl, n, os, rfl⟩
    have e1 : (Sort.grow (Sort.putRow (Value.int .i64) (Sort.ahead w n) g 0 (l.mergeSort fun x y => decide (x ≤ y)).toArray) os).heap[g]? = some (.cells (Sort.putCells (Value.int .i64) 0 (sortI l).toArray cur) 3 (0, 0)) := by
      unfold Sort.grow Sort.putRow Sort.mapBlock
      simp only
      rw [Array.getElem?_append_left (by simpa using hlt), Array.getElem?_modify]
      simp only [if_true]
      rw [show (Sort.ahead w n).heap = w.heap from rfl, hg]
      rfl
    have hsl := sortI_len l
    rw [putI_list _ _ (by simp only [List.size_toArray]; omega)] at e1
    refine ⟨rfl, ⟨by simp [hsl], .inr ⟨g, c, _, rfl, hbg, e1, hnc, hcm, ?_, ?_⟩⟩, ⟨rfl, rfl, rfl, ?_, fun k hk hn => ?_⟩⟩
    · simp [hsl]; omega
    · simp [hsl]
    · unfold Sort.grow Sort.putRow Sort.mapBlock
      simp only [Array.size_append, Array.size_modify]
      show w.heap.size ≤ w.heap.size + os.size
      omega
    · have hne : g ≠ k := fun e => hn (by unfold Own; rw [e]; rfl)
      unfold Sort.grow Sort.putRow Sort.mapBlock
      simp only
      rw [Array.getElem?_append_left (by simpa using hk), Array.getElem?_modify, if_neg hne]
      rfl
theorem flat_of_cell {w : World} {a : Addr} {v : Value} (h : w.cell? a = some v) : a = ⟨a.block, a.off, none⟩ := by
  obtain ⟨b, o, s⟩ := a
  cases s with
  | none => rfl
  | some s =>
    unfold World.cell? at h
    split at h
    · simp at h
    · cases h
theorem lit_add (b o j : Nat) : (⟨b, o, none⟩ : Addr).add j = ⟨b, o + j, none⟩ := by unfold Addr.add; split <;> simp_all
theorem Ints.cells_ {F : Nat → Prop} {w : World} {A : Option Addr} {l : List Int} (h : Ints F w A l) (hne : l ≠ []) : ∃ b o, A = some ⟨b, o, none⟩ ∧ ∀ j, j < l.length → w.cell? ⟨b, o + j, none⟩ = some (.int .i64 (l.getD j 0)) := by
  obtain ⟨ad, e, _, _, hc⟩ := h hne
  have h0 : 0 < l.length := List.length_pos_iff.2 hne
  have c0 := hc 0 _ (List.getElem?_eq_getElem h0)
  have ha : ad.add 0 = ad := by unfold Addr.add; simp
  rw [ha] at c0
  have hf := flat_of_cell c0
  refine ⟨ad.block, ad.off, by rw [e, ← hf], fun j hj => ?_⟩
  have cj := hc j _ (List.getElem?_eq_getElem hj)
  rw [hf] at cj
  rw [lit_add] at cj
  rw [cj, List.getD_eq_getElem?_getD, List.getElem?_eq_getElem hj]
  rfl
set_option maxRecDepth 100000 in
theorem iequal (F G : Nat → Prop) (w : World) (A B : Option Addr) (c d : Nat) (xs ys : List Int) (hx : Ints F w A xs) (hy : Ints G w B ys) (hl : xs.length ≤ 17592186044415) (hl2 : ys.length ≤ 17592186044415) :
    Calls Tryz.prog 182 #[.slice A xs.length c, .slice B ys.length d] w fun e w' => e = .returned (.bool (xs == ys)) ∧ Upd No w w' := by
  by_cases h0 : xs = []
  · subst h0
    refine Calls.mono (AnyG.slices_Equal_int_empty equalI_lay A B c ys.length d w (by omega)) ?_
    rintro e w' ⟨rfl, rfl⟩
    refine ⟨?_, Upd.refl _ _⟩
    cases ys <;> rfl
  · by_cases h1 : ys = []
    · subst h1
      have hne : 0 < xs.length := List.length_pos_iff.2 h0
      have hf : (xs == []) = false := by rw [beq_eq_false_iff_ne]; exact h0
      have hb : ((xs.length : Int) != ((0 : Nat) : Int)) = true := by rw [bne_iff_ne]; omega
      have Hf := Lib.hid hf
      clear hf h0
      go_enter Tryz.func182, Tryz.ntmps182
      go_wp2
      go_ret
      exact ⟨by rw [Hf.out]; rfl, Upd.refl _ _⟩
    · obtain ⟨b1, o1, rfl, hc1⟩ := hx.cells_ h0
      obtain ⟨b2, o2, rfl, hc2⟩ := hy.cells_ h1
      refine Calls.mono (AnyG.slices_Equal_int equalI_lay b1 o1 xs.length c b2 o2 ys.length d xs ys w (Nat.le_refl _) (Nat.le_refl _) (by omega) (by omega) hc1 hc2) ?_
      rintro e w' ⟨rfl, q, rfl⟩
      rw [List.take_length, List.take_length]
      exact ⟨rfl, (Upd.refl _ _).drewN q⟩
theorem Ints.of_owned {w : World} {base : Nat} {A : Option Addr} {c : Nat} {l : List Int} (h : w.ownsRow base 3 1 (.slice A l.length c) l.length (l.map (Value.int .i64))) : Ints (fun i => base ≤ i) w A l := Ints.of_own h
/-- have two lists the same numbers -/
def permB (a b : List Int) : Bool := sortI a == sortI b
set_option maxRecDepth 100000 in
theorem operm (F G : Nat → Prop) (w : World) (A B : Option Addr) (c d : Nat) (a b : List Int) (ha : Ints F w A a) (hb : Ints G w B b) (hl : a.length ≤ 17592186044415) (hl2 : b.length ≤ 17592186044415) :
    Calls Tryz.prog 143 #[.slice A a.length c, .slice B b.length d] w fun e w' => e = .returned (.bool (permB a b)) ∧ Upd No w w' := by
  have hsa := sortI_len a
  have hsb := sortI_len b
  have Hsa := Lib.hid hsa
  have Hsb := Lib.hid hsb
  clear hsa hsb
  go_enter Tryz.func143, Tryz.ntmps143
  go_wp2_with fail
  refine (iclone F w A c a ha hl).mono ?_
  rintro e w1 ⟨A1, c1, rfl, ho1, hu1⟩
  go_wp2_with fail
  refine (iclone G _ B d b (hb.upd hu1 (fun _ _ => id)) hl2).mono ?_
  rintro e w2 ⟨A2, c2, rfl, ho2, hu2⟩
  have ho1' := own_upd ho1 hu2 (fun _ _ => id)
  have hz2 := hu2.size
  have hlt1 := ho1.lt
  have hap : ∀ i, Value.ownBlock (.slice A1 a.length c1) = some i → ¬ Own (.slice A2 b.length c2) i := fun i hi e => by
    have h1 := (hlt1 i hi).2
    have h2 := (ho2.lt i e).1
    omega
  have Hap := Lib.hid hap
  have Hlt := Lib.hid hlt1
  clear hap hlt1 ho1
  go_wp2_with fail
  refine (isort _ _ A1 c1 a ho1' hl).mono ?_
  rintro e w3 ⟨rfl, ho3, hu3⟩
  have ho2' := own_upd ho2 hu3 (fun i hi e => Hap.out i e hi)
  go_wp2_with fail
  refine (isort _ _ A2 c2 b ho2' hl2).mono ?_
  rintro e w4 ⟨rfl, ho4, hu4⟩
  have ho3' := own_upd ho3 hu4 (fun i hi e => Hap.out i hi e)
  have hI1 : Ints (fun i => w.heap.size ≤ i) w4 A1 (sortI a) := Ints.of_own (n := a.length) (c := c1) ho3'
  have hI2 : Ints (fun i => w1.heap.size ≤ i) w4 A2 (sortI b) := Ints.of_own (n := b.length) (c := c2) ho4
  have hq := iequal _ _ w4 A1 A2 c1 c2 (sortI a) (sortI b) hI1 hI2 (by rw [Hsa.out]; exact hl) (by rw [Hsb.out]; exact hl2)
  rw [Hsa.out, Hsb.out] at hq
  have Hq := Lib.hid hq
  clear hq
  have hu12 := hu1.trans hu2
  have hu123 : Upd No w w3 := hu12.then_ hu3 fun i e => .inr (Hlt.out i e).1
  have hu1234 : Upd No w w4 := hu123.then_ hu4 fun i e => .inr (by have := (ho2.lt i e).1; have := hu1.size; omega)
  clear ho1' ho2 ho2' ho3 ho3' ho4 hI1 hI2 hu3 hu4 hu12 hu123
  go_wp2_with fail
  refine (Hq.out).mono ?_
  rintro e w5 ⟨rfl, hu5⟩
  go_wp2
  go_ret
  exact ⟨rfl, hu1234.trans hu5⟩
end Go.Proofs.YtaicemjckagcaaaGreat
