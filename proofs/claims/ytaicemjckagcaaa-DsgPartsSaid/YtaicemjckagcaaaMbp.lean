/- Digraphs: lists of arcs; when two are one. -/
import Derived.Laws.StructEq
import Derived.Test.YtaicemjckagcaaaMay
import Derived.Test.YtaicemjckagcaaaMbe
namespace Go.Proofs.Ytaicemjckagcaaa
set_option linter.unusedVariables false
open Go.RowKit
/-- arcs lie there -/
def ArcsL (F : Nat → Prop) (w : World) (A : Option Addr) (l : List HArc) : Prop := Recs F w A 4 (l.map HArc.cells)
theorem ArcsL.at_ {F : Nat → Prop} {w : World} {A : Option Addr} {l : List HArc} (h : ArcsL F w A l) {k : Nat} (hk : k < l.length) : ∃ ad, A = some ad ∧
    w.cell? (ad.add (k * 4)) = some (.int .i64 l[k].f) ∧ w.cell? ⟨(ad.add (k * 4)).block, (ad.add (k * 4)).off + 1, none⟩ = some (.int .i64 l[k].t) ∧
    w.cell? ⟨(ad.add (k * 4)).block, (ad.add (k * 4)).off + 2, none⟩ = some (.int .i64 l[k].kind) ∧ w.cell? ⟨(ad.add (k * 4)).block, (ad.add (k * 4)).off + 3, none⟩ = some (.int .i64 l[k].label) := by
  have hk' : k < (l.map HArc.cells).length := by simpa using hk
  obtain ⟨ad, e, _, _, hc⟩ := Recs.at_ h hk'
  rw [List.getElem_map] at hc
  exact ⟨ad, e, by simpa using hc 0 _ rfl, by simpa using hc 1 _ rfl, by simpa using hc 2 _ rfl, by simpa using hc 3 _ rfl⟩
theorem ArcsL.upd {F S : Nat → Prop} {w w' : World} {A : Option Addr} {l : List HArc} (h : ArcsL F w A l) (k : Upd S w w') (hn : ∀ i, F i → ¬ S i) : ArcsL F w' A l := Recs.upd h k hn

end Go.Proofs.Ytaicemjckagcaaa

/- Whether a number is among some. -/
namespace Go.Proofs.Ytaicemjckagcaaa
set_option linter.unusedVariables false
open Go.RowKit
theorem rin01 (w : World) (F : Nat → Prop) (A : Option Addr) (c : Nat) (l : List Int) (a : Int) (h : Ints F w A l) (hl : l.length ≤ 4398046511103) :
    Calls Try.prog 17 #[.slice A l.length c, .int .i64 a] w fun e w' => e = .returned (.bool (decide (a ∈ l))) ∧ w = w' := by
  go_enter Try.func17, Try.ntmps17
  go_wp2
  go_loopg [9] l.length (fun gk i wr => ∃ k : Nat, k + gk = l.length ∧ i = .int .i64 k ∧ Hid (decide (a ∈ l) = decide (a ∈ l.drop k)) ∧ w = wr)
  case atStart => exact ⟨0, by omega, rfl, Lib.hid (by simp), rfl⟩
  case round =>
    obtain ⟨k, hgk, rfl, hs, rfl⟩ := hrel
    by_cases hlt : k < l.length
    · obtain ⟨ax, rfl, hc0⟩ := h.at_ hlt
      obtain ⟨x, hx⟩ : ∃ x, l[k] = x := ⟨_, rfl⟩
      have hd := Lib.hid (show l.drop k = x :: l.drop (k + 1) by rw [← hx]; exact List.drop_eq_getElem_cons hlt)
      rw [hx] at hc0
      have b1 : (0 : Int) ≤ (k : Int) := Int.natCast_nonneg _
      have b2 : (k : Int) < (l.length : Int) := by omega
      clear hx
      by_cases he : x = a
      · have heb : (x == a) = true := by rw [he]; simp
        have He := Lib.hid he
        clear he
        go_wp2
        go_ret
        exact ⟨by rw [hs.out, hd.out, He.out]; simp, rfl⟩
      · have heb : (x == a) = false := by simpa using he
        have He := Lib.hid he
        clear he
        go_wp2
        go_roundg (gk - 1)
        case measure => omega
        case rel =>
          refine ⟨k + 1, by omega, by go_num, Lib.hid ?_, rfl⟩
          rw [hs.out, hd.out]
          have := He.out
          simp only [List.mem_cons, decide_eq_decide]
          exact ⟨fun e => e.elim (fun e => absurd e.symm this) id, .inr⟩
    · obtain rfl : k = l.length := by omega
      go_wp2
      go_ret
      exact ⟨by rw [hs.out, List.drop_length]; simp, rfl⟩
end Go.Proofs.Ytaicemjckagcaaa
