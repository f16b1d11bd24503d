/- Slices of ints: cloned, held against one another. -/
import Derived.Lib.SliceRun
import Derived.Test.YtblplapkdmhikaaProg
import Derived.Test.YtblplapkdmhikaaDxaf
namespace Go.Proofs.Ytblplapkdmhikaa
set_option linter.unusedVariables false
set_option linter.unusedSimpArgs false
section
open Go.RowKit
theorem Zp:SlT Try.prog 53 3 1 8:=SlT.mk_ Try.underlying53 (z:= .int .i64 0) (by kernel_rfl) rfl (by omega)
def Z4 (w:World) (l:List Int) (e:Ending) (w':World):Prop:=∃A c,e= .returned (.slice A l.length c)∧w'.ownsRow w.heap.size 3 1 (.slice A l.length c) l.length (l.map (Value.int .i64))∧Upd No w w'
theorem Zfr {W:World} {B n:Nat} {e:TypeId} (hn:n=W.heap.size) (hB:B≤W.heap.size):(W.alloc (.cells #[] e)).ownsRow B e 1 (.slice (some ⟨n,0,none⟩) 0 0) 0 []:=by
 subst hn;exact Z8 (World.ownsRow_made W #[] 0 (Nat.le_refl _) (by decide) (by simp)) hB
theorem ZgF (F:Nat→Prop) (w:World) (A:Option Addr) (c:Nat) (l:List Int) (h:Ints F w A l) (hl:l.length≤17592186044415):
  Calls Try.prog 65 #[.slice A l.length c] w (Z4 w l):=by
 have qT:∀(w:World) (a:Option Addr) (n c:Nat),(binOp .eql 53 (.slice a n c) (.slice none 0 0)).run Try.prog w= .ok (.bool a.isNone) w:=fun w a n c=>Lib.run_eql_slice_nil w _ _ a n c 0 0 Try.underlying53
 cases A with
 |none=>
  have h0:l=[]:=by
   cases l with
   |nil=>rfl
   |cons a l=>obtain⟨_,e,_⟩:=h (by simp);cases e
  subst h0
  go_enter Try.func65,Try.ntmps65
  go_wp2
  go_ret
  exact⟨none,0,rfl,World.ownsRow_nil _ _ _ _,Upd.refl _ _⟩
 |some ad=>
  have hs:=Qh (show Src (w.alloc (.cells #[] 3)) (some ad) l.length 1 (l.map (Value.int .i64)) from Ints.src (h.upd ((Upd.refl No w).alloc (.cells #[] 3)) (fun _ _=>id)))
  go_enter Try.func65,Try.ntmps65
  go_wp2_with (at_builtin;refine ZfG rfl rfl Zp (base:=w.heap.size) (v:= .slice (some ⟨w.heap.size,0,none⟩) 0 0) (n:=0) (m:=l.length) (xs:=[]) rfl rfl (Zfr rfl (Nat.le_refl _)) hs.out (Ints.one_ l) (by omega) (by omega) (by simp) ?_)
  intro v4 w4 hown4 hu4 hg4;obtain⟨A4,c4,rfl⟩:=ZbM hown4;have uw4:Upd No w w4:=((Upd.refl No w).alloc _).then_ hu4 (fun j e=> .inr (ZeH e));go_wp2
  go_ret
  exact⟨A4,c4,rfl,hown4,uw4⟩
def ZI (l:List Int):List Int:=l.mergeSort fun x y=>decide (x≤y)
theorem ZcJ (l:List Int):(ZI l).length=l.length:=List.length_mergeSort ..
theorem Zgb (b o j:Nat):(⟨b,o,none⟩:Addr).add j=⟨b,o+j,none⟩:=by unfold Addr.add;split<;>simp_all
end
end Go.Proofs.Ytblplapkdmhikaa
