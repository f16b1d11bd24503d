/- Operations cloned, transactions copied and found. -/
import Derived.Lib.SliceRun
import Derived.Test.YtblplapkdmhikaaProg
import Derived.Lib.AppendZerosOnto
import Derived.Deep.RegionHeld3
import Derived.Test.YtblplapkdmhikaaDxak
import Derived.Test.YtblplapkdmhikaaDxav
namespace Go.Proofs.Ytblplapkdmhikaa
set_option linter.unusedVariables false
set_option linter.unusedSimpArgs false
section
open Go.RowKit
theorem ZfW:SlT Try.prog 33 75 4 32:=SlT.mk_ Try.underlying33 (z:= .agg #[.bool false,.int .i64 0,.int .i64 0,.int .i64 0]) (by kernel_rfl) rfl (by omega)
theorem ZdC {l:List HOp}:∀r∈l.map HOp.cells,r.length=4:=fun r hr=>by
 obtain⟨e,_,rfl⟩:=List.mem_map.1 hr;rfl
theorem ZfA {l:List HOp}:∀v∈(l.map HOp.cells).flatten,v.oneCell'=true:=fun v hv=>by
 obtain⟨r,hr,h⟩:=List.mem_flatten.1 hv;obtain⟨e,_,rfl⟩:=List.mem_map.1 hr;simp only[HOp.cells,List.mem_cons,List.not_mem_nil,or_false]at h;rcases h with rfl|rfl|rfl|rfl<;>rfl
theorem Zf1 {W:World} {B n s:Nat} {e:TypeId} (hn:n=W.heap.size) (hB:B≤W.heap.size):(W.alloc (.cells #[] e)).ownsRow B e s (.slice (some ⟨n,0,none⟩) 0 0) 0 []:=by
 subst hn;exact Z8 (World.ownsRow_made W #[] 0 (Nat.le_refl _) (by decide) (by simp)) hB
def ZgJ (w:World) (l:List HOp) (e:Ending) (w':World):Prop:=∃A c,e= .returned (.slice A l.length c)∧l.length≤c∧HOps (fun i=>w.heap.size≤i) w' A l∧Upd No w w'
theorem ZeK (F:Nat→Prop) (w:World) (A:Option Addr) (c:Nat) (l:List HOp) (h:HOps F w A l) (hl:Zd l.length):
  Calls Try.prog 56 #[.slice A l.length c] w (ZgJ w l):=by
 unfold Zd at hl;have qT:∀(w:World) (a:Option Addr) (n c:Nat),(binOp .eql 33 (.slice a n c) (.slice none 0 0)).run Try.prog w= .ok (.bool a.isNone) w:=fun w a n c=>Lib.run_eql_slice_nil w _ _ a n c 0 0 Try.underlying33
 cases A with
 |none=>
  have h0:l=[]:=by
   cases l with
   |nil=>rfl
   |cons a l=>obtain⟨_,e,_⟩:=h (by simp);cases e
  subst h0
  go_enter Try.func56,Try.ntmps56
  go_wp2
  go_ret
  exact⟨none,0,rfl,Nat.le_refl _,fun h=>absurd rfl h,Upd.refl _ _⟩
 |some ad=>
  have hs:=Qh (show Src (w.alloc (.cells #[] 75)) (some ad) l.length 4 (l.map HOp.cells).flatten by
   have:=Recs.src (h.upd ((Upd.refl No w).alloc (.cells #[] 75)) (fun _ _=>id)) ZdC
   rwa [List.length_map]at this)
  go_enter Try.func56,Try.ntmps56
  go_wp2_with (at_builtin;refine ZfG rfl rfl ZfW (base:=w.heap.size) (v:= .slice (some ⟨w.heap.size,0,none⟩) 0 0) (n:=0) (m:=l.length) (xs:=[]) rfl rfl (Zf1 rfl (Nat.le_refl _)) hs.out ZfA (by omega) (by omega) (by simp) ?_)
  intro v4 w4 hown4 hu4 hg4;obtain⟨A4,c4,rfl⟩:=ZbM hown4;have uw4:Upd No w w4:=((Upd.refl No w).alloc _).then_ hu4 (fun j e=> .inr (ZeH e));have hcap:=Zcw hown4;have hr:=(Recs.of_own ZdC (by omega) hown4).weak (G:=fun i=>w.heap.size≤i) fun i _ e=>(hown4.lt i e).1
  have HR:=Qh (And.intro hcap hr);clear hcap hr;go_wp2
  go_ret
  exact⟨A4,c4,rfl,HR.out.1,HR.out.2,uw4⟩
def Zb (txs:List HTx) (i:Int):Option HTx:=txs.find? fun t=>t.id==i
end
end Go.Proofs.Ytblplapkdmhikaa
