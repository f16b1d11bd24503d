/- Digraphs: an arc dropped. -/
import Derived.Test.YtonblekdfinpkaaGreatWqaz
namespace Go.Proofs.YtonblekdfinpkaaGreat
set_option linter.unusedVariables false
set_option linter.unusedSimpArgs false
section
open Go.RowKit
def Zkd (out:List (List DEnd)) (a:HArc):Int:=if Zd4 out a=true then 0 else 3
def Zeh (l:List DEnd) (e:DEnd):List DEnd:=Zkf l (ZV l e)
def ZqV (out:List (List DEnd)) (a:HArc):List (List DEnd):=if Zkd out a=0 then out.modify a.f.toNat (Zeh · (Za5 a)) else out
def ZqW (out inn:List (List DEnd)) (a:HArc):List (List DEnd):=if Zkd out a=0 then inn.modify a.t.toNat (Zeh · (inE a)) else inn
theorem Zrs {l:List DEnd} (h:Zbk l) {e:DEnd} (m:e∈l):ZV l e<l.length:=by
 have h1:=Zha h e;rw[decide_eq_true m]at h1;unfold Zfl at h1
 split at h1
 ·next x hx=>exact(List.getElem?_eq_some_iff.1 hx).1
 ·cases h1
section
variable {w:World} {G:Nat→Prop} {g:Nat} {out inn:List (List DEnd)} {n:Nat} {ob ib:Nat} {oh ih:List Value} {base:Nat}
end
end
/- Digraphs:a new one;a nil one. -/
section
open Go.RowKit
theorem Zpw:SlT Tryz.prog 87 95 1 24:=SlT.mk_ Tryz.underlying87 (z:= .slice none 0 0) (by kernel_rfl) rfl (by omega)
def ZbQ (n:Int):Nat:=(min (max n 0) 4096).toNat
theorem ZpG (n:Int):ZbQ n≤4096:=by unfold ZbQ;omega
def ZqK (w:World) (N:Nat) (e:Ending) (w':World):Prop:=
 ∃G g ob ib oh ih,e= .returned (.pointer (some ⟨g,0,none⟩))∧GIs w' G g (List.replicate N []) (List.replicate N []) 0 ob ib oh ih w'.heap.size∧Upd No w w'∧∀k,G k→w.heap.size≤k
theorem ZoA (N:Nat):madeCells #[Value.slice none 0 0] (N*1)=(List.replicate N (Value.slice none 0 0)).toArray:=by
 apply Array.ext
 ·simp[madeCells]
 ·intro i h1 h2;simp[madeCells,Nat.mod_one]
theorem ZrM (w:World) (N:Nat) (hN:N≤4096) (a b:Nat) (hab:(a=w.heap.size∧b=w.heap.size+1)∨(a=w.heap.size+1∧b=w.heap.size)) (w':World) (u:Upd No w w') (hz:w'.heap.size=w.heap.size+3)
  (h1:Blk w' w.heap.size 95 (List.replicate N (.slice none 0 0))) (h2:Blk w' (w.heap.size+1) 95 (List.replicate N (.slice none 0 0)))
  (h3:Blk w' (w.heap.size+2) 89 [.slice (some ⟨a,0,none⟩) N N,.slice (some ⟨b,0,none⟩) N N,.int .i64 0]):ZqK w N (.returned (.pointer (some ⟨w.heap.size+2,0,none⟩))) w':=by
 have hd:RowsD w' w'.heap.size (List.replicate N (.slice none 0 0)) (List.replicate N []):=by
  refine⟨by simp,fun i hi=>⟨none,0,?_,?_⟩⟩
  ·simp at hi;simp[hi]
  ·simp only[List.getElem_replicate];exact World.ownsRow_nil _ _ _ _
 have hno:∀v∈List.replicate N (Value.slice none 0 0)++List.replicate N (Value.slice none 0 0),∀k,¬Own v k:=by
  intro v hv k hk;simp only[List.mem_append,List.mem_replicate,or_self]at hv;rw[hv.2]at hk;simp[Own,Value.ownBlock]at hk
 refine⟨fun k=>w.heap.size≤k∧k<w'.heap.size,w.heap.size+2,a,b,List.replicate N (.slice none 0 0),List.replicate N (.slice none 0 0),rfl,?_,u,fun k hk=>hk.1⟩;have ha:Blk w' a 95 (List.replicate N (.slice none 0 0)):=by rcases hab with ⟨rfl,_⟩|⟨rfl,_⟩<;>assumption
 have hb:Blk w' b 95 (List.replicate N (.slice none 0 0)):=by rcases hab with ⟨_,rfl⟩|⟨_,rfl⟩<;>assumption
 constructor
 case blk=>simpa using h3
 case ob_=>exact ha
 case ib_=>exact hb
 case len=>rfl
 case ro=>exact hd
 case ri=>exact hd
 case dis=>intro i j v u k hv hu hne hk;exact absurd hk (hno v (List.mem_of_getElem? hv) k)
 case low=>omega
 case ne=>omega
 case inG=>exact⟨by omega,by omega,by omega,fun v hv k hk=>absurd hk (hno v hv k)⟩
 case old=>exact fun k hk=>hk.2
 case few=>exact⟨by simpa using hN,fun l hl=>by simp at hl;simp[hl.2],fun l hl=>by simp at hl;simp[hl.2]⟩
def Za8 (N:Nat):Array Value:=(List.replicate N (Value.slice none 0 0)).toArray
theorem Zgr (N:Nat) (hN:N≤4096) (m:Int) (hm:m=(N:Int)) (W:World):(Instr.makeSlice 87 (.int .i64 m) (.int .i64 m)).run Tryz.prog W= .ok (.slice (some ⟨W.heap.size,0,none⟩) N N) (W.alloc (.cells (Za8 N) 95)):=by
 subst hm;unfold Za8;rw[←ZoA];exact ZeN W Zpw (z:= .slice none 0 0) (by kernel_rfl) N (by omega) (by omega)
theorem ZdM (w:World) (N a b:Nat) (w':World) (e:((w.alloc (.cells (Za8 N) 95)).alloc (.cells (Za8 N) 95)).alloc (.cells #[.slice (some ⟨a,0,none⟩) N N,.slice (some ⟨b,0,none⟩) N N,.int .i64 0] 89)=w') (hN:N≤4096)
  (hab:(a=w.heap.size∧b=w.heap.size+1)∨(a=w.heap.size+1∧b=w.heap.size)):ZqK w N (.returned (.pointer (some ⟨w.heap.size+1+1,0,none⟩))) w'.drew:=by
 subst e;have e2:Blk ((w.alloc (.cells (Za8 N) 95)).alloc (.cells (Za8 N) 95)) (w.alloc (.cells (Za8 N) 95)).heap.size 95 (List.replicate N (.slice none 0 0)):=Blk.new _ _ _;have e3:=Blk.new ((w.alloc (.cells (Za8 N) 95)).alloc (.cells (Za8 N) 95)) 89 [.slice (some ⟨a,0,none⟩) N N,.slice (some ⟨b,0,none⟩) N N,.int .i64 0];rw[show(w.alloc (.cells (Za8 N) 95)).heap.size=w.heap.size+1 by simp]at e2;rw[show((w.alloc (.cells (Za8 N) 95)).alloc (.cells (Za8 N) 95)).heap.size=w.heap.size+2 by simp]at e3;refine ZrM w N hN a b hab _ ((((Upd.refl No w).alloc _).alloc _).alloc _).drew (by simp[World.drew]) ?_ ?_ ?_
 ·exact((Blk.new w 95 (List.replicate N (.slice none 0 0))).alloc _).alloc _
 ·exact e2.alloc _
 ·exact e3
set_option maxRecDepth 100000 in
theorem Zt9 (w:World) (n:Int):Calls Tryz.prog 11 #[.int .i64 n] w (ZqK w (ZbQ n)):=by
 obtain⟨N,hNN⟩:∃N,ZbQ n=N:=⟨_,rfl⟩;have hNle:N≤4096:=by rw[←hNN];exact ZpG n
 have HN:=Qh hNN;have hmk2:=Zgr N hNle (min (max n 0) 4096) (by rw[←hNN];unfold ZbQ;omega)
 by_cases h1:n<0
 ·have hmk:=Zgr N hNle 0 (by rw[←hNN];unfold ZbQ;omega);clear hNN
  go_enter Tryz.func11,Tryz.ntmps11
  go_wp2;refine wp_region_noPanic ?_;refine wp_region_held_drew (S:=(fun _=>True)) (by kernel_rfl) ?_ (fun hHeld=> ?_)
  ·(trivial)
  refine wpK 0 rfl ?_;refine wpK 2 rfl ?_;refine wpR [1,3] ?_;refine wpC rfl (fun K hK=> ?_) ?_
  ·go_simp;refine hK.out _ _ ?_ (fun hHeld=> ?_)
   ·(trivial)
   clear hK K
   try simp only[Act.put,sT,sS,sZ]
   refine wpR [3] ?_;refine wpC rfl (fun K hK=> ?_) AllReadyH.nil;go_simp;refine hK.out _ _ ?_ (fun hHeld=> ?_)
   ·(trivial)
   clear hK K
   try simp only[Act.put,sT,sS,sZ]
   refine wpK 4 rfl ?_;refine wpR [5] ?_;refine wpC rfl (fun K hK=> ?_) AllReadyH.nil;go_simp;refine hK.out _ _ ?_ (fun hHeld=> ?_)
   ·(trivial)
   clear hK K
   try simp only[Act.put,sT,sS,sZ]
   refine wpK 6 rfl ?_;refine wpD (NoPanic.normal ?_);go_wp2
   go_ret
   rw[HN.out];refine ZdM w N _ _ _ rfl hNle ?_;simp
  refine wpC rfl (fun K hK=> ?_) AllReadyH.nil;go_simp;refine hK.out _ _ ?_ (fun hHeld=> ?_)
  ·(trivial)
  clear hK K
  try simp only[Act.put,sT,sS,sZ]
  refine wpR [1] ?_;refine wpC rfl (fun K hK=> ?_) AllReadyH.nil;go_simp;refine hK.out _ _ ?_ (fun hHeld=> ?_)
  ·(trivial)
  clear hK K
  try simp only[Act.put,sT,sS,sZ]
  refine wpK 4 rfl ?_;refine wpR [5] ?_;refine wpC rfl (fun K hK=> ?_) AllReadyH.nil;go_simp;refine hK.out _ _ ?_ (fun hHeld=> ?_)
  ·(trivial)
  clear hK K
  try simp only[Act.put,sT,sS,sZ]
  refine wpK 6 rfl ?_;refine wpD (NoPanic.normal ?_);go_wp2
  go_ret
  rw[HN.out];refine ZdM w N _ _ _ rfl hNle ?_;simp
 ·by_cases h2:4096<n
  ·have hmk:=Zgr N hNle 4096 (by rw[←hNN];unfold ZbQ;omega);clear hNN
   go_enter Tryz.func11,Tryz.ntmps11
   go_wp2;refine wp_region_noPanic ?_;refine wp_region_held_drew (S:=(fun _=>True)) (by kernel_rfl) ?_ (fun hHeld=> ?_)
   ·(trivial)
   refine wpK 0 rfl ?_;refine wpK 2 rfl ?_;refine wpR [1,3] ?_;refine wpC rfl (fun K hK=> ?_) ?_
   ·go_simp;refine hK.out _ _ ?_ (fun hHeld=> ?_)
    ·(trivial)
    clear hK K
    try simp only[Act.put,sT,sS,sZ]
    refine wpR [3] ?_;refine wpC rfl (fun K hK=> ?_) AllReadyH.nil;go_simp;refine hK.out _ _ ?_ (fun hHeld=> ?_)
    ·(trivial)
    clear hK K
    try simp only[Act.put,sT,sS,sZ]
    refine wpK 4 rfl ?_;refine wpR [5] ?_;refine wpC rfl (fun K hK=> ?_) AllReadyH.nil;go_simp;refine hK.out _ _ ?_ (fun hHeld=> ?_)
    ·(trivial)
    clear hK K
    try simp only[Act.put,sT,sS,sZ]
    refine wpK 6 rfl ?_;refine wpD (NoPanic.normal ?_);go_wp2
    go_ret
    rw[HN.out];refine ZdM w N _ _ _ rfl hNle ?_;simp
   refine wpC rfl (fun K hK=> ?_) AllReadyH.nil;go_simp;refine hK.out _ _ ?_ (fun hHeld=> ?_)
   ·(trivial)
   clear hK K
   try simp only[Act.put,sT,sS,sZ]
   refine wpR [1] ?_;refine wpC rfl (fun K hK=> ?_) AllReadyH.nil;go_simp;refine hK.out _ _ ?_ (fun hHeld=> ?_)
   ·(trivial)
   clear hK K
   try simp only[Act.put,sT,sS,sZ]
   refine wpK 4 rfl ?_;refine wpR [5] ?_;refine wpC rfl (fun K hK=> ?_) AllReadyH.nil;go_simp;refine hK.out _ _ ?_ (fun hHeld=> ?_)
   ·(trivial)
   clear hK K
   try simp only[Act.put,sT,sS,sZ]
   refine wpK 6 rfl ?_;refine wpD (NoPanic.normal ?_);go_wp2
   go_ret
   rw[HN.out];refine ZdM w N _ _ _ rfl hNle ?_;simp
  ·have hmk:=Zgr N hNle n (by rw[←hNN];unfold ZbQ;omega);clear hNN
   go_enter Tryz.func11,Tryz.ntmps11
   go_wp2;refine wp_region_noPanic ?_;refine wp_region_held_drew (S:=(fun _=>True)) (by kernel_rfl) ?_ (fun hHeld=> ?_)
   ·(trivial)
   refine wpK 0 rfl ?_;refine wpK 2 rfl ?_;refine wpR [1,3] ?_;refine wpC rfl (fun K hK=> ?_) ?_
   ·go_simp;refine hK.out _ _ ?_ (fun hHeld=> ?_)
    ·(trivial)
    clear hK K
    try simp only[Act.put,sT,sS,sZ]
    refine wpR [3] ?_;refine wpC rfl (fun K hK=> ?_) AllReadyH.nil;go_simp;refine hK.out _ _ ?_ (fun hHeld=> ?_)
    ·(trivial)
    clear hK K
    try simp only[Act.put,sT,sS,sZ]
    refine wpK 4 rfl ?_;refine wpR [5] ?_;refine wpC rfl (fun K hK=> ?_) AllReadyH.nil;go_simp;refine hK.out _ _ ?_ (fun hHeld=> ?_)
    ·(trivial)
    clear hK K
    try simp only[Act.put,sT,sS,sZ]
    refine wpK 6 rfl ?_;refine wpD (NoPanic.normal ?_);go_wp2
    go_ret
    rw[HN.out];refine ZdM w N _ _ _ rfl hNle ?_;simp
   refine wpC rfl (fun K hK=> ?_) AllReadyH.nil;go_simp;refine hK.out _ _ ?_ (fun hHeld=> ?_)
   ·(trivial)
   clear hK K
   try simp only[Act.put,sT,sS,sZ]
   refine wpR [1] ?_;refine wpC rfl (fun K hK=> ?_) AllReadyH.nil;go_simp;refine hK.out _ _ ?_ (fun hHeld=> ?_)
   ·(trivial)
   clear hK K
   try simp only[Act.put,sT,sS,sZ]
   refine wpK 4 rfl ?_;refine wpR [5] ?_;refine wpC rfl (fun K hK=> ?_) AllReadyH.nil;go_simp;refine hK.out _ _ ?_ (fun hHeld=> ?_)
   ·(trivial)
   clear hK K
   try simp only[Act.put,sT,sS,sZ]
   refine wpK 6 rfl ?_;refine wpD (NoPanic.normal ?_);go_wp2
   go_ret
   rw[HN.out];refine ZdM w N _ _ _ rfl hNle ?_;simp
end
/- Digraphs:masks. -/
section
open Go.RowKit
def Zf (mask kind:Int):Bool:=decide ((mask/2 ^ kind.toNat)%2=1)
theorem Zi9 (x:Int) (y:Nat) (hy:y≤8):bits .and .i64 x (y:Int)=(((x%18446744073709551616).toNat &&& y:Nat):Int):=by
 change IntKind.i64.wrap (((BitVec.ofInt 64 x &&& BitVec.ofInt 64 (y:Int)).toNat:Nat):Int)=_;have h1:(BitVec.ofInt 64 x).toNat=(x%18446744073709551616).toNat:=by rw[BitVec.toNat_ofInt];rfl
 have h2:(BitVec.ofInt 64 (y:Int)).toNat=y:=by rw[BitVec.toNat_ofInt];omega
 rw[BitVec.toNat_and,h1,h2];have h3:(x%18446744073709551616).toNat &&& y≤y:=Nat.and_le_right;exact IntWalk.i64_in _ (by omega)
theorem ZqC (x:Int):(bits .and .i64 x 1==1)=decide (x%2=1):=by
 have h:=Zi9 x 1 (by omega);rw[Nat.and_one_is_mod]at h;have h':bits .and .i64 x 1=(((x%18446744073709551616).toNat%2:Nat):Int):=h;rw[h',Bool.eq_iff_iff,beq_iff_eq,decide_eq_true_eq];omega
theorem dof (w:World) (mask kind:Int) (h1:1≤kind) (h2:kind≤3):Calls Tryz.prog 218 #[.int .i64 mask,.int .i64 kind] w fun e w'=>e= .returned (.bool (Zf mask kind))∧w=w':=by
 have hk:kind=1∨kind=2∨kind=3:=by omega
 clear h1 h2;rcases hk with rfl|rfl|rfl
 all_goals
  go_enter Tryz.func218,Tryz.ntmps218
  go_wp2
  go_ret
  exact⟨congrArg (fun b=>Ending.returned (.bool b)) (ZqC _),rfl⟩
end
end Go.Proofs.YtonblekdfinpkaaGreat
