/- Digraphs: a new one; a nil one. -/
import Derived.Test.YtfcefnpnomlgbaaMaz
namespace Go.Proofs.Ytfcefnpnomlgbaa
set_option linter.unusedSimpArgs false
set_option linter.unusedVariables false
open Go.RowKit
theorem Ze0:SlT Try.prog 67 66 1 24:=SlT.mk_ Try.underlying67 (z:= .slice none 0 0) (by kernel_rfl) rfl (by omega)
def ZD (n:Int):Nat:=(min (max n 0) 4096).toNat
theorem Ze6 (n:Int):ZD n≤4096:=by unfold ZD;omega
def Zfw (w:World) (N:Nat) (e:Ending) (w':World):Prop:=
 ∃G g ob ib oh ih,e= .returned (.pointer (some ⟨g,0,none⟩))∧GIs w' G g (List.replicate N []) (List.replicate N []) 0 ob ib oh ih w'.heap.size∧Upd No w w'∧∀k,G k→w.heap.size≤k
theorem ZeF (N:Nat):madeCells #[Value.slice none 0 0] (N*1)=(List.replicate N (Value.slice none 0 0)).toArray:=by
 apply Array.ext
 ·simp[madeCells]
 ·intro i h1 h2
  simp[madeCells,Nat.mod_one]
theorem Zf4 (w:World) (N:Nat) (hN:N≤4096) (a b:Nat) (hab:(a=w.heap.size∧b=w.heap.size+1)∨(a=w.heap.size+1∧b=w.heap.size)) (w':World) (u:Upd No w w') (hz:w'.heap.size=w.heap.size+3)
  (h1:Blk w' w.heap.size 66 (List.replicate N (.slice none 0 0))) (h2:Blk w' (w.heap.size+1) 66 (List.replicate N (.slice none 0 0)))
  (h3:Blk w' (w.heap.size+2) 69 [.slice (some ⟨a,0,none⟩) N N,.slice (some ⟨b,0,none⟩) N N,.int .i64 0]):Zfw w N (.returned (.pointer (some ⟨w.heap.size+2,0,none⟩))) w':=by
 have hd:RowsD w' w'.heap.size (List.replicate N (.slice none 0 0)) (List.replicate N []):=by
  refine⟨by simp,fun i hi=>⟨none,0,?_,?_⟩⟩
  ·simp at hi;simp[hi]
  ·simp only[List.getElem_replicate];exact World.ownsRow_nil _ _ _ _
 have hno:∀v∈List.replicate N (Value.slice none 0 0)++List.replicate N (Value.slice none 0 0),∀k,¬Own v k:=by
  intro v hv k hk
  simp only[List.mem_append,List.mem_replicate,or_self]at hv
  rw[hv.2]at hk
  simp[Own,Value.ownBlock]at hk
 refine⟨fun k=>w.heap.size≤k∧k<w'.heap.size,w.heap.size+2,a,b,List.replicate N (.slice none 0 0),List.replicate N (.slice none 0 0),rfl,?_,u,fun k hk=>hk.1⟩
 have ha:Blk w' a 66 (List.replicate N (.slice none 0 0)):=by rcases hab with ⟨rfl,_⟩|⟨rfl,_⟩<;>assumption
 have hb:Blk w' b 66 (List.replicate N (.slice none 0 0)):=by rcases hab with ⟨_,rfl⟩|⟨_,rfl⟩<;>assumption
 constructor
 case blk=>simpa using h3
 case ob_=>exact ha
 case ib_=>exact hb
 case len=>rfl
 case ro=>exact hd
 case ri=>exact hd
 case dis=>intro i j v u k hv hu hne hk;exact absurd hk (hno v (List.mem_of_getElem? hv) k)
 case low=>omega
 case ne=>omega
 case inG=>exact⟨by omega,by omega,by omega,fun v hv k hk=>absurd hk (hno v hv k)⟩
 case old=>exact fun k hk=>hk.2
 case few=>exact⟨by simpa using hN,fun l hl=>by simp at hl;simp[hl.2],fun l hl=>by simp at hl;simp[hl.2]⟩
def Zy (N:Nat):Array Value:=(List.replicate N (Value.slice none 0 0)).toArray
theorem ZbI (N:Nat) (hN:N≤4096) (m:Int) (hm:m=(N:Int)) (W:World):(Instr.makeSlice 67 (.int .i64 m) (.int .i64 m)).run Try.prog W= .ok (.slice (some ⟨W.heap.size,0,none⟩) N N) (W.alloc (.cells (Zy N) 66)):=by
 subst hm
 unfold Zy
 rw[←ZeF]
 exact Zce W Ze0 (z:= .slice none 0 0) (by kernel_rfl) N (by omega) (by omega)
theorem ZaK (w:World) (N a b:Nat) (w':World) (e:((w.alloc (.cells (Zy N) 66)).alloc (.cells (Zy N) 66)).alloc (.cells #[.slice (some ⟨a,0,none⟩) N N,.slice (some ⟨b,0,none⟩) N N,.int .i64 0] 69)=w') (hN:N≤4096)
  (hab:(a=w.heap.size∧b=w.heap.size+1)∨(a=w.heap.size+1∧b=w.heap.size)):Zfw w N (.returned (.pointer (some ⟨w.heap.size+1+1,0,none⟩))) w'.drew:=by
 subst e
 have e2:Blk ((w.alloc (.cells (Zy N) 66)).alloc (.cells (Zy N) 66)) (w.alloc (.cells (Zy N) 66)).heap.size 66 (List.replicate N (.slice none 0 0)):=Blk.new _ _ _
 have e3:=Blk.new ((w.alloc (.cells (Zy N) 66)).alloc (.cells (Zy N) 66)) 69 [.slice (some ⟨a,0,none⟩) N N,.slice (some ⟨b,0,none⟩) N N,.int .i64 0]
 rw[show(w.alloc (.cells (Zy N) 66)).heap.size=w.heap.size+1 by simp]at e2
 rw[show((w.alloc (.cells (Zy N) 66)).alloc (.cells (Zy N) 66)).heap.size=w.heap.size+2 by simp]at e3
 refine Zf4 w N hN a b hab _ ((((Upd.refl No w).alloc _).alloc _).alloc _).drew (by simp[World.drew]) ?_ ?_ ?_
 ·exact((Blk.new w 66 (List.replicate N (.slice none 0 0))).alloc _).alloc _
 ·exact e2.alloc _
 ·exact e3
set_option maxRecDepth 100000 in
theorem Zg5 (w:World) (n:Int):Calls Try.prog 22 #[.int .i64 n] w (Zfw w (ZD n)):=by
 obtain⟨N,hNN⟩:∃N,ZD n=N:=⟨_,rfl⟩
 have hNle:N≤4096:=by rw[←hNN];exact Ze6 n
 have HN:=Lib.hid hNN
 have hmk2:=ZbI N hNle (min (max n 0) 4096) (by rw[←hNN];unfold ZD;omega)
 by_cases h1:n<0
 ·have hmk:=ZbI N hNle 0 (by rw[←hNN];unfold ZD;omega)
  clear hNN
  go_enter Try.func22,Try.ntmps22
  go_wp2
  refine wp_region_noPanic ?_
  refine wp_region_held_drew (S:=(fun _=>True)) (by kernel_rfl) ?_ (fun hHeld=> ?_)
  ·(trivial)
  refine wpK 0 rfl ?_
  refine wpK 2 rfl ?_
  refine wpR [1,3] ?_
  refine wpC rfl (fun K hK=> ?_) ?_
  ·go_simp
   refine hK.out _ _ ?_ (fun hHeld=> ?_)
   ·(trivial)
   clear hK K
   try simp only[Act.put,sT,sS,sZ]
   refine wpR [3] ?_
   refine wpC rfl (fun K hK=> ?_) AllReadyH.nil
   go_simp
   refine hK.out _ _ ?_ (fun hHeld=> ?_)
   ·(trivial)
   clear hK K
   try simp only[Act.put,sT,sS,sZ]
   refine wpK 4 rfl ?_
   refine wpR [5] ?_
   refine wpC rfl (fun K hK=> ?_) AllReadyH.nil
   go_simp
   refine hK.out _ _ ?_ (fun hHeld=> ?_)
   ·(trivial)
   clear hK K
   try simp only[Act.put,sT,sS,sZ]
   refine wpK 6 rfl ?_
   refine wpD (NoPanic.normal ?_)
   go_wp2
   go_ret
   rw[HN.out]
   refine ZaK w N _ _ _ rfl hNle ?_
   simp
  refine wpC rfl (fun K hK=> ?_) AllReadyH.nil
  go_simp
  refine hK.out _ _ ?_ (fun hHeld=> ?_)
  ·(trivial)
  clear hK K
  try simp only[Act.put,sT,sS,sZ]
  refine wpR [1] ?_
  refine wpC rfl (fun K hK=> ?_) AllReadyH.nil
  go_simp
  refine hK.out _ _ ?_ (fun hHeld=> ?_)
  ·(trivial)
  clear hK K
  try simp only[Act.put,sT,sS,sZ]
  refine wpK 4 rfl ?_
  refine wpR [5] ?_
  refine wpC rfl (fun K hK=> ?_) AllReadyH.nil
  go_simp
  refine hK.out _ _ ?_ (fun hHeld=> ?_)
  ·(trivial)
  clear hK K
  try simp only[Act.put,sT,sS,sZ]
  refine wpK 6 rfl ?_
  refine wpD (NoPanic.normal ?_)
  go_wp2
  go_ret
  rw[HN.out]
  refine ZaK w N _ _ _ rfl hNle ?_
  simp
 ·by_cases h2:4096<n
  ·have hmk:=ZbI N hNle 4096 (by rw[←hNN];unfold ZD;omega)
   clear hNN
   go_enter Try.func22,Try.ntmps22
   go_wp2
   refine wp_region_noPanic ?_
   refine wp_region_held_drew (S:=(fun _=>True)) (by kernel_rfl) ?_ (fun hHeld=> ?_)
   ·(trivial)
   refine wpK 0 rfl ?_
   refine wpK 2 rfl ?_
   refine wpR [1,3] ?_
   refine wpC rfl (fun K hK=> ?_) ?_
   ·go_simp
    refine hK.out _ _ ?_ (fun hHeld=> ?_)
    ·(trivial)
    clear hK K
    try simp only[Act.put,sT,sS,sZ]
    refine wpR [3] ?_
    refine wpC rfl (fun K hK=> ?_) AllReadyH.nil
    go_simp
    refine hK.out _ _ ?_ (fun hHeld=> ?_)
    ·(trivial)
    clear hK K
    try simp only[Act.put,sT,sS,sZ]
    refine wpK 4 rfl ?_
    refine wpR [5] ?_
    refine wpC rfl (fun K hK=> ?_) AllReadyH.nil
    go_simp
    refine hK.out _ _ ?_ (fun hHeld=> ?_)
    ·(trivial)
    clear hK K
    try simp only[Act.put,sT,sS,sZ]
    refine wpK 6 rfl ?_
    refine wpD (NoPanic.normal ?_)
    go_wp2
    go_ret
    rw[HN.out]
    refine ZaK w N _ _ _ rfl hNle ?_
    simp
   refine wpC rfl (fun K hK=> ?_) AllReadyH.nil
   go_simp
   refine hK.out _ _ ?_ (fun hHeld=> ?_)
   ·(trivial)
   clear hK K
   try simp only[Act.put,sT,sS,sZ]
   refine wpR [1] ?_
   refine wpC rfl (fun K hK=> ?_) AllReadyH.nil
   go_simp
   refine hK.out _ _ ?_ (fun hHeld=> ?_)
   ·(trivial)
   clear hK K
   try simp only[Act.put,sT,sS,sZ]
   refine wpK 4 rfl ?_
   refine wpR [5] ?_
   refine wpC rfl (fun K hK=> ?_) AllReadyH.nil
   go_simp
   refine hK.out _ _ ?_ (fun hHeld=> ?_)
   ·(trivial)
   clear hK K
   try simp only[Act.put,sT,sS,sZ]
   refine wpK 6 rfl ?_
   refine wpD (NoPanic.normal ?_)
   go_wp2
   go_ret
   rw[HN.out]
   refine ZaK w N _ _ _ rfl hNle ?_
   simp
  ·have hmk:=ZbI N hNle n (by rw[←hNN];unfold ZD;omega)
   clear hNN
   go_enter Try.func22,Try.ntmps22
   go_wp2
   refine wp_region_noPanic ?_
   refine wp_region_held_drew (S:=(fun _=>True)) (by kernel_rfl) ?_ (fun hHeld=> ?_)
   ·(trivial)
   refine wpK 0 rfl ?_
   refine wpK 2 rfl ?_
   refine wpR [1,3] ?_
   refine wpC rfl (fun K hK=> ?_) ?_
   ·go_simp
    refine hK.out _ _ ?_ (fun hHeld=> ?_)
    ·(trivial)
    clear hK K
    try simp only[Act.put,sT,sS,sZ]
    refine wpR [3] ?_
    refine wpC rfl (fun K hK=> ?_) AllReadyH.nil
    go_simp
    refine hK.out _ _ ?_ (fun hHeld=> ?_)
    ·(trivial)
    clear hK K
    try simp only[Act.put,sT,sS,sZ]
    refine wpK 4 rfl ?_
    refine wpR [5] ?_
    refine wpC rfl (fun K hK=> ?_) AllReadyH.nil
    go_simp
    refine hK.out _ _ ?_ (fun hHeld=> ?_)
    ·(trivial)
    clear hK K
    try simp only[Act.put,sT,sS,sZ]
    refine wpK 6 rfl ?_
    refine wpD (NoPanic.normal ?_)
    go_wp2
    go_ret
    rw[HN.out]
    refine ZaK w N _ _ _ rfl hNle ?_
    simp
   refine wpC rfl (fun K hK=> ?_) AllReadyH.nil
   go_simp
   refine hK.out _ _ ?_ (fun hHeld=> ?_)
   ·(trivial)
   clear hK K
   try simp only[Act.put,sT,sS,sZ]
   refine wpR [1] ?_
   refine wpC rfl (fun K hK=> ?_) AllReadyH.nil
   go_simp
   refine hK.out _ _ ?_ (fun hHeld=> ?_)
   ·(trivial)
   clear hK K
   try simp only[Act.put,sT,sS,sZ]
   refine wpK 4 rfl ?_
   refine wpR [5] ?_
   refine wpC rfl (fun K hK=> ?_) AllReadyH.nil
   go_simp
   refine hK.out _ _ ?_ (fun hHeld=> ?_)
   ·(trivial)
   clear hK K
   try simp only[Act.put,sT,sS,sZ]
   refine wpK 6 rfl ?_
   refine wpD (NoPanic.normal ?_)
   go_wp2
   go_ret
   rw[HN.out]
   refine ZaK w N _ _ _ rfl hNle ?_
   simp
end Go.Proofs.Ytfcefnpnomlgbaa
/- Digraphs:masks. -/
namespace Go.Proofs.Ytfcefnpnomlgbaa
set_option linter.unusedSimpArgs false
set_option linter.unusedVariables false
open Go.RowKit
def Z8 (mask kind:Int):Bool:=decide ((mask/2 ^ kind.toNat)%2=1)
theorem Zga (x:Int) (y:Nat) (hy:y≤8):bits .and .i64 x (y:Int)=(((x%18446744073709551616).toNat &&& y:Nat):Int):=by
 change IntKind.i64.wrap (((BitVec.ofInt 64 x &&& BitVec.ofInt 64 (y:Int)).toNat:Nat):Int)=_
 have h1:(BitVec.ofInt 64 x).toNat=(x%18446744073709551616).toNat:=by rw[BitVec.toNat_ofInt];rfl
 have h2:(BitVec.ofInt 64 (y:Int)).toNat=y:=by rw[BitVec.toNat_ofInt];omega
 rw[BitVec.toNat_and,h1,h2]
 have h3:(x%18446744073709551616).toNat &&& y≤y:=Nat.and_le_right
 exact IntWalk.i64_in _ (by omega)
theorem Zfu (x:Int):(bits .and .i64 x 1==1)=decide (x%2=1):=by
 have h:=Zga x 1 (by omega)
 rw[Nat.and_one_is_mod]at h
 have h':bits .and .i64 x 1=(((x%18446744073709551616).toNat%2:Nat):Int):=h
 rw[h',Bool.eq_iff_iff,beq_iff_eq,decide_eq_true_eq]
 omega
theorem dof (w:World) (mask kind:Int) (h1:1≤kind) (h2:kind≤3):Calls Try.prog 49 #[.int .i64 mask,.int .i64 kind] w fun e w'=>e= .returned (.bool (Z8 mask kind))∧w=w':=by
 have hk:kind=1∨kind=2∨kind=3:=by omega
 clear h1 h2
 rcases hk with rfl|rfl|rfl
 all_goals
  go_enter Try.func49,Try.ntmps49
  go_wp2
  go_ret
  exact⟨congrArg (fun b=>Ending.returned (.bool b)) (Zfu _),rfl⟩
end Go.Proofs.Ytfcefnpnomlgbaa
