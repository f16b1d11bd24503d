/- Stacks: a number put on top, and taken; the document's answer. -/
import Derived.StillTailTactics
import Derived.Test.YtonblekdfinpkaaGreatSxai
namespace Go.Proofs.YtonblekdfinpkaaGreat
set_option linter.unusedVariables false
set_option linter.unusedSimpArgs false
section
open Go.RowKit
theorem Zp5 {w:World} {base:Nat} {e:TypeId} {A:Option Addr} {c n:Nat} {xs:List Value} {x:Value} (h:w.ownsRow base e 1 (.slice A (n+1) c) (n+1) (xs++[x])):
  w.ownsRow base e 1 (.slice A n c) n xs:=by
 rcases h.2 with ⟨h',_⟩|⟨g,cap,cur,hv,hb,hg,hnc,hcm,hcs,htake⟩
 ·simp at h'
 ·simp only[Value.slice.injEq]at hv;obtain⟨rfl,_,rfl⟩:=hv;have hl:=h.1;simp at hl;refine⟨by omega,.inr ⟨g,_,cur,rfl,hb,hg,by omega,hcm,hcs,?_⟩⟩;have:=congrArg (List.take n) htake;rw[List.take_take]at this;rw[show n*1=min n ((n+1)*1) by omega,this,List.take_append_of_le_length (by omega),List.take_of_length_le (by omega)]
theorem Zlt {P:Program} {t e:TypeId} {size bytes:Nat} (W:World) (hT:SlT P t e size bytes) (A:Option Addr) (len cap h:Nat) (h1:h≤cap):
  (Instr.slice t (.slice A len cap) none (some (.int .i64 h)) none).run P W= .ok (.slice A h cap) W:=by
 have e:Zb8 A cap 0 size=A:=by
  unfold Zb8
  split
  ·rfl
  ·cases A<;>simp[Addr.add]
 rw[ZeV W hT A len cap h h1,e]
theorem Zs8 (w:World) (g:Nat) (v:Value) (n:Nat) (room:Value) (l:List Value) (x:Int) (hb:Blk w g 243 [v,room]) (ho:w.ownsRow 0 3 1 v n l) (hv:∀k,v.ownBlock=some k→k≠g) (hn:n≤131072):
  Calls Tryz.prog 251 #[.pointer (some ⟨g,0,none⟩),.int .i64 x] w fun e w'=>e= .returned (.tuple #[])∧∃v',Blk w' g 243 [v',room]∧w'.ownsRow 0 3 1 v' (n+1) (l++[.int .i64 x])∧
   (v'.ownBlock=v.ownBlock∨∃k,v'.ownBlock=some k∧w.heap.size≤k)∧(∀k,v'.ownBlock=some k→k≠g∧k<w'.heap.size)∧Upd (fun i=>i=g∨Own v i) w w':=by
 obtain⟨A,c,rfl⟩:=Zaq ho;have c0:=hb.cell 0;have f0:=hb.free 0;simp only[Qz]at c0;have hgl:=hb.lt;have hne:=World.new_ne w _ c0
 go_enter Tryz.func251,Tryz.ntmps251
 go_wp2_with (at_builtin;refine ZbT rfl rfl ZeN (v:= .slice A n c) (by rfl) rfl ho rfl rfl (by omega) (by omega) (by omega) ?_;intro g' c' w1 hown1 hupd1 hgrew1 hlt1;have hng:g'≠g:=(by rcases hgrew1 with e|e;exact hv g' e;omega);have hb1:=hb.upd hupd1 (fun e=>hv g e rfl);have d0:=hb1.cell 0;have f1:=hb1.free 0;simp only[Qz]at d0)
 refine bodyPost_end (results_none rfl _ _ _) rfl ⟨rfl,_,by simpa using hb1.set_ 0 (.slice (some ⟨g',0,none⟩) (n+1) c'),Zb hown1 ((Upd.refl (One g) _).setOne 0 _) (fun i hi e=> ?_),?_,fun k hk=> ?_,?_⟩
 ·have e1:g'=i:=by simpa[Value.ownBlock]using hi
  have e2:i=g:=e;omega
 ·rcases hgrew1 with e|e
  ·exact .inl e.symm
  ·exact .inr ⟨g',rfl,e⟩
 ·have e1:g'=k:=by simpa[Value.ownBlock]using hk
  subst e1;exact⟨hng,by simpa[World.setCell]using hlt1⟩
 ·exact(hupd1.mono (fun i _ e=> .inr e)).setCell (p:=⟨g,0,none⟩) (.inl (.inl rfl)) _
theorem Zr6 (w:World) (g:Nat) (A:Option Addr) (n c:Nat) (room:Value) (hb:Blk w g 243 [.slice A (n+1) c,room]) (hc:n+1≤c) (hn:n≤131072):
  Calls Tryz.prog 253 #[.pointer (some ⟨g,0,none⟩)] w fun e w'=>e= .returned (.tuple #[])∧Blk w' g 243 [.slice A n c,room]∧Upd (One g) w w':=by
 have c0:=hb.cell 0;have f0:=hb.free 0;simp only[Qz]at c0;have hgl:=hb.lt;have hn0:(0:Int)≤(n:Int):=Qn _;have hn1:(n:Int)≤(c:Int):=by omega
 have hw:IntKind.i64.wrap (n:Int)=(n:Int):=IntWalk.i64_in _ (by omega);have hk:=fun W=>Zlt W ZeN A (n+1) c n (by omega)
 go_enter Tryz.func253,Tryz.ntmps253
 go_region
 refine bodyPost_end (results_none rfl _ _ _) rfl ⟨rfl,?_,((Upd.refl _ _).setOne 0 _).drew⟩;exact(by simpa using hb.set_ 0 (.slice A n c):Blk (w.setCell ⟨g,0,none⟩ (.slice A n c)) g 243 [.slice A n c,room])
theorem ZrW (w:World) (F:Nat→Prop) (g:Nat) (room:Int) (xs:List Int) (x:Int) (h:Sta w F g room xs) (hr:0≤room) (hr2:room≤65536) (hf:(xs.length:Int)<room):
  Calls Tryz.prog 219 #[.pointer (some ⟨g,0,none⟩),.int .i64 x] w fun e w'=>e= .returned (.int .i64 0)∧
   ∃F',(∀i,F' i→F i∨w.heap.size≤i)∧Sta w' F' g room (x::xs)∧Upd F w w':=by
 have hz:(room-(xs.length:Int)==0)=false:=by rw[beq_eq_false_iff_ne];omega
 obtain⟨v,h1,h2,h3,h4,h5⟩:=id h
 go_enter Tryz.func219,Tryz.ntmps219
 go_wp2_with fail
 refine(ZrV _ F _ _ _ h hr hr2 (by omega)).mono ?_;rintro e w' ⟨rfl,q,rfl⟩
 go_wp2_with fail
 refine(Zs8 _ g v xs.length _ _ _ (h4.drewN _) h5 (fun k hk=>(h2 k hk).2) (by omega)).mono ?_;rintro e w1 ⟨rfl,v',hb1,ho1,hg1,hk1,hu1⟩;go_wp2
 go_ret
 refine⟨rfl,fun i=>i=g∨v'.ownBlock=some i,?_,⟨v',.inl rfl,fun k hk=>⟨.inr hk,(hk1 k hk).1⟩,?_,hb1,?_⟩,hu1.of_drewN.mono ?_⟩
 ·rintro i (rfl|hi)
  ·exact .inl h1
  ·rcases hg1 with e|⟨k,e,hk⟩
   ·exact .inl (h2 i (by rw[←e];exact hi)).1
   ·rw[e]at hi
    cases hi
    exact .inr hk
 ·rintro k (rfl|hk)
  ·exact hb1.lt
  ·exact(hk1 k hk).2
 ·simpa using ho1
 ·rintro i _ (rfl|e)
  ·exact h1
  ·exact(h2 i e).1
theorem ZqX (w:World) (F:Nat→Prop) (g:Nat) (room:Int) (x:Int) (xs:List Int) (h:Sta w F g room (x::xs)) (hl:xs.length≤65536):
  Calls Tryz.prog 252 #[.pointer (some ⟨g,0,none⟩)] w fun e w'=>e= .returned (.tuple #[.int .i64 x,.bool true])∧∃q,w'=w.drewN q:=by
 obtain⟨v,h1,h2,h3,h4,h5⟩:=id h;have hz:((((x::xs).length:Nat):Int)==0)=false:=by rw[beq_eq_false_iff_ne];simp only[List.length_cons];omega
 obtain⟨gl,cap,rfl,_,hll⟩:=h5.form (by simp);have hle:(((x::xs).length:Nat):Int)=(xs.length:Int)+1:=by simp
 have cr:w.cell? ⟨gl,xs.length,none⟩=some (.int .i64 x):=by
  rw[h5.cellAt _ (by simp)];simp
 have c0:=h4.cell 0;simp only[Qz]at c0;have hi0:(0:Int)≤(xs.length:Int):=Qn _;have hi1:(xs.length:Int)<(xs.length:Int)+1:=by omega
 have hw:IntKind.i64.wrap (xs.length:Int)=xs.length:=IntWalk.i64_in _ (by omega)
 go_enter Tryz.func252,Tryz.ntmps252
 go_wp2_with fail
 refine(ZsP _ F _ _ _ h).mono ?_;rintro e w' ⟨rfl,rfl⟩;clear h2 h3;go_wp2
 go_quiet (fail)
 go_wp2
 go_ret2
 exact⟨rfl,_,rfl⟩
end
/- Stacks:taken,and listed;what the document says of one more;whether two lists are the same. -/
section
open Go.RowKit
theorem ZsM (w:World) (F:Nat→Prop) (g:Nat) (room:Int) (x:Int) (xs:List Int) (h:Sta w F g room (x::xs)) (hl:xs.length≤65536):
  Calls Tryz.prog 221 #[.pointer (some ⟨g,0,none⟩)] w fun e w'=>e= .returned (.tuple #[.int .i64 x,.bool true])∧Sta w' F g room xs∧Upd F w w':=by
 obtain⟨v,h1,h2,h3,h4,h5⟩:=id h;obtain⟨A,c,rfl⟩:=Zaq h5
 have hc:xs.length+1≤c:=by
  rcases h5.2 with ⟨h',_⟩|⟨g',cap,cur,hv,_,_,hnc,_⟩
  ·simp at h'
  ·simp only[Value.slice.injEq]at hv;obtain⟨_,_,rfl⟩:=hv
   simpa using hnc
 have hb:Blk w g 243 [.slice A (xs.length+1) c,.int .i64 room]:=h4
 go_enter Tryz.func221,Tryz.ntmps221
 go_wp2_with fail
 refine(ZqX _ F _ _ _ _ h hl).mono ?_;rintro e w' ⟨rfl,q,rfl⟩
 go_wp2_with fail
 refine(Zr6 _ g A xs.length c _ (hb.drewN _) hc (by omega)).mono ?_;rintro e w1 ⟨rfl,hb1,hu1⟩;go_wp2
 go_ret2
 have hu:=hu1.of_drewN;refine⟨rfl,⟨.slice A xs.length c,h1,fun k hk=>h2 k (by cases A<;>first|exact hk|(simp[Value.ownBlock]at hk)),fun k hk=>Nat.lt_of_lt_of_le (h3 k hk) hu.size,hb1,?_⟩,hu.mono fun i _ e=>by have:i=g:=e;exact this▸h1⟩;have:=Zb h5 hu (fun i hi e=>(h2 i hi).2 e);rw[List.reverse_cons,List.map_append]at this;exact Zp5 this
end
end Go.Proofs.YtonblekdfinpkaaGreat
