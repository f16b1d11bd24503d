/- The document: the reads that may not be. -/
import Derived.Test.YtadmgiljchgccaaGreatTcaz
namespace Go.Proofs.YtadmgiljchgccaaGreat
open Go.RowKit
set_option linter.unusedVariables false
set_option linter.unusedSimpArgs false
def Bads(F:Iw)(w:I0)(A:OA)(l:Ir):Prop:=Recs F w A 5 (l.map HBad.cells)
theorem Bads.at_{F:Iw}{w:I0}{A:OA}{l:Ir}(h:Bads F w A l){k:Nat}(hk:k<l.length):∃ad,A=some ad∧
  w.cell? (ad.add (k*5))=some (Qi l[k].tx)∧w.cell? ⟨(ad.add (k*5)).block,(ad.add (k*5)).off+1,none⟩=some (Qi l[k].place)∧
  w.cell? ⟨(ad.add (k*5)).block,(ad.add (k*5)).off+2,none⟩=some (Qi l[k].of.tx)∧w.cell? ⟨(ad.add (k*5)).block,(ad.add (k*5)).off+3,none⟩=some (Qi l[k].of.key)∧
  w.cell? ⟨(ad.add (k*5)).block,(ad.add (k*5)).off+4,none⟩=some (Qi l[k].of.nth):=by
 have dJ:k<(l.map HBad.cells).length:=by simpa using hk
 obtain⟨ad,e,_,_,hc⟩:=Recs.at_ h dJ;rw[G8]at hc;exact⟨ad,e,by simpa using hc 0 _ rfl,by simpa using hc 1 _ rfl,by simpa using hc 2 _ rfl,by simpa using hc 3 _ rfl,by simpa using hc 4 _ rfl⟩
theorem ZtE{l:Ir}:∀r∈l.map HBad.cells,r.length=5:=fun r hr=>by
 obtain⟨e,_,rfl⟩:=Ih.1 hr;rfl
theorem Zsi:SlT Tryz.prog 74 51 5 40:=SlT.mk_ Tryz.underlying74 (z:= .agg #[Qi 0,Qi 0,Qi 0,Qi 0,Qi 0]) (by kernel_rfl) rfl (by omega)
theorem Zm1{w':I0}{base:Nat}{l:Ir}{A:OA}{c:Nat}(h:w'.ownsRow base 51 5 (.slice A l.length c) l.length (l.map HBad.cells).flatten):Bads (fun i=>base<=i) w' A l:=by
 have h2:=Recs.of_own (n:=l.length) (c:=c) ZtE (by omega) h;exact Recs.weak h2 fun i _ hi=>(h.lt i hi).1
def Zon(w:I0)(l:Ir)(e:Ending)(w':I0):Prop:=∃A c,e= .returned (.slice A l.length c)∧w'.ownsRow w.heap.size 51 5 (.slice A l.length c) l.length (l.map HBad.cells).flatten∧Upd No w w'
/- Looking at a history:the law's asking for some answers. -/
theorem ZsW{F:Iw}{w:I0}{h:Hist}(H:h.lies F w):Hist.lies F w ⟨h.txs,[],h.A,h.c,none,0⟩:=
 ⟨H.txs,fun e=>absurd rfl e,H.tx,fun o ho=>by simp at ho,H.c,Nat.le_refl _,H.few,by simp⟩
/- Looking at a history:the law that a walk that is right is right from whichever place it is begun. -/
theorem Znd{P:Ix}{ops:Array Oper}{o:Oper}{a:Act}{W:I0}{K:Act->I0->Prop}{Q:Exit->Act->I0->Prop}{E:Prop}(cm:o.guard=none){ty:Iy}{x y:Operand}(ho:o.op= .store ty x y)
  {g:Nat} {t:Iy} {old cells:Ip} (hx:a.eval x= .pointer (some ⟨g,0,none⟩)) (hy:a.eval y= .agg cells.toArray) (hb:Blk W g t old) (hi:(P.info? ty).map (·.size)=some cells.length) (hold:old.length=cells.length)
  (h1:cells.all (·.oneCell')=true) (h:∀w',Blk w' g t cells->Upd (One g) W w'->K (a.put o.dst undef) w'):if Region.wanted o (yielded ops a.tmps)=true then Oper.wp P o a W K Q else E:=by
 rw[if_pos (by simp[Region.wanted,cm])];refine wp_store_row ty x y ho g cells.toArray hx hy t old.toArray hb (by simpa using hi) (by simpa using hold) (by simpa using h1) ?_;exact h _ (setRow_heap W g old.toArray cells.toArray t (0,0) hb) ⟨rfl,rfl,rfl,by simp[World.setRow],fun k hk hn=>setRow_other W g k _ hn⟩
/- Looking at a history:the law that whether edges,reads and witnesses are right is what the document says. -/
theorem ZrK(h:Hist)(p:Int)(b:HBad):(ZW h p).contains b=(Zb h&&ZaS h.txs p b):=by
 cases hr:Zb h
 ·unfold ZW;rw[hr];rfl
 ·rw[ZtF hr];rfl
