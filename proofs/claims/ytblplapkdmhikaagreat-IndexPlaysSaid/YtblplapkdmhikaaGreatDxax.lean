/- Digraphs: an end put among others. -/
import Derived.Lib.Overlaps
import Derived.Laws.Externs
import Derived.Test.YtblplapkdmhikaaGreatDxal
import Derived.Test.YtblplapkdmhikaaGreatDxas
namespace Go.Proofs.YtblplapkdmhikaaGreat
set_option linter.unusedVariables false
set_option linter.unusedSimpArgs false
section
open Go.RowKit
def ZdK (l:List DEnd) (i:Nat) (x:DEnd):List DEnd:=l.take i++[x]++l.drop i
theorem ZhF (l:List DEnd) (i:Nat) (x:DEnd) (hi:i≤l.length):(ZdK l i x).length=l.length+1:=by
 unfold ZdK;simp;omega
end
/- Digraphs:an end taken out from among others. -/
section
open Go.RowKit
def ZeJ (l:List DEnd) (i:Nat):List DEnd:=l.take i++l.drop (i+1)
end
/- Digraphs:ends put in and taken out. -/
section
open Go.RowKit
/-! rising ends -/
def ZaI (l:List DEnd):Prop:=l.Pairwise fun a b=>Zad a b<0
theorem Zd4 {a b:Int}:ZR a b<0↔a<b:=by unfold ZR;split<;>(try split)<;>omega
theorem cmpI_eq {a b:Int}:ZR a b=0↔a=b:=by unfold ZR;split<;>(try split)<;>omega
theorem Zd5 (a b:DEnd):Zad a b<0↔a.kind<b.kind∨(a.kind=b.kind∧(a.label<b.label∨(a.label=b.label∧a.node<b.node))):=by
 unfold Zad;simp only[Zfa]
 by_cases h1:a.kind=b.kind
 ·rw[if_pos (cmpI_eq.2 h1)]
  by_cases h2:a.label=b.label
  ·rw[if_pos (cmpI_eq.2 h2)]
   by_cases h3:a.node=b.node
   ·rw[if_pos (cmpI_eq.2 h3)];simp[orI,h1,h2,h3]
   ·rw[if_neg (fun e=>h3 (cmpI_eq.1 e)),Zd4];simp[h1,h2]
  ·rw[if_neg (fun e=>h2 (cmpI_eq.1 e)),Zd4];simp[h1,h2]
 ·rw[if_neg (fun e=>h1 (cmpI_eq.1 e)),Zd4];simp[h1]
theorem Zc3 (a b:DEnd):Zad a b=0↔a=b:=by
 obtain⟨ak,al,an⟩:=a;obtain⟨bk,bl,bn⟩:=b;unfold Zad;simp only[Zfa,DEnd.mk.injEq]
 by_cases h1:ak=bk
 ·rw[if_pos (cmpI_eq.2 h1)]
  by_cases h2:al=bl
  ·rw[if_pos (cmpI_eq.2 h2)]
   by_cases h3:an=bn
   ·rw[if_pos (cmpI_eq.2 h3)];simp[orI,h1,h2,h3]
   ·rw[if_neg (fun e=>h3 (cmpI_eq.1 e)),cmpI_eq];simp[h1,h2]
  ·rw[if_neg (fun e=>h2 (cmpI_eq.1 e)),cmpI_eq];simp[h2]
 ·rw[if_neg (fun e=>h1 (cmpI_eq.1 e)),cmpI_eq];simp[h1]
theorem ZdQ {a b c:DEnd} (h:Zad a b<0) (k:Zad b c<0):Zad a c<0:=by
 rw[Zd5]at*;omega
def ZH (l:List DEnd) (e:DEnd):Nat:=l.countP fun x=>decide (Zad x e<0)
theorem Zcq {l:List DEnd} (h:ZaI l) (e:DEnd):Zi1 l e (ZH l e):=by
 refine⟨List.countP_le_length,?_⟩
 induction l with
 |nil=>intro k hk;simp at hk
 |cons a l ih=>
  have h':=List.pairwise_cons.1 h;intro k hk;unfold ZH;rw[List.countP_cons]
  by_cases ha:Zad a e<0
  ·rw[if_pos (by simpa using ha)]
   cases k with
   |zero=>simp only[List.getElem_cons_zero,ha,true_iff];omega
   |succ k=>
    rw[List.getElem_cons_succ,ih h'.2 k (by simpa using hk)];unfold ZH;omega
  ·rw[if_neg (by simpa using ha)]
   have h0:l.countP (fun x=>decide (Zad x e<0))=0:=by
    rw[List.countP_eq_zero];intro x hx;simp only[decide_eq_true_eq];exact fun hxe=>ha (ZdQ (h'.1 x hx) hxe)
   rw[h0]
   cases k with
   |zero=>simp only[List.getElem_cons_zero,ha,false_iff];omega
   |succ k=>
    rw[List.getElem_cons_succ]
    constructor
    ·intro hx;exact absurd (ZdQ (h'.1 _ (List.getElem_mem _)) hx) ha
    ·intro hx;omega
theorem Zfq {l:List DEnd} (h:ZaI l) (e:DEnd):ZgJ l e (ZH l e)=decide (e∈l):=by
 have hp:=Zcq h e;rw[Bool.eq_iff_iff,decide_eq_true_eq];unfold ZgJ
 constructor
 ·intro hi
  split at hi
  ·rename_i x hx
   have:=(Zc3 x e).1 (by simpa using hi);subst this;exact List.mem_of_getElem? hx
  ·cases hi
 ·intro hm;obtain⟨k,hk,rfl⟩:=List.mem_iff_getElem.1 hm
  have h1:¬k<ZH l l[k]:=fun hlt=>by
   have:=(hp.2 k hk).2 hlt;rw[(Zc3 _ _).2 rfl]at this;omega
  have h2:¬ZH l l[k]<k:=fun hlt=>by
   have h3:=List.pairwise_iff_getElem.1 h (ZH l l[k]) k (by omega) hk hlt;have:=(hp.2 _ (by omega)).1 h3;omega
  have h3:ZH l l[k]=k:=by omega
  rw[h3,Qg hk];simp[(Zc3 _ _).2 rfl]
end
/- Digraphs:how one lies in memory;what reads it. -/
section
open Go.RowKit
structure HArc where
 f:Int
 t:Int
 kind:Int
 label:Int
deriving DecidableEq
def HArc.cells (a:HArc):List Value:=[.int .i64 a.f,.int .i64 a.t,.int .i64 a.kind,.int .i64 a.label]
def RowsD (w:World) (base:Nat) (hs:List Value) (ls:List (List DEnd)):Prop:=
 hs.length=ls.length∧∀i (hi:i<ls.length),∃A c,hs[i]? =some (.slice A ls[i].length c)∧w.ownsRow base 376 3 (.slice A ls[i].length c) ls[i].length (ls[i].map DEnd.cells).flatten
def ApartD (hs:List Value):Prop:=∀(i j:Nat) (v u:Value) (k:Nat),hs[i]? =some v→hs[j]? =some u→i≠j→Own v k→¬Own u k
structure GIs (w:World) (G:Nat→Prop) (g:Nat) (out inn:List (List DEnd)) (n:Int) (ob ib:Nat) (oh ih:List Value) (base:Nat):Prop where
 blk:Blk w g 373 [.slice (some ⟨ob,0,none⟩) out.length out.length,.slice (some ⟨ib,0,none⟩) out.length out.length,.int .i64 n]
 ob_:Blk w ob 379 oh
 ib_:Blk w ib 379 ih
 len:inn.length=out.length
 ro:RowsD w base oh out
 ri:RowsD w base ih inn
 dis:ApartD (oh++ih)
 low:g<base∧ob<base∧ib<base
 ne:g≠ob∧g≠ib∧ob≠ib
 inG:G g∧G ob∧G ib∧∀v∈oh++ih,∀k,Own v k→G k
 old:∀k,G k→k<w.heap.size
 few:out.length≤4096∧(∀l∈out,l.length≤100000)∧(∀l∈inn,l.length≤100000)
theorem RowsD.upd {S:Nat→Prop} {w w':World} {base:Nat} {hs:List Value} {ls:List (List DEnd)} (h:RowsD w base hs ls) (k:Upd S w w') (hn:∀v∈hs,∀i,Own v i→¬S i):RowsD w' base hs ls:=
 ⟨h.1,fun i hi=>by
  obtain⟨A,c,h1,h2⟩:=h.2 i hi;exact⟨A,c,h1,Zb h2 k (fun j e=>hn _ (List.mem_of_getElem? h1) j e)⟩⟩
theorem GIs.upd {S:Nat→Prop} {w w':World} {G:Nat→Prop} {g:Nat} {out inn:List (List DEnd)} {n:Int} {ob ib:Nat} {oh ih:List Value} {base:Nat} (h:GIs w G g out inn n ob ib oh ih base) (k:Upd S w w') (hn:∀i,G i→¬S i):GIs w' G g out inn n ob ib oh ih base:=
 {h with
  blk:=h.blk.upd k (hn _ h.inG.1)
  ob_:=h.ob_.upd k (hn _ h.inG.2.1)
  ib_:=h.ib_.upd k (hn _ h.inG.2.2.1)
  ro:=h.ro.upd k fun v hv i e=>hn _ (h.inG.2.2.2 v (List.mem_append_left _ hv) i e)
  old:=fun i hi=>Nat.lt_of_lt_of_le (h.old i hi) k.size
  ri:=h.ri.upd k fun v hv i e=>hn _ (h.inG.2.2.2 v (List.mem_append_right _ hv) i e)}
section
variable {w:World} {G:Nat→Prop} {g:Nat} {out inn:List (List DEnd)} {n:Int} {ob ib:Nat} {oh ih:List Value} {base:Nat}
def Zgw (N:Nat) (i:Int):Bool:=decide (0≤i)&&decide (i<(N:Int))
def ZaA (N:Nat) (a:HArc):Bool:=Zgw N a.f&&(Zgw N a.t&&(decide (1≤a.kind)&&(decide (a.kind≤3)&&(decide (0≤a.label)&&decide (a.label≤1048575)))))
end
def ZaM (a:HArc):DEnd:=⟨a.kind,a.label,a.t⟩
def inE (a:HArc):DEnd:=⟨a.kind,a.label,a.f⟩
theorem Upd.blk {S:Nat→Prop} {w w':World} {g:Nat} {t:TypeId} {cs:List Value} (k:Upd S w w') (h:Blk w g t cs) (hn:¬S g):Blk w' g t cs:=h.upd k hn
end
/- Digraphs:whether an arc is there. -/
section
open Go.RowKit
theorem Zb0 {N:Nat} {a:HArc} (h:ZaA N a=true):∃i j:Nat,a.f=(i:Int)∧a.t=(j:Int)∧i<N∧j<N:=by
 simp only[ZaA,Zgw,Bool.and_eq_true,decide_eq_true_eq]at h;exact⟨a.f.toNat,a.t.toNat,by omega,by omega,by omega,by omega⟩
def ZgK (out:List (List DEnd)) (a:HArc):Bool:=ZaA out.length a&&(match out[a.f.toNat]? with|some l=>decide (ZaM a∈l)|none=>false)
section
variable {w:World} {G:Nat→Prop} {g:Nat} {out inn:List (List DEnd)} {n:Int} {ob ib:Nat} {oh ih:List Value} {base:Nat}
end
end
/- Digraphs:a row of ends put in another's place. -/
section
open Go.RowKit
theorem RowsD.set {w w':World} {base:Nat} {hs:List Value} {ls:List (List DEnd)} (h:RowsD w base hs ls) (hA:ApartD hs) {i:Nat} (hi:i<ls.length) {v:Value} (hv:hs[i]? =some v) {S:Nat→Prop} (hu:Upd S w w')
  (hS:∀(j:Nat) u k,hs[j]? =some u→j≠i→Own u k→¬S k) {l:List DEnd} {A:Option Addr} {c:Nat} (hn:w'.ownsRow base 376 3 (.slice A l.length c) l.length (l.map DEnd.cells).flatten):
  RowsD w' base (hs.set i (.slice A l.length c)) (ls.set i l):=by
 refine⟨by simpa using h.1,fun j hj=> ?_⟩;have hj':j<ls.length:=by simpa using hj
 by_cases e:j=i
 ·subst e;refine⟨A,c,?_,?_⟩
  ·rw[List.getElem?_set_self (by rw[h.1];exact hi)];simp
  ·simpa using hn
 ·obtain⟨B,d,h1,h2⟩:=h.2 j hj';have hl:(ls.set i l)[j]=ls[j]:=by rw[List.getElem_set_ne (fun x=>e x.symm)]
  rw[hl];refine⟨B,d,?_,Zb h2 hu (fun k hk=>hS j _ k h1 e hk)⟩;rw[List.getElem?_set_ne (fun x=>e x.symm)];exact h1
theorem ApartD.set {hs:List Value} (h:ApartD hs) {N i:Nat} {v u:Value} (hv:hs[i]? =some v) (hlt:∀x∈hs,∀k,Own x k→k<N) (hu:∀k,Own u k→Own v k∨N≤k):ApartD (hs.set i u):=by
 intro a b x y k ha hb hab hx hy;have hil:=(List.getElem?_eq_some_iff.1 hv).1;have mem:∀{j:Nat} {z:Value},hs[j]? =some z→z∈hs:=fun e=>List.mem_of_getElem? e
 by_cases e1:a=i
 ·subst e1;rw[List.getElem?_set_self hil]at ha;rw[List.getElem?_set_ne hab]at hb
  cases ha
  rcases hu k hx with h1|h1
  ·exact h _ _ _ _ _ hv hb hab h1 hy
  ·have:=hlt _ (mem hb) _ hy;omega
 ·rw[List.getElem?_set_ne (fun x=>e1 x.symm)]at ha
  by_cases e2:b=i
  ·subst e2;rw[List.getElem?_set_self hil]at hb
   cases hb
   rcases hu k hy with h1|h1
   ·exact h _ _ _ _ _ ha hv hab hx h1
   ·have:=hlt _ (mem ha) _ hx;omega
  ·rw[List.getElem?_set_ne (fun x=>e2 x.symm)]at hb;exact h _ _ _ _ _ ha hb hab hx hy
theorem Grew.own {w:World} {v u:Value} (h:Grew w v u):∀k,Own u k→Own v k∨w.heap.size≤k:=by
 intro k hk;unfold Own at*;rcases h with h|⟨j,h1,h2⟩
 ·left;rw[←h];exact hk
 ·right;rw[h1]at hk;cases hk;exact h2
section
variable {w w':World} {G:Nat→Prop} {g:Nat} {out inn:List (List DEnd)} {n:Int} {ob ib:Nat} {oh ih:List Value} {base:Nat}
end
end
/- Digraphs:an arc added. -/
section
open Go.RowKit
def ZgT (out:List (List DEnd)) (a:HArc):Int:=if ZaA out.length a=true then (if ZgK out a=true then 4 else 0) else 1
def ZcJ (l:List DEnd) (e:DEnd):List DEnd:=ZdK l (ZH l e) e
def Zku (out:List (List DEnd)) (a:HArc):List (List DEnd):=if ZgT out a=0 then out.modify a.f.toNat (ZcJ · (ZaM a)) else out
def Zkw (out inn:List (List DEnd)) (a:HArc):List (List DEnd):=if ZgT out a=0 then inn.modify a.t.toNat (ZcJ · (inE a)) else inn
def DTo (w:World) (G:Nat→Prop) (g:Nat) (out inn:List (List DEnd)) (n:Int) (ob ib:Nat) (base:Nat) (r:Value) (e:Ending) (w':World):Prop:=
 ∃G' oh' ih',e= .returned r∧GIs w' G' g out inn n ob ib oh' ih' base∧Upd G w w'∧∀k,G' k→G k∨w.heap.size≤k
theorem GIs.same {w w':World} {G:Nat→Prop} {g:Nat} {out inn:List (List DEnd)} {n:Int} {ob ib:Nat} {oh ih:List Value} {base:Nat} (h:GIs w G g out inn n ob ib oh ih base) (k:Upd No w w') (r:Value):DTo w G g out inn n ob ib base r (.returned r) w':=
 ⟨G,oh,ih,rfl,h.upd k (fun _ _=>id),k.mono (fun _ _ e=>e.elim),fun _ e=> .inl e⟩
def Zle (v:Value) (b:Nat):Nat→Prop:=fun k=>Own v k∨k=b
theorem Zij (l:List DEnd) (e:DEnd) (h:Zi1 l e (ZH l e)):(ZcJ l e).length=l.length+1:=ZhF l _ e h.1
theorem GIs.apart {w:World} {G:Nat→Prop} {g:Nat} {out inn:List (List DEnd)} {n:Int} {ob ib:Nat} {oh ih:List Value} {base:Nat} (h:GIs w G g out inn n ob ib oh ih base) {i j:Nat} {v u:Value} (hv:oh[i]? =some v) (hu:ih[j]? =some u):∀k,u.ownBlock=some k→¬Zle v ob k:=by
 rintro k hk (e|e)
 ·exact h.dis i (oh.length+j) v u k (by rw[List.getElem?_append_left (List.getElem?_eq_some_iff.1 hv).1];exact hv) (by rw[List.getElem?_append_right (by omega)];simpa using hu) (by have:=(List.getElem?_eq_some_iff.1 hv).1;omega) e hk
 ·obtain⟨hj,rfl⟩:=List.getElem?_eq_some_iff.1 hu;obtain⟨B,d,h1,h2⟩:=h.ri.2 j (by rw[←h.ri.1];exact hj);rw[Qg hj]at h1;rw[Option.some.inj h1]at hk;have:=(h2.lt _ hk).1;have:=h.low;omega
section
variable {w:World} {G:Nat→Prop} {g:Nat} {out inn:List (List DEnd)} {n:Nat} {ob ib:Nat} {oh ih:List Value} {base:Nat}
end
end
/- Digraphs:an arc dropped. -/
section
open Go.RowKit
def ZeI (out:List (List DEnd)) (a:HArc):Int:=if ZgK out a=true then 0 else 3
def ZbR (l:List DEnd) (e:DEnd):List DEnd:=ZeJ l (ZH l e)
def ZiZ (out:List (List DEnd)) (a:HArc):List (List DEnd):=if ZeI out a=0 then out.modify a.f.toNat (ZbR · (ZaM a)) else out
def Zi0 (out inn:List (List DEnd)) (a:HArc):List (List DEnd):=if ZeI out a=0 then inn.modify a.t.toNat (ZbR · (inE a)) else inn
theorem Zjk {l:List DEnd} (h:ZaI l) {e:DEnd} (m:e∈l):ZH l e<l.length:=by
 have h1:=Zfq h e;rw[decide_eq_true m]at h1;unfold ZgJ at h1
 split at h1
 ·next x hx=>exact(List.getElem?_eq_some_iff.1 hx).1
 ·cases h1
section
variable {w:World} {G:Nat→Prop} {g:Nat} {out inn:List (List DEnd)} {n:Nat} {ob ib:Nat} {oh ih:List Value} {base:Nat}
end
end
/- Digraphs:masks. -/
section
open Go.RowKit
def Zlb (mask kind:Int):Bool:=decide ((mask/2 ^ kind.toNat)%2=1)
end
end Go.Proofs.YtblplapkdmhikaaGreat
