/- Closed walks: the edges that do not count are dropped. -/
import Derived.Test.YtonblekdfinpkaaGreatWqan
import Derived.Test.YtonblekdfinpkaaGreatWqbp
import Derived.Test.YtonblekdfinpkaaGreatWqbq
namespace Go.Proofs.YtonblekdfinpkaaGreat
set_option linter.unusedVariables false
set_option linter.unusedSimpArgs false
section
open Go.RowKit
def ZcY (l:List Edge) (mask:Int):Nat:=l.findIdx (ZaP mask)
def ZeH (l:List Edge) (mask:Int):Int:=if ZcY l mask<l.length then (ZcY l mask:Int) else -1
theorem ZpQ {l:List Edge} {mask:Int} {k:Nat} (hk:k<l.length) (h:∀(j:Nat) (hj:j<k),ZaP mask (l[j]'(by omega))=false) (h1:ZaP mask l[k]=true):ZcY l mask=k:=by
 unfold ZcY;rw[List.findIdx_eq hk];exact⟨h1,fun j hj=>by simp only[h j hj]⟩
theorem Zoi {l:List Edge} {mask:Int} (h:∀(j:Nat) (hj:j<l.length),ZaP mask l[j]=false):ZcY l mask=l.length:=by
 unfold ZcY;rw[List.findIdx_eq_length];intro x hx;obtain⟨k,hk,rfl⟩:=List.mem_iff_getElem.1 hx;simp only[h k hk]
set_option maxRecDepth 100000 in
theorem ZsN (F:Nat→Prop) (w:World) (B:Option Addr) (d:Nat) (l:List Edge) (p:Addr) (mask:Int) (H:Walk F w B l) (hl:l.length≤1000000) (hp:w.cell? p=some (.int .i64 mask)):
  Calls Tryz.prog 182 #[.slice B l.length d,.func (.func 113) #[] #[.pointer (some p)]] w fun e w'=>e= .returned (.int .i64 (ZeH l mask))∧Upd No w w':=by
 go_enter Tryz.func182,Tryz.ntmps182
 go_wp2
 go_loopg [8] l.length (fun gk s wr=>∃k:Nat,k+gk=l.length∧s= .int .i64 k∧Hid (∀(j:Nat) (hj:j<l.length),j<k→ZaP mask l[j]=false)∧Upd No w wr)
 case atStart=>exact⟨0,by omega,rfl,Qh (fun j _ hj=>by omega),Upd.refl _ _⟩
 case round=>
  obtain⟨k,hgk,rfl,hall,hu⟩:=hrel
  by_cases hlt:k<l.length
  ·obtain⟨ad,rfl,q0,q1,q2,q3⟩:=(H.upd hu (fun _ _=>id)).at_ hlt;obtain⟨x,hx⟩:∃x,l[k]=x:=⟨_,rfl⟩;rw[hx]at q0 q1 q2 q3;have hpr:=hu.keepNo hp;have X:=Qh hx;have b2:(k:Int)<(l.length:Int):=by omega
   have b1:(0:Int)≤(k:Int):=Qn _;have HC:=Qh (Zq5 wr p mask hpr x);unfold Edge.cells at HC;clear hx
   by_cases he:ZaP mask x=true
   ·have hpos:=Qh (show ZeH l mask=(k:Int) by unfold ZeH;rw[ZpQ (l:=l) (mask:=mask) hlt (fun j hj=>hall.out j (by omega) hj) (by rw[X.out];exact he),if_pos hlt]);have He:=Qh he;clear he
    go_wp2_with fail
    refine(HC.out).mono ?_;rintro e w1 ⟨hee,hu1⟩;rw[He.out]at hee;subst hee;go_wp2
    go_ret
    exact⟨by rw[hpos.out];rfl,hu.trans hu1⟩
   ·have hef:ZaP mask x=false:=by simpa using he
    have He:=Qh hef;clear he hef
    go_wp2_with fail
    refine(HC.out).mono ?_;rintro e w1 ⟨hee,hu1⟩;rw[He.out]at hee;subst hee;go_wp2
    go_roundg (gk-1)
    case measure=>omega
    case rel=>exact⟨k+1,by omega,by go_num,Qh (fun j hj hjk=>by
      by_cases e:j=k
      ·subst e;rw[X.out];exact He.out
      ·exact hall.out j hj (by omega)),hu.trans hu1⟩
  ·obtain rfl:k=l.length:=by omega
   have hpos:=Qh (show ZeH l mask= -1 by unfold ZeH;rw[Zoi (l:=l) (mask:=mask) fun j hj=>hall.out j hj hj,if_neg (by omega)]);go_wp2
   go_ret
   exact⟨by rw[hpos.out];rfl,hu⟩
theorem ZlH {P:Program} {ops:Array Oper} {rest:List Oper} {o:Oper} {a:Act} {W:World} {Q:Exit→Act→World→Prop} (hgd:o.guard=none) {ty:TypeId} {x y:Operand} (ho:o.op= .store ty x y)
  {g off:Nat} {t:TypeId} {cur cells:List Value} {A:Addr} (hx:a.eval x= .pointer (some A)) (hA:A=⟨g,off,none⟩) (hy:a.eval y= .agg cells.toArray) (hb:Blk W g t cur) (hi:(P.info? ty).map (·.size)=some cells.length) (hfit:off+cells.length≤cur.length)
  (h1:∀v∈cells,v.oneCell'=true) (h:∀w',Blk w' g t (cur.take off++cells++cur.drop (off+cells.length))→Upd (One g) W w'→wpList P ops Q rest (a.put o.dst undef) w'):wpList P ops Q (o::rest) a W:=by
 subst hA;have hst:=run_storeCells_at P g off t cells 0 cur.toArray W hb (by simpa using hfit) h1;simp only[Nat.add_zero]at hst
 have hrun:(storeVar ty ⟨g,off,none⟩ (.agg cells.toArray)).run P W= .ok () (W.setRow g (cur.take off++cells++cur.drop (off+cells.length)).toArray):=by
  cases hq:P.info? ty with
  |none=>simp[hq]at hi
  |some i=>
   have hs:cells.length=i.size:=by simp[hq]at hi;omega
   simp[storeVar,sizeOf,typeInfo,hq,Value.cells,hs,hst]
 refine wpList_plain hgd fun _ hK=> ?_
 unfold Oper.wp execOp;simp only[ho,hx,hy,Instr.storeAt,Instr.sureAddr,Sem.run_bind,Sem.run_pure,Result.andThen_ok,hrun];exact hK _ _ (h _ (ZcS hb) (ZcI _ _))
theorem ZgP (a:Edge) (l:List Edge):Zm (a::l)=a.cells++Zm l:=rfl
theorem Zfs (l m:List Edge):Zm (l++m)=Zm l++Zm m:=by unfold Zm;simp
theorem ZgO (l:List Edge) (i:Nat):(Zm l).take (i*4)=Zm (l.take i):=by
 rcases Nat.lt_or_ge l.length i with h|h
 ·rw[List.take_of_length_le (by rw[Zbe];omega),List.take_of_length_le (by omega)]
 ·conv=>lhs;rw[←List.take_append_drop i l,Zfs]
  rw[List.take_append_of_le_length (by rw[Zbe,List.length_take];omega),List.take_of_length_le (by rw[Zbe,List.length_take];omega)]
theorem Znn {xs:List Edge} {m n:Nat} {x:Edge} {cs:List Value} (hm:m<n) (hn:xs.length=n) (hc:n*4≤cs.length) (h:cs.take (n*4)=Zm xs):
  (cs.take (m*4)++x.cells++cs.drop (m*4+x.cells.length)).take (n*4)=Zm (xs.set m x):=by
 have hcs:cs=Zm xs++cs.drop (n*4):=by rw[←h,List.take_append_drop]
 have hl:x.cells.length=4:=rfl;have hsp:xs=xs.take m++xs[m]'(by omega)::xs.drop (m+1):=by rw[←List.drop_eq_getElem_cons (by omega:m<xs.length),List.take_append_drop]
 have hset:xs.set m x=xs.take m++x::xs.drop (m+1):=by rw[List.set_eq_take_append_cons_drop,if_pos (by omega)]
 have e1:cs.take (m*4)=Zm (xs.take m):=by
  rw[←ZgO,←h,List.take_take,Nat.min_eq_left (by omega)]
 have e2:cs.drop (m*4+4)=Zm (xs.drop (m+1))++cs.drop (n*4):=by
  conv=>lhs;rw[hcs,hsp,Zfs,ZgP,←List.append_assoc]
  rw[List.append_assoc (Zm (xs.take m)++_),List.drop_append,List.drop_of_length_le (by rw[List.length_append,Zbe,List.length_take];show _+4≤_;omega)];have:m*4+4-(Zm (List.take m xs)++(xs[m]'(by omega)).cells).length=0:=by rw[List.length_append,Zbe,List.length_take];show m*4+4-(_+4)=0;omega
  rw[this];simp
 rw[hl,e1,e2,hset,Zfs,ZgP,←List.append_assoc,←List.append_assoc];rw[List.take_append_of_le_length (by simp only[List.length_append,Zbe,hl,List.length_take,List.length_drop];omega),List.take_of_length_le (by simp only[List.length_append,Zbe,hl,List.length_take,List.length_drop];omega)]
theorem ZgT {w:World} {g:Nat} {cs:List Value} {l:List Edge} (hb:Blk w g 26 cs) (h:cs.take (l.length*4)=Zm l):Walk (fun i=>i=g) w (some ⟨g,0,none⟩) l:=by
 intro _;refine⟨_,rfl,rfl,hb.lt,fun i row hi j v hj=> ?_⟩;have e1:(⟨g,0,none⟩:Addr).add (i*4+j)=⟨g,i*4+j,none⟩:=by unfold Addr.add;split<;>simp_all
 rw[e1,hb.cell];have h1:=Zd8 (size:=4) (rows:=l.map Edge.cells) Zav hi hj;have h2:(cs.take (l.length*4))[i*4+j]? =some v:=by rw[h];exact h1
 rw[List.getElem?_take]at h2
 split at h2
 ·exact h2
 ·cases h2
def ZaJ (l:List Edge) (mask:Int):List Edge:=l.filter fun x=> !ZaP mask x
set_option maxRecDepth 100000 in
set_option maxHeartbeats 8000000 in
theorem Zue (w:World) (ad:Addr) (g c:Nat) (HAD:Hid (ad=⟨g,0,none⟩)) (l:List Edge) (cur:List Value) (p:Addr) (mask:Int) (hb:Blk w g 26 cur) (ht:cur.take (l.length*4)=Zm l) (hcl:cur.length=c*4) (hlc:l.length≤c) (hl:l.length≤1000000)
  (hp:w.cell? p=some (.int .i64 mask)) (hpg:p.block≠g):
  Calls Tryz.prog 111 #[.slice (some ad) l.length c,.func (.func 113) #[] #[.pointer (some p)]] w fun e w'=>e= .returned (.slice (some ad) (ZaJ l mask).length c)∧(∃cs,Blk w' g 26 cs∧cs.take ((ZaJ l mask).length*4)=Zm (ZaJ l mask))∧Upd (One g) w w':=by
 have hW:Walk (fun i=>i=g) w (some ad) l:=by rw[HAD.out];exact ZgT hb ht
 have HI:=Qh (ZsN (fun i=>i=g) w (some ad) c l p mask hW hl hp)
 by_cases hpos:ZcY l mask<l.length
 ·have hix:ZeH l mask=(ZcY l mask:Int):=by unfold ZeH;rw[if_pos hpos]
  rw[hix]at HI;have hbad:ZaP mask l[ZcY l mask]=true:=List.findIdx_getElem (p:=ZaP mask) (w:=hpos)
  have hgood:∀(j:Nat) (hj:j<ZcY l mask),ZaP mask (l[j]'(by omega))=false:=fun j hj=>by
   have:=List.not_of_lt_findIdx (p:=ZaP mask) (xs:=l) hj
   simpa using this
  obtain⟨k,hk⟩:∃k,ZcY l mask=k:=⟨_,rfl⟩;have hkl:k<l.length:=by omega
  have htk:ZaJ (l.take (k+1)) mask=l.take k:=by
   unfold ZaJ;rw[List.take_succ_eq_append_getElem hkl,List.filter_append,List.filter_cons_of_neg (by rw[show ZaP mask l[k]=true by simpa[hk]using hbad];decide)]
   rw[List.filter_eq_self.2 (fun x hx=>by
    obtain⟨j,hj,rfl⟩:=List.mem_iff_getElem.1 hx;rw[List.getElem_take,hgood j (by rw[hk];simp at hj;omega)];rfl)]
   simp
  have hkneg:((k:Int)== -1)=false:=by rw[beq_eq_false_iff_ne];omega
  have hkw:IntKind.i64.wrap ((k:Int)+1)=(k:Int)+1:=IntWalk.i64_in _ (by omega);rw[hk]at HI;have HTK:=Qh htk;have HB:=Qh hb;have HT:=Qh ht;have HCL:=Qh hcl;clear hix hbad hgood hpos hk htk hW hb ht hcl
  go_enter Tryz.func111,Tryz.ntmps111
  go_wp2_with fail
  refine(HI.out).mono ?_;rintro e w1 ⟨rfl,hu1⟩;have HB1:=Qh (HB.out.upd hu1 id);have HU1:=Qh (show Upd (One g) w w1 from hu1.mono (fun _ _ e=>e.elim));have HXL:=Qh (List.length_take_of_le (Nat.le_of_lt hkl):(l.take k).length=k);clear hu1;go_wp2
  go_loopg [5,6] (l.length-(k+1)) (fun gk si sj wr=>∃(m j:Nat) (xs:List Edge) (cs:List Value),j+gk=l.length∧si= .int .i64 m∧sj= .int .i64 j∧m<j∧Hid (xs.length=l.length)∧Hid (xs.take m=ZaJ (l.take j) mask∧(ZaJ (l.take j) mask).length=m)∧Hid (xs.drop j=l.drop j)∧Hid (Blk wr g 26 cs)∧Hid (cs.take (l.length*4)=Zm xs∧cs.length=c*4)∧Upd (One g) w wr)
  case atStart=>exact⟨k,k+1,l,cur,by omega,rfl,by go_num,by omega,Qh rfl,Qh ⟨HTK.out.symm,by rw[HTK.out];exact HXL.out⟩,Qh rfl,HB1,Qh ⟨HT.out,HCL.out⟩,HU1.out⟩
  case round=>
   obtain⟨m,j,xs,cs,hgk,rfl,rfl,hmj,HXN,HM,HD,HBc,HCS,hu⟩:=hrel;have i0:(0:Int)≤(m:Int):=Qn _
   by_cases hlt:j<l.length
   ·obtain⟨x,hx⟩:∃x,l[j]=x:=⟨_,rfl⟩;have hjx:j<xs.length:=by rw[HXN.out];exact hlt
    have hxj:xs[j]=x:=by
     have h1:=List.drop_eq_getElem_cons hjx;have h2:=List.drop_eq_getElem_cons hlt;rw[HD.out,h2]at h1
     injection h1 with h1 _
     rw[←h1,hx]
    have hWx:Walk (fun i=>i=g) wr (some ad) xs:=by rw[HAD.out];exact ZgT HBc.out (by rw[HXN.out];exact HCS.out.1)
    obtain⟨ad',e',q0,q1,q2,q3⟩:=hWx.at_ hjx
    cases e'
    rw[hxj]at q0 q1 q2 q3
    have hDn:xs.drop (j+1)=l.drop (j+1):=by
     have h1:=List.drop_eq_getElem_cons hjx;have h2:=List.drop_eq_getElem_cons hlt;rw[HD.out,h2]at h1
     injection h1 with _ h1
     exact h1.symm
    have HDN:=Qh hDn;have HX:=Qh hx;have i1:(0:Int)≤(j:Int):=Qn _;have i2:(j:Int)<(l.length:Int):=by omega
    have i3:(m:Int)<(l.length:Int):=by omega
    have hpr:=hu.keep hp hpg;obtain⟨wx,hwx⟩:∃wx,wr.alloc (.cells #[.int .i64 x.f,.int .i64 x.t,.int .i64 x.k,.int .i64 x.key] 26)=wx:=⟨_,rfl⟩;have ux:Upd No wr wx:=by rw[←hwx];exact(Upd.refl No wr).alloc _
    have bo:Blk wx wr.heap.size 26 [.int .i64 x.f,.int .i64 x.t,.int .i64 x.k,.int .i64 x.key]:=by rw[←hwx];exact Blk.new wr _ _
    have g0:=bo.cell 0;have g1:=bo.cell 1;have g2:=bo.cell 2;have g3:=bo.cell 3;simp only[Qz,Qs]at g0 g1 g2 g3;have HC:=Qh (Zq5 wx p mask (ux.keepNo hpr) x);have BO:=Qh bo;have UX:=Qh ux;have HPR:=Qh hpr;unfold Edge.cells at HC;clear hx hjx hxj hWx hDn bo ux hpr HD
    cases hbx:ZaP mask x
    ·rw[hbx]at HC;have HBX:=Qh hbx;clear hbx
     go_wp2_with fail
     refine(HC.out).mono ?_;rintro e w2 ⟨rfl,hu2⟩;have bo2:=BO.out.upd hu2 id;have g0:=bo2.cell 0;have g1:=bo2.cell 1;have g2:=bo2.cell 2;have g3:=bo2.cell 3;simp only[Qz,Qs]at g0 g1 g2 g3;have HB2:=Qh ((HBc.out.upd UX.out id).upd hu2 id);have HU2:=Qh (hu.trans ((UX.out.trans hu2).mono (fun _ _ e=>e.elim)));clear hu2 HC
     go_wp2_with (refine ZlH rfl rfl (g:=g) (off:=m*4) (cells:=[.int .i64 x.f,.int .i64 x.t,.int .i64 x.k,.int .i64 x.key]) rfl (by rw[HAD.out,Zml,Nat.zero_add]) rfl HB2.out (by kernel_rfl) (by have:=HCS.out.2;simp only[List.length_cons,List.length_nil];omega) (by intro v hv;simp only[List.mem_cons,List.not_mem_nil,or_false]at hv;rcases hv with rfl|rfl|rfl|rfl<;>rfl) ?_;intro w5 hb5 hu5)
     have hcs5:=Znn (m:=m) (n:=l.length) (x:=x) (xs:=xs) (cs:=cs) (by omega) HXN.out (by have:=HCS.out.2;omega) HCS.out.1
     have hl5:(cs.take (m*4)++x.cells++cs.drop (m*4+x.cells.length)).length=c*4:=by
      have h4:x.cells.length=4:=rfl;have:=HCS.out.2;rw[List.length_append,List.length_append,List.length_take,List.length_drop,h4];omega
     have hgo:ZaJ (l.take (j+1)) mask=ZaJ (l.take j) mask++[x]:=ZoU hlt HX.out (by rw[HBX.out];rfl);have HB5:=Qh hb5;have HU5:=Qh (HU2.out.trans hu5);have HC5:=Qh (And.intro hcs5 hl5);have HG5:=Qh hgo;clear hb5 hu5 hcs5 hl5 hgo
     go_roundg (gk-1)
     case measure=>omega
     case rel=>
      refine⟨m+1,j+1,xs.set m x,_,by omega,by go_num,by go_num,by omega,Qh (by rw[List.length_set];exact HXN.out),Qh ⟨?_,?_⟩,Qh ?_,HB5,HC5,HU5.out⟩
      ·rw[HG5.out,←HM.out.1,List.set_eq_take_append_cons_drop,if_pos (by have:=HXN.out;omega),List.take_append,List.take_of_length_le (by rw[List.length_take];omega),List.length_take,Nat.min_eq_left (by have:=HXN.out;omega),Nat.add_sub_cancel_left];rfl
      ·rw[HG5.out,List.length_append,HM.out.2];rfl
      ·rw[List.drop_set_of_lt (by omega)];exact HDN.out
    ·rw[hbx]at HC;have hgo:ZaJ (l.take (j+1)) mask=ZaJ (l.take j) mask:=Zql hlt HX.out (by rw[hbx];rfl);have HG5:=Qh hgo;clear hbx hgo
     go_wp2_with fail
     refine(HC.out).mono ?_;rintro e w2 ⟨rfl,hu2⟩;have HB2:=Qh ((HBc.out.upd UX.out id).upd hu2 id);have HU2:=Qh (hu.trans ((UX.out.trans hu2).mono (fun _ _ e=>e.elim)));clear hu2 HC;go_wp2
     go_roundg (gk-1)
     case measure=>omega
     case rel=>exact⟨m,j+1,xs,cs,by omega,rfl,by go_num,by omega,HXN,Qh (by rw[HG5.out];exact HM.out),HDN,HB2,HCS,HU2.out⟩
   ·obtain rfl:j=l.length:=by omega
    have hA:=HAD.out;subst hA
    have hgl:ZaJ l mask=xs.take m∧(ZaJ l mask).length=m:=by
     have:=HM.out;rw[List.take_length]at this;exact⟨this.1.symm,this.2⟩
    have HGL:=Qh hgl;have i3:(m:Int)≤(l.length:Int):=by omega
    have hci:¬c=m:=by omega
    have k1:∀W,(Instr.slice 22 (.slice (some ⟨g,0,none⟩) l.length c) (some (.int .i64 (m:Int))) none none).run Tryz.prog W= .ok (.slice (some ⟨g,m*4,none⟩) (l.length-m) (c-m)) W:=fun W=>by
     have:=Zbw (P:=Tryz.prog) (W:=W) ZaW (some ⟨g,0,none⟩) l.length c m (by omega)
     rwa [Zfu hci]at this
    have k2:∀W,(Instr.slice 22 (.slice (some ⟨g,0,none⟩) l.length c) none (some (.int .i64 (m:Int))) none).run Tryz.prog W= .ok (.slice (some ⟨g,0,none⟩) m c) W:=fun W=>by
     have:=Zdh (P:=Tryz.prog) (W:=W) ZaW (some ⟨g,0,none⟩) l.length c m (by omega)
     rwa [Zkg]at this
    have HU:=Qh hu;clear hgl hu HB1 HU1 HTK HT HCL HXL HM HD
    go_wp2_with (refine ZnP rfl rfl ZaW (z:= .agg #[.int .i64 0,.int .i64 0,.int .i64 0,.int .i64 0]) (fun w=>by kernel_rfl) rfl (by intro v hv;simp[Value.cells]at hv;subst hv;rfl) (g:=g) (off:=m*4) (n:=l.length-m) rfl (by omega) HBc.out (by have:=HCS.out.2;omega) ?_;intro zs w6 hzs hB6 hu6)
    have hfin:(cs.take (m*4)++zs++cs.drop (m*4+zs.length)).take (m*4)=Zm (ZaJ l mask):=by
     rw[List.append_assoc,List.take_append_of_le_length (by rw[List.length_take];have:=HCS.out.2;omega),List.take_take,Nat.min_self,HGL.out.1,←ZgO,←HCS.out.1,List.take_take,Nat.min_eq_left (by omega)]
    have HF:=Qh hfin;have HB7:=Qh hB6;have HU7:=Qh (HU.out.trans hu6);clear hfin hB6 hu6;go_wp2
    go_ret
    exact⟨by rw[HGL.out.2];rfl,⟨_,HB7.out,by rw[HGL.out.2];exact HF.out⟩,HU7.out⟩
 ·have hix:ZeH l mask= -1:=by unfold ZeH;rw[if_neg hpos]
  rw[hix]at HI
  have hall:ZaJ l mask=l:=by
   unfold ZaJ;rw[List.filter_eq_self];intro x hx
   have h0:ZcY l mask=l.length:=by
    have:=List.findIdx_le_length (xs:=l) (p:=ZaP mask);unfold ZcY at hpos ⊢;omega
   have h1:=(List.findIdx_eq_length (p:=ZaP mask) (xs:=l)).1 h0 x hx;rw[h1];rfl
  have HALL:=Qh hall;have HB:=Qh hb;have HT:=Qh ht;clear hix hpos hall hW hb ht
  go_enter Tryz.func111,Tryz.ntmps111
  go_wp2_with fail
  refine(HI.out).mono ?_;rintro e w1 ⟨rfl,hu1⟩;go_wp2
  go_ret
  exact⟨by rw[HALL.out];rfl,⟨cur,HB.out.upd hu1 id,by rw[HALL.out];exact HT.out⟩,hu1.mono (fun _ _ e=>e.elim)⟩
end
/- Closed walks:the first of the shortest:what is called,and what is known of walks. -/
section
open Go.RowKit
theorem ZpX {W:World} {B n:Nat} {e:TypeId} (hn:n=W.heap.size) (hB:B≤W.heap.size):(W.alloc (.cells #[] e)).ownsRow B e 4 (.slice (some ⟨n,0,none⟩) 0 0) 0 []:=by
 subst hn;exact ZS (World.ownsRow_made W #[] 0 (Nat.le_refl _) (by decide) rfl) hB
theorem Zpt {F:Nat→Prop} {w:World} {A:Option Addr} {l:List Edge} (h:Walk F w A l):Src w A l.length 4 (Zm l):=by
 have:=Recs.src h Zav
 rwa [List.length_map]at this
theorem ZsR (F:Nat→Prop) (w:World) (A:Option Addr) (c:Nat) (l:List Edge) (h:Walk F w A l) (hl:l.length≤1000000):
  Calls Tryz.prog 112 #[.slice A l.length c] w (Zs0 w l):=by
 have qT:∀(w:World) (a:Option Addr) (n c:Nat),(binOp .eql 22 (.slice a n c) (.slice none 0 0)).run Tryz.prog w= .ok (.bool a.isNone) w:=fun w a n c=>Lib.run_eql_slice_nil w _ _ a n c 0 0 Tryz.underlying22
 cases A with
 |none=>
  have h0:l=[]:=by
   cases l with
   |nil=>rfl
   |cons a l=>obtain⟨_,e,_⟩:=h (by simp);cases e
  subst h0
  go_enter Tryz.func112,Tryz.ntmps112
  go_wp2
  go_ret
  exact⟨none,0,rfl,World.ownsRow_nil _ _ _ _,Upd.refl _ _⟩
 |some ad=>
  have hs:=Qh (h.upd ((Upd.refl No w).alloc (.cells #[] 26)) (fun _ _=>id))
  go_enter Tryz.func112,Tryz.ntmps112
  go_wp2_with (at_builtin;refine Zht rfl rfl ZaW (base:=w.heap.size) (v:= .slice (some ⟨w.heap.size,0,none⟩) 0 0) (n:=0) (m:=l.length) (xs:=[]) rfl rfl (ZpX rfl (Nat.le_refl _)) (Zpt hs.out) Zf5 (by omega) (by omega) (by simp) ?_)
  intro v4 w4 hown4 hu4 hg4;obtain⟨A4,c4,rfl⟩:=Zab hown4;have uw4:Upd No w w4:=((Upd.refl No w).alloc _).then_ hu4 (fun j e=> .inr (ZhP e));go_wp2
  go_ret
  exact⟨A4,c4,by simp,by simpa using hown4,uw4⟩
set_option maxRecDepth 100000 in
theorem ZtO (w:World) (base:Nat) (A:Option Addr) (c:Nat) (l:List Edge) (p:Addr) (mask:Int) (ho:w.ownsRow base 26 4 (.slice A l.length c) l.length (Zm l)) (hl:l.length≤1000000)
  (hp:w.cell? p=some (.int .i64 mask)) (hpb:p.block<base):
  Calls Tryz.prog 111 #[.slice A l.length c,.func (.func 113) #[] #[.pointer (some p)]] w fun e w'=>e= .returned (.slice A (ZaJ l mask).length c)∧Walk (fun i=>base≤i) w' A (ZaJ l mask)∧Upd (Own (.slice A l.length c)) w w':=by
 by_cases h0:l=[]
 ·subst h0;have HI:=Qh (ZsN (fun _=>True) w A c [] p mask (fun h=>absurd rfl h) (by simp) hp);rw[show ZeH [] mask= -1 from rfl]at HI
  go_enter Tryz.func111,Tryz.ntmps111
  go_wp2_with fail
  refine(HI.out).mono ?_;rintro e w1 ⟨rfl,hu1⟩;go_wp2
  go_ret
  exact⟨rfl,fun h=>absurd rfl h,hu1.mono (fun _ _ e=>e.elim)⟩
 ·obtain⟨g,cur,rfl,hgb,hB,hnc,hcl,hct,hcm⟩:=Zbr ho (List.length_pos_iff.2 h0);refine(Zue w ⟨g,0,none⟩ g c (Qh rfl) l cur p mask hB hct hcl hnc hl hp (by omega)).mono ?_;rintro e w' ⟨rfl,⟨cs,hb,ht⟩,hu⟩;exact⟨rfl,Recs.weak (ZgT hb ht) (fun i _ e=>by subst e;exact hgb),hu.mono (fun i _ e=>by cases e;rfl)⟩
theorem Zpo {N:Nat} {q:List HArc} (hr:∀a∈q,Zi N a=true) (hs:Z3 q) (mask must:Int) (need:Bool) {i:Int} (h0:0≤i) (h1:i<(N:Int)) (hk:0<Z7 (ofA mask q) must i (Z1 N q mask i) (Zp N q mask must i) need):
  ((ZB (ofA mask q) must i (Z1 N q mask i) (Zp N q mask must i) (Z7 (ofA mask q) must i (Z1 N q mask i) (Zp N q mask must i) need).toNat i need).length:Int)=Z7 (ofA mask q) must i (Z1 N q mask i) (Zp N q mask must i) need:=by
 have hL:LoopD (ofA mask q) must i (Z1 N q mask i) (Zp N q mask must i):=Zfk hr mask must i h0 h1;obtain⟨c,c1,c2,c3,c4⟩:=Zkw hL need hk
 have hsp:=Ze4 (hs.filter _) hL (Zpe hr mask must i h0 h1) (Zl4 hr mask must i h0 h1) (Z7 (ofA mask q) must i (Z1 N q mask i) (Zp N q mask must i) need).toNat i need (Int.le_refl _) ⟨c,c2,by omega,c4⟩ (fun l l1 l2 l3=>by
  have:=(ZgV hL need l1 l2 l3).2;omega)
 exact(congrArg (fun n:Nat=>(n:Int)) hsp.2.1).trans (Int.toNat_of_nonneg (Int.le_of_lt hk))
theorem Zpy {N:Nat} {q:List HArc} (hN:N≤100000) (hr:∀a∈q,Zi N a=true) (mask must:Int) (need:Bool) {i:Int} (h0:0≤i) (h1:i<(N:Int)):
  0≤Z7 (ofA mask q) must i (Z1 N q mask i) (Zp N q mask must i) need∧Z7 (ofA mask q) must i (Z1 N q mask i) (Zp N q mask must i) need≤1000000:=by
 have hb:=Zky hN hr mask must i h0 h1;have hsp:=Zce (ZD must (Z1 N q mask i) (Zp N q mask must i) need) ((ofA mask q).filter fun a=>a.f==i) 0 (Int.le_refl _);refine⟨hsp.1,?_⟩;refine Classical.byContradiction fun hc=> ?_
 have hc2:0<ZQ (ZD must (Z1 N q mask i) (Zp N q mask must i) need) 0 ((ofA mask q).filter fun a=>a.f==i):=by unfold Z7 at hc;omega
 rcases hsp.2.2.2 hc2 with e|⟨a,_,ha,e⟩
 ·omega
 ·have hle:ZD must (Z1 N q mask i) (Zp N q mask must i) need a≤900000:=by
   unfold ZD
   split
   ·exact(hb a.t).2.2
   ·exact(hb a.t).1.2
  unfold Z7 at hc;omega
theorem ZoF (l:List Edge) (mask:Int):ZaJ l (bits .and .i64 mask 14)=Ze l mask:=by
 unfold ZaJ Ze
 congr 1
 funext e
 rw[ZsY,Bool.not_not]
end
/- Closed walks:the first of the shortest. -/
section
open Go.RowKit
def ToldC (w:World) (d:List Edge) (e:Ending) (w':World):Prop:=
 ∃A c,e= .returned (.tuple #[.slice A d.length c,.int .i64 (if d.length=0 then 3 else 0)])∧w'.ownsRow w.heap.size 26 4 (.slice A d.length c) d.length (Zm d)∧Upd No w w'
set_option maxRecDepth 100000 in
set_option maxHeartbeats 8000000 in
theorem Zo5 (F:Nat→Prop) (w:World) (A:Option Addr) (c:Nat) (l:List Edge) (mask must:Int) (hW:Walk F w A l) (hl:l.length≤2000):
  Calls Tryz.prog 53 #[.slice A l.length c,.int .i64 mask,.int .i64 must] w (ToldC w (ZI l mask must)):=by
 obtain⟨ma,hma⟩:∃ma,bits .and .i64 mask 14=ma:=⟨_,rfl⟩;obtain⟨mu,hmu⟩:∃mu,bits .and .i64 must 14=mu:=⟨_,rfl⟩;obtain⟨wb,hwb⟩:∃wb,(w.alloc (.cells #[.int .i64 mask] 3)).setCell ⟨w.heap.size,0,none⟩ (.int .i64 ma)=wb:=⟨_,rfl⟩;have u0:Upd No w wb:=by rw[←hwb];exact((Upd.refl No w).alloc _).then_ ((Upd.refl (One w.heap.size) _).setOne 0 _) (fun i e=> .inr (by unfold One at e;omega))
 have hsz:wb.heap.size=w.heap.size+1:=by rw[←hwb];simp
 have bM:Blk wb w.heap.size 3 [.int .i64 ma]:=by rw[←hwb];exact(Blk.new w 3 [.int .i64 mask]).set_ 0 (.int .i64 ma)
 have qT:∀(w:World) (a:Option Addr) (n c:Nat),(binOp .eql 183 (.slice a n c) (.slice none 0 0)).run Tryz.prog w= .ok (.bool a.isNone) w:=fun w a n c=>Lib.run_eql_slice_nil w _ _ a n c 0 0 Tryz.underlying183
 have hneed:(mu != 0)=ZaH must:=by rw[←hmu];exact Zss must
 obtain⟨need,hnd⟩:∃need,ZaH must=need:=⟨_,rfl⟩;rw[hnd]at hneed;obtain⟨D,hD⟩:∃D,Ze l mask=D:=⟨_,rfl⟩;have hDl:D.length≤2000:=by rw[←hD];exact Nat.le_trans (List.length_filter_le _ _) hl
 have hgl:ZaJ l ma=D:=by rw[←hma,ZoF,hD]
 obtain⟨ids,hids⟩:∃ids,Zax D=ids:=⟨_,rfl⟩;obtain⟨keys,hkeys⟩:∃keys,Zbb D=keys:=⟨_,rfl⟩;have hsi:ids.Pairwise (·<·):=by rw[←hids];exact Zb2 _
 have hsk:keys.Pairwise (·<·):=by rw[←hkeys];exact Zb2 _
 have hil:ids.length≤4096:=by
  have h1:=Ze8 (ZbN D);rw[Zhc]at h1;have h2:(Zax D).length≤2*D.length:=h1;rw[hids]at h2;omega
 have hkl:keys.length≤100000:=by
  have h1:=Ze8 (D.map Edge.key);rw[List.length_map]at h1;have h2:(Zbb D).length≤D.length:=h1;rw[hkeys]at h2;omega
 have hne:D≠[]→ids≠[]∧keys≠[]:=by
  intro h;obtain⟨e,m,rfl⟩:=List.exists_cons_of_ne_nil h;have h1:=(Zhe (D:=e::m) (e:=e) List.mem_cons_self).1;have h2:=Zf2 (D:=e::m) (e:=e) List.mem_cons_self;rw[hids]at h1;rw[hkeys]at h2;exact⟨fun e2=>(by rw[e2]at h1;cases h1),fun e2=>(by rw[e2]at h2;cases h2)⟩
 obtain⟨q,hq⟩:∃q,Zb9 ids keys ids.length [] D=q:=⟨_,rfl⟩;obtain⟨ks,hks⟩:∃ks:Int→Int,ks=fun i=>if 0≤i∧i<(ids.length:Int) then Z7 (ofA ma q) mu i (Z1 ids.length q ma i) (Zp ids.length q ma mu i) need else 0:=⟨_,rfl⟩
 obtain⟨wf,hwf⟩:∃wf:Int→List HArc,wf=fun i=>ZB (ofA ma q) mu i (Z1 ids.length q ma i) (Zp ids.length q ma mu i) (ks i).toNat i need:=⟨_,rfl⟩
 have hks1:∀i:Int,0≤i→i<(ids.length:Int)→ks i=Z7 (ofA ma q) mu i (Z1 ids.length q ma i) (Zp ids.length q ma mu i) need:=fun i h0 h1=>by rw[hks];exact if_pos ⟨h0,h1⟩
 have hwf1:∀i:Int,wf i=ZB (ofA ma q) mu i (Z1 ids.length q ma i) (Zp ids.length q ma mu i) (ks i).toNat i need:=fun i=>by rw[hwf]
 have hway:Z3 q→ZI l mask must=(ZF ks wf ids.length).map (ZcQ ids keys)∧∀a∈ZF ks wf ids.length,Zi ids.length a=true∧a.label<(keys.length:Int):=fun hs=>
  Zrd (by omega) ids keys (by rw[hD,hids]) (by rw[hD,hkeys]) (by rw[hD,hq]) hs ks wf (by rw[hma,hmu,hnd];exact hks1) (fun i h0 h1=>by rw[hks];exact if_neg (fun e=>by omega)) (fun i h1=>by rw[hks];exact if_neg (fun e=>by omega)) (by rw[hma,hmu,hnd];exact fun i _ _=>hwf1 i)
 obtain⟨doc,hdoc⟩:∃doc,ZI l mask must=doc:=⟨_,rfl⟩;rw[hdoc]at hway ⊢;have HCl:=Qh (ZsR F wb A c l (hW.upd u0 (fun _ _=>id)) (by omega));have m0:∀W,Upd No wb W→W.cell? ⟨w.heap.size,0,none⟩=some (.int .i64 ma):=fun W u=>by have:=(bM.upd u id).cell 0;simpa using this
 have HDel:=Qh (fun(W:World) (A:Option Addr) (c:Nat) (u:Upd No wb W) (ho:W.ownsRow wb.heap.size 26 4 (.slice A l.length c) l.length (Zm l))=>hgl▸ZtO W wb.heap.size A c l ⟨w.heap.size,0,none⟩ ma ho (by omega) (m0 W u) (by show w.heap.size<wb.heap.size;omega));have HNm:=Qh (fun(W:World) (A:Option Addr) (c:Nat) (h:Walk (fun i=>wb.heap.size≤i) W A D)=>hkeys▸hids▸ZsM _ W A c D h (by omega));have HGr:=Qh (fun(W:World) (A:Option Addr) (c:Nat) (F0 F1 F2:Nat→Prop) (h:Walk F0 W A D) (A1 A2:Option Addr) (c1 c2:Nat) (hA:Ints F1 W A1 ids) (hB:Ints F2 W A2 keys)=>hq▸ZsO F0 F1 F2 W A c D h A1 A2 c1 c2 ids keys hA hB hsi hsk hne (by omega) hil hkl);have HWAY:=Qh hway;have HKS1:=Qh hks1;have HWF1:=Qh hwf1;have U0:=Qh u0;have hrr:Upd No wb wb:=Upd.refl _ _;clear hW u0 bM hway hks1 hwf1 hks hwf hgl hD hids hkeys hsi hsk hne hq hnd hdoc
 go_enter Tryz.func53,Tryz.ntmps53
 go_wp2_with fail
 refine(HCl.out).mono ?_;rintro e w1 ⟨A1,c1,rfl,ho1,hu1⟩;have hu1':Upd No wb w1:=hu1
 go_wp2_with fail
 refine(HDel.out w1 A1 c1 hu1' ho1).mono ?_;rintro e w2 ⟨rfl,hw2,hu2⟩;have HU2:=Qh (hu1.then_ hu2 (fun i e=> .inr (ho1.lt i e).1));have HW2:=Qh hw2;clear hu1 hu1' hu2 ho1 hw2 hwb hma hmu HCl HDel
 go_wp2_with fail
 refine(HNm.out w2 A1 c1 HW2.out).mono ?_;rintro e w3 ⟨I1,d1,I2,d2,rfl,hi1,hi2,hu3⟩;have hu23:=HU2.out.trans hu3;obtain⟨w4,hw4⟩:∃w4,w3.alloc (.cells #[.slice I1 ids.length d1,.slice I2 keys.length d2] 179)=w4:=⟨_,rfl⟩;have u4:Upd No w3 w4:=by rw[←hw4];exact(Upd.refl No w3).alloc _
 have bN:Blk w4 w3.heap.size 179 [.slice I1 ids.length d1,.slice I2 keys.length d2]:=by rw[←hw4];exact Blk.new w3 _ _
 have s0:=bN.cell 0;have s1:=bN.cell 1;simp only[Qz,Qs]at s0 s1;have HI1:=Qh (hi1.upd u4 (fun _ _=>id));have HI2:=Qh (hi2.upd u4 (fun _ _=>id));have HG4:=Qh (HGr.out w4 A1 c1 _ _ _ (Recs.upd HW2.out (hu3.trans u4) (fun _ _=>id)) I1 I2 d1 d2 HI1.out HI2.out);have HU4:=Qh (hu23.trans u4);have BN:=Qh bN;clear hi1 hi2 hu3 hu23 u4 bN HNm HGr HU2 HW2
 go_wp2_with fail
 refine(HG4.out).mono ?_;rintro e w5 ⟨G,g,K,rfl,hK,hdg,hu5⟩;have HU5:=Qh (HU4.out.trans hu5);have HDG:=Qh hdg;have hr:=hdg.right;have hso:=hdg.sorted;have HR:=Qh hr;have HSO:=Qh hso;have HWY:=Qh (HWAY.out hso);have M0:∀W,Upd No w5 W→W.cell? ⟨w.heap.size,0,none⟩=some (.int .i64 ma):=fun W u=>m0 W (HU5.out.trans u)
 have N0:∀W,Upd No w5 W→W.cell? ⟨w3.heap.size,0,none⟩=some (.slice I1 ids.length d1):=fun W u=>by have:=(BN.out.upd (hu5.trans u) id).cell 0;simpa using this
 have N1:∀W,Upd No w5 W→W.cell? ⟨w3.heap.size,1,none⟩=some (.slice I2 keys.length d2):=fun W u=>by have:=(BN.out.upd (hu5.trans u) id).cell 1;simpa using this
 have HEd:=Qh (fun(W:World) (u:Upd No w5 W) (a:HArc) (ha:Zi ids.length a=true∧a.label<(keys.length:Int))=>(by
  have h:=(ZC _ _).1 ha.1;exact ZsP _ _ W I1 I2 d1 d2 ids keys (HI1.out.upd (hu5.trans u) (fun _ _=>id)) (HI2.out.upd (hu5.trans u) (fun _ _=>id)) a h.1 h.2.1 h.2.2.1 h.2.2.2.1 h.2.2.2.2.2.2.1 ha.2:Calls Tryz.prog 119 #[.agg #[.slice I1 ids.length d1,.slice I2 keys.length d2],.agg a.cells.toArray] W fun e w'=>e= .returned (.agg (ZcQ ids keys a).cells.toArray)∧Upd No W w'))
 have HAt:=Qh (fun(W:World) (u:Upd No w5 W) (i:Int)=>Zuf W G (some ⟨g,0,none⟩) ids.length K q (hdg.no u) (by omega) ma mu i);have HSh:=Qh (fun(W:World) (u:Upd No w5 W) (B C:Option Addr) (n:Nat) (hn:n<ids.length) (h:LoopI W B C ids.length (Z1 ids.length q ma n) (Zp ids.length q ma mu n))=>Zo2 W G (some ⟨g,0,none⟩) B C ids.length K q (hdg.no u) (by omega) ma mu _ _ h (Zl8 (by omega) hr ma mu (n:Int) (by omega) (by omega)) (n:Int) need);have HWk:=Qh (fun(W:World) (u:Upd No w5 W) (B C:Option Addr) (n m:Nat) (hn:n<ids.length) (hm:m≤1000000) (h:LoopI W B C ids.length (Z1 ids.length q ma n) (Zp ids.length q ma mu n))=>ZtL W G (some ⟨g,0,none⟩) B C ids.length K q (hdg.no u) (by omega) ma mu _ _ h (Zl8 (by omega) hr ma mu (n:Int) (by omega) (by omega)) (n:Int) m hm need);have hr5:Upd No w5 w5:=Upd.refl _ _;clear hdg hu5 hr hso hw4 s0 s1 HI1 HI2 BN m0 HG4 HU4 hrr;go_wp2
 go_loopg [11,40] ids.length (fun gk way i wr=>∃(n:Nat) (A5:Option Addr) (c5:Nat) (ws:List HArc),n+gk=ids.length∧i= .int .i64 n∧way= .slice A5 ws.length c5∧Hid (ZF ks wf n=ws)∧Hid (A5=none↔ws=[])∧Hid (ws.length≤1000000)∧
  wr.ownsRow w5.heap.size 34 4 (.slice A5 ws.length c5) ws.length (Zbm ws)∧Upd No w5 wr)
 case atStart=>exact⟨0,none,0,[],by omega,rfl,rfl,Qh rfl,Qh ⟨fun _=>rfl,fun _=>rfl⟩,Qh (by simp),World.ownsRow_nil _ _ _ _,Upd.refl _ _⟩
 case round=>
  obtain⟨n,A5,c5,ws,hgk,rfl,rfl,HWS,HIF,HWN,hown,hu⟩:=hrel;have i1:(0:Int)≤(n:Int):=Qn _
  by_cases hlt:n<ids.length
  ·have i2:(n:Int)<(ids.length:Int):=by omega
   obtain⟨kk,hkk⟩:∃kk,Z7 (ofA ma q) mu (n:Int) (Z1 ids.length q ma (n:Int)) (Zp ids.length q ma mu (n:Int)) need=kk:=⟨_,rfl⟩;obtain⟨wk,hwk⟩:∃wk,ZB (ofA ma q) mu (n:Int) (Z1 ids.length q ma (n:Int)) (Zp ids.length q ma mu (n:Int)) kk.toNat (n:Int) need=wk:=⟨_,rfl⟩;have HKS:=Qh (show ks (n:Int)=kk by rw[HKS1.out _ i1 i2,hkk]);have HWF:=Qh (show wf (n:Int)=wk by rw[HWF1.out,HKS.out,hwk]);have hkb:0≤kk∧kk≤1000000:=by rw[←hkk];exact Zpy (by omega) HR.out ma mu need i1 i2
   have HWL:=Qh (fun(h:0<kk)=>(by rw[←hwk,←hkk];exact Zpo HR.out HSO.out ma mu need i1 i2 (by rw[hkk];exact h):(wk.length:Int)=kk));have HSX:=Qh (fun(W:World) (u:Upd No w5 W) (B C:Option Addr) (h:LoopI W B C ids.length (Z1 ids.length q ma n) (Zp ids.length q ma mu n))=>hkk▸HSh.out W u B C n hlt h)
   have HWX:=Qh (fun(W:World) (u:Upd No w5 W) (B C:Option Addr) (h:LoopI W B C ids.length (Z1 ids.length q ma n) (Zp ids.length q ma mu n))=>(by
    have h2:=HWk.out W u B C n kk.toNat hlt (by omega) h;rw[Int.toNat_of_nonneg hkb.1,hwk]at h2;exact h2:Calls Tryz.prog 118 #[.agg #[.pointer (some ⟨g,0,none⟩),.int .i64 ma,.int .i64 mu,.slice B ids.length ids.length,.slice C ids.length ids.length],.int .i64 n,.int .i64 kk,.bool need] W (ZlC W wk)))
   have HA6:=Qh (HAt.out wr hu (n:Int));have HKB:=Qh hkb;clear hkk hwk hkb
   go_wp2_with fail
   refine(HA6.out).mono ?_;rintro e w6 ⟨B,C,rfl,hli,hu6⟩;obtain⟨wl,hwl⟩:∃wl,w6.alloc (.cells #[.pointer (some ⟨g,0,none⟩),.int .i64 ma,.int .i64 mu,.slice B ids.length ids.length,.slice C ids.length ids.length] 185)=wl:=⟨_,rfl⟩;have ul:Upd No w6 wl:=by rw[←hwl];exact(Upd.refl No w6).alloc _
   have bL:Blk wl w6.heap.size 185 [.pointer (some ⟨g,0,none⟩),.int .i64 ma,.int .i64 mu,.slice B ids.length ids.length,.slice C ids.length ids.length]:=by rw[←hwl];exact Blk.new w6 _ _
   have l0:∀W,Upd No wl W→W.cell? ⟨w6.heap.size,0,none⟩=some (.pointer (some ⟨g,0,none⟩)):=fun W u=>by have:=(bL.upd u id).cell 0;simpa using this
   have l1:∀W,Upd No wl W→W.cell? ⟨w6.heap.size,1,none⟩=some (.int .i64 ma):=fun W u=>by have:=(bL.upd u id).cell 1;simpa using this
   have l2:∀W,Upd No wl W→W.cell? ⟨w6.heap.size,2,none⟩=some (.int .i64 mu):=fun W u=>by have:=(bL.upd u id).cell 2;simpa using this
   have l3:∀W,Upd No wl W→W.cell? ⟨w6.heap.size,3,none⟩=some (.slice B ids.length ids.length):=fun W u=>by have:=(bL.upd u id).cell 3;simpa using this
   have l4:∀W,Upd No wl W→W.cell? ⟨w6.heap.size,4,none⟩=some (.slice C ids.length ids.length):=fun W u=>by have:=(bL.upd u id).cell 4;simpa using this
   have hlr:Upd No wl wl:=Upd.refl _ _;have HLI:=Qh (hli.upd ul);have HUL0:=Qh ((hu.trans hu6).trans ul);have HS8:=Qh (HSX.out wl HUL0.out B C HLI.out);have HCW:=Qh (fun(W:World) (u:Upd No wl W)=>HWX.out W (HUL0.out.trans u) B C (HLI.out.upd u));have HOW:=Qh (Za hown ((hu6.trans ul)) (fun _ _=>id));clear hli hu6 ul bL HA6 HSX HWX hown
   go_wp2_with fail
   refine(HS8.out).mono ?_;rintro e w8 ⟨rfl,hu8⟩;have HUL:=Qh (HUL0.out.trans hu8);have HOW8:=Qh (Za HOW.out hu8 (fun _ _=>id));clear HS8 HOW hwl
   by_cases h0:0<kk
   ·have d0:decide (0<kk)=true:=decide_eq_true h0
    by_cases hA:A5=none
    ·subst hA;have HZ:=Qh (HIF.out.1 rfl);have HWK:=Qh (HCW.out w8 hu8)
     go_wp2_with fail
     refine(HWK.out).mono ?_;rintro e w9 ⟨A9,c9,rfl,ho9,hu9⟩;have hl9:(0:Int)<(wk.length:Int):=by have:=HWL.out h0;omega
     have hA9:¬A9=none:=fun e=>by
      subst e;rcases ho9.2 with ⟨_,h0⟩|⟨g9,_,_,h0,_⟩
      ·omega
      ·cases h0
     have HO9:=Qh (ZS ho9 (show w5.heap.size≤w8.heap.size from HUL.out.size));have HU9:=Qh (HUL.out.trans hu9)
     have HB9:=Qh (show ZF ks wf (n+1)=wk by
      show(if (decide (0<ks (n:Int))&&(ZF ks wf n==[]||decide (ks (n:Int)<((ZF ks wf n).length:Int))))=true then wf (n:Int) else ZF ks wf n)=_
      rw[HWS.out,HKS.out,HWF.out];exact if_pos (by rw[decide_eq_true h0,HZ.out];rfl))
     have HI9:=Qh (show A9=none↔wk=[] from⟨fun e=>absurd e hA9,fun e=>by rw[e]at hl9;simp at hl9⟩);clear ho9 hu9 hl9 hA9;go_wp2
     go_roundg (gk-1)
     case measure=>omega
     case rel=>exact⟨n+1,A9,c9,wk,by omega,by go_num,rfl,HB9,HI9,Qh (by have:=HWL.out h0;have:=HKB.out.2;omega),HO9.out,HU9.out⟩
    ·have hAs:A5.isNone=false:=by cases A5 with|none=>exact absurd rfl hA|some _=>rfl
     by_cases hk:kk<(ws.length:Int)
     ·have d1:decide (kk<(ws.length:Int))=true:=decide_eq_true hk;have HWK:=Qh (HCW.out w8 hu8)
      go_wp2_with fail
      refine(HWK.out).mono ?_;rintro e w9 ⟨A9,c9,rfl,ho9,hu9⟩;have hl9:(0:Int)<(wk.length:Int):=by have:=HWL.out h0;omega
      have hA9:¬A9=none:=fun e=>by
       subst e;rcases ho9.2 with ⟨_,h0⟩|⟨g9,_,_,h0,_⟩
       ·omega
       ·cases h0
      have HO9:=Qh (ZS ho9 (show w5.heap.size≤w8.heap.size from HUL.out.size));have HU9:=Qh (HUL.out.trans hu9)
      have HB9:=Qh (show ZF ks wf (n+1)=wk by
       show(if (decide (0<ks (n:Int))&&(ZF ks wf n==[]||decide (ks (n:Int)<((ZF ks wf n).length:Int))))=true then wf (n:Int) else ZF ks wf n)=_
       rw[HWS.out,HKS.out,HWF.out];exact if_pos (by rw[decide_eq_true h0,decide_eq_true hk];simp))
      have HI9:=Qh (show A9=none↔wk=[] from⟨fun e=>absurd e hA9,fun e=>by rw[e]at hl9;simp at hl9⟩);clear ho9 hu9 hl9 hA9;go_wp2
      go_roundg (gk-1)
      case measure=>omega
      case rel=>exact⟨n+1,A9,c9,wk,by omega,by go_num,rfl,HB9,HI9,Qh (by have:=HWL.out h0;have:=HKB.out.2;omega),HO9.out,HU9.out⟩
     ·have d1:decide (kk<(ws.length:Int))=false:=decide_eq_false hk
      have HB9:=Qh (show ZF ks wf (n+1)=ws by
       show(if (decide (0<ks (n:Int))&&(ZF ks wf n==[]||decide (ks (n:Int)<((ZF ks wf n).length:Int))))=true then wf (n:Int) else ZF ks wf n)=_
       rw[HWS.out,HKS.out,d0,d1];have hw0:¬ws=[]:=fun e=>hA (HIF.out.2 e)
       rw[if_neg (by simpa using hw0)])
      go_wp2
      go_roundg (gk-1)
      case measure=>omega
      case rel=>exact⟨n+1,A5,c5,ws,by omega,by go_num,rfl,HB9,HIF,HWN,HOW8.out,HUL.out⟩
   ·have d0:decide (0<kk)=false:=decide_eq_false h0
    have HB9:=Qh (show ZF ks wf (n+1)=ws by
     show(if (decide (0<ks (n:Int))&&(ZF ks wf n==[]||decide (ks (n:Int)<((ZF ks wf n).length:Int))))=true then wf (n:Int) else ZF ks wf n)=_
     rw[HWS.out,HKS.out,d0];exact if_neg (by simp))
    go_wp2
    go_roundg (gk-1)
    case measure=>omega
    case rel=>exact⟨n+1,A5,c5,ws,by omega,by go_num,rfl,HB9,HIF,HWN,HOW8.out,HUL.out⟩
  ·obtain rfl:n=ids.length:=by omega
   have hdoc:doc=ws.map (ZcQ ids keys):=by rw[HWY.out.1,HWS.out]
   have hgood:∀a∈ws,Zi ids.length a=true∧a.label<(keys.length:Int):=by have:=HWY.out.2;rw[HWS.out]at this;exact this
   have HDoc:=Qh hdoc;have HGd:=Qh hgood;have hszw:w.heap.size≤w5.heap.size:=(U0.out.trans HU5.out).size;clear hdoc hgood HWS HAt HSh HWk HWY HWAY HKS1 HWF1
   by_cases hA:A5=none
   ·subst hA;have hw0:=HIF.out.1 rfl;have HD0:=Qh (show doc=[] by rw[HDoc.out,hw0];rfl);go_wp2
    go_ret2
    rw[HD0.out];exact⟨none,0,rfl,World.ownsRow_nil _ _ _ _,(U0.out.trans HU5.out).trans hu⟩
   ·have hAs:A5.isNone=false:=by cases A5 with|none=>exact absurd rfl hA|some _=>rfl
    have hw0:¬ws=[]:=fun e=>hA (HIF.out.2 e)
    obtain⟨wo,hwo⟩:∃wo,wo=wr:=⟨_,rfl⟩;subst hwo;have HY:=Qh (Zgj hown);have HDL:=Qh (show doc.length=ws.length by rw[HDoc.out,List.length_map]);have HW0:=Qh hw0;have HUO:=Qh hu;clear hown hgk hA hw0;go_wp2
    go_loopg [15,76] ws.length (fun gk out i wr=>∃(k:Nat) (A6:Option Addr) (c6:Nat) (xs:List Edge),k+gk=ws.length∧i= .int .i64 k∧out= .slice A6 xs.length c6∧Hid (xs++(ws.drop k).map (ZcQ ids keys)=doc)∧Hid (xs.length=k)∧
     wr.ownsRow wo.heap.size 26 4 (.slice A6 xs.length c6) xs.length (Zm xs)∧Upd No wo wr)
    case atStart=>exact⟨0,none,0,[],by omega,rfl,rfl,Qh (by rw[HDoc.out];rfl),Qh rfl,World.ownsRow_nil _ _ _ _,Upd.refl _ _⟩
    case round=>
     obtain⟨k,A6,c6,xs,hgk,rfl,rfl,hxs,HXL,hown,hu2⟩:=hrel
     by_cases hlt:k<ws.length
     ·obtain⟨ax,rfl,q0,q1,q2,q3⟩:=(HY.out.upd hu2 (fun _ _=>id)).at_ hlt;obtain⟨x,hxx⟩:∃x,ws[k]=x:=⟨_,rfl⟩;have hdr:=List.drop_eq_getElem_cons hlt;have hgx:=HGd.out _ (List.getElem_mem hlt);rw[hxx]at q0 q1 q2 q3 hdr hgx;have HX:=Qh (show(xs++[ZcQ ids keys x])++(ws.drop (k+1)).map (ZcQ ids keys)=doc by rw[←hxs.out,hdr];simp);have i1:(0:Int)≤(k:Int):=Qn _;have i2:(k:Int)<(ws.length:Int):=by omega
      obtain⟨wx,hwx⟩:∃wx,wr.alloc (.cells #[.int .i64 x.f,.int .i64 x.t,.int .i64 x.kind,.int .i64 x.label] 34)=wx:=⟨_,rfl⟩;have ux:Upd No wr wx:=by rw[←hwx];exact(Upd.refl No wr).alloc _
      have bo:Blk wx wr.heap.size 34 [.int .i64 x.f,.int .i64 x.t,.int .i64 x.kind,.int .i64 x.label]:=by rw[←hwx];exact Blk.new wr _ _
      have huw:Upd No w5 wx:=HUO.out.trans (hu2.trans ux);have g0:=bo.cell 0;have g1:=bo.cell 1;have g2:=bo.cell 2;have g3:=bo.cell 3;simp only[Qz,Qs]at g0 g1 g2 g3;have HC:=Qh (HEd.out wx huw x hgx);have HO:=Qh (Za hown ux (fun _ _=>id));have HUX:=Qh (hu2.trans ux);have hws:ws.length≤1000000:=HWN.out
      generalize ZcQ ids keys x=y at HC HX
      unfold HArc.cells Edge.cells at HC;clear hdr hxx hgx ux bo hown hxs
      go_wp2_with fail
      refine(HC.out).mono ?_;rintro e w7 ⟨rfl,hu7⟩;have hown7:=Za HO.out hu7 (fun _ _=>id);have HU7:=Qh (HUX.out.trans hu7);have hz7:=(HUX.out.trans hu7).size;have HGE:=Qh (fun i e=>(hown7.lt i e).1);have HL:=Qh (Zbe xs);clear hu7 HC HO
      go_wp2_with (at_builtin;refine ZaQ rfl rfl ZaW (v:= .slice A6 xs.length c6) (n:=xs.length) (xs:=Zm xs) (cells:=[.int .i64 y.f,.int .i64 y.t,.int .i64 y.k,.int .i64 y.key]) (by rfl) rfl hown7 rfl rfl (by have:=HXL.out;omega) (by have:=HXL.out;omega) (by omega) ?_;intro g8 c8 w8 hown8 hu8 hg8 hlt8)
      go_roundg (gk-1)
      case measure=>omega
      case rel=>exact⟨k+1,some ⟨g8,0,none⟩,c8,xs++[y],by omega,by go_num,by simp,HX,Qh (by rw[List.length_append,HXL.out];rfl),by simpa[Zm,Edge.cells]using hown8,HU7.out.then_ hu8 fun i e=> .inr (HGE.out i e)⟩
     ·obtain rfl:k=ws.length:=by omega
      have hxd:xs=doc:=by have:=hxs.out;rw[List.drop_length]at this;simpa using this
      have hl0:¬doc.length=0:=by rw[HDL.out];exact fun e=>HW0.out (List.eq_nil_of_length_eq_zero e)
      have HXD:=Qh hxd;have HL0:=Qh hl0;clear hxd hl0 hxs;go_wp2
      go_ret2
      refine⟨A6,c6,?_,?_,(U0.out.trans HU5.out).trans (HUO.out.trans hu2)⟩
      ·rw[if_neg HL0.out,←HXD.out];rfl
      ·rw[←HXD.out];exact ZS hown (Nat.le_trans hszw HUO.out.size)
end
/- Closed walks:the answers that the document gives. -/
section
open Go.RowKit
def ea:Edge:=⟨1,2,1,5⟩
def eb:Edge:=⟨2,1,3,5⟩
def ec:Edge:=⟨2,1,3,4⟩
section
variable {F:Nat→Prop} {w:World} {A:Option Addr} {c:Nat} {l d:List Edge} {mask must:Int}
end
end
/- Phenomena,plain:what phen.Round computes is what the document says. -/
section
def Zcx (l:List Edge) (mask:Int):List Int:=(ZeE [] [] (Ze l mask)).1
def Zq6 (l:List Edge) (mask:Int):List HArc:=(ZeE [] [] (Ze l mask)).2
def Zeb (l:List Edge) (mask:Int):List HArc:=ofA 14 (Zdb (Zcx l mask).length [] (Zq6 l mask))
theorem ZhV (l:List Edge) (mask:Int):NumOk (Zcx l mask) (Zq6 l mask) (Ze l mask):=by
 have:=Zmi (Ze l mask) [] [] [] ⟨List.nodup_nil,rfl,fun e h=>absurd h List.not_mem_nil,Nat.le_refl _⟩;exact this
theorem ZnG {ids:List Int} {e:Edge} (hf:e.f∈ids) (ht:e.t∈ids) (h1:1≤e.k) (h2:e.k≤3):Zi ids.length (Zdv ids e)=true:=by
 have a1:=ZcX hf;have a2:=ZcX ht;unfold Zi ZK Zdv;simp only[Bool.and_eq_true,decide_eq_true_eq];refine⟨⟨by omega,by omega⟩,⟨by omega,by omega⟩,h1,h2,by omega,by omega⟩
theorem ZsV {k:Int} (h1:1≤k) (h2:k≤3):Zf 14 k=true:=by
 rcases(show k=1∨k=2∨k=3 by omega)with rfl|rfl|rfl<;>kernel_rfl
theorem ZjI {l:List Edge} {mask:Int} {e:Edge} (h:e∈Ze l mask):1≤e.k∧e.k≤3:=by
 unfold Ze at h;have:=ZaO (List.mem_filter.1 h).2;exact⟨this.1,this.2.1⟩
theorem Zlp (l:List Edge) (mask:Int):Zpl (Zcx l mask) (Ze l mask) (Zeb l mask):=by
 intro a;have hn:=ZhV l mask;unfold Zeb;rw[mem_ofA,Zjx,hn.arcs]
 constructor
 ·rintro⟨h|⟨h,_⟩,_⟩
  ·cases h
  ·obtain⟨e,he,h2⟩:=List.mem_map.1 h;exact⟨e,he,h2⟩
 ·rintro⟨e,he,rfl⟩;have hk:=ZjI he;have hh:=hn.has e he;exact⟨Or.inr ⟨List.mem_map.2 ⟨e,he,rfl⟩,ZnG hh.1 hh.2 hk.1 hk.2⟩,ZsV hk.1 hk.2⟩
theorem Zqq (l:List Edge) (mask:Int):Zb8 (Zcx l mask).length (Zeb l mask):=by
 intro a ha;obtain⟨e,he,rfl⟩:=(Zlp l mask a).1 ha;have hh:=(ZhV l mask).has e he;have a1:=ZcX hh.1;have a2:=ZcX hh.2;unfold Zdv;refine⟨?_,?_,?_,?_⟩<;>simp only<;>omega
end
/- Closed walks,the document's:the ids from which so many steps lead to one. -/
section
open Go.RowKit
def RowOk (F:Nat→Prop) (w:World) (v:Value) (l:List Int):Prop:=∃B c,v= .slice B l.length c∧Ints F w B l
theorem RowOk.upd {F S:Nat→Prop} {w w':World} {v:Value} {l:List Int} (h:RowOk F w v l) (u:Upd S w w') (hn:∀i,F i→¬S i):RowOk F w' v l:=by
 obtain⟨B,c,e,h⟩:=h;exact⟨B,c,e,h.upd u hn⟩
theorem RowOk.weak {F G:Nat→Prop} {w:World} {v:Value} {l:List Int} (h:RowOk F w v l) (hg:∀i,i<w.heap.size→F i→G i):RowOk G w v l:=by
 obtain⟨B,c,e,h⟩:=h;exact⟨B,c,e,h.weak hg⟩
structure RowsOk (F:Nat→Prop) (w:World) (vs:List Value) (f:Nat→List Int):Prop where
 ok:∀(j:Nat) (h:j<vs.length),RowOk F w vs[j] (f j)
theorem RowsOk.upd {F S:Nat→Prop} {w w':World} {vs:List Value} {f:Nat→List Int} (h:RowsOk F w vs f) (u:Upd S w w') (hn:∀i,F i→¬S i):RowsOk F w' vs f:=⟨fun j hj=>(h.ok j hj).upd u hn⟩
theorem RowsOk.weak {F G:Nat→Prop} {w:World} {vs:List Value} {f:Nat→List Int} (h:RowsOk F w vs f) (hg:∀i,i<w.heap.size→F i→G i):RowsOk G w vs f:=⟨fun j hj=>(h.ok j hj).weak hg⟩
structure RowsAt (w:World) (A:Option Addr) (n:Nat) (f:Nat→List Int):Prop where
 at_:∀j,j<n→∃ad B c,A=some ad∧w.cell? (ad.add j)=some (.slice B (f j).length c)∧Ints (fun _=>True) w B (f j)
theorem RowsAt.upd {w w':World} {A:Option Addr} {n:Nat} {f:Nat→List Int} (h:RowsAt w A n f) (u:Upd No w w'):RowsAt w' A n f:=⟨fun j hj=>by
 obtain⟨ad,B,c,e,h1,h2⟩:=h.at_ j hj;exact⟨ad,B,c,e,u.keepNo h1,h2.upd u (fun _ _=>id)⟩⟩
end
/- Two slices that grow side by side,apart. -/
section
structure TwoW (w:World) (b:Nat) (e1:TypeId) (s1:Nat) (v1:Value) (n1:Nat) (xs1:List Value) (e2:TypeId) (s2:Nat) (v2:Value) (n2:Nat) (xs2:List Value):Prop where
 l:w.ownsRow b e1 s1 v1 n1 xs1
 r:w.ownsRow b e2 s2 v2 n2 xs2
 ap:∀k,Own v1 k→¬Own v2 k
section
variable {w w':World} {b:Nat} {e1 e2:TypeId} {s1 s2:Nat} {v1 v2:Value} {n1 n2:Nat} {xs1 xs2:List Value}
theorem TwoW.nil (w:World) (b:Nat) (e1 e2:TypeId) (s1 s2:Nat):TwoW w b e1 s1 (.slice none 0 0) 0 [] e2 s2 (.slice none 0 0) 0 []:=⟨World.ownsRow_nil _ _ _ _,World.ownsRow_nil _ _ _ _,fun k h=>by cases h⟩
theorem TwoW.upd {S:Nat→Prop} (h:TwoW w b e1 s1 v1 n1 xs1 e2 s2 v2 n2 xs2) (u:Upd S w w') (hS:∀i,b≤i→¬S i):TwoW w' b e1 s1 v1 n1 xs1 e2 s2 v2 n2 xs2:=
 ⟨Za h.l u (fun i e=>hS i (h.l.lt i e).1),Za h.r u (fun i e=>hS i (h.r.lt i e).1),h.ap⟩
theorem TwoW.left {g n c:Nat} {xs:List Value} (h:TwoW w b e1 s1 v1 n1 xs1 e2 s2 v2 n2 xs2) (k:w'.ownsRow b e1 s1 (.slice (some ⟨g,0,none⟩) n c) n xs) (u:Upd (Own v1) w w') (hg:v1.ownBlock=some g∨w.heap.size≤g):
  TwoW w' b e1 s1 (.slice (some ⟨g,0,none⟩) n c) n xs e2 s2 v2 n2 xs2:=by
 refine⟨k,Za h.r u (fun i f2 f1=>h.ap i f1 f2),fun i f f2=> ?_⟩;have hgi:g=i:=by simpa[Own,Value.ownBlock]using f
 subst hgi;rcases hg with hg|hg
 ·exact h.ap _ hg f2
 ·have:=(h.r.lt _ f2).2;omega
theorem TwoW.right {g n c:Nat} {xs:List Value} (h:TwoW w b e1 s1 v1 n1 xs1 e2 s2 v2 n2 xs2) (k:w'.ownsRow b e2 s2 (.slice (some ⟨g,0,none⟩) n c) n xs) (u:Upd (Own v2) w w') (hg:v2.ownBlock=some g∨w.heap.size≤g):
  TwoW w' b e1 s1 v1 n1 xs1 e2 s2 (.slice (some ⟨g,0,none⟩) n c) n xs:=by
 refine⟨Za h.l u (fun i f1 f2=>h.ap i f1 f2),k,fun i f1 f=> ?_⟩;have hgi:g=i:=by simpa[Own,Value.ownBlock]using f
 subst hgi;rcases hg with hg|hg
 ·exact h.ap _ f1 hg
 ·have:=(h.l.lt _ f1).2;omega
end
end
end Go.Proofs.YtonblekdfinpkaaGreat
