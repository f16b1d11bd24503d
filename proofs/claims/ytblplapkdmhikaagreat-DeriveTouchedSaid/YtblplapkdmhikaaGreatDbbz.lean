/- Deltas: the keys that one is about (delta.Keys). -/
import Derived.Test.YtblplapkdmhikaaGreatDbax
import Derived.Test.YtblplapkdmhikaaGreatDbba
import Derived.Test.YtblplapkdmhikaaGreatDbbx
import Derived.Test.YtblplapkdmhikaaGreatDbby
namespace Go.Proofs.YtblplapkdmhikaaGreat
set_option linter.unusedVariables false
set_option linter.unusedSimpArgs false
section
open Go.RowKit
theorem ZoI (W:World) (A B:Option Addr) (n c m d:Nat):(Instr.index 146 (.agg #[.slice A n c,.slice B m d]) (.int .i64 0)).run Tryz.prog W= .ok (.slice A n c) W:=by
 have hi:(Tryz.prog.info? 26).map (fun i=>(i.zero,i.size))=some (some (.slice none 0 0),1):=by kernel_rfl
 obtain⟨i,h1,h2⟩:=Option.map_eq_some_iff.1 hi;simp only[Prod.mk.injEq]at h2;simp[Instr.index,run_underlying Tryz.underlying146,asIntOf,go_sem,sizeOf,typeInfo,h1,h2]
theorem ZoH (W:World) (A B:Option Addr) (n c m d:Nat):(Instr.index 146 (.agg #[.slice A n c,.slice B m d]) (.int .i64 1)).run Tryz.prog W= .ok (.slice B m d) W:=by
 have hi:(Tryz.prog.info? 26).map (fun i=>(i.zero,i.size))=some (some (.slice none 0 0),1):=by kernel_rfl
 obtain⟨i,h1,h2⟩:=Option.map_eq_some_iff.1 hi;simp only[Prod.mk.injEq]at h2;simp[Instr.index,run_underlying Tryz.underlying146,asIntOf,go_sem,sizeOf,typeInfo,h1,h2]
def twL (l:List HTx):List Int:=l.flatMap fun t=>Zai t.ops
theorem Zcf (a b:List HTx):twL (a++b)=twL a++twL b:=List.flatMap_append ..
theorem Zls {l:List HTx} {k:Nat} {x:HTx} (hk:k<l.length) (hx:l[k]=x):twL (l.take (k+1))=twL (l.take k)++Zai x.ops:=by
 subst hx;rw[List.take_succ_eq_append_getElem hk,Zcf];unfold twL;simp
theorem Zfl (l:List HOp):(Zai l).length≤l.length:=by
 have h1:=ZeV (ZD l fun _=>true);have h2:=ZgX l fun _=>true
 unfold Zai;omega
theorem Zeo {l:List HTx} {n:Nat} (h:∀t∈l,t.ops.length≤n):(twL l).length≤l.length*n:=by
 induction l with
 |nil=>simp[twL]
 |cons x l ih=>
  have h1:=ih fun t ht=>h t (List.mem_cons_of_mem _ ht)
  have h2:=h x (List.mem_cons_self ..);have h3:=Zfl x.ops;have e:twL (x::l)=Zai x.ops++twL l:=by unfold twL;simp
  rw[e,List.length_append,List.length_cons,Nat.succ_mul];omega
theorem ZiD {a b:List HTx} (h:a.map txP=b.map txP):twL a=twL b:=by
 have e:∀l:List HTx,twL l=(l.map txP).flatMap fun p=>Zai p.2.2:=fun l=>by unfold twL;rw[List.flatMap_map];rfl
 rw[e a,e b,h]
theorem ZmZ {a b:List HTx} (h:a.map txP=b.map txP) {P:List HOp→Prop} (hb:∀t∈b,P t.ops):∀t∈a,P t.ops:=fun t ht=>by
 have h1:txP t∈b.map txP:=h▸List.mem_map.2 ⟨t,ht,rfl⟩;obtain⟨u,hu,he⟩:=List.mem_map.1 h1;have:=hb u hu
 rwa [show u.ops=t.ops from congrArg (fun p:Int×Bool×List HOp=>p.2.2) he]at this
theorem ZiS {a b:List HOrd} (h:a.map orP=b.map orP):a.map (·.key)=b.map (·.key):=by
 have e:∀l:List HOrd,l.map (·.key)=(l.map orP).map (·.1):=fun l=>by rw[List.map_map];rfl
 rw[e a,e b,h]
set_option maxRecDepth 100000 in
set_option maxHeartbeats 4000000 in
theorem Zk6 {F:Nat→Prop} {w:World} {v:Value} {was now:List HTx} {old new:List HOrd} (h:DelX F w v was now old new) (n1:was.length+now.length≤1000) (n2:∀t∈was++now,t.ops.length≤1000) (n3:old.length+new.length≤1000):
  Calls Tryz.prog 24 #[v] w (Zgx w (Za3 (twL (was++now)++(old++new).map (·.key)))):=by
 obtain⟨R,hR⟩:∃R,Za3 (twL (was++now)++(old++new).map (·.key))=R:=⟨_,rfl⟩;rw[hR];have HRR:=Qh hR;clear hR;obtain⟨A1,c1,l1,A2,c2,l2,B1,d1,o1,B2,d2,o2,rfl,e1,e2,e3,e4,h1,h2,h3,h4⟩:=h;have HR:=Qh (show twL (l1++l2)++(o1++o2).map (·.key)=twL (was++now)++(old++new).map (·.key) by rw[Zcf,Zcf,ZiD e1,ZiD e2,List.map_append,List.map_append,ZiS e3,ZiS e4]);have HN:=Qh (show∀t∈l1++l2,t.ops.length≤1000 from ZmZ (a:=l1++l2) (b:=was++now) (P:=fun o=>o.length≤1000) (by rw[List.map_append,List.map_append,e1,e2]) n2)
 have m1:l1.length+l2.length≤1000:=by
  have k1:=congrArg List.length e1;have k2:=congrArg List.length e2;simp only[List.length_map]at k1 k2;omega
 have m3:o1.length+o2.length≤1000:=by
  have k1:=congrArg List.length e3;have k2:=congrArg List.length e4;simp only[List.length_map]at k1 k2;omega
 clear n1 n2 n3 e1 e2 e3 e4;obtain⟨z,hz⟩:∃z,w.heap.size=z:=⟨_,rfl⟩;obtain⟨wb,hwb⟩:∃wb,w.alloc (.cells #[.slice A1 l1.length c1,.slice A2 l2.length c2,.slice B1 o1.length d1,.slice B2 o2.length d2] 61)=wb:=⟨_,rfl⟩;have ub:Upd No w wb:=by rw[←hwb];exact(Upd.refl No w).alloc _
 have bX:Blk wb z 61 [.slice A1 l1.length c1,.slice A2 l2.length c2,.slice B1 o1.length d1,.slice B2 o2.length d2]:=by rw[←hwb,←hz];exact Blk.new w _ _
 have d0:∀W,Upd No wb W→W.cell? ⟨z,0,none⟩=some (.slice A1 l1.length c1):=fun W u=>(bX.upd u id).cell 0
 have d1x:∀W,Upd No wb W→W.cell? ⟨z,1,none⟩=some (.slice A2 l2.length c2):=fun W u=>(bX.upd u id).cell 1
 have d2x:∀W,Upd No wb W→W.cell? ⟨z,2,none⟩=some (.slice B1 o1.length d1):=fun W u=>(bX.upd u id).cell 2
 have d3x:∀W,Upd No wb W→W.cell? ⟨z,3,none⟩=some (.slice B2 o2.length d2):=fun W u=>(bX.upd u id).cell 3
 have hxz:Upd No wb wb:=Upd.refl _ _;have UB:=Qh ub;have zb:=ub.size;have H1:=Qh (h1.upd ub (fun _ _=>id));have H2:=Qh (h2.upd ub (fun _ _=>id));have H3:=Qh (h3.upd ub (fun _ _=>id));have H4:=Qh (h4.upd ub (fun _ _=>id));clear bX ub h1 h2 h3 h4
 go_enter Tryz.func24,Tryz.ntmps24
 go_wp2
 go_loopg [3,15] 2 (fun gk s i wr=>∃(j:Nat) (A5:Option Addr) (c5:Nat) (xs:List Int),j+gk=2∧i= .int .i64 (j:Int)∧s= .slice A5 xs.length c5∧Hid (xs=twL (if j=0 then [] else if j=1 then l1 else l1++l2))∧Hid (wr.ownsRow wb.heap.size 3 1 (.slice A5 xs.length c5) xs.length (xs.map (Value.int .i64)))∧Upd No wb wr)
 case atStart=>exact⟨0,none,0,[],rfl,rfl,rfl,Qh rfl,Qh (World.ownsRow_nil _ _ _ _),Upd.refl _ _⟩
 case round=>
  obtain⟨j,A5,c5,xs,hgj,rfl,rfl,hs,hown,hu⟩:=hrel
  by_cases hlt:j<2
  ·obtain⟨Aj,cj,lj,hidx,hj,hpre,hsub,hll⟩:∃(Aj:Option Addr) (cj:Nat) (lj:List HTx),(∀W,(Instr.index 146 (.agg #[.slice A1 l1.length c1,.slice A2 l2.length c2]) (.int .i64 (j:Int))).run Tryz.prog W= .ok (.slice Aj lj.length cj) W)∧Hid (TxsY F wb Aj lj)∧
     Hid (twL (if j+1=0 then [] else if j+1=1 then l1 else l1++l2)=twL (if j=0 then [] else if j=1 then l1 else l1++l2)++twL lj)∧Hid (∀t∈lj,t.ops.length≤1000)∧lj.length≤1000:=by
    match j,hlt with
    |0,_=>exact⟨A1,c1,l1,fun W=>ZoI W _ _ _ _ _ _,H1,Qh rfl,Qh fun t ht=>HN.out t (List.mem_append_left _ ht),by omega⟩
    |1,_=>exact⟨A2,c2,l2,fun W=>ZoH W _ _ _ _ _ _,H2,Qh (by simp only[if_neg (show¬(1+1:Nat)=0 by decide),if_neg (show¬(1+1:Nat)=1 by decide),if_neg (show¬(1:Nat)=0 by decide),if_true];exact Zcf _ _),Qh fun t ht=>HN.out t (List.mem_append_right _ ht),by omega⟩
   have hxl:xs.length≤1000000:=by
    rw[hs.out]
    have h5:(if j=0 then ([]:List HTx) else if j=1 then l1 else l1++l2).length≤1000:=by
     split
     ·simp
     ·split
      ·omega
      ·rw[List.length_append];omega
    have h6:(twL (if j=0 then ([]:List HTx) else if j=1 then l1 else l1++l2)).length≤(if j=0 then ([]:List HTx) else if j=1 then l1 else l1++l2).length*1000:=Zeo fun t ht=>by
     split at ht
     ·cases ht
     ·split at ht
      ·exact HN.out t (List.mem_append_left _ ht)
      ·exact HN.out t ht
    omega
   have b2:(j:Int)<2:=by omega
   have hj1:IntKind.i64.wrap ((j:Int)+1)=(j:Int)+1:=IntWalk.i64_in _ (by omega);have XL:=Qh hxl;clear hxl;go_wp2;obtain⟨wo,hwo⟩:∃wo,wo=wr:=⟨_,rfl⟩;subst hwo
   generalize gk=m0 at*
   go_loopg [3,20] lj.length (fun gk s i wr=>∃(k:Nat) (A6:Option Addr) (c6:Nat) (ys:List Int),k+gk=lj.length∧i= .int .i64 (k:Int)∧s= .slice A6 ys.length c6∧Hid (ys=xs++twL (lj.take k))∧Hid (wr.ownsRow wb.heap.size 3 1 (.slice A6 ys.length c6) ys.length (ys.map (Value.int .i64)))∧Upd No wb wr)
   case atStart=>exact⟨0,A5,c5,xs,by omega,rfl,rfl,Qh (by simp[twL]),hown,hu⟩
   case round=>
    obtain⟨k,A6,c6,ys,hgk,rfl,rfl,hy,hown,hu⟩:=hrel
    by_cases hlt2:k<lj.length
    ·obtain⟨ad,hAd,q0,q1,q2⟩:=Zfk (Recs.upd hj.out.1 hu (fun _ _=>id)) hlt2;have htx:=(hj.out.2 lj[k] (List.getElem_mem hlt2)).upd hu (fun _ _=>id);have hn6:=hsub.out lj[k] (List.getElem_mem hlt2);obtain⟨x,hx⟩:∃x,lj[k]=x:=⟨_,rfl⟩;simp only[hx]at q0 q1 q2 htx hn6;subst hAd;have HS:=Qh (show ys++Zai x.ops=xs++twL (lj.take (k+1)) by rw[Zls hlt2 hx,hy.out,List.append_assoc])
     have hyl:ys.length≤3000000:=by
      rw[hy.out,List.length_append];have h5:(twL (lj.take k)).length≤(lj.take k).length*1000:=Zeo fun t ht=>hsub.out t (List.mem_of_mem_take ht)
      have h6:=List.length_take_le k lj;have:=XL.out;omega
     have htl:=Zfl x.ops;have i1:(0:Int)≤(k:Int):=Qn _;have i2:(k:Int)<(lj.length:Int):=by omega
     have HTX:=Qh htx;clear hx htx;obtain⟨wx,hwx⟩:∃wx,wr.alloc (.cells #[.int .i64 x.id,.bool x.done,.slice x.A x.ops.length x.c] 81)=wx:=⟨_,rfl⟩;have ux:Upd No wr wx:=by rw[←hwx];exact(Upd.refl No wr).alloc _
     have bx:Blk wx wr.heap.size 81 [.int .i64 x.id,.bool x.done,.slice x.A x.ops.length x.c]:=by rw[←hwx];exact Blk.new wr _ _
     have f0:=bx.cell 0;have f1:=bx.cell 1;have f2:=bx.cell 2;simp only[Qz,Qs]at f0 f1 f2;have CT:=Qh (ZlZ _ wx x.id x.done x.A x.c x.ops (HOps.upd HTX.out.1 ux (fun _ _=>id)) HTX.out.2.2.1);have HOX:=Qh (Zb hown.out ux (fun _ _=>id));have HUX:=Qh (hu.trans ux);clear ux bx hown
     go_wp2_with fail
     refine(CT.out).mono ?_;rintro e w4 ⟨A4,c4,rfl,ho4,hu4⟩;have HO4:=Qh (Zb HOX.out hu4 (fun _ _=>id));have hz4:=(HUX.out.trans hu4).size;have HU4:=Qh (HUX.out.trans hu4);have HS4:=Qh (Ints.src (Ints.of_owned ho4));have hzz:wb.heap.size≤w4.heap.size:=hz4;clear ho4 hu4
     go_wp2_with (at_builtin;refine Zem rfl rfl Zcn (v:= .slice A6 ys.length c6) (n:=ys.length) (m:=(Zai x.ops).length) (xs:=ys.map (Value.int .i64)) (by rfl) (by rfl) HO4.out HS4.out (Ints.one_ _) (by omega) (by omega) hzz ?_;intro v7 w7 hown7 hu7 hg7;obtain⟨A7,c7,rfl⟩:=Zar hown7)
     go_roundg (gk-1)
     case measure=>omega
     case rel=>
      have hl1:(ys++Zai x.ops).length=ys.length+(Zai x.ops).length:=List.length_append;exact⟨k+1,A7,c7,ys++Zai x.ops,by omega,by go_num,by rw[hl1],Qh HS.out,Qh (by rw[hl1,List.map_append];exact hown7),HU4.out.then_ hu7 (fun i e=>Or.inr (HO4.out.lt i e).1)⟩
    ·obtain rfl:k=lj.length:=by omega
     have HS:=Qh (show ys=twL (if j+1=0 then [] else if j+1=1 then l1 else l1++l2) by rw[hpre.out,hy.out,List.take_length,hs.out]);go_wp2
     go_roundg (m0-1)
     case measure=>omega
     case rel=>exact⟨j+1,A6,c6,ys,by omega,by go_num,rfl,HS,hown,hu⟩
  ·obtain rfl:j=2:=by omega
   have HX:=Qh (show xs=twL (l1++l2) from hs.out)
   have hxl:xs.length≤1000000:=by
    rw[HX.out];have h6:(twL (l1++l2)).length≤(l1++l2).length*1000:=Zeo HN.out;rw[List.length_append]at h6;omega
   obtain⟨w8,hw8⟩:∃w8,wr.alloc (.cells #[.slice B1 o1.length d1,.slice B2 o2.length d2] 27)=w8:=⟨_,rfl⟩;have u8:Upd No wr w8:=by rw[←hw8];exact(Upd.refl No wr).alloc _
   have b8:Blk w8 wr.heap.size 27 [.slice B1 o1.length d1,.slice B2 o2.length d2]:=by rw[←hw8];exact Blk.new wr _ _
   have CC:=Qh (Zm0 F w8 wr.heap.size 2 B1 B2 d1 d2 o1 o2 b8 (Recs.upd H3.out.1 (hu.trans u8) (fun _ _=>id)) (Recs.upd H4.out.1 (hu.trans u8) (fun _ _=>id)) (by omega));obtain⟨ol,hol⟩:∃ol,o1++o2=ol:=⟨_,rfl⟩;have hoL:ol.length≤1000:=by rw[←hol,List.length_append];omega
   rw[hol]at CC;have HOL:=Qh hol;have HU8:=Qh (hu.trans u8);have HO8:=Qh (Zb hown.out u8 (fun _ _=>id));clear u8 b8 hown hs
   go_wp2_with fail
   refine(CC.out).mono ?_;rintro e w9 ⟨A9,c9,rfl,ho9,hu9⟩;have HO9:=Qh (Zb HO8.out hu9 (fun _ _=>id));have HR9:=Qh (Recs.weak (G:=fun i=>w8.heap.size≤i∧i<w9.heap.size) (Recs.of_own Zc3 (by omega) ho9) (fun i hi e=>⟨(ho9.lt i e).1,hi⟩));have HL8:=Qh HO8.out.lt;have hz89:=hu9.size;have HU9:=Qh (HU8.out.trans hu9);clear ho9 hu9;go_wp2
   go_loopg [3,37] ol.length (fun gk s i wr=>∃(k:Nat) (A6:Option Addr) (c6:Nat) (ys:List Int),k+gk=ol.length∧i= .int .i64 (k:Int)∧s= .slice A6 ys.length c6∧Hid (ys=xs++(ol.take k).map (·.key))∧Hid (wr.ownsRow wb.heap.size 3 1 (.slice A6 ys.length c6) ys.length (ys.map (Value.int .i64)))∧Hid (Recs (fun i=>w8.heap.size≤i∧i<w9.heap.size) wr A9 2 (ol.map HOrd.cells))∧Hid ((∀i,Own (.slice A6 ys.length c6) i→i<w8.heap.size∨w9.heap.size≤i)∧w9.heap.size≤wr.heap.size)∧Upd No wb wr)
   case atStart=>exact⟨0,A5,c5,xs,by omega,rfl,rfl,Qh (by simp),HO9,HR9,Qh ⟨fun i e=> .inl (HL8.out i e).2,Nat.le_refl _⟩,HU9.out⟩
   case round=>
    obtain⟨k,A6,c6,ys,hgk,rfl,rfl,hy,hown,hrec,hap,hu⟩:=hrel
    by_cases hlt2:k<ol.length
    ·obtain⟨ad,hAd,q0,q1⟩:=Zeu hrec.out hlt2;obtain⟨x,hx⟩:∃x,ol[k]=x:=⟨_,rfl⟩;simp only[hx]at q0 q1;have HS:=Qh (show ys++[x.key]=xs++(ol.take (k+1)).map (·.key) by rw[List.take_succ_eq_append_getElem hlt2,List.map_append,hx,hy.out,List.append_assoc];rfl)
     have hyl:ys.length≤3000000:=by
      rw[hy.out,List.length_append,List.length_map];have h6:=List.length_take_le k ol;omega
     have i1:(0:Int)≤(k:Int):=Qn _;have i2:(k:Int)<(ol.length:Int):=by omega
     have HREC:=Qh hrec.out;subst hAd;clear hx hrec;obtain⟨wx,hwx⟩:∃wx,wr.alloc (.cells #[.int .i64 x.key,.slice x.A x.txs.length x.c] 100)=wx:=⟨_,rfl⟩;have ux:Upd No wr wx:=by rw[←hwx];exact(Upd.refl No wr).alloc _
     have bx:Blk wx wr.heap.size 100 [.int .i64 x.key,.slice x.A x.txs.length x.c]:=by rw[←hwx];exact Blk.new wr _ _
     have f0:=bx.cell 0;simp only[Qz,Qs]at f0;have HO4:=Qh (Zb hown.out ux (fun _ _=>id));have HU4:=Qh (hu.trans ux);have HUX:=Qh ux;have hz4:=(hu.trans ux).size;have hz5:=HU9.out.size;have HAP:=Qh hap.out.1;have hz99:=Qh (Nat.le_trans hap.out.2 ux.size);clear ux bx hown hap
     go_wp2_with (at_builtin;refine Zag rfl rfl Zcn (v:= .slice A6 ys.length c6) (cells:=[.int .i64 x.key]) (by rfl) rfl HO4.out rfl rfl (by omega) (by omega) (by omega) ?_;intro g7 c7 w7 hown7 hu7 hg7 hlt7)
     go_roundg (gk-1)
     case measure=>omega
     case rel=>
      have hl1:(ys++[x.key]).length=ys.length+1:=by simp
      refine⟨k+1,some ⟨g7,0,none⟩,c7,ys++[x.key],by omega,by go_num,by rw[hl1],Qh HS.out,Qh (by rw[hl1,List.map_append];exact hown7),Qh (Recs.upd (Recs.upd HREC.out HUX.out (fun _ _=>id)) hu7 (fun i h e=>by have:=HAP.out i e;omega)),Qh ⟨fun i e=> ?_,Nat.le_trans hz99.out hu7.size⟩,HU4.out.then_ hu7 (fun i e=>Or.inr (HO4.out.lt i e).1)⟩
      cases e
      rcases hg7 with h7|h7
      ·exact HAP.out g7 h7
      ·exact .inr (Nat.le_trans hz99.out h7)
    ·obtain rfl:k=ol.length:=by omega
     have Hx:=Qh (show ys=twL (was++now)++(old++new).map (·.key) by rw[hy.out,List.take_length,←HOL.out,HX.out,HR.out])
     have hyl:ys.length≤3000000:=by
      rw[hy.out,List.length_append,List.length_map,List.take_length];omega
     have hsl:=Qh (Zbz ys);have Hk:=Qh (show Lib.compact (ZM ys)=R by rw[Zct,Hx.out,HRR.out]);have HOW:=hown.out
     go_wp2_with fail
     refine(ZfQ _ _ A6 c6 ys HOW (by omega)).mono ?_;rintro e w1 ⟨rfl,ho1,hu1⟩;have ho1':w1.ownsRow wb.heap.size 3 1 (.slice A6 (ZM ys).length c6) (ZM ys).length ((ZM ys).map (Value.int .i64)):=by rw[hsl.out];exact ho1
     have hic:=Ze5 w1 wb.heap.size A6 c6 (ZM ys) ho1' (by rw[hsl.out];omega);rw[Hk.out,hsl.out]at hic;have Hic:=Qh hic;have hge:=Qh (show∀i,Own (.slice A6 ys.length c6) i→wb.heap.size≤i from fun i e=>(HOW.lt i e).1);clear hic ho1 ho1' HOW
     go_wp2_with fail
     refine(Hic.out).mono ?_;rintro e w2 ⟨rfl,ho2,hu2⟩;go_wp2
     go_ret
     exact⟨A6,c6,rfl,ZK ho2 UB.out.size,UB.out.trans ((hu.then_ hu1 fun i e=> .inr (hge.out i e)).then_ hu2 fun i e=> .inr (hge.out i e))⟩
end
/- How edges and bad reads change,plain:the differences of two lists in order. -/
section
def ZaE (l:List Hvy) (e:Edge):Int:=match l.find? (fun x=>x.e==e)with|some x=>x.n|none=>0
def ZZ (l:List Hvy):Prop:=l.Pairwise fun a b=>ltE a.e b.e=true
theorem sortH_map {l:List Hvy}:ZZ l↔(l.map (·.e)).Pairwise fun a b=>ltE a b=true:=by unfold ZZ;rw[List.pairwise_map]
theorem Zfb {l:List Hvy} (h:ZZ l) {x:Hvy} (hx:x∈l):ZaE l x.e=x.n:=by
 unfold ZaE
 induction l with
 |nil=>cases hx
 |cons y l ih=>
  rw[List.find?_cons];unfold ZZ at h;rw[List.pairwise_cons]at h;rcases List.mem_cons.1 hx with rfl|hx
  ·simp
  ·have hne:(y.e==x.e)=false:=by
    rw[beq_eq_false_iff_ne];intro e;have:=h.1 x hx;rw[e,Zas]at this;cases this
   rw[hne];exact ih h.2 hx
theorem Zdb {l:List Hvy} {e:Edge} (h:∀x∈l,x.e≠e):ZaE l e=0:=by
 unfold ZaE
 have:l.find? (fun x=>x.e==e)=none:=by
  rw[List.find?_eq_none];intro x hx
  simpa using h x hx
 rw[this]
theorem Znl {l:List Hvy} {e:Edge} (h:ZaE l e≠0):∃x∈l,x.e=e:=by
 apply Classical.byContradiction
 intro hn;exact h (Zdb fun x hx he=>hn ⟨x,hx,he⟩)
theorem Zf4 {h:Hist} (hr:Za h=true) (e:Edge):ZaE (Zc h) e=(Zf h e:Int):=by
 by_cases h0:Zf h e=0
 ·rw[h0,Zdb]
  ·rfl
  ·rintro x hx rfl;exact((ZN hr).1 hx).1 h0
 ·have hm:(⟨e,(Zf h e:Int)⟩:Hvy)∈Zc h:=(ZN hr).2 ⟨h0,rfl⟩;exact Zfb (sortH_map.2 edgesR_strict) hm
theorem Zlv {l m:List Hvy} (hl:ZZ l) (hm:ZZ m) (h:∀x,x∈l↔x∈m):l=m:=
 Zea (r:=fun a b:Hvy=>ltE a.e b.e=true) (fun a h=>by rw[Zas]at h;cases h) (fun a b c=>Zb4) hl hm h
structure DiffH (f g:Edge→Int) (l:List Hvy):Prop where
 s:ZZ l
 m:∀x,x∈l↔x.n=g x.e-f x.e∧x.n≠0
theorem DiffH.one {f g:Edge→Int} {l m:List Hvy} (h:DiffH f g l) (k:DiffH f g m):l=m:=Zlv h.s k.s fun x=>by rw[h.m,k.m]
def Z1:List Hvy→List Hvy→List Hvy
 |[],ys=>ys
 |x::xs,[]=>⟨x.e,-x.n⟩::Z1 xs []
 |x::xs,y::ys=>
  if ltE x.e y.e then ⟨x.e,-x.n⟩::Z1 xs (y::ys)
  else if ltE y.e x.e then y::Z1 (x::xs) ys
  else (if x.n=y.n then Z1 xs ys else ⟨x.e,y.n-x.n⟩::Z1 xs ys)
termination_by xs ys=>xs.length+ys.length
theorem Zci (ys:List Hvy):Z1 [] ys=ys:=by unfold Z1;rfl
theorem ZbK (x:Hvy) (xs:List Hvy):Z1 (x::xs) []=⟨x.e,-x.n⟩::Z1 xs []:=by rw[Z1]
theorem ZfJ (x y:Hvy) (xs ys:List Hvy):Z1 (x::xs) (y::ys)=if ltE x.e y.e then ⟨x.e,-x.n⟩::Z1 xs (y::ys)
  else if ltE y.e x.e then y::Z1 (x::xs) ys else (if x.n=y.n then Z1 xs ys else ⟨x.e,y.n-x.n⟩::Z1 xs ys):=by rw[Z1]
theorem Zb8 (x:Hvy) (l:List Hvy) (e:Edge):ZaE (x::l) e=if x.e=e then x.n else ZaE l e:=by
 unfold ZaE;rw[List.find?_cons]
 by_cases h:x.e=e
 ·rw[if_pos h,show(x.e==e)=true by simpa using h]
 ·rw[if_neg h,show(x.e==e)=false by simpa using h]
theorem Zdg {x:Hvy} {l:List Hvy} (h:ZZ (x::l)):ZZ l∧(∀y∈l,ltE x.e y.e=true)∧ZaE l x.e=0:=by
 unfold ZZ at h;rw[List.pairwise_cons]at h;exact⟨h.2,h.1,Zdb fun y hy e=>by have:=h.1 y hy;rw[e,Zas]at this;cases this⟩
theorem ZaA (c:Edge):∀(n:Nat) (xs ys:List Hvy),xs.length+ys.length≤n→(∀x∈xs,ltE c x.e=true)→(∀y∈ys,ltE c y.e=true)→∀z∈Z1 xs ys,ltE c z.e=true
 |n,[],ys,_,_,hy,z,hz=>by rw[Zci]at hz;exact hy z hz
 |0,x::xs,ys,hn,_,_,_,_=>by simp at hn
 |n+1,x::xs,[],hn,hx,hy,z,hz=>by
  rw[ZbK]at hz;rcases List.mem_cons.1 hz with rfl|hz
  ·exact hx x (List.mem_cons_self ..)
  ·exact ZaA c n xs [] (by simpa using hn) (fun x h=>hx x (List.mem_cons_of_mem _ h)) hy z hz
 |n+1,x::xs,y::ys,hn,hx,hy,z,hz=>by
  rw[ZfJ]at hz;simp only[List.length_cons]at hn;have hx1:=hx x (List.mem_cons_self ..);have hx2:=fun w h=>hx w (List.mem_cons_of_mem x h)
  have hy1:=hy y (List.mem_cons_self ..);have hy2:=fun w h=>hy w (List.mem_cons_of_mem y h)
  split at hz
  ·rcases List.mem_cons.1 hz with rfl|hz
   ·exact hx1
   ·exact ZaA c n xs (y::ys) (by simp only[List.length_cons];omega) hx2 hy z hz
  ·split at hz
   ·rcases List.mem_cons.1 hz with rfl|hz
    ·exact hy1
    ·exact ZaA c n (x::xs) ys (by simp only[List.length_cons];omega) hx hy2 z hz
   ·split at hz
    ·exact ZaA c n xs ys (by omega) hx2 hy2 z hz
    ·rcases List.mem_cons.1 hz with rfl|hz
     ·exact hx1
     ·exact ZaA c n xs ys (by omega) hx2 hy2 z hz
theorem ZbJ:∀(n:Nat) (xs ys:List Hvy),xs.length+ys.length≤n→ZZ xs→ZZ ys→(∀x∈xs,x.n≠0)→(∀y∈ys,y.n≠0)→DiffH (ZaE xs) (ZaE ys) (Z1 xs ys)
 |n,[],ys,_,_,hs,_,hy=>by
  rw[Zci];refine⟨hs,fun z=> ?_⟩;have h0:ZaE [] z.e=0:=rfl;rw[h0,Int.sub_zero]
  constructor
  ·intro hz;exact⟨(Zfb hs hz).symm,hy z hz⟩
  ·rintro⟨h1,h2⟩;obtain⟨w,hw,he⟩:=Znl (l:=ys) (e:=z.e) (by omega);have h3:=Zfb hs hw;rw[he]at h3
   have:w=z:=by
    obtain⟨we,wn⟩:=w;obtain⟨ze,zn⟩:=z;simp only at he h1 h3;rw[he,h1,h3]
   exact this▸hw
 |0,x::xs,ys,hn,_,_,_,_=>by simp at hn
 |n+1,x::xs,[],hn,hs,hs2,hx,hy=>by
  obtain⟨t1,t2,t3⟩:=Zdg hs;have ih:=ZbJ n xs [] (by simpa using hn) t1 hs2 (fun w h=>hx w (List.mem_cons_of_mem _ h)) hy;rw[ZbK];have hx0:=hx x (List.mem_cons_self ..);refine⟨?_,fun z=> ?_⟩
  ·unfold ZZ;rw[List.pairwise_cons];exact⟨fun z hz=>ZaA x.e n xs [] (by simpa using hn) t2 (fun y h=>by cases h) z hz,ih.s⟩
  ·rw[List.mem_cons,ih.m,Zb8];have h0:ZaE [] z.e=0:=rfl;rw[h0]
   by_cases e:x.e=z.e
   ·rw[if_pos e,←e,t3];obtain⟨ze,zn⟩:=z;simp only at e ⊢;subst e;simp only[Hvy.mk.injEq,true_and];omega
   ·rw[if_neg e]
    constructor
    ·rintro(rfl|h)
     ·exact absurd rfl e
     ·exact h
    ·exact Or.inr
 |n+1,x::xs,y::ys,hn,hs,hs2,hx,hy=>by
  simp only[List.length_cons]at hn;obtain⟨t1,t2,t3⟩:=Zdg hs;obtain⟨u1,u2,u3⟩:=Zdg hs2;have hx0:=hx x (List.mem_cons_self ..);have hy0:=hy y (List.mem_cons_self ..);have hx2:=fun w h=>hx w (List.mem_cons_of_mem x h)
  have hy2:=fun w h=>hy w (List.mem_cons_of_mem y h)
  rw[ZfJ]
  split
  ·rename_i hlt
   have ih:=ZbJ n xs (y::ys) (by simp only[List.length_cons];omega) t1 hs2 hx2 hy
   have hyl:∀w∈y::ys,ltE x.e w.e=true:=fun w hw=>by
    rcases List.mem_cons.1 hw with rfl|hw
    ·exact hlt
    ·exact Zb4 hlt (u2 w hw)
   have hc0:ZaE (y::ys) x.e=0:=Zdb fun w hw e=>by have:=hyl w hw;rw[e,Zas]at this;cases this
   refine⟨?_,fun z=> ?_⟩
   ·unfold ZZ;rw[List.pairwise_cons];exact⟨fun z hz=>ZaA x.e n xs (y::ys) (by simp only[List.length_cons];omega) t2 hyl z hz,ih.s⟩
   ·rw[List.mem_cons,ih.m,Zb8 x xs]
    by_cases e:x.e=z.e
    ·rw[if_pos e,←e,t3,hc0];obtain⟨ze,zn⟩:=z;simp only at e ⊢;subst e;simp only[Hvy.mk.injEq,true_and];omega
    ·rw[if_neg e]
     constructor
     ·rintro(rfl|h)
      ·exact absurd rfl e
      ·exact h
     ·exact Or.inr
  ·split
   ·rename_i hlt
    have ih:=ZbJ n (x::xs) ys (by simp only[List.length_cons];omega) hs u1 hx hy2
    have hxl:∀w∈x::xs,ltE y.e w.e=true:=fun w hw=>by
     rcases List.mem_cons.1 hw with rfl|hw
     ·exact hlt
     ·exact Zb4 hlt (t2 w hw)
    have hc0:ZaE (x::xs) y.e=0:=Zdb fun w hw e=>by have:=hxl w hw;rw[e,Zas]at this;cases this
    refine⟨?_,fun z=> ?_⟩
    ·unfold ZZ;rw[List.pairwise_cons];exact⟨fun z hz=>ZaA y.e n (x::xs) ys (by simp only[List.length_cons];omega) hxl u2 z hz,ih.s⟩
    ·rw[List.mem_cons,ih.m,Zb8 y ys]
     by_cases e:y.e=z.e
     ·rw[if_pos e,←e,u3,hc0];obtain⟨ze,zn⟩:=z;obtain⟨ye,yn⟩:=y;simp only at e hy0 ⊢;subst e;simp only[Hvy.mk.injEq,true_and];omega
     ·rw[if_neg e]
      constructor
      ·rintro(rfl|h)
       ·exact absurd rfl e
       ·exact h
      ·exact Or.inr
   ·rename_i h1 h2
    have he:x.e=y.e:=Zc6 (by simpa using h1) (by simpa using h2);have ih:=ZbJ n xs ys (by omega) t1 u1 hx2 hy2;have hyl:∀w∈ys,ltE x.e w.e=true:=fun w hw=>by rw[he];exact u2 w hw
    have hc0:ZaE ys x.e=0:=by rw[he];exact u3
    have key:∀z:Hvy,z.n=ZaE (y::ys) z.e-ZaE (x::xs) z.e∧z.n≠0↔(z=⟨x.e,y.n-x.n⟩∧y.n-x.n≠0)∨z∈Z1 xs ys:=fun z=>by
     rw[ih.m,Zb8,Zb8,←he]
     by_cases e:x.e=z.e
     ·rw[if_pos e,if_pos e,←e,t3,hc0];obtain⟨ze,zn⟩:=z;simp only at e ⊢;subst e;simp only[Hvy.mk.injEq,true_and];omega
     ·rw[if_neg e,if_neg e]
      constructor
      ·exact Or.inr
      ·rintro(⟨rfl,_⟩|h)
       ·exact absurd rfl e
       ·exact h
    split
    ·rename_i hq
     refine⟨ih.s,fun z=> ?_⟩;rw[key z]
     constructor
     ·exact Or.inr
     ·rintro(⟨_,h⟩|h)
      ·exact absurd (by omega) h
      ·exact h
    ·rename_i hq
     refine⟨?_,fun z=> ?_⟩
     ·unfold ZZ;rw[List.pairwise_cons];exact⟨fun z hz=>ZaA x.e n xs ys (by omega) t2 hyl z hz,ih.s⟩
     ·rw[key z,List.mem_cons]
      constructor
      ·rintro(h|h)
       ·exact Or.inl ⟨h,by omega⟩
       ·exact Or.inr h
      ·rintro(⟨h,_⟩|h)
       ·exact Or.inl h
       ·exact Or.inr h
def Za7 (a b:Hist):List Hvy:=Z1 (Zc a) (Zc b)
theorem Zh7 {h:Hist}:∀x∈Zc h,x.n≠0:=fun x hx=>by
 have hr:Za h=true:=by
  cases hq:Za h with
  |true=>rfl
  |false=>unfold Zc at hx;rw[hq]at hx;cases hx
 obtain⟨h1,h2⟩:=(ZN hr).1 hx;omega
theorem ZdB {a b:Hist} (ha:Za a=true) (hb:Za b=true):DiffH (fun e=>(Zf a e:Int)) (fun e=>(Zf b e:Int)) (Za7 a b):=by
 have h:=ZbJ _ (Zc a) (Zc b) (Nat.le_refl _) (sortH_map.2 edgesR_strict) (sortH_map.2 edgesR_strict) Zh7 Zh7
 rwa [show ZaE (Zc a)=fun e=>(Zf a e:Int) from funext (Zf4 ha),show ZaE (Zc b)=fun e=>(Zf b e:Int) from funext (Zf4 hb)]at h
theorem Zme {a b:Hist} (ha:Za a=true) (hb:Za b=true) {l:List Hvy} (hs:ZZ l) (hm:∀x,x∈l↔x.e.key∈ZL a b∧x.n=(Zf b x.e:Int)-(Zf a x.e:Int)∧x.n≠0):l=Za7 a b:=by
 refine DiffH.one ⟨hs,fun x=> ?_⟩ (ZdB ha hb);rw[hm]
 constructor
 ·exact fun h=>h.2
 ·intro h;refine⟨?_,h⟩
  apply Classical.byContradiction
  intro hk;have:=Zh9 ha hb hk;rw[this]at h;omega
theorem Zk7 {a b:Hist} (ha:Za a=true) (hb:Za b=true) {x:Hvy} (hx:x∈Za7 a b):x.e.key∈ZL a b∧x.n≠0:=by
 have h:=((ZdB ha hb).m x).1 hx;refine⟨?_,h.2⟩
 apply Classical.byContradiction
 intro hk;have:=Zh9 ha hb hk;rw[this]at h;omega
end
/- How bad reads change,plain:those that the touched keys tell,sorted,are those of the document. -/
section
open Go.RowKit
def ZcM (a b:HBad):Prop:=a.tx<b.tx∨(a.tx=b.tx∧(a.place<b.place∨(a.place=b.place∧(a.of.tx<b.of.tx∨(a.of.tx=b.of.tx∧(a.of.key<b.of.key∨(a.of.key=b.of.key∧a.of.nth<b.of.nth)))))))
theorem Zdu {a b:HBad}:Zw a b=true↔ZcM a b:=by
 unfold Zw ZcM
 split
 ·rw[decide_eq_true_eq];omega
 ·split
  ·rw[decide_eq_true_eq];omega
  ·split
   ·rw[decide_eq_true_eq];omega
   ·split<;>rw[decide_eq_true_eq]<;>(simp only[ne_eq,Classical.not_not]at*;omega)
theorem Zdt {a b:HBad}:Zw a b=false↔¬ZcM a b:=by rw[←Zdu,Bool.not_eq_true]
theorem Zcz {a b c:HBad} (h1:Zw a b=true) (h2:Zw b c=true):Zw a c=true:=by
 rw[Zdu]at*;unfold ZcM at*;omega
theorem ZfL {a b:HBad} (h1:Zw a b=false) (h2:Zw b a=false):a=b:=by
 rw[Zdt]at*;unfold ZcM at*;obtain⟨a1,a2,a3,a4,a5⟩:=a;obtain⟨b1,b2,b3,b4,b5⟩:=b;simp only at h1 h2;have:a1=b1:=by omega
 have:a2=b2:=by omega
 have:a3=b3:=by omega
 have:a4=b4:=by omega
 have:a5=b5:=by omega
 subst_vars;rfl
def ZaJ (a b:HBad):Int:=if Zw a b then -1 else if Zw b a then 1 else 0
theorem Zad (x y:HBad):ltOf ZaJ x y=Zw x y:=by
 unfold ltOf ZaJ
 cases h1:Zw x y
 ·cases h2:Zw y x<;>simp
 ·simp
theorem ZoY:Sort.SWO (ltOf ZaJ) where
 irrefl x:=by rw[Zad];exact Zck x
 trans x y z h1 h2:=by rw[Zad]at*;exact Zcz h1 h2
 ntrans x y z h1 h2:=by
  rw[Zad]at*;rw[Zdt]at*;unfold ZcM at*;omega
def ZaZ (l:List HBad):List HBad:=l.mergeSort fun x y=> !(ltOf ZaJ) y x
theorem ZdN (l:List HBad):(ZaZ l).length=l.length:=List.length_mergeSort ..
theorem ZkL (a b c:HBad) (h:(!ltOf ZaJ b a)=true) (k:(!ltOf ZaJ c b)=true):(!ltOf ZaJ c a)=true:=by
 rw[Zad,Bool.not_eq_true',Zdt]at*;unfold ZcM at*;omega
theorem ZkM (a b:HBad):((!ltOf ZaJ b a)||(!ltOf ZaJ a b))=true:=by
 rw[Zad,Zad]
 cases h:Zw b a
 ·rfl
 ·cases h2:Zw a b
  ·rfl
  ·have:=Zcz h h2;rw[Zck]at this;cases this
theorem Zff:∀(txs:List HTx) (p:Int) (t:HTx) (l:List HOp) (i:Nat) (acc:List HBad),(acc.Pairwise fun a b=>Zw a b=true)→(∀a∈acc,a.tx<t.id∨(a.tx=t.id∧a.place<(i:Int)))→((ZaK txs p t i acc l).Pairwise fun a b=>Zw a b=true)∧∀a∈ZaK txs p t i acc l,a.tx<t.id∨a.tx=t.id
 |_,_,_,[],_,_,h1,h2=>⟨h1,fun a ha=>(h2 a ha).elim Or.inl fun h=>Or.inr h.1⟩
 |txs,p,t,o::l,i,acc,h1,h2=>by
  unfold ZaK
  split
  ·refine Zff txs p t l (i+1) _ ?_ ?_
   ·rw[List.pairwise_append];refine⟨h1,List.pairwise_singleton _ _,fun a ha b hb=> ?_⟩;rw[List.mem_singleton.1 hb,Zdu];unfold ZcM;simp only;rcases h2 a ha with h|⟨h,h3⟩<;>omega
   ·intro a ha;rcases List.mem_append.1 ha with ha|ha
    ·rcases h2 a ha with h|⟨h,h3⟩
     ·exact Or.inl h
     ·exact Or.inr ⟨h,by omega⟩
    ·rw[List.mem_singleton.1 ha];exact Or.inr ⟨rfl,by simp only;omega⟩
  ·exact Zff txs p t l (i+1) acc h1 fun a ha=>(h2 a ha).elim Or.inl fun h=>Or.inr ⟨h.1,by omega⟩
theorem Zhd (txs:List HTx) (p:Int):∀(l:List HTx) (acc:List HBad),(l.map (·.id)).Pairwise (·<·)→(acc.Pairwise fun a b=>Zw a b=true)→(∀a∈acc,∀t∈l,a.tx<t.id)→(Zbn txs p acc l).Pairwise fun a b=>Zw a b=true
 |[],_,_,h1,_=>h1
 |t::l,acc,hn,h1,h2=>by
  unfold Zbn;rw[List.map_cons,List.pairwise_cons]at hn;obtain⟨k1,k2⟩:=Zff txs p t t.ops 0 acc h1 fun a ha=>Or.inl (h2 a ha t (List.mem_cons_self ..))
  refine Zhd txs p l _ hn.2 k1 fun a ha u hu=> ?_
  have h3:=hn.1 u.id (List.mem_map.2 ⟨u,hu,rfl⟩);rcases k2 a ha with h|h<;>omega
theorem ZeP {h:Hist} {p:Int}:(Z3 h p).Pairwise fun a b=>Zw a b=true:=by
 cases hr:Za h with
 |false=>unfold Z3;rw[hr];exact List.Pairwise.nil
 |true=>
  unfold Z3;rw[if_pos hr];exact Zhd h.txs p h.txs [] (ZbH hr) List.Pairwise.nil fun a ha=>by cases ha
def ofK (h:Hist) (p k:Int):List HBad:=(Z3 h p).filter fun b=>b.of.key==k
def Zaa (a b:Hist) (p:Int) (keys:List Int):List HBad:=keys.flatMap fun k=>(ofK a p k).filter fun x=> !(ofK b p k).contains x
def Zae (a b:Hist) (p:Int):List HBad:=(Z3 a p).filter fun x=> !(Z3 b p).contains x
theorem Zc5 {h:Hist} {p k:Int} {x:HBad}:x∈ofK h p k↔x∈Z3 h p∧x.of.key=k:=by unfold ofK;rw[List.mem_filter,beq_iff_eq]
theorem Zgi {l:List HBad} {x:HBad}:(!l.contains x)=true↔x∉l:=by rw[Bool.not_eq_true',←Bool.not_eq_true,List.contains_iff_mem]
theorem mem_goneK {a b:Hist} {p:Int} {keys:List Int} {x:HBad}:x∈Zaa a b p keys↔x.of.key∈keys∧x∈Z3 a p∧x∉Z3 b p:=by
 unfold Zaa;rw[List.mem_flatMap]
 constructor
 ·rintro⟨k,hk,hx⟩;rw[List.mem_filter,Zc5,Zgi,Zc5]at hx;obtain⟨⟨h1,rfl⟩,h2⟩:=hx;exact⟨hk,h1,fun h=>h2 ⟨h,rfl⟩⟩
 ·rintro⟨h1,h2,h3⟩;refine⟨x.of.key,h1,?_⟩;rw[List.mem_filter,Zc5,Zgi,Zc5];exact⟨⟨h2,rfl⟩,fun h=>h3 h.1⟩
theorem ZdE {l:List HBad} (h:l.Pairwise fun a b=>Zw a b=true):l.Nodup:=h.imp fun {a b} hab e=>by rw[e,Zck]at hab;cases hab
theorem ZcW {a b:Hist} {p:Int}:∀{keys:List Int},keys.Nodup→(Zaa a b p keys).Nodup
 |[],_=>List.Pairwise.nil
 |k::l,h=>by
  rw[List.nodup_cons]at h;have e:Zaa a b p (k::l)=((ofK a p k).filter fun x=> !(ofK b p k).contains x)++Zaa a b p l:=by unfold Zaa;rw[List.flatMap_cons]
  rw[e,List.nodup_append];refine⟨(List.Pairwise.filter _ (List.Pairwise.filter _ (ZdE ZeP))),ZcW h.2,fun x hx y hy hxy=> ?_⟩;have h1:=(mem_goneK.1 hy).1;rw[List.mem_filter,Zc5]at hx;rw[←hxy,hx.1.2]at h1;exact h.1 h1
theorem ZkF {a b:Hist} {p:Int} {x:HBad}:x∈Zae a b p↔x∈Z3 a p∧x∉Z3 b p:=by unfold Zae;rw[List.mem_filter,Zgi]
theorem Zgz {a b:Hist} {p:Int} {keys:List Int} (hn:keys.Nodup) (hk:∀x∈Z3 a p,x∉Z3 b p→x.of.key∈keys):ZaZ (Zaa a b p keys)=Zae a b p:=by
 have hs:(Zae a b p).Pairwise fun a b=>Zw a b=true:=List.Pairwise.filter _ ZeP
 have hp:(Zaa a b p keys).Perm (Zae a b p):=by
  rw[List.perm_ext_iff_of_nodup (ZcW hn) (ZdE hs)];intro x;rw[mem_goneK,ZkF];exact⟨fun h=>h.2,fun h=>⟨hk x h.1 h.2,h⟩⟩
 unfold ZaZ;refine List.Perm.eq_of_pairwise (le:=fun a b=>(!ltOf ZaJ b a)=true) (fun a b _ _ h1 h2=> ?_) (List.pairwise_mergeSort ZkL ZkM _) (hs.imp fun {a b} hab=> ?_) ((List.mergeSort_perm _ _).trans hp)
 ·rw[Zad,Bool.not_eq_true']at h1 h2;exact ZfL h2 h1
 ·rw[Zad,Bool.not_eq_true']
  cases h:Zw b a
  ·rfl
  ·have:=Zcz hab h;rw[Zck]at this;cases this
section
variable {a b:Hist} {p:Int}
theorem ZbV:(ZL a b).Nodup:=by unfold ZL;exact(Zeq _).imp fun h e=>by omega
theorem ZiA (ha:Za a=true) (hb:Za b=true):ZaZ (Zaa a b p (ZL a b))=Zae a b p:=
 Zgz ZbV fun x h1 h2=>Classical.byContradiction fun hk=>h2 (Zi8 ha hb h1 hk)
theorem Zi7 (ha:Za a=true) (hb:Za b=true):ZaZ (Zaa b a p (ZL a b))=Zae b a p:=
 Zgz ZbV fun x h1 h2=>Classical.byContradiction fun hk=>h2 (Zi8 hb ha h1 fun h=>hk (keysD_comm.2 h))
theorem Zlp (ha:Za a=true) (hb:Za b=true) {x:HBad} (h:x∈Zae a b p):x.of.key∈ZL a b:=by
 rw[←ZiA ha hb]at h;exact(mem_goneK.1 ((List.mergeSort_perm _ _).mem_iff.1 h)).1
theorem Zmj (ha:Za a=true) (hb:Za b=true) {x:HBad} (h:x∈Zae b a p):x.of.key∈ZL a b:=by
 rw[←Zi7 ha hb]at h;exact(mem_goneK.1 ((List.mergeSort_perm _ _).mem_iff.1 h)).1
end
end
/- How edges change,plain:a map of differences,key by key. -/
section
open Go.RowKit
structure CntZ (m:List (Edge×Value)) (g:Edge→Int) (E:List Edge):Prop where
 nd:(m.map (·.1)).Nodup
 val:∀a,(Zz m a).getD (.int .i64 0)= .int .i64 (g a)
 sub:∀a∈m.map (·.1),a∈E
theorem CntZ.new (E:List Edge):CntZ [] (fun _=>0) E:=⟨by simp,fun a=>by simp[Zbt],fun a h=>by cases h⟩
theorem CntZ.congr {m:List (Edge×Value)} {g k:Edge→Int} {E:List Edge} (h:CntZ m g E) (hg:∀e,g e=k e):CntZ m k E:=by rwa [←show g=k from funext hg]
theorem CntZ.mem {m:List (Edge×Value)} {g:Edge→Int} {E:List Edge} (h:CntZ m g E) {a:Edge} (hg:g a≠0):a∈m.map (·.1):=by
 apply Classical.byContradiction
 intro hn;have h1:=h.val a;rw[(ZcL m a).2 hn]at h1;simp only[Option.getD_none,Value.int.injEq,true_and]at h1;exact hg h1.symm
theorem CntZ.put {m:List (Edge×Value)} {g:Edge→Int} {E:List Edge} (h:CntZ m g E) {a:Edge} (ha:a∈E) (v:Int):CntZ (Zs m a (.int .i64 v)) (fun x=>if x=a then v else g x) E:=by
 refine⟨ZiO h.nd a _,fun x=> ?_,fun x hx=> ?_⟩
 ·rw[Zaz]
  by_cases e:x=a
  ·subst e;simp
  ·simp only[if_neg e];exact h.val x
 ·by_cases e:x=a
  ·rw[e];exact ha
  ·refine h.sub x ?_
   apply Classical.byContradiction
   intro hn;have h1:=(ZcL (Zs m a (.int .i64 v)) x).1;rw[Zaz]at h1;simp only[if_neg e]at h1;exact h1 ((ZcL m x).2 hn) hx
theorem CntZ.len {m:List (Edge×Value)} {g:Edge→Int} {E:List Edge} (h:CntZ m g E):m.length≤E.length:=by
 have:=ZaQ _ E h.nd h.sub
 rwa [List.length_map]at this
def Zbq:List Hvy→Edge→Int
 |[],_=>0
 |x::l,e=>(if x.e=e then x.n else 0)+Zbq l e
theorem Zb0 (x:Hvy) (l:List Hvy) (e:Edge):Zbq (x::l) e=(if x.e=e then x.n else 0)+Zbq l e:=rfl
theorem ZeS (e:Edge):Zbq [] e=0:=rfl
theorem Zii (l m:List Hvy) (e:Edge):Zbq (l++m) e=Zbq l e+Zbq m e:=by
 induction l with
 |nil=>rw[List.nil_append,ZeS];omega
 |cons x l ih=>rw[List.cons_append,Zb0,Zb0,ih];omega
theorem ZcJ {l:List Hvy} {k:Nat} {x:Hvy} (hk:k<l.length) (hx:l[k]=x) (e:Edge):Zbq (l.take (k+1)) e=Zbq (l.take k) e+if e=x.e then x.n else 0:=by
 subst hx;rw[List.take_succ_eq_append_getElem hk,Zii]
 congr 1
 rw[Zb0,ZeS]
 by_cases h:l[k].e=e
 ·rw[if_pos h,if_pos h.symm];omega
 ·rw[if_neg h,if_neg fun h'=>h h'.symm];omega
theorem Zep {l:List Hvy} {e:Edge} (h:∀x∈l,x.e≠e):Zbq l e=0:=by
 induction l with
 |nil=>rfl
 |cons x l ih=>
  rw[Zb0,if_neg (h x (List.mem_cons_self ..)),ih fun y hy=>h y (List.mem_cons_of_mem _ hy)];rfl
theorem Zlt {l:List Hvy} (hs:ZZ l) {x:Hvy} (hx:x∈l):Zbq l x.e=x.n:=by
 induction l with
 |nil=>cases hx
 |cons y l ih=>
  unfold ZZ at hs;rw[List.pairwise_cons]at hs;rw[Zb0];rcases List.mem_cons.1 hx with rfl|hx
  ·rw[if_pos rfl,Zep]
   ·omega
   ·intro z hz e;have:=hs.1 z hz;rw[e,Zas]at this;cases this
  ·rw[if_neg (fun e=>by have:=hs.1 x hx;rw[e,Zas]at this;cases this),ih hs.2 hx];omega
theorem Zis {h:Hist}:ZZ (Zc h):=sortH_map.2 edgesR_strict
theorem ZfF {h:Hist} {key:Int}:ZZ (Zr key (Zc h)):=List.Pairwise.filter _ Zis
theorem mem_ofKeyH {h:Hist} {key:Int} {x:Hvy}:x∈Zr key (Zc h)↔x∈Zc h∧x.e.key=key:=by unfold Zr;rw[List.mem_filter,beq_iff_eq]
section
variable {a b h:Hist}
theorem Zga (hr:Za h=true) (key:Int) (e:Edge):Zbq (Zr key (Zc h)) e=if e.key=key then (Zf h e:Int) else 0:=by
 by_cases hk:e.key=key
 ·rw[if_pos hk]
  by_cases h0:Zf h e=0
  ·rw[h0,Zep]
   ·rfl
   ·rintro x hx rfl;exact((ZN hr).1 (mem_ofKeyH.1 hx).1).1 h0
  ·have hm:(⟨e,(Zf h e:Int)⟩:Hvy)∈Zr key (Zc h):=mem_ofKeyH.2 ⟨(ZN hr).2 ⟨h0,rfl⟩,hk⟩;exact Zlt ZfF hm
 ·rw[if_neg hk,Zep];rintro x hx rfl;exact hk (mem_ofKeyH.1 hx).2
theorem ZiE (key:Int) {k:Nat} {x:Hvy} (hk:k<(Zr key (Zc h)).length) (hx:(Zr key (Zc h))[k]=x):Zbq ((Zr key (Zc h)).take k) x.e=0:=by
 refine Zep fun y hy e=> ?_
 have h1:ZZ ((Zr key (Zc h)).take k++[x]):=by
  have:=(ZfF (h:=h) (key:=key)).sublist (List.take_sublist (k+1) _)
  rwa [List.take_succ_eq_append_getElem hk,hx]at this
 unfold ZZ at h1;rw[List.pairwise_append]at h1;have:=h1.2.2 y hy x (List.mem_singleton.2 rfl);rw[e,Zas]at this;cases this
def gK (a b:Hist) (ks:List Int) (e:Edge):Int:=if e.key∈ks then (Zf b e:Int)-(Zf a e:Int) else 0
def gB (a b:Hist) (ks la lb:List Hvy) (q:List Int) (e:Edge):Int:=gK a b q e-Zbq la e+Zbq lb e
theorem Zni (e:Edge) (ks:List Hvy) (q:List Int):gK a b q e=gB a b ks [] [] q e:=by unfold gB;rw[ZeS];omega
theorem Zn0 (ha:Za a=true) (hb:Za b=true) {q:List Int} {key:Int} (hn:key∉q) (ks:List Hvy) (e:Edge):gB a b ks (Zr key (Zc a)) (Zr key (Zc b)) q e=gK a b (q++[key]) e:=by
 unfold gB gK;rw[Zga ha,Zga hb]
 by_cases h1:e.key=key
 ·rw[if_pos h1,if_pos h1,if_neg (fun h=>hn (h1▸h)),if_pos (by rw[h1];simp)];omega
 ·rw[if_neg h1,if_neg h1]
  by_cases h2:e.key∈q
  ·rw[if_pos h2,if_pos (List.mem_append_left _ h2)];omega
  ·rw[if_neg h2,if_neg (fun h=>(List.mem_append.1 h).elim h2 fun h=>h1 (List.mem_singleton.1 h))];omega
theorem Zpb {q:List Int} {key:Int} (hn:key∉q) (ks:List Hvy) {k:Nat} {x:Hvy} (hk:k<(Zr key (Zc a)).length) (hx:(Zr key (Zc a))[k]=x):
  gB a b ks ((Zr key (Zc a)).take k) [] q x.e=0∧∀e,(if e=x.e then 0-x.n else gB a b ks ((Zr key (Zc a)).take k) [] q e)=gB a b ks ((Zr key (Zc a)).take (k+1)) [] q e:=by
 have hm:x∈Zr key (Zc a):=hx▸List.getElem_mem hk;have hkey:=(mem_ofKeyH.1 hm).2
 have h0:gB a b ks ((Zr key (Zc a)).take k) [] q x.e=0:=by
  unfold gB gK;rw[ZiE key hk hx,if_neg (by rw[hkey];exact hn)];rfl
 refine⟨h0,fun e=> ?_⟩
 by_cases he:e=x.e
 ·rw[if_pos he,he];unfold gB at h0 ⊢;rw[ZcJ hk hx,if_pos rfl];omega
 ·rw[if_neg he];unfold gB;rw[ZcJ hk hx,if_neg he];omega
theorem Zpa (ha:Za a=true) {q:List Int} {key:Int} (hn:key∉q) (ks:List Hvy) {k:Nat} {x:Hvy} (hk:k<(Zr key (Zc b)).length) (hx:(Zr key (Zc b))[k]=x):
  gB a b ks (Zr key (Zc a)) ((Zr key (Zc b)).take k) q x.e=0-(Zf a x.e:Int)∧∀e,(if e=x.e then 0-(Zf a x.e:Int)+x.n else gB a b ks (Zr key (Zc a)) ((Zr key (Zc b)).take k) q e)=gB a b ks (Zr key (Zc a)) ((Zr key (Zc b)).take (k+1)) q e:=by
 have hm:x∈Zr key (Zc b):=hx▸List.getElem_mem hk;have hkey:=(mem_ofKeyH.1 hm).2
 have h0:gB a b ks (Zr key (Zc a)) ((Zr key (Zc b)).take k) q x.e=0-(Zf a x.e:Int):=by
  unfold gB gK;rw[ZiE key hk hx,if_neg (by rw[hkey];exact hn),Zga ha,if_pos hkey];omega
 refine⟨h0,fun e=> ?_⟩
 by_cases he:e=x.e
 ·rw[if_pos he,he];unfold gB at h0 ⊢;rw[ZcJ hk hx,if_pos rfl];omega
 ·rw[if_neg he];unfold gB;rw[ZcJ hk hx,if_neg he];omega
def ZV (g:Edge→Int):List Edge→List Hvy
 |[]=>[]
 |e::l=>if g e=0 then ZV g l else ⟨e,g e⟩::ZV g l
theorem ZhT (g:Edge→Int) (l m:List Edge):ZV g (l++m)=ZV g l++ZV g m:=by
 induction l with
 |nil=>rfl
 |cons x l ih=>
  show(if g x=0 then ZV g (l++m) else (⟨x,g x⟩:Hvy)::ZV g (l++m))=(if g x=0 then ZV g l else (⟨x,g x⟩:Hvy)::ZV g l)++ZV g m
  split
  ·exact ih
  ·rw[ih];rfl
theorem Zjr {g:Edge→Int} {l:List Edge} {k:Nat} {x:Edge} {v:Int} (hk:k<l.length) (hx:l[k]=x) (hv:g x=v):ZV g (l.take (k+1))=if v=0 then ZV g (l.take k) else ZV g (l.take k)++[⟨x,v⟩]:=by
 subst hx hv;rw[List.take_succ_eq_append_getElem hk,ZhT]
 show _++(if g l[k]=0 then [] else [(⟨l[k],g l[k]⟩:Hvy)])=_
 split
 ·exact List.append_nil _
 ·rfl
theorem mem_listZ {g:Edge→Int} {l:List Edge} {x:Hvy}:x∈ZV g l↔x.e∈l∧x.n=g x.e∧x.n≠0:=by
 induction l with
 |nil=>simp[ZV]
 |cons y l ih=>
  unfold ZV;obtain⟨xe,xn⟩:=x;simp only at ih ⊢
  split
  ·rename_i h0
   rw[ih,List.mem_cons]
   constructor
   ·exact fun h=>⟨.inr h.1,h.2⟩
   ·rintro⟨rfl|h,h1,h2⟩
    ·exact absurd (h1.trans h0) h2
    ·exact⟨h,h1,h2⟩
  ·rename_i h0
   rw[List.mem_cons,ih,List.mem_cons,Hvy.mk.injEq]
   constructor
   ·rintro(⟨rfl,rfl⟩|h)
    ·exact⟨.inl rfl,rfl,h0⟩
    ·exact⟨.inr h.1,h.2⟩
   ·rintro⟨rfl|h,h1,h2⟩
    ·exact .inl ⟨rfl,h1⟩
    ·exact .inr ⟨h,h1,h2⟩
theorem ZkI (g:Edge→Int) (l:List Edge):(ZV g l).length≤l.length:=by
 induction l with
 |nil=>simp[ZV]
 |cons y l ih=>
  unfold ZV
  split
  ·exact Nat.le_succ_of_le ih
  ·simpa using ih
theorem Zjs {g:Edge→Int} {l:List Edge} (h:l.Pairwise fun a b=>ltE a b=true):ZZ (ZV g l):=by
 induction l with
 |nil=>exact List.Pairwise.nil
 |cons y l ih=>
  rw[List.pairwise_cons]at h;unfold ZV
  split
  ·exact ih h.2
  ·unfold ZZ;rw[List.pairwise_cons];exact⟨fun z hz=>h.1 z.e (mem_listZ.1 hz).1,ih h.2⟩
theorem Zla {l:List Edge} (h:l.Nodup):(ddE l).Pairwise (fun a b=>ltE a b=true)∧∀e,e∈ddE l↔e∈l:=by
 have hp:(Zac l).Perm l:=List.mergeSort_perm _ _
 have hs:(Zac l).Pairwise fun a b=>ltE a b=true:=by
  have h1:(Zac l).Pairwise fun a b=>(!ltOf Zan b a)=true:=List.pairwise_mergeSort ZcN ZcO l
  have h2:(Zac l).Pairwise (·≠·):=hp.nodup_iff.2 h;refine(h1.and h2).imp fun {a b} hab=> ?_
  have h3:=hab.1;rw[Zak,Bool.not_eq_true']at h3
  cases h4:ltE a b with
  |true=>rfl
  |false=>exact absurd (Zc6 h4 h3) hab.2
 rw[←ZdD hp,Zf2 hs];exact⟨hs,fun e=>hp.mem_iff⟩
theorem Zjt (ha:Za a=true) (hb:Za b=true) {m:List (Edge×Value)} {E:List Edge} (h:CntZ m (gK a b (ZL a b)) E):ZV (gK a b (ZL a b)) (ddE (m.map (·.1)))=Za7 a b:=by
 obtain⟨h1,h2⟩:=Zla h.nd;refine Zme ha hb (Zjs h1) fun x=> ?_
 rw[mem_listZ,h2]
 have hg:∀e,gK a b (ZL a b) e≠0→e.key∈ZL a b:=fun e he=>by
  apply Classical.byContradiction
  intro hn;unfold gK at he;rw[if_neg hn]at he;exact he rfl
 constructor
 ·rintro⟨_,k1,k2⟩;have hk:=hg x.e (by rw[←k1];exact k2);refine⟨hk,?_,k2⟩;unfold gK at k1
  rwa [if_pos hk]at k1
 ·rintro⟨hk,k1,k2⟩;have k3:x.n=gK a b (ZL a b) x.e:=by unfold gK;rw[if_pos hk];exact k1
  exact⟨h.mem (by rw[←k3];exact k2),k3,k2⟩
end
end
/- How edges change:derive.touched. -/
section
open Go.RowKit
theorem Zal {h:Hist} (hl:Zk h=true):h.txs.length≤12∧(∀t∈h.txs,t.ops.length≤24)∧h.ords.length≤24:=⟨(Zd1 hl).1,(Zd1 hl).2,(ZfK hl).1⟩
section
variable {F G:Nat→Prop} {w:World} {ta tb:List HTx} {oa ob:List HOrd} {A A':Option Addr} {c c':Nat} {B B':Option Addr} {d d':Nat}
set_option maxRecDepth 100000 in
set_option maxHeartbeats 2000000 in
theorem Zec (HA:Hist.lies F w ⟨ta,oa,A,c,B,d⟩) (HB:Hist.lies G w ⟨tb,ob,A',c',B',d'⟩) (hr:(Za ⟨ta,oa,A,c,B,d⟩&&Za ⟨tb,ob,A',c',B',d'⟩)=false):
  Calls Tryz.prog 58 #[.agg #[.slice A ta.length c,.slice B oa.length d],.agg #[.slice A' tb.length c',.slice B' ob.length d']] w fun e w'=>e= .returned (.tuple #[.slice none 0 0,.int .i64 5])∧Upd No w w':=by
 obtain⟨z,hz⟩:∃z,w.heap.size=z:=⟨_,rfl⟩;obtain⟨w1,hw1⟩:∃w1,w.alloc (.cells #[.slice A ta.length c,.slice B oa.length d] 29)=w1:=⟨_,rfl⟩;have s1:w1.heap.size=z+1:=by rw[←hw1,←hz];simp
 obtain⟨w2,hw2⟩:∃w2,w1.alloc (.cells #[.slice A' tb.length c',.slice B' ob.length d'] 29)=w2:=⟨_,rfl⟩;have s2:w2.heap.size=z+1+1:=by rw[←hw2,←s1];simp
 have u1:Upd No w w1:=by rw[←hw1];exact(Upd.refl No w).alloc _
 have u2:Upd No w1 w2:=by rw[←hw2];exact(Upd.refl No w1).alloc _
 have bA:Blk w2 z 29 [.slice A ta.length c,.slice B oa.length d]:=by
  have:Blk w1 z 29 [.slice A ta.length c,.slice B oa.length d]:=by rw[←hw1,←hz];exact Blk.new w _ _
  exact this.upd u2 id
 have bB:Blk w2 (z+1) 29 [.slice A' tb.length c',.slice B' ob.length d']:=by rw[←hw2,←s1];exact Blk.new w1 _ _
 have d0:∀W,Upd No w2 W→W.cell? ⟨z,0,none⟩=some (.slice A ta.length c):=fun W u=>(bA.upd u id).cell 0
 have d1:∀W,Upd No w2 W→W.cell? ⟨z,1,none⟩=some (.slice B oa.length d):=fun W u=>(bA.upd u id).cell 1
 have d2:∀W,Upd No w2 W→W.cell? ⟨z+1,0,none⟩=some (.slice A' tb.length c'):=fun W u=>(bB.upd u id).cell 0
 have d3:∀W,Upd No w2 W→W.cell? ⟨z+1,1,none⟩=some (.slice B' ob.length d'):=fun W u=>(bB.upd u id).cell 1
 have hxz:Upd No w2 w2:=Upd.refl _ _;have UB:=Qh (u1.trans u2);have CA:=Qh (Zi3 (HA.upd UB.out (fun _ _=>id)) (HB.upd UB.out (fun _ _=>id)) hr);clear HA HB bA bB u1 u2 hr
 go_enter Tryz.func58,Tryz.ntmps58
 go_wp2_with fail
 refine(CA.out).mono ?_;rintro e w3 ⟨rfl,hu3⟩;go_wp2
 go_ret2
 exact⟨rfl,(UB.out.trans hu3).alloc _⟩
set_option maxRecDepth 100000 in
set_option maxHeartbeats 2000000 in
theorem Zha (HA:Hist.lies F w ⟨ta,oa,A,c,B,d⟩) (HB:Hist.lies G w ⟨tb,ob,A',c',B',d'⟩) (hra:Za ⟨ta,oa,A,c,B,d⟩=true) (hrb:Za ⟨tb,ob,A',c',B',d'⟩=true) (la:Zk ⟨ta,oa,A,c,B,d⟩=true) (lb:Zk ⟨tb,ob,A',c',B',d'⟩=true)
  {ks:List Int} (hk:ZL ⟨ta,oa,A,c,B,d⟩ ⟨tb,ob,A',c',B',d'⟩=ks):
  Calls Tryz.prog 58 #[.agg #[.slice A ta.length c,.slice B oa.length d],.agg #[.slice A' tb.length c',.slice B' ob.length d']] w fun e w'=>∃A' c',e= .returned (.tuple #[.slice A' ks.length c',.int .i64 0])∧w'.ownsRow w.heap.size 3 1 (.slice A' ks.length c') ks.length (ks.map (Value.int .i64))∧Upd No w w':=by
 obtain⟨a1,a2,a3⟩:=Zal la;obtain⟨b1,b2,b3⟩:=Zal lb;simp only at a1 a2 a3 b1 b2 b3;obtain⟨z,hz⟩:∃z,w.heap.size=z:=⟨_,rfl⟩;obtain⟨w1,hw1⟩:∃w1,w.alloc (.cells #[.slice A ta.length c,.slice B oa.length d] 29)=w1:=⟨_,rfl⟩;have s1:w1.heap.size=z+1:=by rw[←hw1,←hz];simp
 obtain⟨w2,hw2⟩:∃w2,w1.alloc (.cells #[.slice A' tb.length c',.slice B' ob.length d'] 29)=w2:=⟨_,rfl⟩;have s2:w2.heap.size=z+1+1:=by rw[←hw2,←s1];simp
 have u1:Upd No w w1:=by rw[←hw1];exact(Upd.refl No w).alloc _
 have u2:Upd No w1 w2:=by rw[←hw2];exact(Upd.refl No w1).alloc _
 have bA:Blk w2 z 29 [.slice A ta.length c,.slice B oa.length d]:=by
  have:Blk w1 z 29 [.slice A ta.length c,.slice B oa.length d]:=by rw[←hw1,←hz];exact Blk.new w _ _
  exact this.upd u2 id
 have bB:Blk w2 (z+1) 29 [.slice A' tb.length c',.slice B' ob.length d']:=by rw[←hw2,←s1];exact Blk.new w1 _ _
 have d0:∀W,Upd No w2 W→W.cell? ⟨z,0,none⟩=some (.slice A ta.length c):=fun W u=>(bA.upd u id).cell 0
 have d1:∀W,Upd No w2 W→W.cell? ⟨z,1,none⟩=some (.slice B oa.length d):=fun W u=>(bA.upd u id).cell 1
 have d2:∀W,Upd No w2 W→W.cell? ⟨z+1,0,none⟩=some (.slice A' tb.length c'):=fun W u=>(bB.upd u id).cell 0
 have d3:∀W,Upd No w2 W→W.cell? ⟨z+1,1,none⟩=some (.slice B' ob.length d'):=fun W u=>(bB.upd u id).cell 1
 have hxz:Upd No w2 w2:=Upd.refl _ _;have UB:=Qh (u1.trans u2);have CA:=Qh (Zn3 (HA.upd UB.out (fun _ _=>id)) (HB.upd UB.out (fun _ _=>id)) hra hrb (by omega) (by omega) (by omega) (by omega));have L1:(Zj ta tb).length≤12:=by have:(Zj ta tb).length≤ta.length:=List.length_filter_le _ _;omega
 have L2:(Zj tb ta).length≤12:=by have:(Zj tb ta).length≤tb.length:=List.length_filter_le _ _;omega
 have L3:(Zo oa ob).length≤24:=by have:(Zo oa ob).length≤oa.length:=List.length_filter_le _ _;omega
 have L4:(Zo ob oa).length≤24:=by have:(Zo ob oa).length≤ob.length:=List.length_filter_le _ _;omega
 have L5:∀t∈Zj ta tb++Zj tb ta,t.ops.length≤1000:=fun t ht=>by
  rcases List.mem_append.1 ht with h|h
  ·have:=a2 t (List.mem_filter.1 h).1;omega
  ·have:=b2 t (List.mem_filter.1 h).1;omega
 have HK:=Qh (show Za3 (twL (Zj ta tb++Zj tb ta)++(Zo oa ob++Zo ob oa).map (·.key))=ks from hk);have CK:=Qh (fun(W:World) (v:Value) (h:DelX (fun i=>w2.heap.size≤i) W v (Zj ta tb) (Zj tb ta) (Zo oa ob) (Zo ob oa))=>Zk6 h (by omega) L5 (by omega));rw[HK.out]at CK;clear HA HB bA bB u1 u2 hk L1 L2 L3 L4 L5 a1 a2 a3 b1 b2 b3
 go_enter Tryz.func58,Tryz.ntmps58
 go_wp2_with fail
 refine(CA.out).mono ?_;rintro e w3 ⟨v,rfl,hd,hu3⟩;have HD:=Qh hd;obtain⟨A1,c1,l1,A2,c2,l2,B1,d1,o1,B2,d2,o2,rfl,hd⟩:=hd;clear hd;obtain⟨w4,hw4⟩:∃w4,w3.alloc (.cells #[.slice A1 l1.length c1,.slice A2 l2.length c2,.slice B1 o1.length d1,.slice B2 o2.length d2] 61)=w4:=⟨_,rfl⟩;have u4:Upd No w3 w4:=by rw[←hw4];exact(Upd.refl No w3).alloc _
 have b4:Blk w4 w3.heap.size 61 [.slice A1 l1.length c1,.slice A2 l2.length c2,.slice B1 o1.length d1,.slice B2 o2.length d2]:=by rw[←hw4];exact Blk.new w3 _ _
 have f0:=b4.cell 0;have f1:=b4.cell 1;have f2:=b4.cell 2;have f3:=b4.cell 3;simp only[Qz,Qs]at f0 f1 f2 f3;have CK4:=Qh (CK.out w4 _ (HD.out.upd u4 (fun _ _=>id)));have HU4:=Qh ((UB.out.trans hu3).trans u4);clear u4 b4 hu3
 go_wp2_with fail
 refine(CK4.out).mono ?_;rintro e w5 ⟨A5,c5,rfl,ho5,hu5⟩;go_wp2
 go_ret2
 exact⟨A5,c5,rfl,ZK ho5 HU4.out.size,HU4.out.trans hu5⟩
end
end
end Go.Proofs.YtblplapkdmhikaaGreat
