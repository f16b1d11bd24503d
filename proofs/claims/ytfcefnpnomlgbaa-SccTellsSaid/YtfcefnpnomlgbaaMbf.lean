/- The document's digraph: an arc put among others. -/
import Derived.Test.YtfcefnpnomlgbaaMai
import Derived.Test.YtfcefnpnomlgbaaMbd
import Derived.Test.YtfcefnpnomlgbaaMbe
namespace Go.Proofs.Ytfcefnpnomlgbaa
set_option linter.unusedSimpArgs false
set_option linter.unusedVariables false
open Go.RowKit
set_option maxRecDepth 100000 in
set_option maxHeartbeats 2000000 in
theorem Zg1 (F:Nat→Prop) (w:World) (A:Option Addr) (c:Nat) (l:List HArc) (a:HArc) (h:ArcsL F w A l) (hl:l.length≤1000000):
  Calls Try.prog 9 #[.slice A l.length c,.agg a.cells.toArray] w (ZgQ w (ZK a false [] l)):=by
 have qN:=Zgx
 have qG:∀(op:BinOp) (x y:Operand) (xs ys:Array Value) (w:World),(eqGuard op 28 x y (.agg xs) (.agg ys)).run Try.prog w= .ok () w:=fun op x y xs ys w=>run_eqGuard_agg w op _ x y xs ys (by kernel_rfl)
 have HA:=Lib.hid h
 have UB:=Lib.hid ((Upd.refl No w).alloc (.cells #[.int .i64 a.f,.int .i64 a.t,.int .i64 a.kind,.int .i64 a.label] 28))
 have bB:=Lib.hid (Blk.new w 28 [.int .i64 a.f,.int .i64 a.t,.int .i64 a.kind,.int .i64 a.label])
 unfold HArc.cells
 clear h
 go_enter Try.func9,Try.ntmps9
 go_wp2
 go_loopg [5,6,11] l.length (fun gk s d i wr=>∃(k:Nat) (b:Bool) (A5:Option Addr) (c5:Nat) (xs:List HArc),k+gk=l.length∧i= .int .i64 k∧d= .bool b∧s= .slice A5 xs.length c5∧Hid (ZK a b xs (l.drop k)=ZK a false [] l)∧xs.length≤2*k∧
  wr.ownsRow (w.heap.size+1) 28 4 (.slice A5 xs.length c5) xs.length (Zw xs)∧Upd No w wr∧Blk wr w.heap.size 28 [.int .i64 a.f,.int .i64 a.t,.int .i64 a.kind,.int .i64 a.label])
 case atStart=>exact⟨0,false,none,0,[],by omega,rfl,rfl,rfl,Lib.hid rfl,by simp,World.ownsRow_nil _ _ _ _,UB.out,bB.out⟩
 case round=>
  obtain⟨k,b,A5,c5,xs,hgk,rfl,rfl,rfl,hs,hxl,hown,hu,hbl⟩:=hrel
  by_cases hlt:k<l.length
  ·obtain⟨ax,rfl,q0,q1,q2,q3⟩:=(HA.out.upd hu (fun _ _=>id)).at_ hlt
   obtain⟨x,hx⟩:∃x,l[k]=x:=⟨_,rfl⟩
   rw[hx]at q0 q1 q2 q3
   have hst:=hs.out
   rw[show l.drop k=x::l.drop (k+1) by rw[←hx];exact List.drop_eq_getElem_cons hlt]at hst
   have hst:ZK a (b|| !Zf x a) ((if !b&& !Zf x a then xs++[a] else xs)++(if x=a then [] else [x])) (l.drop (k+1))=ZK a false [] l:=hst
   clear hx
   have b1:(0:Int)≤(k:Int):=Int.natCast_nonneg _
   have b2:(k:Int)<(l.length:Int):=by omega
   have uA:=(Upd.refl No wr).alloc (.cells #[.int .i64 x.f,.int .i64 x.t,.int .i64 x.kind,.int .i64 x.label] 28)
   have bo:=Blk.new wr 28 [.int .i64 x.f,.int .i64 x.t,.int .i64 x.kind,.int .i64 x.label]
   have hown1:=Zb hown uA (fun _ _=>id)
   have hbA:=hbl.alloc (.cells #[.int .i64 x.f,.int .i64 x.t,.int .i64 x.kind,.int .i64 x.label] 28)
   have hz0:=hbl.lt
   have hzz:=hu.size
   have HNB:=Lib.hid (show¬Own (.slice A5 xs.length c5) w.heap.size from fun e=>by have:=(hown1.lt _ e).1;omega)
   have HNX:=Lib.hid (show¬Own (.slice A5 xs.length c5) wr.heap.size from fun e=>by have:=(hown.lt _ e).2;omega)
   have HL:=Lib.hid (ZbM xs)
   have HGE:=Lib.hid (fun i e=>(hown.lt i e).1)
   have Hu1:=Lib.hid (hu.trans uA)
   have HR:=Lib.hid (fun W=>ZgD W x a)
   have g0:=bo.cell 0
   have g1:=bo.cell 1
   have g2:=bo.cell 2
   have g3:=bo.cell 3
   have d0:=hbA.cell 0
   have d1:=hbA.cell 1
   have d2:=hbA.cell 2
   have d3:=hbA.cell 3
   simp only[List.getElem?_cons_zero,List.getElem?_cons_succ]at g0 g1 g2 g3 d0 d1 d2 d3
   have BX:=Lib.hid bo
   have BA:=Lib.hid hbA
   clear uA bo hbA
   cases b
   ·cases hr:Zf x a
    ·rw[hr]at hst HR
     simp only[Bool.not_false,Bool.true_and,if_true,Bool.false_or]at hst
     unfold HArc.cells at HR
     go_wp2_with fail
     refine(HR.out _).mono ?_
     rintro e w1 ⟨rfl,hu1⟩
     have bX1:=BX.out.upd hu1 id
     have bA1:=BA.out.upd hu1 id
     have f0:=bA1.cell 0
     have f1:=bA1.cell 1
     have f2:=bA1.cell 2
     have f3:=bA1.cell 3
     simp only[List.getElem?_cons_zero,List.getElem?_cons_succ]at f0 f1 f2 f3
     have hown2:=Zb hown1 hu1 (fun _ _=>id)
     have hz1:=hu1.size
     simp only[World.size_alloc]at hz1
     have HU2:=Lib.hid (Hu1.out.trans hu1)
     have BX1:=Lib.hid bX1
     have BA1:=Lib.hid bA1
     clear bX1 bA1 hown1 hu1
     by_cases hxa:x=a
     ·rw[if_pos hxa,List.append_nil]at hst
      have hb:(x != a)=false:=by rw[hxa];simp
      have HS:=Lib.hid hst
      clear hst hxa
      go_wp2_with (at_builtin;refine Zq rfl rfl Zav (v:= .slice A5 xs.length c5) (n:=xs.length) (xs:=Zw xs) (cells:=[.int .i64 a.f,.int .i64 a.t,.int .i64 a.kind,.int .i64 a.label]) (by rfl) rfl hown2 rfl rfl (by omega) (by omega) (by omega) ?_;intro g' c' w2 hown3 hu3 hg3 hlt3;have e0:=(BX1.out.upd hu3 HNX.out).cell 0;have e1:=(BX1.out.upd hu3 HNX.out).cell 1;have e2:=(BX1.out.upd hu3 HNX.out).cell 2;have e3:=(BX1.out.upd hu3 HNX.out).cell 3;have j0:=(BA1.out.upd hu3 HNB.out).cell 0;have j1:=(BA1.out.upd hu3 HNB.out).cell 1;have j2:=(BA1.out.upd hu3 HNB.out).cell 2;have j3:=(BA1.out.upd hu3 HNB.out).cell 3;simp only[List.getElem?_cons_zero,List.getElem?_cons_succ]at e0 e1 e2 e3 j0 j1 j2 j3)
      go_roundg (gk-1)
      case measure=>omega
      case rel=>
       exact⟨k+1,true,some ⟨g',0,none⟩,c',xs++[a],by omega,by go_num,rfl,by simp,HS,by simp;omega,by simpa[Zw,HArc.cells]using hown3,HU2.out.then_ hu3 fun i e=> .inr (by have:=HGE.out i e;omega),BA1.out.upd hu3 HNB.out⟩
     ·rw[if_neg hxa]at hst
      have hb:(x != a)=true:=by rw[bne_iff_ne];exact hxa
      have HS:=Lib.hid hst
      clear hst hxa
      go_wp2_with (at_builtin;(first
       |(refine Zq rfl rfl Zav (v:= .slice A5 xs.length c5) (n:=xs.length) (xs:=Zw xs) (cells:=[.int .i64 a.f,.int .i64 a.t,.int .i64 a.kind,.int .i64 a.label]) (by rfl) rfl hown2 rfl rfl (by omega) (by omega) (by omega) ?_;intro g' c' w2 hown3 hu3 hg3 hlt3;have e0:=(BX1.out.upd hu3 HNX.out).cell 0;have e1:=(BX1.out.upd hu3 HNX.out).cell 1;have e2:=(BX1.out.upd hu3 HNX.out).cell 2;have e3:=(BX1.out.upd hu3 HNX.out).cell 3;have j0:=(BA1.out.upd hu3 HNB.out).cell 0;have j1:=(BA1.out.upd hu3 HNB.out).cell 1;have j2:=(BA1.out.upd hu3 HNB.out).cell 2;have j3:=(BA1.out.upd hu3 HNB.out).cell 3;simp only[List.getElem?_cons_zero,List.getElem?_cons_succ]at e0 e1 e2 e3 j0 j1 j2 j3;have hz2:=hu3.size;have HU3:=Lib.hid (HU2.out.then_ hu3 fun i e=> .inr (by have:=HGE.out i e;omega));have BA2:=Lib.hid (BA1.out.upd hu3 HNB.out);have HGE2:=Lib.hid (fun i e=>(hown3.lt i e).1);have HNB2:=Lib.hid (show¬Own (.slice (some ⟨g',0,none⟩) (xs.length+1) c') w.heap.size from fun e=>by have:=HGE2.out _ e;omega);clear hg3 hu3)
       |(refine Zq rfl rfl Zav (v:= .slice (some ⟨g',0,none⟩) (xs.length+1) c') (n:=xs.length+1) (xs:=Zw xs++[.int .i64 a.f,.int .i64 a.t,.int .i64 a.kind,.int .i64 a.label]) (cells:=[.int .i64 x.f,.int .i64 x.t,.int .i64 x.kind,.int .i64 x.label]) (by rfl) rfl hown3 rfl rfl (by omega) (by omega) (by omega) ?_;intro g5 c6 w3 hown5 hu5 hg5 hlt5)))
      go_roundg (gk-1)
      case measure=>omega
      case rel=>
       exact⟨k+1,true,some ⟨g5,0,none⟩,c6,xs++[a]++[x],by omega,by go_num,rfl,by simp,HS,by simp;omega,by simpa[Zw,HArc.cells]using hown5,HU3.out.then_ hu5 fun i e=> .inr (by have:=HGE2.out i e;omega),BA2.out.upd hu5 HNB2.out⟩
    ·have hxa:¬x=a:=fun e=>Zal a (e▸hr)
     rw[hr,if_neg hxa]at hst
     rw[hr]at HR
     simp only[Bool.not_false,Bool.not_true,Bool.and_false,Bool.or_false]at hst
     rw[if_neg (show¬(false=true) by decide)]at hst
     have hb:(x != a)=true:=by rw[bne_iff_ne];exact hxa
     have HS:=Lib.hid hst
     clear hst hxa
     unfold HArc.cells at HR
     go_wp2_with fail
     refine(HR.out _).mono ?_
     rintro e w1 ⟨rfl,hu1⟩
     have bX1:=BX.out.upd hu1 id
     have bA1:=BA.out.upd hu1 id
     have f0:=bA1.cell 0
     have f1:=bA1.cell 1
     have f2:=bA1.cell 2
     have f3:=bA1.cell 3
     have e0:=bX1.cell 0
     have e1:=bX1.cell 1
     have e2:=bX1.cell 2
     have e3:=bX1.cell 3
     simp only[List.getElem?_cons_zero,List.getElem?_cons_succ]at e0 e1 e2 e3 f0 f1 f2 f3
     have hown2:=Zb hown1 hu1 (fun _ _=>id)
     have hz1:=hu1.size
     simp only[World.size_alloc]at hz1
     have HU2:=Lib.hid (Hu1.out.trans hu1)
     have BA1:=Lib.hid bA1
     clear bX1 bA1 hown1 hu1
     go_wp2_with (at_builtin;refine Zq rfl rfl Zav (v:= .slice A5 xs.length c5) (n:=xs.length) (xs:=Zw xs) (cells:=[.int .i64 x.f,.int .i64 x.t,.int .i64 x.kind,.int .i64 x.label]) (by rfl) rfl hown2 rfl rfl (by omega) (by omega) (by omega) ?_;intro g' c' w2 hown3 hu3 hg3 hlt3)
     go_roundg (gk-1)
     case measure=>omega
     case rel=>
      exact⟨k+1,false,some ⟨g',0,none⟩,c',xs++[x],by omega,by go_num,rfl,by simp,HS,by simp;omega,by simpa[Zw,HArc.cells]using hown3,HU2.out.then_ hu3 fun i e=> .inr (by have:=HGE.out i e;omega),BA1.out.upd hu3 HNB.out⟩
   ·simp only[Bool.not_true,Bool.false_and,Bool.true_or]at hst
    rw[if_neg (show¬(false=true) by decide)]at hst
    by_cases hxa:x=a
    ·rw[if_pos hxa,List.append_nil]at hst
     have hb:(x != a)=false:=by rw[hxa];simp
     have HS:=Lib.hid hst
     clear hst hxa HR
     go_wp2
     go_roundg (gk-1)
     case measure=>omega
     case rel=>exact⟨k+1,true,A5,c5,xs,by omega,by go_num,rfl,rfl,HS,by omega,hown1,Hu1.out,BA.out⟩
    ·rw[if_neg hxa]at hst
     have hb:(x != a)=true:=by rw[bne_iff_ne];exact hxa
     have HS:=Lib.hid hst
     clear hst hxa HR
     go_wp2_with (at_builtin;refine Zq rfl rfl Zav (base:=w.heap.size+1) (n:=xs.length) (xs:=Zw xs) (v:= .slice A5 xs.length c5) (cells:=[.int .i64 x.f,.int .i64 x.t,.int .i64 x.kind,.int .i64 x.label]) (c:=1) (by rfl) (by show Value.slice (some ⟨wr.heap.size+1,0,none⟩) 1 1=_;simp) hown1 rfl rfl (by omega) (by omega) (by simp;omega) ?_;intro g' c' w2 hown3 hu3 hg3 hlt3)
     go_roundg (gk-1)
     case measure=>omega
     case rel=>
      exact⟨k+1,true,some ⟨g',0,none⟩,c',xs++[x],by omega,by go_num,rfl,by simp,HS,by simp;omega,by simpa[Zw,HArc.cells]using hown3,Hu1.out.then_ hu3 fun i e=> .inr (by have:=HGE.out i e;omega),BA.out.upd hu3 HNB.out⟩
  ·obtain rfl:k=l.length:=by omega
   have hst:=hs.out
   rw[List.drop_length]at hst
   have hz0:=hbl.lt
   have hzz:=hu.size
   have HL:=Lib.hid (ZbM xs)
   have HGE:=Lib.hid (fun i e=>(hown.lt i e).1)
   have d0:=hbl.cell 0
   have d1:=hbl.cell 1
   have d2:=hbl.cell 2
   have d3:=hbl.cell 3
   simp only[List.getElem?_cons_zero,List.getElem?_cons_succ]at d0 d1 d2 d3
   clear hbl
   cases b
   ·have HS:=Lib.hid (show xs++[a]=ZK a false [] l from hst)
    clear hst
    go_wp2_with (at_builtin;refine Zq rfl rfl Zav (v:= .slice A5 xs.length c5) (n:=xs.length) (xs:=Zw xs) (cells:=[.int .i64 a.f,.int .i64 a.t,.int .i64 a.kind,.int .i64 a.label]) (by rfl) rfl hown rfl rfl (by omega) (by omega) (by omega) ?_;intro g' c' w2 hown3 hu3 hg3 hlt3)
    go_ret
    rw[←HS.out]
    refine⟨some ⟨g',0,none⟩,c',by simp,ZO (by simpa[Zw,HArc.cells]using hown3) (by omega),hu.then_ hu3 fun i e=> .inr (by have:=HGE.out i e;omega)⟩
   ·have HS:=Lib.hid (show xs=ZK a false [] l from hst)
    clear hst
    go_wp2
    go_ret
    rw[←HS.out]
    exact⟨A5,c5,rfl,ZO hown (by omega),hu⟩
theorem Zgh (F:Nat→Prop) (w:World) (A:Option Addr) (c:Nat) (l:List HArc) (node:Int) (h:ArcsL F w A l) (hl:l.length≤1000000):
  Calls Try.prog 40 #[.slice A l.length c,.int .i64 node,.bool false] w (Zad w (nxA node false l)):=by
 have HA:=Lib.hid h
 clear h
 go_enter Try.func40,Try.ntmps40
 go_wp2
 go_loopg [7,12] l.length (fun gk s i wr=>∃(k:Nat) (A5:Option Addr) (c5:Nat) (xs:List Int),k+gk=l.length∧i= .int .i64 k∧s= .slice A5 xs.length c5∧Hid (nxS node false xs (l.drop k)=nxA node false l)∧xs.length≤k∧
  wr.ownsRow w.heap.size 3 1 (.slice A5 xs.length c5) xs.length (xs.map (Value.int .i64))∧Upd No w wr)
 case atStart=>exact⟨0,none,0,[],by omega,rfl,rfl,Lib.hid rfl,by simp,World.ownsRow_nil _ _ _ _,Upd.refl _ _⟩
 case round=>
  obtain⟨k,A5,c5,xs,hgk,rfl,rfl,hs,hxl,hown,hu⟩:=hrel
  by_cases hlt:k<l.length
  ·obtain⟨ax,rfl,q0,q1,q2,q3⟩:=(HA.out.upd hu (fun _ _=>id)).at_ hlt
   obtain⟨x,hx⟩:∃x,l[k]=x:=⟨_,rfl⟩
   rw[hx]at q0 q1 q2 q3
   have hst:=hs.out
   rw[show l.drop k=x::l.drop (k+1) by rw[←hx];exact List.drop_eq_getElem_cons hlt]at hst
   have hst:nxS node false (if false=true then (if x.t=node then Zn x.f xs else xs) else (if x.f=node then Zn x.t xs else xs)) (l.drop (k+1))=nxA node false l:=hst
   clear hx
   have b1:(0:Int)≤(k:Int):=Int.natCast_nonneg _
   have b2:(k:Int)<(l.length:Int):=by omega
   have uA:=(Upd.refl No wr).alloc (.cells #[.int .i64 x.f,.int .i64 x.t,.int .i64 x.kind,.int .i64 x.label] 28)
   have bo:=Blk.new wr 28 [.int .i64 x.f,.int .i64 x.t,.int .i64 x.kind,.int .i64 x.label]
   have hown1:=Zb hown uA (fun _ _=>id)
   have g0:=bo.cell 0
   have g1:=bo.cell 1
   simp only[List.getElem?_cons_zero,List.getElem?_cons_succ]at g0 g1
   have Hu1:=Lib.hid (hu.trans uA)
   have hzz:=(hu.trans uA).size
   clear uA bo hown
   by_cases he:x.f=node
   ·have heb:(x.f==node)=true:=by rw[he];simp
    rw[if_neg (by decide)]at hst
    rw[if_pos he]at hst
    have HS:=Lib.hid hst
    have hp:=Lib.hid (ZgE _ _ A5 c5 xs x.t (Ints.of_own hown1) (by omega))
    have hpl:=Zdq x.t xs
    clear hst he
    go_wp2_with fail
    refine(hp.out).mono ?_
    rintro e w2 ⟨A2,c2,rfl,ho2,hu2⟩
    go_wp2
    go_roundg (gk-1)
    case measure=>omega
    case rel=>exact⟨k+1,A2,c2,Zn x.t xs,by omega,by go_num,rfl,HS,by omega,ZO ho2 hzz,Hu1.out.trans hu2⟩
   ·have heb:(x.f==node)=false:=by simpa using he
    rw[if_neg (by decide)]at hst
    rw[if_neg he]at hst
    have HS:=Lib.hid hst
    clear hst he
    go_wp2
    go_roundg (gk-1)
    case measure=>omega
    case rel=>exact⟨k+1,A5,c5,xs,by omega,by go_num,rfl,HS,by omega,hown1,Hu1.out⟩
  ·obtain rfl:k=l.length:=by omega
   have Hx:=Lib.hid (show xs=nxA node false l by have:=hs.out;rw[List.drop_length]at this;exact this)
   clear hs
   go_wp2
   go_ret
   rw[←Hx.out]
   exact⟨A5,c5,rfl,hown,hu⟩
end Go.Proofs.Ytfcefnpnomlgbaa
/- The document's digraph:whether an arc is right. -/
namespace Go.Proofs.Ytfcefnpnomlgbaa
set_option linter.unusedSimpArgs false
set_option linter.unusedVariables false
open Go.RowKit
theorem Zd4 (w:World) (N:Nat) (a:HArc):Calls Try.prog 8 #[.int .i64 (N:Int),.agg a.cells.toArray] w fun e w'=>e= .returned (.bool (Zc N a))∧Upd No w w':=by
 have U0:=Lib.hid ((Upd.refl No w).alloc (.cells a.cells.toArray 28))
 obtain⟨af,at',ak,al⟩:=a
 unfold HArc.cells at*
 by_cases h1:0≤af
 ·skip
  by_cases h2:af<(N:Int)
  ·skip
   by_cases h3:0≤at'
   ·skip
    by_cases h4:at'<(N:Int)
    ·skip
     by_cases h5:1≤ak
     ·skip
      by_cases h6:ak≤3
      ·skip
       by_cases h7:0≤al
       ·skip
        have HV:=Lib.hid (show Zc N ⟨af,at',ak,al⟩=decide (al≤1048575) by simp[Zc,Zk,h1,h2,h3,h4,h5,h6,h7])
        go_enter Try.func8,Try.ntmps8
        go_wp2
        go_ret
        exact⟨by rw[HV.out];rfl,U0.out⟩
       ·have HV:=Lib.hid (show Zc N ⟨af,at',ak,al⟩=false by simp[Zc,Zk,h7])
        go_enter Try.func8,Try.ntmps8
        go_wp2
        go_ret
        exact⟨by rw[HV.out];rfl,U0.out⟩
      ·have HV:=Lib.hid (show Zc N ⟨af,at',ak,al⟩=false by simp[Zc,Zk,h6])
       go_enter Try.func8,Try.ntmps8
       go_wp2
       go_ret
       exact⟨by rw[HV.out];rfl,U0.out⟩
     ·have HV:=Lib.hid (show Zc N ⟨af,at',ak,al⟩=false by simp[Zc,Zk,h5])
      go_enter Try.func8,Try.ntmps8
      go_wp2
      go_ret
      exact⟨by rw[HV.out];rfl,U0.out⟩
    ·have HV:=Lib.hid (show Zc N ⟨af,at',ak,al⟩=false by simp[Zc,Zk,h4])
     go_enter Try.func8,Try.ntmps8
     go_wp2
     go_ret
     exact⟨by rw[HV.out];rfl,U0.out⟩
   ·have HV:=Lib.hid (show Zc N ⟨af,at',ak,al⟩=false by simp[Zc,Zk,h3])
    go_enter Try.func8,Try.ntmps8
    go_wp2
    go_ret
    exact⟨by rw[HV.out];rfl,U0.out⟩
  ·have HV:=Lib.hid (show Zc N ⟨af,at',ak,al⟩=false by simp[Zc,Zk,h2])
   go_enter Try.func8,Try.ntmps8
   go_wp2
   go_ret
   exact⟨by rw[HV.out];rfl,U0.out⟩
 ·have HV:=Lib.hid (show Zc N ⟨af,at',ak,al⟩=false by simp[Zc,Zk,h1])
  go_enter Try.func8,Try.ntmps8
  go_wp2
  go_ret
  exact⟨by rw[HV.out];rfl,U0.out⟩
end Go.Proofs.Ytfcefnpnomlgbaa
/- Whether a number is among some. -/
namespace Go.Proofs.Ytfcefnpnomlgbaa
set_option linter.unusedSimpArgs false
set_option linter.unusedVariables false
open Go.RowKit
theorem ZgZ (w:World) (F:Nat→Prop) (A:Option Addr) (c:Nat) (l:List Int) (a:Int) (h:Ints F w A l) (hl:l.length≤4398046511103):
  Calls Try.prog 20 #[.slice A l.length c,.int .i64 a] w fun e w'=>e= .returned (.bool (decide (a∈l)))∧w=w':=by
 go_enter Try.func20,Try.ntmps20
 go_wp2
 go_loopg [9] l.length (fun gk i wr=>∃k:Nat,k+gk=l.length∧i= .int .i64 k∧Hid (decide (a∈l)=decide (a∈l.drop k))∧w=wr)
 case atStart=>exact⟨0,by omega,rfl,Lib.hid (by simp),rfl⟩
 case round=>
  obtain⟨k,hgk,rfl,hs,rfl⟩:=hrel
  by_cases hlt:k<l.length
  ·obtain⟨ax,rfl,hc0⟩:=h.at_ hlt
   obtain⟨x,hx⟩:∃x,l[k]=x:=⟨_,rfl⟩
   have hd:=Lib.hid (show l.drop k=x::l.drop (k+1) by rw[←hx];exact List.drop_eq_getElem_cons hlt)
   rw[hx]at hc0
   have b1:(0:Int)≤(k:Int):=Int.natCast_nonneg _
   have b2:(k:Int)<(l.length:Int):=by omega
   clear hx
   by_cases he:x=a
   ·have heb:(x==a)=true:=by rw[he];simp
    have He:=Lib.hid he
    clear he
    go_wp2
    go_ret
    exact⟨by rw[hs.out,hd.out,He.out];simp,rfl⟩
   ·have heb:(x==a)=false:=by simpa using he
    have He:=Lib.hid he
    clear he
    go_wp2
    go_roundg (gk-1)
    case measure=>omega
    case rel=>
     refine⟨k+1,by omega,by go_num,Lib.hid ?_,rfl⟩
     rw[hs.out,hd.out]
     have:=He.out
     simp only[List.mem_cons,decide_eq_decide]
     exact⟨fun e=>e.elim (fun e=>absurd e.symm this) id,.inr⟩
  ·obtain rfl:k=l.length:=by omega
   go_wp2
   go_ret
   exact⟨by rw[hs.out,List.drop_length];simp,rfl⟩
end Go.Proofs.Ytfcefnpnomlgbaa
/- Digraphs:the law of both sides. -/
namespace Go.Proofs.Ytfcefnpnomlgbaa
set_option linter.unusedSimpArgs false
set_option linter.unusedVariables false
open Go.RowKit
def DMa (w:World) (g N K:Nat) (q:List HArc) (W:World):Prop:=
 ∃G,DG W G (some ⟨g,0,none⟩) N K q∧Upd No w W∧∀k,G k→w.heap.size≤k
namespace DMa
variable {w W W':World} {g N K:Nat} {q:List HArc}
theorem no (h:DMa w g N K q W) (k:Upd No W W'):DMa w g N K q W':=by
 obtain⟨G,h1,h2,h3⟩:=h
 exact⟨G,h1.no k,h2.trans k,h3⟩
theorem upd (h:DMa w g N K q W):Upd No w W:=by
 obtain⟨G,h1,h2,h3⟩:=h
 exact h2
theorem is (h:DMa w g N K q W):∃G,DG W G (some ⟨g,0,none⟩) N K q:=by
 obtain⟨G,h1,h2,h3⟩:=h
 exact⟨G,h1⟩
end DMa
theorem Zg8 (w:World) (n:Int):Calls Try.prog 22 #[.int .i64 n] w fun e w'=>∃g,e= .returned (.pointer (some ⟨g,0,none⟩))∧DMa w g (Zp n) 0 [] w':=by
 refine(Zha w n).mono ?_
 rintro e w' ⟨G,g,rfl,h1,h2,h3⟩
 exact⟨g,rfl,G,h1,h2,h3⟩
theorem Zg9 {w W:World} {g N K:Nat} {q:List HArc} (h:DMa w g N K q W) (hK:K<100000) (a:HArc):Calls Try.prog 21 #[.pointer (some ⟨g,0,none⟩),.agg a.cells.toArray] W fun e w'=>e= .returned (.int .i64 (Zce N q a))∧DMa w g N (K+1) (Zat N q a) w':=by
 obtain⟨G,h1,h2,h3⟩:=h
 refine(Zhb h1 hK a).mono ?_
 rintro e w' ⟨G',rfl,k1,k2,k3⟩
 refine⟨rfl,G',k1,h2.then_ k2 fun i e=> .inr (h3 i e),fun k hk=> ?_⟩
 have:=h2.size
 rcases k3 k hk with e|e
 ·exact h3 k e
 ·omega
def Zaa (N:Nat):List HArc→List HArc→List HArc
 |q,[]=>q
 |q,a::l=>Zaa N (Zat N q a) l
theorem Zcu (N:Nat) (q:List HArc) (a:HArc) (l:List HArc):Zaa N q (a::l)=Zaa N (Zat N q a) l:=rfl
theorem Zdk (w:World) (F G:Nat→Prop) (A B:Option Addr) (c d:Nat) (xs:List Int) (hx:Ints F w A xs) (hy:Ints G w B xs) (hl:xs.length≤1048576):
  Calls Try.prog 12 #[.slice A xs.length c,.slice B xs.length d] w fun e w'=>e= .returned (.bool true)∧Upd No w w':=by
 refine(ZbO w F G A B c d xs xs hx hy hl hl).mono ?_
 rintro e w' ⟨rfl,h⟩
 exact⟨by simp,h⟩
end Go.Proofs.Ytfcefnpnomlgbaa
