/- Components of a digraph, the document's: labels, members, who goes round. -/
import Derived.Test.YtfcefnpnomlgbaaMai
import Derived.Test.YtfcefnpnomlgbaaMbh
import Derived.Test.YtfcefnpnomlgbaaMbo
namespace Go.Proofs.Ytfcefnpnomlgbaa
set_option linter.unusedSimpArgs false
set_option linter.unusedVariables false
open Go.RowKit
theorem Zcn (q:List HArc) (i:Int):(Ze q i).length≤q.length:=by
 unfold Ze
 refine ZcE q (B:=q.length) (fun out h1 h2=> ?_) _ _ (fun x hx=> ?_) (Zbc _ _ _ _ List.Pairwise.nil)
 ·have:=ZX out (q.map (·.t)) (ZbQ h2) fun x hx=>by
   obtain⟨a,ha,rfl⟩:=h1 x hx
   exact List.mem_map.2 ⟨a,ha,rfl⟩
  rwa [List.length_map]at this
 ·obtain⟨a,ha,_,rfl⟩:=mem_nxF.1 hx
  exact⟨a,ha,rfl⟩
theorem Zdy (q:List HArc) (i:Int):(nxA i false q).length≤q.length:=by
 have:=ZX (nxA i false q) (q.map (·.t)) (ZbQ (Zbc _ _ _ _ List.Pairwise.nil)) fun x hx=>by
  obtain⟨a,ha,_,rfl⟩:=mem_nxF.1 hx
  exact List.mem_map.2 ⟨a,ha,rfl⟩
 rwa [List.length_map]at this
def Zb6 (q:List HArc) (k:Nat):List Value:=(List.range k).map fun i=>Value.int .i64 (Za q i:Int)
theorem ZeZ (q:List HArc) (k:Nat):Zb6 q (k+1)=Zb6 q k++[Value.int .i64 (Za q k:Int)]:=by unfold Zb6;rw[List.range_succ,List.map_append];rfl
theorem Zg4 (q:List HArc) (N:Nat):(Zi N q).map (Value.int .i64)=Zb6 q N:=by unfold Zi Zb6;rw[List.map_map];rfl
set_option maxRecDepth 100000 in
set_option maxHeartbeats 4000000 in
theorem Zgg (F:Nat→Prop) (w:World) (A:Option Addr) (c N:Nat) (q:List HArc) (h:ArcsL F w A q) (hl:q.length≤1000) (hN:N≤4096):
  Calls Try.prog 11 #[.int .i64 (N:Int),.slice A q.length c] w (Zad w (Zi N q)):=by
 have HR:=Lib.hid (fun(W:World) (u:Upd No w W) (i:Int)=>ZeQ F W A c q i (Recs.upd h u fun _ _=>id) hl (Nat.le_trans (Zdy q i) (by omega)))
 have HLN:=Lib.hid (fun i=>Nat.le_trans (Zcn q i) hl)
 have hNN:=Lib.hid hN
 clear h
 go_enter Try.func11,Try.ntmps11
 go_wp2
 go_loopg [5,6] N (fun gk s i wr=>∃(k:Nat) (A5:Option Addr) (c5:Nat) (vs:List Value),k+gk=N∧i= .int .i64 (k:Int)∧s= .slice A5 k c5∧Hid (vs.length=k)∧Hid (wr.ownsRow w.heap.size 32 1 (.slice A5 k c5) k vs)∧Hid (RowsOk (fun i=>¬Own (.slice A5 0 0) i) wr vs fun j=>Ze q (j:Int))∧Hid (Upd No w wr))
 case atStart=>exact⟨0,none,0,[],by omega,rfl,rfl,Lib.hid rfl,Lib.hid (World.ownsRow_nil _ _ _ _),Lib.hid ⟨fun j hj=>by simp at hj⟩,Lib.hid (Upd.refl _ _)⟩
 case round=>
  obtain⟨k,A5,c5,vs,hgk,rfl,rfl,hvl,hown,hrows,hu⟩:=hrel
  by_cases hk:k<N
  ·have b1:(k:Int)<(N:Int):=by omega
   have kw:IntKind.i64.wrap ((k:Int)+1)=(k:Int)+1:=by have:=hNN.out;exact IntWalk.i64_in _ (by omega)
   have HC:=Lib.hid (HR.out wr hu.out (k:Int))
   go_wp2_with fail
   refine(HC.out).mono ?_
   rintro e w2 ⟨B2,d2,rfl,ho2,hu2⟩
   have HI2:=Lib.hid (show Ints (fun i=>wr.heap.size≤i) w2 B2 (Ze q (k:Int)) from Ints.of_owned ho2)
   have HOW2:=Lib.hid (Zb hown.out hu2 (fun _ _=>id))
   have HRW2:=Lib.hid (hrows.out.upd hu2 (fun _ _=>id))
   have HU2:=Lib.hid (hu.out.trans hu2)
   have HZ2:=Lib.hid hu2.size
   clear ho2 hu2 HC
   have hk4:k≤4096:=by have:=hNN.out;omega
   go_wp2_with (at_builtin;refine Zq rfl rfl ZeM (v:= .slice A5 k c5) (n:=k) (xs:=vs) (cells:=[.slice B2 (Ze q (k:Int)).length d2]) (by rfl) rfl HOW2.out rfl rfl (by omega) (by omega) HU2.out.size ?_;intro g9 c9 w9 hown9 hu9 hg9 hlt9;have HO9:=Lib.hid hown9;have HU9:=Lib.hid hu9;have HG9:=Lib.hid hg9;clear hown9 hu9 hg9 hlt9)
   have hnot:∀i,i<w2.heap.size→¬Own (.slice A5 0 0) i→¬Own (.slice (some ⟨g9,0,none⟩) 0 0) i:=fun i hi hn e=>by
    have e1:=Zgn e
    rcases HG9.out with h|h
    ·exact hn (ZcB (e1▸h))
    ·omega
   go_roundg (gk-1)
   case measure=>omega
   case rel=>exact⟨k+1,some ⟨g9,0,none⟩,c9,vs++[.slice B2 (Ze q (k:Int)).length d2],by omega,by simp,rfl,Lib.hid (by rw[List.length_append,hvl.out];rfl),HO9,Lib.hid (((RowsOk.app (HRW2.out) (by rw[hvl.out];exact⟨B2,d2,rfl,HI2.out.weak (fun i _ hi e=>by have:=(hown.out.lt i (ZcB e)).2;omega)⟩)).weak (G:=fun i=>i<w2.heap.size∧¬Own (.slice A5 0 0) i) (fun i hi hn=>⟨hi,hn⟩)).upd HU9.out (fun i hi e=>hi.2 (ZcB e)) |>.weak (fun i hi hn=>hnot i hn.1 hn.2)),Lib.hid (HU2.out.then_ HU9.out (fun i e=>Or.inr (hown.out.lt i e).1))⟩
  ·obtain rfl:k=N:=by omega
   have b1:¬((k:Int)<(k:Int)):=by omega
   have HRA:=Lib.hid (Zeo hown.out hvl.out hrows.out)
   have HUO:=Lib.hid hu.out
   obtain⟨wo,hwo⟩:∃wo,wo=wr:=⟨_,rfl⟩
   subst hwo
   obtain⟨N,hNk⟩:∃N,k=N:=⟨_,rfl⟩
   subst hNk
   clear hown hvl hrows hu HR
   go_wp2
   go_loopg [7,8] k (fun gk s i wx=>∃(n:Nat) (A7:Option Addr) (c7:Nat),n+gk=k∧i= .int .i64 (n:Int)∧s= .slice A7 n c7∧Hid (wx.ownsRow wo.heap.size 3 1 (.slice A7 n c7) n (Zb6 q n))∧Hid (Upd No wo wx))
   case atStart=>exact⟨0,none,0,by omega,rfl,rfl,Lib.hid (World.ownsRow_nil _ _ _ _),Lib.hid (Upd.refl _ _)⟩
   case round=>
    obtain⟨n,A7,c7,hgn,rfl,rfl,hown,hu⟩:=hrel
    by_cases hn:n<k
    ·have n0:(0:Int)≤(n:Int):=Int.natCast_nonneg _
     have n1:(n:Int)<(k:Int):=by omega
     have nw:IntKind.i64.wrap ((n:Int)+1)=(n:Int)+1:=by have:=hNN.out;exact IntWalk.i64_in _ (by omega)
     have nw2:IntKind.i64.wrap ((n:Int)-1)=(n:Int)-1:=by have:=hNN.out;exact IntWalk.i64_in _ (by omega)
     obtain⟨wp,hwp⟩:∃wp,wp=wr:=⟨_,rfl⟩
     subst hwp
     obtain⟨m0,hm0⟩:∃m0,m0=gk:=⟨_,rfl⟩
     subst hm0
     have HL0:=Lib.hid (show Zay (Z0 q n) n n=Za q n from rfl)
     obtain⟨LL,hLL⟩:∃LL,Za q n=LL:=⟨_,rfl⟩
     rw[hLL]at HL0
     have HLL:=Lib.hid hLL
     clear hLL
     go_wp2
     go_loopg [9,10] n (fun gk s9 s10 wx=>∃(l:Nat),s9= .int .i64 (l:Int)∧s10= .int .i64 ((gk:Int)-1)∧Hid (Zay (Z0 q n) gk l=LL)∧gk≤n∧Hid (Upd No wp wx))
     case atStart=>exact⟨n,rfl,rfl,HL0,Nat.le_refl _,Lib.hid (Upd.refl _ _)⟩
     case round=>
      obtain⟨l,rfl,rfl,hl,hgn2,hup⟩:=hrel
      cases gk with
      |zero=>
       have HX:=Lib.hid (show l=LL from hl.out)
       have z1:¬((0:Int)≤((0:Nat):Int)-1):=by omega
       have HO2:=Lib.hid (Zb hown.out hup.out (fun _ _=>id))
       have HU2:=Lib.hid (hu.out.trans hup.out)
       have HZ2:=Lib.hid HU2.out.size
       have hn4:n≤4096:=by have:=hNN.out;omega
       clear hl
       go_wp2_with (at_builtin;refine Zq rfl rfl Zaj (v:= .slice A7 n c7) (n:=n) (xs:=Zb6 q n) (cells:=[.int .i64 (l:Int)]) (by rfl) rfl HO2.out rfl rfl (by omega) (by omega) HZ2.out ?_;intro g9 c9 w9 hown9 hu9 hg9 hlt9;have HO9:=Lib.hid hown9;have HU9:=Lib.hid hu9;clear hown9 hu9 hg9 hlt9)
       go_roundg (m0-1)
       case measure=>omega
       case rel=>exact⟨n+1,some ⟨g9,0,none⟩,c9,by omega,by simp,rfl,Lib.hid (by rw[ZeZ,HLL.out,←HX.out];exact HO9.out),Lib.hid (HU2.out.then_ HU9.out (fun i e=>Or.inr (hown.out.lt i e).1))⟩
      |succ g=>
       have e0:((g+1:Nat):Int)-1=(g:Int):=by omega
       have e1:(0:Int)≤(g:Int):=Int.natCast_nonneg _
       have e2:(g:Int)<(k:Int):=by omega
       have gw:IntKind.i64.wrap ((g:Int)-1)=(g:Int)-1:=by have:=hNN.out;exact IntWalk.i64_in _ (by omega)
       rw[e0]
       clear e0
       have HLT:=Lib.hid (show Zay (Z0 q n) g (if Z0 q n g=true then g else l)=LL from hl.out)
       have hb:Z0 q n g=(decide ((g:Int)∈Ze q (n:Int))&&decide ((n:Int)∈Ze q (g:Int))):=rfl
       have h1:=(HRA.out.upd (hu.out.trans hup.out)).at_ n hn
       have h2:=(HRA.out.upd (hu.out.trans hup.out)).at_ g (by omega)
       obtain⟨ad,B,cB,rfl,q1,i1⟩:=h1
       obtain⟨ad2,B2,cB2,ea,q2,i2⟩:=h2
       obtain rfl:ad=ad2:=Option.some.inj ea
       cases c1:decide ((g:Int)∈Ze q (n:Int))
       ·have HI1:=Lib.hid (Za3 wr _ B cB _ (g:Int) i1 (by have:=HLN.out (n:Int);omega) c1)
        have HS:=Lib.hid (show Zay (Z0 q n) g l=LL by have:=HLT.out;rw[hb,c1]at this;exact this)
        clear c1 hb i1 i2 hl HLT ea
        go_wp2_with fail
        refine(HI1.out).mono ?_
        rintro e w2 ⟨rfl,rfl⟩
        go_wp2
        go_roundg g
        case measure=>omega
        case rel=>exact⟨l,rfl,rfl,HS,by omega,hup⟩
       ·have HI1:=Lib.hid (Za3 wr _ B cB _ (g:Int) i1 (by have:=HLN.out (n:Int);omega) c1)
        cases c2:decide ((n:Int)∈Ze q (g:Int))
        ·have HI2:=Lib.hid (Za3 wr _ B2 cB2 _ (n:Int) i2 (by have:=HLN.out (g:Int);omega) c2)
         have HS:=Lib.hid (show Zay (Z0 q n) g l=LL by have:=HLT.out;rw[hb,c1,c2]at this;exact this)
         clear c1 c2 hb i1 i2 hl HLT ea
         go_wp2_with fail
         refine(HI1.out).mono ?_
         rintro e w2 ⟨rfl,rfl⟩
         go_wp2_with fail
         refine(HI2.out).mono ?_
         rintro e w2 ⟨rfl,rfl⟩
         go_wp2
         go_roundg g
         case measure=>omega
         case rel=>exact⟨l,rfl,rfl,HS,by omega,hup⟩
        ·have HI2:=Lib.hid (Za3 wr _ B2 cB2 _ (n:Int) i2 (by have:=HLN.out (g:Int);omega) c2)
         have HS:=Lib.hid (show Zay (Z0 q n) g g=LL by have:=HLT.out;rw[hb,c1,c2]at this;exact this)
         clear c1 c2 hb i1 i2 hl HLT ea
         go_wp2_with fail
         refine(HI1.out).mono ?_
         rintro e w2 ⟨rfl,rfl⟩
         go_wp2_with fail
         refine(HI2.out).mono ?_
         rintro e w2 ⟨rfl,rfl⟩
         go_wp2
         go_roundg g
         case measure=>omega
         case rel=>exact⟨g,rfl,rfl,HS,by omega,hup⟩
    ·obtain rfl:n=k:=by omega
     have n1:¬((n:Int)<(n:Int)):=by omega
     have HLN2:=Lib.hid (show(Zi n q).length=n by unfold Zi;simp)
     go_wp2
     go_ret
     refine⟨A7,c7,by rw[HLN2.out];rfl,?_,HUO.out.trans hu.out⟩
     rw[Zg4,HLN2.out]
     exact ZO hown.out HUO.out.size
set_option maxRecDepth 100000 in
theorem Zfq (F:Nat→Prop) (w:World) (A:Option Addr) (c:Nat) (l:List Int) (x:Int) (h:Ints F w A l) (hl:l.length≤100000):
  Calls Try.prog 17 #[.slice A l.length c,.int .i64 x] w (Zad w (ZL l x 0 l)):=by
 have HA:=Lib.hid h
 clear h
 go_enter Try.func17,Try.ntmps17
 go_wp2
 go_loopg [5,10] l.length (fun gk s i wr=>∃(k:Nat) (A5:Option Addr) (c5:Nat) (xs:List Int),k+gk=l.length∧i= .int .i64 (k:Int)∧s= .slice A5 xs.length c5∧Hid (xs++ZL l x k (l.drop k)=ZL l x 0 l)∧Hid (xs.length≤k)∧Hid (wr.ownsRow w.heap.size 3 1 (.slice A5 xs.length c5) xs.length (xs.map (Value.int .i64)))∧Hid (Upd No w wr))
 case atStart=>exact⟨0,none,0,[],by omega,rfl,rfl,Lib.hid rfl,Lib.hid (Nat.le_refl _),Lib.hid (World.ownsRow_nil _ _ _ _),Lib.hid (Upd.refl _ _)⟩
 case round=>
  obtain⟨k,A5,c5,xs,hgk,rfl,rfl,hs,hxl,hown,hu⟩:=hrel
  by_cases hk:k<l.length
  ·obtain⟨ad,rfl,_,_,q0⟩:=(HA.out.upd hu.out (fun _ _=>id)).at_ hk
   obtain⟨y,hy⟩:∃y,l[k]=y:=⟨_,rfl⟩
   rw[hy]at q0
   have hst:=hs.out
   rw[show l.drop k=y::l.drop (k+1) by rw[←hy];exact List.drop_eq_getElem_cons hk]at hst
   have hst:xs++(if y=x then (k:Int)::ZL l x (k+1) (l.drop (k+1)) else ZL l x (k+1) (l.drop (k+1)))=ZL l x 0 l:=hst
   have b0:(0:Int)≤(k:Int):=Int.natCast_nonneg _
   have b1:(k:Int)<(l.length:Int):=by omega
   have kw:IntKind.i64.wrap ((k:Int)+1)=(k:Int)+1:=IntWalk.i64_in _ (by omega)
   have hxx:xs.length≤100000:=by have:=hxl.out;omega
   clear hy hs
   by_cases he:y=x
   ·have eb:(y==x)=true:=by rw[he];simp
    have HS:=Lib.hid (show(xs++[(k:Int)])++ZL l x (k+1) (l.drop (k+1))=ZL l x 0 l by rw[if_pos he]at hst;rw[List.append_assoc];exact hst)
    clear hst he
    go_wp2_with (at_builtin;refine Zq rfl rfl Zaj (v:= .slice A5 xs.length c5) (n:=xs.length) (xs:=xs.map (Value.int .i64)) (cells:=[.int .i64 (k:Int)]) (by rfl) rfl hown.out rfl rfl (by omega) (by omega) hu.out.size ?_;intro g9 c9 w9 hown9 hu9 hg9 hlt9;have HO9:=Lib.hid hown9;have HU9:=Lib.hid hu9;clear hown9 hu9 hg9 hlt9)
    go_roundg (gk-1)
    case measure=>omega
    case rel=>exact⟨k+1,some ⟨g9,0,none⟩,c9,xs++[(k:Int)],by omega,by simp,by simp,HS,Lib.hid (by simp;exact hxl.out),Lib.hid (by simpa using HO9.out),Lib.hid (hu.out.then_ HU9.out (fun i e=>Or.inr (hown.out.lt i e).1))⟩
   ·have eb:(y==x)=false:=by rw[beq_eq_false_iff_ne];exact he
    have HS:=Lib.hid (show xs++ZL l x (k+1) (l.drop (k+1))=ZL l x 0 l by rw[if_neg he]at hst;exact hst)
    clear hst he
    go_wp2
    go_roundg (gk-1)
    case measure=>omega
    case rel=>exact⟨k+1,A5,c5,xs,by omega,by simp,rfl,HS,Lib.hid (by have:=hxl.out;omega),hown,hu⟩
  ·obtain rfl:k=l.length:=by omega
   have HX:=Lib.hid (show xs=ZL l x 0 l by have:=hs.out;rw[List.drop_length]at this;simpa[ZL]using this)
   have b1:¬((l.length:Int)<(l.length:Int)):=by omega
   clear hs
   go_wp2
   go_ret
   rw[←HX.out]
   exact⟨A5,c5,rfl,hown.out,hu.out⟩
def ZbB (q:List HArc) (k:Nat):List Int:=((List.range k).filter fun i:Nat=>decide ((i:Int)∈Ze q i)).map fun i:Nat=>(i:Int)
theorem ZcR (q:List HArc) (k:Nat):ZbB q (k+1)=ZbB q k++if decide ((k:Int)∈Ze q (k:Int))=true then [(k:Int)] else []:=by
 unfold ZbB
 rw[List.range_succ,List.filter_append,List.map_append]
 congr 1
 by_cases h:decide ((k:Int)∈Ze q (k:Int))=true
 ·rw[if_pos h];simp[of_decide_eq_true h]
 ·rw[if_neg h];simp[show¬(k:Int)∈Ze q (k:Int) from fun e=>h (decide_eq_true e)]
theorem Zdm (q:List HArc) (k:Nat):(ZbB q k).length≤k:=by
 unfold ZbB
 rw[List.length_map]
 have:=List.length_filter_le (fun i:Nat=>decide ((i:Int)∈Ze q i)) (List.range k)
 rwa [List.length_range]at this
set_option maxRecDepth 100000 in
theorem ZgA (F:Nat→Prop) (w:World) (A:Option Addr) (c N:Nat) (q:List HArc) (h:ArcsL F w A q) (hl:q.length≤1000) (hN:N≤4096):
  Calls Try.prog 15 #[.int .i64 (N:Int),.slice A q.length c] w (Zad w (ZT N q)):=by
 have HR:=Lib.hid (fun(W:World) (u:Upd No w W) (i:Int)=>ZeQ F W A c q i (Recs.upd h u fun _ _=>id) hl (Nat.le_trans (Zdy q i) (by omega)))
 have HLN:=Lib.hid (fun i=>Nat.le_trans (Zcn q i) hl)
 have hNN:=Lib.hid hN
 clear h
 go_enter Try.func15,Try.ntmps15
 go_wp2
 go_loopg [5,6] N (fun gk s i wr=>∃(k:Nat) (A5:Option Addr) (c5:Nat) (xs:List Int),k+gk=N∧i= .int .i64 (k:Int)∧s= .slice A5 xs.length c5∧Hid (xs=ZbB q k)∧Hid (wr.ownsRow w.heap.size 3 1 (.slice A5 xs.length c5) xs.length (xs.map (Value.int .i64)))∧Hid (Upd No w wr))
 case atStart=>exact⟨0,none,0,[],by omega,rfl,rfl,Lib.hid rfl,Lib.hid (World.ownsRow_nil _ _ _ _),Lib.hid (Upd.refl _ _)⟩
 case round=>
  obtain⟨k,A5,c5,xs,hgk,rfl,rfl,hs,hown,hu⟩:=hrel
  have hxk:xs.length≤k:=by rw[hs.out];exact Zdm q k
  by_cases hk:k<N
  ·have b1:(k:Int)<(N:Int):=by omega
   have kw:IntKind.i64.wrap ((k:Int)+1)=(k:Int)+1:=by have:=hNN.out;exact IntWalk.i64_in _ (by omega)
   have hk4:k≤4096:=by have:=hNN.out;omega
   have HC:=Lib.hid (HR.out wr hu.out (k:Int))
   go_wp2_with fail
   refine(HC.out).mono ?_
   rintro e w2 ⟨B2,d2,rfl,ho2,hu2⟩
   have HI2:=Lib.hid (Ints.of_owned ho2)
   have HO2:=Lib.hid (Zb hown.out hu2 (fun _ _=>id))
   have HU2:=Lib.hid (hu.out.trans hu2)
   clear ho2 hu2 HC
   cases hb:decide ((k:Int)∈Ze q (k:Int))
   ·have HIN:=Lib.hid (Za3 w2 _ B2 d2 _ (k:Int) HI2.out (by have:=HLN.out (k:Int);omega) hb)
    have HS:=Lib.hid (show xs=ZbB q (k+1) by rw[ZcR,hb,hs.out];simp)
    clear hb
    go_wp2_with fail
    refine(HIN.out).mono ?_
    rintro e w3 ⟨rfl,rfl⟩
    go_wp2
    go_roundg (gk-1)
    case measure=>omega
    case rel=>exact⟨k+1,A5,c5,xs,by omega,by simp,rfl,HS,HO2,HU2⟩
   ·have HIN:=Lib.hid (Za3 w2 _ B2 d2 _ (k:Int) HI2.out (by have:=HLN.out (k:Int);omega) hb)
    have HS:=Lib.hid (show xs++[(k:Int)]=ZbB q (k+1) by rw[ZcR,hb,hs.out];simp)
    clear hb
    go_wp2_with fail
    refine(HIN.out).mono ?_
    rintro e w3 ⟨rfl,rfl⟩
    go_wp2_with (at_builtin;refine Zq rfl rfl Zaj (v:= .slice A5 xs.length c5) (n:=xs.length) (xs:=xs.map (Value.int .i64)) (cells:=[.int .i64 (k:Int)]) (by rfl) rfl HO2.out rfl rfl (by omega) (by omega) HU2.out.size ?_;intro g9 c9 w9 hown9 hu9 hg9 hlt9;have HO9:=Lib.hid hown9;have HU9:=Lib.hid hu9;clear hown9 hu9 hg9 hlt9)
    go_roundg (gk-1)
    case measure=>omega
    case rel=>exact⟨k+1,some ⟨g9,0,none⟩,c9,xs++[(k:Int)],by omega,by simp,by simp,HS,Lib.hid (by simpa using HO9.out),Lib.hid (HU2.out.then_ HU9.out (fun i e=>Or.inr (hown.out.lt i e).1))⟩
  ·obtain rfl:k=N:=by omega
   have b1:¬((k:Int)<(k:Int)):=by omega
   have HX:=Lib.hid (show xs=ZT k q from hs.out)
   clear hs
   go_wp2
   go_ret
   rw[←HX.out]
   exact⟨A5,c5,rfl,hown.out,hu.out⟩
end Go.Proofs.Ytfcefnpnomlgbaa
/- Components of a digraph:the law's asking for some answers. -/
namespace Go.Proofs.Ytfcefnpnomlgbaa
set_option linter.unusedSimpArgs false
set_option linter.unusedVariables false
open Go.RowKit
def l23:List HArc:=[⟨0,1,1,0⟩,⟨1,0,2,0⟩,⟨1,2,1,0⟩]
def q23:List HArc:=Zaa 3 [] l23
theorem Zhq:Zi 3 (ofA 14 q23)=[0,0,2]:=by kernel_rfl
theorem Zhp:Zi 3 (ofA 2 q23)=[0,1,2]:=by kernel_rfl
theorem Zho:ZT 3 (ofA 14 q23)=[0,1]:=by kernel_rfl
theorem Zhn:ZT 3 (ofA 2 q23)=[]:=by kernel_rfl
theorem Zhm:Zh (Za (ofA 14 q23)) 3=[[0,1],[2]]:=by kernel_rfl
theorem Zhl:Zi 0 (ofA 14 [])=[]:=by kernel_rfl
theorem Zcd {w:World} {G:Nat→Prop} {p:Option Addr} {N K:Nat} {q:List HArc} (hD:DG w G p N K q) (hN:N≤4096) (mask:Int) (l:List Int) (e:Zi N (ofA mask q)=l):
  Calls Try.prog 13 #[.pointer p,.int .i64 mask] w (Zad w l):=e▸ZcK hD hN mask
theorem Zeg {w:World} {G:Nat→Prop} {p:Option Addr} {N K:Nat} {q:List HArc} (hD:DG w G p N K q) (hN:N≤4096) (mask:Int) (l:List Int) (e:ZT N (ofA mask q)=l):
  Calls Try.prog 14 #[.pointer p,.int .i64 mask] w (Zad w l):=e▸Zfb hD hN mask
theorem Zez {W:World} (l:List HArc) (e:TypeId):ArcsL (fun i=>i=W.heap.size) (W.alloc (.cells (Zw l).toArray e)) (some ⟨W.heap.size,0,none⟩) l:=fun _=>by
 refine⟨_,rfl,rfl,by simp,fun i row hi j v hj=> ?_⟩
 rw[List.getElem?_map,Option.map_eq_some_iff]at hi
 obtain⟨a,ha,rfl⟩:=hi
 have e1:(⟨W.heap.size,0,none⟩:Addr).add (i*4+j)=⟨W.heap.size,i*4+j,none⟩:=by unfold Addr.add;split<;>simp_all
 rw[e1,cell_of_row _ _ _ _ e (0,0) (heap_alloc_new W _),List.getElem?_toArray]
 unfold Zw
 exact ZdM (Zeh l) (by rw[List.getElem?_map,ha];rfl) hj
theorem PartsW.read {w:World} {base:Nat} {A:Option Addr} {n c:Nat} {ps:List PV} (h:PartsW w base (.slice A n c) ps) (hn:n=ps.length) {i:Nat} {p:PV} (hi:ps[i]? =some p):
  ∃g,A=some ⟨g,0,none⟩∧w.cell? ⟨g,i,none⟩=some (.slice p.A p.l.length p.c)∧Ints (fun _=>True) w p.A (p.l.map fun x:Nat=>(x:Int)):=by
 subst hn
 have hl:i<ps.length:=(List.getElem?_eq_some_iff.1 hi).1
 have hrow:=h.rows i p hi
 obtain⟨g,cur,rfl,hg,hb,hnc,hcl,hx,hc⟩:=ZI h.own (by omega)
 refine⟨g,rfl,?_,?_⟩
 ·have h2:(cur.take (ps.length*1))[i]? =some p.v:=by rw[hx,List.getElem?_map,hi];rfl
  rw[List.getElem?_take,if_pos (by omega)]at h2
  rw[hb.cell];exact h2
 ·rw[Zan]at hrow
  exact Ints.weak (Ints.of_own hrow) (fun _ _ _=>trivial)
set_option maxRecDepth 100000 in
set_option maxHeartbeats 4000000 in
theorem Zgq (w:World):Calls Try.prog 5 #[] w fun e w'=>e= .returned (.bool true)∧Upd No w w':=by
 have HMa:=Lib.hid (fun(W:World) (F:Nat→Prop) (A:Option Addr) (c:Nat) (h:ArcsL F W A l23)=>(show Zp 3=3 by decide)▸Zf2 F W 3 A c l23 h (by decide))
 unfold l23 at HMa
 go_enter Try.func5,Try.ntmps5
 go_wp2_with fail
 refine(HMa.out _ _ _ 3 (Zez [⟨0,1,1,0⟩,⟨1,0,2,0⟩,⟨1,2,1,0⟩] _)).mono ?_
 rintro e w1 ⟨g,rfl,hd⟩
 have U1:=Lib.hid (((Upd.refl No w).alloc _).trans hd.upd)
 obtain⟨G,hdg⟩:=hd.is
 have HDG:=Lib.hid (show DG w1 G (some ⟨g,0,none⟩) 3 3 q23 from hdg)
 have HCo:=Lib.hid (fun(W:World) (u:Upd No w1 W)=>Zhm▸ZdR (HDG.out.no u) (by decide) 14)
 have HLa:=Lib.hid (fun(W:World) (u:Upd No w1 W)=>Zcd (HDG.out.no u) (by decide) 14 _ Zhq)
 have HLb:=Lib.hid (fun(W:World) (u:Upd No w1 W)=>Zcd (HDG.out.no u) (by decide) 2 _ Zhp)
 have HRa:=Lib.hid (fun(W:World) (u:Upd No w1 W)=>Zeg (HDG.out.no u) (by decide) 14 _ Zho)
 have HRb:=Lib.hid (fun(W:World) (u:Upd No w1 W)=>Zeg (HDG.out.no u) (by decide) 2 _ Zhn)
 have HLn:=Lib.hid (fun(W:World)=>Zcd (DG.nil W (fun _=>False)) (by decide) 14 _ Zhl)
 clear hd hdg HMa
 go_wp2_with fail
 refine(HCo.out w1 (Upd.refl _ _)).mono ?_
 rintro e w2 ⟨A2,c2,ps,rfl,hP,hC,hu2⟩
 obtain⟨p0,p1,rfl⟩:∃p0 p1,ps=[p0,p1]:=by
  have h:=congrArg List.length hC
  rw[List.length_map]at h
  match ps,h with
  |[a,b],_=>exact⟨a,b,rfl⟩
 simp only[List.map_cons,List.map_nil,List.cons.injEq,and_true]at hC
 obtain⟨hC0,hC1⟩:=hC
 obtain⟨gO,rfl,z0,hI0⟩:=hP.read rfl (i:=0) (p:=p0) rfl
 obtain⟨g',e',z1,hI1⟩:=hP.read rfl (i:=1) (p:=p1) rfl
 cases e'
 rcases p0 with ⟨B0,d0,l0⟩
 rcases p1 with ⟨B1,d1,l1⟩
 simp only at hC0 hC1
 subst hC0 hC1
 have HZ:=Lib.hid (And.intro z0 (And.intro z1 (And.intro hI0 hI1)))
 have HU2:=Lib.hid hu2
 clear hP hu2 z0 z1 hI0 hI1 HCo
 go_wp2_with fail
 refine(HLa.out w2 HU2.out).mono ?_
 rintro e w3 ⟨A3,c3,rfl,ho3,hu3⟩
 go_wp2_with fail
 refine(ZbO _ _ _ A3 _ c3 3 [0,0,2] [0,0,2] ((Ints.of_owned ho3).upd ((Upd.refl No _).alloc _) (fun _ _=>id)) (Zax [0,0,2] _) (by decide) (by decide)).mono ?_
 rintro e w4 ⟨rfl,hv4⟩
 have HU4:=Lib.hid ((hu3.alloc _).trans hv4)
 clear ho3 hu3 hv4
 go_wp2_with fail
 refine(HLb.out w4 (HU2.out.trans HU4.out)).mono ?_
 rintro e w5 ⟨A5,c5,rfl,ho5,hu5⟩
 go_wp2_with fail
 refine(ZbO _ _ _ A5 _ c5 3 [0,1,2] [0,1,2] ((Ints.of_owned ho5).upd ((Upd.refl No _).alloc _) (fun _ _=>id)) (Zax [0,1,2] _) (by decide) (by decide)).mono ?_
 rintro e w6 ⟨rfl,hv6⟩
 have HU6:=Lib.hid (HU4.out.trans ((hu5.alloc _).trans hv6))
 clear ho5 hu5 hv6
 go_wp2_with fail
 refine(HRa.out w6 (HU2.out.trans HU6.out)).mono ?_
 rintro e w7 ⟨A7,c7,rfl,ho7,hu7⟩
 go_wp2_with fail
 refine(ZbO _ _ _ A7 _ c7 2 [0,1] [0,1] ((Ints.of_owned ho7).upd ((Upd.refl No _).alloc _) (fun _ _=>id)) (Zax [0,1] _) (by decide) (by decide)).mono ?_
 rintro e w8 ⟨rfl,hv8⟩
 have HU8:=Lib.hid (HU6.out.trans ((hu7.alloc _).trans hv8))
 clear ho7 hu7 hv8
 go_wp2_with fail
 refine(HRb.out w8 (HU2.out.trans HU8.out)).mono ?_
 rintro e w9 ⟨A9,c9,rfl,ho9,hu9⟩
 have HU9:=Lib.hid (HU8.out.trans hu9)
 have y0:=HU9.out.keepNo HZ.out.1
 clear ho9 hu9
 go_wp2_with fail
 refine(ZbO _ _ _ B0 _ d0 2 [0,1] [0,1] (HZ.out.2.2.1.upd (HU9.out.alloc _) (fun _ _=>id)) (Zax [0,1] _) (by decide) (by decide)).mono ?_
 rintro e wa ⟨rfl,hva⟩
 have HUa:=Lib.hid ((HU9.out.alloc _).trans hva)
 have y1:=HUa.out.keepNo HZ.out.2.1
 clear hva
 go_wp2_with fail
 refine(ZbO _ _ _ B1 _ d1 1 [2] [2] (HZ.out.2.2.2.upd (HUa.out.alloc _) (fun _ _=>id)) (Zax [2] _) (by decide) (by decide)).mono ?_
 rintro e wb ⟨rfl,hvb⟩
 have HUb:=Lib.hid ((HUa.out.alloc _).trans hvb)
 clear hvb
 go_wp2_with fail
 refine(HLn.out wb).mono ?_
 rintro e wc ⟨Ac,cc,rfl,hoc,huc⟩
 have HUc:=Lib.hid (HUb.out.trans huc)
 clear hoc huc
 go_wp2
 go_ret
 exact⟨rfl,(U1.out.trans HU2.out).trans HUc.out⟩
end Go.Proofs.Ytfcefnpnomlgbaa
