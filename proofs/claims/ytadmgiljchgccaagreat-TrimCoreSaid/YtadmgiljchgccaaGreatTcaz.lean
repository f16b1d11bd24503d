/- Looking at a history: witnesses. -/
import Derived.Test.YtadmgiljchgccaaGreatTcay
namespace Go.Proofs.YtadmgiljchgccaaGreat
open Go.RowKit
set_option linter.unusedVariables false
set_option linter.unusedSimpArgs false
set_option maxRecDepth 100000
set_option maxHeartbeats 8000000
def ZpA(b:HBad):Iz:= .agg #[Qi b.tx,Qi b.place,Qi b.of.tx,Qi b.of.key,Qi b.of.nth]
theorem Zot(w:I0)(n:Nat)(a b c a' b' c':Int):(Op.equalIn (n+1+1) 49 (.agg #[Qi a,Qi b,Qi c]) (.agg #[Qi a',Qi b',Qi c'])).run Tryz.prog w= .ok (decide ((⟨a,b,c⟩:Ver)=⟨a',b',c'⟩)) w:=by
 rw[run_equalIn_struct w _ _ _ _ (by kernel_rfl) (by kernel_rfl)];have hI:∀(w:I0) (d:Nat) (x y:Int),(Op.equalIn (d+1) 3 (Qi x) (Qi y)).run Tryz.prog w= .ok (x==y) w:=fun w d x y=>run_equalIn_int w d _ _ _ x y Tryz.underlying3
 by_cases h1:a=a'<;>by_cases h2:b=b'<;>by_cases h3:c=c'<;>
  simp[Program.fieldsOf,Tryz.underlying49,Op.eqFields,part,hI,h1,h2,h3,Result.andThen]
theorem ZrN(w:I0)(x y:HBad):(Op.equalIn 10000 51 (ZpA x) (ZpA y)).run Tryz.prog w= .ok (decide (x=y)) w:=by
 obtain⟨a,b,⟨c,d,e⟩⟩:=x;obtain⟨a',b',⟨c',d',e'⟩⟩:=y;unfold ZpA
 show(Op.equalIn (9997+1+1+1) _ _ _).run _ w=_
 rw[run_equalIn_struct w _ _ _ _ (by kernel_rfl) (by kernel_rfl)];generalize 9997=n;have hI:∀(w:I0) (d:Nat) (x y:Int),(Op.equalIn (d+1) 3 (Qi x) (Qi y)).run Tryz.prog w= .ok (x==y) w:=fun w d x y=>run_equalIn_int w d _ _ _ x y Tryz.underlying3
 have hV:=fun w=>Zot w n c d e c' d' e'
 have hp:∀(w:I0) (q r c d e:Iz),(part 49 #[q,r,c,d,e] 2).run Tryz.prog w= .ok (.agg #[c,d,e]) w:=fun w q r c d e=>by
  obtain⟨i,hi,_,hs,_⟩:=info_parts (P:=Tryz.prog) (e:=49) (z:= .agg #[Qi 0,Qi 0,Qi 0]) (size:=3) (bytes:=24) (by kernel_rfl);simp[part,isAgg,run_underlying Tryz.underlying49,sizeOf,typeInfo,hi,hs,Result.andThen]
 have hp0:∀(w:I0) (q r c d e:Iz),(part 3 #[q,r,c,d,e] 0).run Tryz.prog w= .ok q w:=fun w q r c d e=>by simp[part,isAgg,run_underlying Tryz.underlying3]
 have dh:∀(w:I0) (q r c d e:Iz),(part 3 #[q,r,c,d,e] 1).run Tryz.prog w= .ok r w:=fun w q r c d e=>by simp[part,isAgg,run_underlying Tryz.underlying3]
 by_cases h1:a=a'<;>by_cases h2:b=b'<;>by_cases h3:(⟨c,d,e⟩:Ver)=⟨c',d',e'⟩<;>
  simp[Program.fieldsOf,Tryz.underlying51,Op.eqFields,hp,hp0,dh,hI,hV,h1,h2,h3,Result.andThen]
theorem Zvx(w:I0)(x y:HBad):(binOp .neq 51 (.agg #[Qi x.tx,Qi x.place,Qi x.of.tx,Qi x.of.key,Qi x.of.nth]) (.agg #[Qi y.tx,Qi y.place,Qi y.of.tx,Qi y.of.key,Qi y.of.nth])).run Tryz.prog w= .ok (.bool (x != y)) w:=by
 have:=ZrN w x y;unfold ZpA at this;rw[run_neq_struct,this];simp only[Result.andThen]
 by_cases h:x=y<;>simp[h]
section
variable {h:Hist} {p:Int} {l:List Edge} {b:HBad}
theorem ZvE(hr:Zb h=false):Zp h p l b=false:=by unfold Zp;rw[hr];rfl
theorem ZvF(hr:Zb h=true)(hp:p=2∨p=3):Zp h p l b=(decide (l.length=0)&&ZaS h.txs p b):=by unfold Zp;rw[hr,if_pos hp];rfl
theorem ZtS(hr:Zb h=true)(hp:¬(p=2∨p=3)):Zp h p l b=(!(Zal p==0)&&b==ZdJ&&Zan l&&ZfE (ZcH l) p&&l.all (ZS h)):=by unfold Zp;rw[hr,if_neg hp];rfl
end
theorem ZjW{F:Iw}{w:I0}{txs:List HTx}{ords:List HOrd}{A:OA}{c:Nat}{B:OA}{d:Nat}{r:Bool}(H:Hist.lies F w ⟨txs,ords,A,c,B,d⟩)(hr:Zb ⟨txs,ords,A,c,B,d⟩=r):
  CN 11 #[.agg #[.slice A txs.length c,.slice B ords.length d]] w (.bool r):=by subst hr;exact ZeP F w ⟨txs,ords,A,c,B,d⟩ H
theorem Zui{F:Iw}{w:I0}{txs:List HTx}{ords:List HOrd}{A:OA}{c:Nat}{B:OA}{d:Nat}{p x pl vt vk vn:Int}{r:Bool}(H:Hist.lies F w ⟨txs,ords,A,c,B,d⟩)(hr:ZaS txs p ⟨x,pl,⟨vt,vk,vn⟩⟩=r):
  CN 54 #[.agg #[.slice A txs.length c,.slice B ords.length d],Qi p,.agg #[Qi x,Qi pl,Qi vt,Qi vk,Qi vn]] w (.bool r):=by subst hr;exact Zym F w txs ords A c B d p ⟨x,pl,⟨vt,vk,vn⟩⟩ H
theorem Zjt{F:Iw}{w:I0}{txs:List HTx}{ords:List HOrd}{A:OA}{c:Nat}{B:OA}{d:Nat}{e:Edge}{r:Bool}(H:Hist.lies F w ⟨txs,ords,A,c,B,d⟩)(hr:ZS ⟨txs,ords,A,c,B,d⟩ e=r):
  Calls Tryz.prog 57 #[.agg #[.slice A txs.length c,.slice B ords.length d],.agg #[Qi e.f,Qi e.t,Qi e.k,Qi e.key]] w fun q w'=>q= .returned (.bool r)∧Upd No w w':=by subst hr;exact ZxI F w txs ords A c B d e H
theorem Zhd{h:Hist}{l:List Edge}{k:Nat}(hk:k<l.length)(he:ZS h l[k]=false):l.all (ZS h)=false:=by
 rw[List.all_eq_false];exact⟨l[k],Hg hk,by rw[he];decide⟩
theorem Zgz{h:Hist}{l:List Edge}(he:∀(j:Nat) (hj:j<l.length),ZS h l[j]=true):l.all (ZS h)=true:=by
 rw[Hd];intro x hx;obtain⟨k,hk,rfl⟩:=Gl.1 hx;exact he k hk
theorem Zvw(F G:Iw)(w:I0)(h:Hist)(p:Int)(X:OA)(xc:Nat)(l:List Edge)(b:HBad)(H:h.lies F w)(W:Walk G w X l)(hl:l.length<=1000000):
  CN 25 #[h.val,.agg #[Qi p,.slice X l.length xc,Qi b.tx,Qi b.place,Qi b.of.tx,Qi b.of.key,Qi b.of.nth]] w (.bool (Zp h p l b)):=by
 obtain⟨txs,ords,A,c,B,d⟩:=h;obtain⟨bx,bp,⟨vt,vk,vn⟩⟩:=b;unfold Hist.val;have u0:=((Il No w).alloc (.cells #[.slice A txs.length c,.slice B ords.length d] 25)).alloc (.cells #[Qi p,.slice X l.length xc,Qi bx,Qi bp,Qi vt,Qi vk,Qi vn] 53);have bH:=Qh ((Im w 25 [.slice A txs.length c,.slice B ords.length d]).alloc (.cells #[Qi p,.slice X l.length xc,Qi bx,Qi bp,Qi vt,Qi vk,Qi vn] 53));have b1:=Im (w.alloc (.cells #[.slice A txs.length c,.slice B ords.length d] 25)) 53 [Qi p,.slice X l.length xc,Qi bx,Qi bp,Qi vt,Qi vk,Qi vn];simp only[Ij]at b1;have bW:=Qh b1;have qN:=Zvx;have HQ:=Qh qN;have H0:=Qh (H.upd u0 Qo);clear b1 qN
 cases hr:Zb ⟨txs,ords,A,c,B,d⟩
 ·have hv:=Qh (ZvE (p:=p) (l:=l) (b:=⟨bx,bp,⟨vt,vk,vn⟩⟩) hr);have Hr:=Qh hr;clear hr;go_enter Tryz.func25,Tryz.ntmps25;go_wp2_with fail;refine Ck (ZjW H0.out Hr.out) fun w1 hu1=>?_;go_wp2;go_ret;exact⟨by rw[hv.out];rfl,u0.trans hu1⟩
 ·have Hr:=Qh hr;clear hr;go_enter Tryz.func25,Tryz.ntmps25;go_wp2_with fail;refine Ck (ZjW H0.out Hr.out) fun w1 hu1=>?_;have uR:=hu1.alloc (.cells #[.slice A txs.length c,.slice B ords.length d] 92);have bR:=Qh (Im w1 92 [.slice A txs.length c,.slice B ords.length d]);have bW1:=Qh (bW.out.upd uR id);have bH1:=bH.out.upd hu1 id;have U1:=Qh (u0.trans uR);obtain⟨h0,h1⟩:=bH1.c2;obtain⟨y0,y1,y2,y3,y4,y5,y6⟩:=bW1.out.c7;have HB:=Qh (fun W' (hW:Upd No (w1.alloc (.cells #[.slice A txs.length c,.slice B ords.length d] 92)) W')=>H.upd (U1.out.trans hW) Qo);have WB:=Qh (fun W' (hW:Upd No (w1.alloc (.cells #[.slice A txs.length c,.slice B ords.length d] 92)) W')=>W.upd (U1.out.trans hW) Qo);clear u0 hu1 uR bH1
  by_cases hp:p=2∨p=3
  ·have hv0:=ZvF (h:=⟨txs,ords,A,c,B,d⟩) (l:=l) (b:=⟨bx,bp,⟨vt,vk,vn⟩⟩) Hr.out hp
   by_cases hl0:l.length=0
   ·have oD:((l.length:Int)==0)=true:=by rw[beq_iff_eq];omega
    obtain⟨r,aB⟩:=Qe (ZaS txs p ⟨bx,bp,⟨vt,vk,vn⟩⟩);have Hb:=Qh aB;have hv:=Qh (show Zp ⟨txs,ords,A,c,B,d⟩ p l ⟨bx,bp,⟨vt,vk,vn⟩⟩=r by rw[hv0,Qt hl0];exact aB);clear hl0 hv0 aB;rcases hp with hp|hp
    ·subst hp;go_wp2_with fail;refine Ck (Zui (HB.out _ (Il No _)) Hb.out) fun w2 hu2=>?_;go_wp2;go_ret;exact⟨by rw[hv.out];rfl,U1.out.trans hu2⟩
    ·subst hp;go_wp2_with fail;refine Ck (Zui (HB.out _ (Il No _)) Hb.out) fun w2 hu2=>?_;go_wp2;go_ret;exact⟨by rw[hv.out];rfl,U1.out.trans hu2⟩
   ·have oD:((l.length:Int)==0)=false:=by rw[beq_eq_false_iff_ne];omega
    have hv:=Qh (show Zp ⟨txs,ords,A,c,B,d⟩ p l ⟨bx,bp,⟨vt,vk,vn⟩⟩=false by rw[hv0,Qf hl0];rfl);clear hl0 hv0;rcases hp with hp|hp
    ·subst hp;go_wp2;go_ret;exact⟨by rw[hv.out];rfl,U1.out⟩
    ·subst hp;go_wp2;go_ret;exact⟨by rw[hv.out];rfl,U1.out⟩
  ·have hv0:=ZtS (h:=⟨txs,ords,A,c,B,d⟩) (l:=l) (b:=⟨bx,bp,⟨vt,vk,vn⟩⟩) Hr.out hp;have Eg:(p==2)=false:=by rw[beq_eq_false_iff_ne];exact fun e=>hp (.inl e)
   have rx:(p==3)=false:=by rw[beq_eq_false_iff_ne];exact fun e=>hp (.inr e)
   clear hp;obtain⟨M,hM⟩:=Qe (Zal p);obtain⟨T,hT⟩:=Qe (ZaU p);obtain⟨K,hK⟩:=Qe (ZcH l);rw[hM,hK]at hv0;unfold ZfE at hv0;rw[hM,hT]at hv0;have eU:=ZlY (w1.alloc (.cells #[.slice A txs.length c,.slice B ords.length d] 92)) p;rw[hM,hT]at eU;have yj:=Qh eU;have tM:=Qh hv0;have HK:=Qh hK;clear eU hv0 hM hT hK;go_wp2_with fail;refine(yj.out).mono ?_;rintro e w2 ⟨rfl,rfl⟩;have hmk:=ZwR _ (w1.alloc (.cells #[.slice A txs.length c,.slice B ords.length d] 92)) X xc l (WB.out _ (Il No _)) hl;rw[HK.out]at hmk;have Ei:=Qh hmk;clear hmk;go_wp2_with fail;refine Ck Ei.out fun w2 hu2=>?_;have bW2:=bW1.out.upd hu2 id;have bR2:=Qh (bR.out.upd hu2 id);have U2:=Qh hu2;clear y0 y1 y2 y3 y4 y5 y6 h0 h1 hu2;have y1:=bW2.cell 1;have y2:=bW2.cell 2;have y3:=bW2.cell 3;have y4:=bW2.cell 4;have y5:=bW2.cell 5;have y6:=bW2.cell 6;simp only[Qz,Qs]at y1 y2 y3 y4 y5 y6;have Fj:=Qh bW2;clear bW2
   cases hM0:M==0
   ·have qn:=fun w=>HQ.out w ⟨bx,bp,⟨vt,vk,vn⟩⟩ ZdJ
    simp only[ZdJ]at qn
    cases hb0:((⟨bx,bp,⟨vt,vk,vn⟩⟩:HBad)==ZdJ)
    ·have hv:=Qh (show Zp ⟨txs,ords,A,c,B,d⟩ p l ⟨bx,bp,⟨vt,vk,vn⟩⟩=false by rw[tM.out,hb0];simp);have qn2:=fun w=>(qn w).trans (by rw[show((⟨bx,bp,⟨vt,vk,vn⟩⟩:HBad) != ⟨0,0,⟨0,0,0⟩⟩)=true from by unfold bne;rw[show((⟨bx,bp,⟨vt,vk,vn⟩⟩:HBad)==⟨0,0,⟨0,0,0⟩⟩)=false from hb0];rfl])
     clear qn hb0;go_wp2;go_ret;exact⟨by rw[hv.out];rfl,U1.out.trans U2.out⟩
    ·have qn2:=fun w=>(qn w).trans (by rw[show((⟨bx,bp,⟨vt,vk,vn⟩⟩:HBad) != ⟨0,0,⟨0,0,0⟩⟩)=false from by unfold bne;rw[show((⟨bx,bp,⟨vt,vk,vn⟩⟩:HBad)==⟨0,0,⟨0,0,0⟩⟩)=true from hb0];rfl])
     have aT:=Zur _ w2 X xc l (WB.out _ U2.out) hl
     cases hc:Zan l
     ·rw[hc]at aT;have cS:=Qh aT;have hv:=Qh (show Zp ⟨txs,ords,A,c,B,d⟩ p l ⟨bx,bp,⟨vt,vk,vn⟩⟩=false by rw[tM.out,hc];simp);clear qn hb0 hc aT;go_wp2_with fail;refine Ck cS.out fun w3 hu3=>?_;go_wp2;go_ret;exact⟨by rw[hv.out];rfl,(U1.out.trans U2.out).trans hu3⟩
     ·rw[hc]at aT;have cS:=Qh aT;have dS:Zp ⟨txs,ords,A,c,B,d⟩ p l ⟨bx,bp,⟨vt,vk,vn⟩⟩=(((bits .andNot .i64 K M==0)&&(T==0|| !(bits .and .i64 K T==0)))&&l.all (ZS ⟨txs,ords,A,c,B,d⟩)):=by rw[tM.out,hM0,hb0,hc];rfl
      obtain⟨K1,pE⟩:=Qe (bits .andNot .i64 K M);obtain⟨K2,kV⟩:=Qe (bits .and .i64 K T);rw[pE,kV]at dS;have tj:=Qh dS;clear qn hb0 hc aT dS;go_wp2_with fail;refine Ck cS.out fun w3 hu3=>?_;have bW3:=Fj.out.upd hu3 id;have bR3:=Qh (bR2.out.upd hu3 id);have U3:=Qh (U2.out.trans hu3);obtain⟨r0,r1⟩:=bR3.out.c2;have h0:=bW3.cell 1;have h1:=h0;simp only[Qz,Qs]at h0 h1;clear bW3 hu3
      cases hk1:K1==0
      ·have yH:(K1 != 0)=true:=by unfold bne;rw[hk1];rfl
       have hv:=Qh (show Zp ⟨txs,ords,A,c,B,d⟩ p l ⟨bx,bp,⟨vt,vk,vn⟩⟩=false by rw[tj.out,hk1];rfl);go_wp2;go_ret;exact⟨by rw[hv.out];rfl,U1.out.trans U3.out⟩
      ·have yH:(K1 != 0)=false:=by unfold bne;rw[hk1];rfl
       cases hT0:T==0
       ·have D2:(T != 0)=true:=by unfold bne;rw[hT0];rfl
        cases hk2:K2==0
        ·have jl:=Qh (show Zp ⟨txs,ords,A,c,B,d⟩ p l ⟨bx,bp,⟨vt,vk,vn⟩⟩=l.all (ZS ⟨txs,ords,A,c,B,d⟩) by rw[tj.out,hk1,hT0,hk2];rfl);go_wp2;clear y1 y2 y3 y4 y5 y6 r0 r1 h0 h1
         go_loopg [75] l.length (fun gk i wr=>∃(k:Nat),k+gk=l.length∧i= Qi k∧Hid (∀(j:Nat) (hj:j<l.length),j<k->ZS ⟨txs,ords,A,c,B,d⟩ l[j]=true)∧Upd No w3 wr)
         case atStart=>exact⟨0,by omega,rfl,Qh (fun j _ hj=>by omega),Il No _⟩
         case round=>
          obtain⟨k,aI,rfl,ah,hu⟩:=hrel
          by_cases hlt:k<l.length
          ·obtain⟨ad,hX,e0,e1,e2,e3⟩:=(WB.out _ (U3.out.trans hu)).at_ hlt;obtain⟨x,hx⟩:=Qe (l[k]);rw[hx]at e0 e1 e2 e3;subst hX;have XX:=Qh hx;have b1:(0:Int)<=(k:Int):=Qn _;have b2:(k:Int)<(l.length:Int):=by omega
           have uA:=(Il No wr).alloc (.cells #[Qi x.f,Qi x.t,Qi x.k,Qi x.key] 58);have bRk:=bR3.out.upd (hu.trans uA) id;obtain⟨rr0,rr1⟩:=bRk.c2;have Hk:=Qh (HB.out _ (U3.out.trans (hu.trans uA)));clear hx bRk
           cases he:ZS ⟨txs,ords,A,c,B,d⟩ x
           ·have He:=Qh he;have hv:=Qh (show Zp ⟨txs,ords,A,c,B,d⟩ p l ⟨bx,bp,⟨vt,vk,vn⟩⟩=false by rw[jl.out];exact Zhd hlt (by rw[XX.out];exact he));clear he;go_wp2_with fail;refine Ck (Zjt Hk.out He.out) fun w5 hu5=>?_;go_wp2;go_ret;exact⟨by rw[hv.out];rfl,(U1.out.trans U3.out).trans ((hu.trans uA).trans hu5)⟩
           ·have He:=Qh he;clear he;go_wp2_with fail;refine Ck (Zjt Hk.out He.out) fun w5 hu5=>?_;go_wp2;go_roundg (gk-1)
            case measure=>omega
            case rel=>exact⟨k+1,by omega,by go_num,Qh (fun j hj hjk=>by
              by_cases e:j=k
              ·subst e;rw[XX.out];exact He.out
              ·exact ah.out j hj (by omega)),(hu.trans uA).trans hu5⟩
          ·obtain rfl:k=l.length:=by omega
           have hv:=Qh (show Zp ⟨txs,ords,A,c,B,d⟩ p l ⟨bx,bp,⟨vt,vk,vn⟩⟩=true by rw[jl.out];exact Zgz fun j hj=>ah.out j hj hj);go_wp2;go_ret;exact⟨by rw[hv.out];rfl,(U1.out.trans U3.out).trans hu⟩
        ·have hv:=Qh (show Zp ⟨txs,ords,A,c,B,d⟩ p l ⟨bx,bp,⟨vt,vk,vn⟩⟩=false by rw[tj.out,hk1,hT0,hk2];rfl);go_wp2;go_ret;exact⟨by rw[hv.out];rfl,U1.out.trans U3.out⟩
       ·have D2:(T != 0)=false:=by unfold bne;rw[hT0];rfl
        have jl:=Qh (show Zp ⟨txs,ords,A,c,B,d⟩ p l ⟨bx,bp,⟨vt,vk,vn⟩⟩=l.all (ZS ⟨txs,ords,A,c,B,d⟩) by rw[tj.out,hk1,hT0];simp);go_wp2;clear y1 y2 y3 y4 y5 y6 r0 r1 h0 h1
        go_loopg [75] l.length (fun gk i wr=>∃(k:Nat),k+gk=l.length∧i= Qi k∧Hid (∀(j:Nat) (hj:j<l.length),j<k->ZS ⟨txs,ords,A,c,B,d⟩ l[j]=true)∧Upd No w3 wr)
        case atStart=>exact⟨0,by omega,rfl,Qh (fun j _ hj=>by omega),Il No _⟩
        case round=>
         obtain⟨k,aI,rfl,ah,hu⟩:=hrel
         by_cases hlt:k<l.length
         ·obtain⟨ad,hX,e0,e1,e2,e3⟩:=(WB.out _ (U3.out.trans hu)).at_ hlt;obtain⟨x,hx⟩:=Qe (l[k]);rw[hx]at e0 e1 e2 e3;subst hX;have XX:=Qh hx;have b1:(0:Int)<=(k:Int):=Qn _;have b2:(k:Int)<(l.length:Int):=by omega
          have uA:=(Il No wr).alloc (.cells #[Qi x.f,Qi x.t,Qi x.k,Qi x.key] 58);have bRk:=bR3.out.upd (hu.trans uA) id;obtain⟨rr0,rr1⟩:=bRk.c2;have Hk:=Qh (HB.out _ (U3.out.trans (hu.trans uA)));clear hx bRk
          cases he:ZS ⟨txs,ords,A,c,B,d⟩ x
          ·have He:=Qh he;have hv:=Qh (show Zp ⟨txs,ords,A,c,B,d⟩ p l ⟨bx,bp,⟨vt,vk,vn⟩⟩=false by rw[jl.out];exact Zhd hlt (by rw[XX.out];exact he));clear he;go_wp2_with fail;refine Ck (Zjt Hk.out He.out) fun w5 hu5=>?_;go_wp2;go_ret;exact⟨by rw[hv.out];rfl,(U1.out.trans U3.out).trans ((hu.trans uA).trans hu5)⟩
          ·have He:=Qh he;clear he;go_wp2_with fail;refine Ck (Zjt Hk.out He.out) fun w5 hu5=>?_;go_wp2;go_roundg (gk-1)
           case measure=>omega
           case rel=>exact⟨k+1,by omega,by go_num,Qh (fun j hj hjk=>by
             by_cases e:j=k
             ·subst e;rw[XX.out];exact He.out
             ·exact ah.out j hj (by omega)),(hu.trans uA).trans hu5⟩
         ·obtain rfl:k=l.length:=by omega
          have hv:=Qh (show Zp ⟨txs,ords,A,c,B,d⟩ p l ⟨bx,bp,⟨vt,vk,vn⟩⟩=true by rw[jl.out];exact Zgz fun j hj=>ah.out j hj hj);go_wp2;go_ret;exact⟨by rw[hv.out];rfl,(U1.out.trans U3.out).trans hu⟩
   ·have hv:=Qh (show Zp ⟨txs,ords,A,c,B,d⟩ p l ⟨bx,bp,⟨vt,vk,vn⟩⟩=false by rw[tM.out,hM0];rfl);go_wp2;go_ret;exact⟨by rw[hv.out];rfl,U1.out.trans U2.out⟩
/- Looking at a history:the exported functions,with their values named. -/
section
variable {F G:Iw} {w:I0} {txs:List HTx} {ords:List HOrd} {A B:OA} {c d n1 n2:Nat}
theorem ZxL{X:OA}{xc n:Nat}{l:List Edge}{p x pl vt vk vn:Int}{v:Bool}(H:Hist.lies F w ⟨txs,ords,A,c,B,d⟩)(W:∃G,Walk G w X l)(hl:l.length<=1000000)(e1:txs.length=n1)(e2:ords.length=n2)(e3:l.length=n)
  (hv:Zp ⟨txs,ords,A,c,B,d⟩ p l ⟨x,pl,⟨vt,vk,vn⟩⟩=v):
  Calls Tryz.prog 25 #[.agg #[.slice A n1 c,.slice B n2 d],.agg #[Qi p,.slice X n xc,Qi x,Qi pl,Qi vt,Qi vk,Qi vn]] w fun r w'=>r= .returned (.bool v)∧Upd No w w':=by
 subst e1 e2 e3 hv;obtain⟨G,W⟩:=W;exact Zvw F G w ⟨txs,ords,A,c,B,d⟩ p X xc l ⟨x,pl,⟨vt,vk,vn⟩⟩ H W hl
end
theorem Zf0{w:I0}{g size:Nat}{t:Iy}{rows:List (Ip)}(hr:∀r∈rows,r.length=size)(h:Blk w g t rows.flatten):Recs (fun i=>i=g) w (some ⟨g,0,none⟩) size rows:=fun _=>by
 refine⟨_,rfl,rfl,h.lt,fun i row hi j v hj=>?_⟩;have e1:(⟨g,0,none⟩:Addr).add (i*size+j)=⟨g,i*size+j,none⟩:=by unfold Addr.add;split<;>simp_all
 rw[e1,h.cell];exact Zd0 hr hi hj
theorem Zmu{w:I0}{g:Nat}{t:Iy}{xs:Iv}(h:Blk w g t (xs.map (Value.int .i64))):Ints (fun i=>i=g) w (some ⟨g,0,none⟩) xs:=
 Ints.of_row h rfl fun j v hj=>by rw[List.getElem?_toArray,List.getElem?_map,hj];rfl
def Zl(n:Nat):Hist:=
 ⟨[⟨1,true,[⟨true,1,0,0⟩,⟨false,2,0,0⟩],some ⟨n+1,0,none⟩,2⟩,⟨2,true,[⟨true,2,0,0⟩,⟨false,1,0,0⟩],some ⟨n+1+1,0,none⟩,2⟩],
  [⟨1,[2],some ⟨n+1+1+1+1,0,none⟩,1⟩,⟨2,[1],some ⟨n+1+1+1+1+1,0,none⟩,1⟩],some ⟨n+1+1+1,0,none⟩,2,some ⟨n+1+1+1+1+1+1,0,none⟩,2⟩
theorem Zp5{W:I0}{n:Nat}{t1 t2 t3 t4:Iy}
  (b1:Blk W (n+1) t1 [.bool true,Qi 1,Qi 0,Qi 0,.bool false,Qi 2,Qi 0,Qi 0])
  (b2:Blk W (n+1+1) t1 [.bool true,Qi 2,Qi 0,Qi 0,.bool false,Qi 1,Qi 0,Qi 0])
  (b3:Blk W (n+1+1+1) t2 [Qi 1,.bool true,.slice (some ⟨n+1,0,none⟩) 2 2,Qi 2,.bool true,.slice (some ⟨n+1+1,0,none⟩) 2 2])
  (b4:Blk W (n+1+1+1+1) t3 [Qi 2]) (b5:Blk W (n+1+1+1+1+1) t3 [Qi 1])
  (b6:Blk W (n+1+1+1+1+1+1) t4 [Qi 1,.slice (some ⟨n+1+1+1+1,0,none⟩) 1 1,Qi 2,.slice (some ⟨n+1+1+1+1+1,0,none⟩) 1 1]):
  (Zl n).lies (fun _=>True) W:=by
 have h3:∀(l:List HTx),∀r∈l.map HTx.cells,r.length=3:=fun l r hr=>by
  obtain⟨e,_,rfl⟩:=Ih.1 hr;rfl
 have h2:∀(l:List HOrd),∀r∈l.map HOrd.cells,r.length=2:=fun l r hr=>by
  obtain⟨e,_,rfl⟩:=Ih.1 hr;rfl
 refine⟨(Zf0 (h3 _) b3).weak fun _ _ _=>trivial,(Zf0 (h2 _) b6).weak fun _ _ _=>trivial,?_,?_,by simp[Zl],by simp[Zl],by simp[Zl],by simp[Zl]⟩
 ·intro t ht;simp only[Zl,Ie,G6,or_false]at ht;rcases ht with rfl|rfl
  ·refine⟨Recs.weak (Zf0 Zgg b1) fun _ _ _=>trivial,by simp,by unfold Zt;simp,by unfold i64;simp,?_⟩;intro o ho;simp only[Ie,G6,or_false]at ho;rcases ho with rfl|rfl<;>(unfold HOp.ok i64;decide)
  ·refine⟨Recs.weak (Zf0 Zgg b2) fun _ _ _=>trivial,by simp,by unfold Zt;simp,by unfold i64;simp,?_⟩;intro o ho;simp only[Ie,G6,or_false]at ho;rcases ho with rfl|rfl<;>(unfold HOp.ok i64;decide)
 ·intro o ho;simp only[Zl,Ie,G6,or_false]at ho;rcases ho with rfl|rfl
  ·refine⟨(Zmu (xs:=[2]) b4).weak fun _ _ _=>trivial,by simp,by simp,by unfold i64;simp,?_⟩;intro n hn;simp only[Ie,G6,or_false]at hn;subst hn;unfold i64;decide
  ·refine⟨(Zmu (xs:=[1]) b5).weak fun _ _ _=>trivial,by simp,by simp,by unfold i64;simp,?_⟩;intro n hn;simp only[Ie,G6,or_false]at hn;subst hn;unfold i64;decide
theorem ZwX(w:I0):Calls Tryz.prog 27 #[] w fun e w'=>e= .returned (.agg #[.slice (some ⟨w.heap.size+1+1+1,0,none⟩) 2 2,.slice (some ⟨w.heap.size+1+1+1+1+1+1,0,none⟩) 2 2])∧(Zl w.heap.size).lies (fun _=>True) w'∧Upd No w w':=by
 go_enter Tryz.func27,Tryz.ntmps27;go_wp2;refine bodyPost_ret (v:= .agg #[.slice (some ⟨w.heap.size+1+1+1,0,none⟩) 2 2,.slice (some ⟨w.heap.size+1+1+1+1+1+1,0,none⟩) 2 2]) (by simp[results,Tryz.results27,go_sem]) rfl ⟨rfl,?_,((((((((Il No w).alloc _).alloc _).alloc _).alloc _).alloc _).alloc _).alloc _)⟩;exact Zp5 (((((((Blk.new_at (by simp only[Ij])).alloc _).alloc _).alloc _).alloc _).alloc _)) ((((((Blk.new_at (by simp only[Ij])).alloc _).alloc _).alloc _).alloc _)) (((((Blk.new_at (by simp only[Ij])).alloc _).alloc _).alloc _)) ((((Blk.new_at (by simp only[Ij])).alloc _).alloc _)) (((Blk.new_at (by simp only[Ij])).alloc _)) (Blk.new_at (by simp only[Ij]))
def e1:Edge:=⟨1,2,3,1⟩
def e2:Edge:=⟨2,1,3,2⟩
section
variable (n:Nat)
theorem a1:Zp (Zl n) 5 [e1,e2] ZdJ=true:=by kernel_rfl
theorem a2:Zp (Zl n) 5 [e1,e2,e1,e2] ZdJ=true:=by kernel_rfl
theorem a3:Zp (Zl n) 4 [e1,e2] ZdJ=false:=by kernel_rfl
end
/- Orders:the first order that goes along all edges,in plain words;what is kept while ids are taken one by one. -/
def Zxo(l:List Edge)(left:Iv)(x:Int):Bool:=l.all fun e=> !(decide (e.t=x)&&decide (e.f∈left))
def ZtB(l:List Edge)(L:Iv)(x:Int):Nat:=(l.filter fun e=>decide (e.t=x)&&decide (e.f∈L)).length
structure TpI (l:List Edge) (ids L nx ys:List Int) (g:Int->Int):Prop where
 rise:L.Pairwise (·<·)
 sub:∀x∈L,x∈ids
 cnt:∀x∈ids,g x=1+((ZtB l L x+nx.count x:Nat):Int)
 heap:ys.Perm (L.filter fun x=>ZtB l L x+nx.count x==0)
 gone:∀x∈ids,x∉L->ZtB l L x+nx.count x=0
 nxs:∀x∈nx,x∈ids
