/- Scripts out of numbers: digits read back, words cut again, plain. -/
import Derived.Lib.Split
import Derived.Lib.SlTrimSet
import Derived.Test.YtbcpoloakepnkaaGreatDoorLbaz
namespace Go.Proofs.YtbcpoloakepnkaaGreatDoor
set_option linter.unusedVariables false
set_option linter.unusedSimpArgs false
section
open Go.RowKit
def Zm (l:List UInt8):Nat:=l.foldl (fun a b=>a*10+(b.toNat-48)) 0
theorem Zbk (l:List UInt8) (b:UInt8):Zm (l++[b])=Zm l*10+(b.toNat-48):=by unfold Zm;rw[List.foldl_append];rfl
theorem Zbj {l:List UInt8} {k:Nat} (hk:k<l.length):Zm (l.take (k+1))=Zm (l.take k)*10+(l[k].toNat-48):=by rw[List.take_succ_eq_append_getElem hk,Zbk]
theorem ZbR:∀(r:List UInt8) (a:Nat),a≤r.foldl (fun a b=>a*10+(b.toNat-48)) a
 |[],_=>Nat.le_refl _
 |b::r,a=>by
  rw[List.foldl_cons];exact Nat.le_trans (by omega) (ZbR r _)
theorem ZcU (l r:List UInt8):Zm l≤Zm (l++r):=by
 unfold Zm;rw[List.foldl_append];exact ZbR r _
theorem ZaH (l:List UInt8) (k:Nat):Zm (l.take k)≤Zm l:=by
 have h:=ZcU (l.take k) (l.drop k)
 rwa [List.take_append_drop]at h
def ZR (l:List UInt8):Prop:=l≠[]∧(∀b∈l,48≤b.toNat∧b.toNat≤57)∧(1<l.length→l.head?≠some 48)
theorem ZcI (x:Nat):(UInt8.ofNat (48+x%10)).toNat=48+x%10:=by rw[UInt8.toNat_ofNat'];omega
theorem ZbF:∀(f u:Nat),u<10 ^ f→0<f→ZR (ZI f u)∧Zm (ZI f u)=u∧(u<10→(ZI f u).length=1)∧(0<u→(ZI f u).head?≠some 48)
 |0,_,_,h=>absurd h (by omega)
 |f+1,u,hu,_=>by
  have hb:=ZcI u;rw[ZI]
  by_cases h:u<10
  ·rw[if_pos h,List.nil_append];refine⟨⟨by simp,fun b hb2=> ?_,by simp⟩,?_,fun _=>rfl,fun h0 e=> ?_⟩
   ·rw[List.mem_singleton]at hb2;subst hb2;omega
   ·show 0*10+_=_;omega
   ·rw[List.head?_cons,Option.some.injEq]at e;rw[e]at hb;have:(48:UInt8).toNat=48:=rfl;omega
  ·rw[if_neg h]
   have hf:0<f:=by
    rcases Nat.eq_zero_or_pos f with h0|h0
    ·subst h0;omega
    ·exact h0
   have hu2:u/10<10 ^ f:=by rw[Nat.pow_succ]at hu;omega
   obtain⟨⟨a1,a2,a3⟩,a4,a5,a6⟩:=ZbF f (u/10) hu2 hf
   have hh:((ZI f (u/10))++[UInt8.ofNat (48+u%10)]).head? =(ZI f (u/10)).head? :=by
    cases he:ZI f (u/10)with
    |nil=>exact absurd he a1
    |cons x t=>rfl
   refine⟨⟨by simp,fun b hb2=> ?_,fun _=> ?_⟩,?_,fun h2=>absurd h2 h,fun h0=> ?_⟩
   ·rcases List.mem_append.1 hb2 with h2|h2
    ·exact a2 b h2
    ·rw[List.mem_singleton]at h2;subst h2;omega
   ·rw[hh];exact a6 (by omega)
   ·rw[Zbk,a4,hb];omega
   ·rw[hh];exact a6 (by omega)
theorem ZaA {n:Int} (h0:0≤n) (h1:n≤1000000000000):ZR (Zc n)∧(Zm (Zc n):Int)=n:=by
 have e:Zc n=ZI 20 n.natAbs:=by unfold Zc Zaa Zx;rw[decide_eq_false (by omega)];rfl
 have hp:n.natAbs<10 ^ 20:=by
  have:(10:Nat) ^ 20=100000000000000000000:=by decide
  omega
 obtain⟨a,b,_,_⟩:=ZbF 20 n.natAbs hp (by omega);rw[e];exact⟨a,by rw[b];omega⟩
theorem ZaE {c:UInt8}:∀{s:List UInt8},c∉s→Lib.index s [c]= -1
 |[],_=>rfl
 |b::l,h=>by
  have h1:([c].isPrefixOf (b::l))=false:=by
   simp only[List.isPrefixOf,Bool.and_true];exact beq_eq_false_iff_ne.2 fun e=>h (by rw[e];exact List.mem_cons_self)
  rw[Lib.index,h1,ZaE (s:=l) (fun e=>h (List.mem_cons_of_mem _ e))];rfl
theorem ZaF {c:UInt8}:∀{a r:List UInt8},c∉a→Lib.index (a++c::r) [c]=(a.length:Int)
 |[],r,_=>by
  rw[List.nil_append,Lib.index,if_pos (by simp[List.isPrefixOf])];rfl
 |b::l,r,h=>by
  have h1:([c].isPrefixOf (b::(l++c::r)))=false:=by
   simp only[List.isPrefixOf,Bool.and_true];exact beq_eq_false_iff_ne.2 fun e=>h (by rw[e];exact List.mem_cons_self)
  have ih:=ZaF (a:=l) (r:=r) (fun e=>h (List.mem_cons_of_mem _ e));rw[List.cons_append,Lib.index,h1,ih];have h2:((l.length:Int)== -1)=false:=beq_eq_false_iff_ne.2 (by omega);rw[h2];simp
theorem ZbG {c:UInt8} {s:List UInt8} (h:c∉s):Lib.cut s [c]=(s,[],false):=by
 unfold Lib.cut;rw[ZaE h];rfl
theorem Zbi {c:UInt8} {a r:List UInt8} (h:c∉a):Lib.cut (a++c::r) [c]=(a,r,true):=by
 unfold Lib.cut;rw[ZaF h,if_pos (by omega)];simp
theorem Zaq {c:UInt8}:∀{ws:List (List UInt8)},ws≠[]→(∀x∈ws,c∉x)→Lib.count (Lib.join ws [c]) [c]+1=ws.length∧Lib.splitK [c] 0 (Lib.count (Lib.join ws [c]) [c]) (Lib.join ws [c])=ws
 |[],h,_=>absurd rfl h
 |[x],_,h=>by
  have h1:=ZaE (h x (by simp));rw[Lib.join_one,Lib.count_miss h1];exact⟨rfl,rfl⟩
 |x::y::r,_,h=>by
  have e:Lib.join (x::y::r) [c]=x++c::Lib.join (y::r) [c]:=by
   rw[Lib.join_cons,Lib.join_cons];unfold Lib.joinTail;simp
  have h1:=ZaF (r:=Lib.join (y::r) [c]) (h x (by simp))
  have h2:Lib.count (Lib.join (x::y::r) [c]) [c]=1+Lib.count (Lib.join (y::r) [c]) [c]:=by
   rw[e,Lib.count_hit (by simp) h1];simp
  obtain⟨i1,i2⟩:=Zaq (c:=c) (ws:=y::r) (by simp) (fun z hz=>h z (List.mem_cons_of_mem _ hz));rw[h2];refine⟨by rw[List.length_cons,←i1];omega,?_⟩;rw[Nat.add_comm 1,Lib.splitK,e,h1,if_neg (by rw[beq_iff_eq];omega)];have e3:(x++c::Lib.join (y::r) [c]).take (((x.length:Int)).toNat+0)=x:=by simp
  have e4:(x++c::Lib.join (y::r) [c]).drop (((x.length:Int)).toNat+[c].length)=Lib.join (y::r) [c]:=by simp
  rw[e3,e4,i2]
theorem Zan {a b:ByteArray} (h:a.data.toList=b.data.toList):a=b:=by
 apply ByteArray.ext
 exact Array.toList_inj.1 h
theorem ZaB:∀{a b:List ByteArray},a.map (·.data.toList)=b.map (·.data.toList)→a=b
 |[],[],_=>rfl
 |[],_::_,h=>by simp at h
 |_::_,[],h=>by simp at h
 |x::a,y::b,h=>by
  rw[List.map_cons,List.map_cons,List.cons.injEq]at h;rw[Zan h.1,ZaB h.2]
theorem ZbU {ws:List ByteArray} (h:ws≠[]) (hc:∀x∈ws,(32:UInt8)∉x.data.toList):Lib.countB (Zo ws) ⟨#[32]⟩+1=ws.length∧Lib.splitB ⟨#[32]⟩ 0 (Lib.countB (Zo ws) ⟨#[32]⟩) (Zo ws)=ws:=by
 have h1:ws.map (·.data.toList)≠[]:=by simpa using h
 have h2:∀x∈ws.map (·.data.toList),(32:UInt8)∉x:=fun x hx=>by
  obtain⟨y,hy,rfl⟩:=List.mem_map.1 hx;exact hc y hy
 obtain⟨a,b⟩:=Zaq h1 h2;have e:Lib.countB (Zo ws) ⟨#[32]⟩=Lib.count (Lib.join (ws.map (·.data.toList)) [32]) [32]:=by unfold Lib.countB Zo;rfl
 refine⟨by rw[e,a];simp,ZaB ?_⟩;rw[Lib.splitB_data,e];exact b
theorem ZbD {p:UInt8→Bool}:∀{l:List UInt8},(∀b∈l,p b=true)→l.dropWhile p=[]
 |[],_=>rfl
 |b::l,h=>by rw[List.dropWhile_cons,if_pos (h b List.mem_cons_self),ZbD fun x hx=>h x (List.mem_cons_of_mem _ hx)]
theorem Zcm {l cs:List UInt8} (h:∀b∈l,b∈cs):Lib.trimS l cs=[]:=by
 unfold Lib.trimS Lib.trimRightS Lib.trimLeftS;rw[ZbD (l:=l.reverse) fun b hb=>by simpa using h b (List.mem_reverse.1 hb)];rfl
end
/- Scripts out of numbers:a number is read. -/
section
open Go.RowKit
set_option maxRecDepth 100000 in
set_option maxHeartbeats 2000000 in
theorem ZaP (w:World) (l:List UInt8) (h:ZR l) (hv:Zm l≤2147483647) (hl:l.length≤1000):
  Calls Tryz.prog 60 #[.string ⟨l.toArray⟩] w fun e w'=>e= .returned (.tuple #[.int .i64 (Zm l),.int .i64 0])∧w=w':=by
 obtain⟨s,hs⟩:∃s:ByteArray,⟨l.toArray⟩=s:=⟨_,rfl⟩;have hz:s.size=l.length:=by rw[←hs];show Array.size _=_;rw[List.size_toArray]
 have he:s.toList.isEmpty=false:=by
  rw[Lib.toList_data,←hs]
  cases l with
  |nil=>exact absurd rfl h.1
  |cons x t=>rfl
 have HG:=Qh (show∀k (hk:k<l.length) (hk2:k<s.size),s[k]=l[k] from fun k hk hk2=>by subst hs;rfl);rw[hs];have H:=Qh h;have hl0:0<l.length:=List.length_pos_iff.2 h.1;clear h hs
 by_cases h1:1<l.length
 ·have d2:decide ((1:Int)<(s.size:Int))=true:=decide_eq_true (by omega)
  have d0:((((s[0]'(by omega)).toNat:Int))==48)=false:=by
   rw[HG.out 0 hl0,beq_eq_false_iff_ne];intro e;have h3:=H.out.2.2 h1
   cases l with
   |nil=>simp at hl0
   |cons x t=>
    apply h3
    rw[List.head?_cons,Option.some.injEq]
    apply UInt8.toNat_inj.1
    simp only[List.getElem_cons_zero]at e;have:(48:UInt8).toNat=48:=rfl;omega
  go_enter Tryz.func60,Tryz.ntmps60
  go_wp2
  go_loopg [4,21] l.length (fun gk sn si wr=>∃k:Nat,k+gk=l.length∧si= .int .i64 (k:Int)∧sn= .int .u64 (Zm (l.take k):Int)∧w=wr)
  case atStart=>exact⟨0,by omega,rfl,rfl,rfl⟩
  case round=>
   obtain⟨k,hgk,rfl,rfl,rfl⟩:=hrel
   by_cases hlt:k<l.length
   ·obtain⟨b,hb⟩:∃b,l[k]=b:=⟨_,rfl⟩;have hbb:=H.out.2.1 b (hb▸List.getElem_mem hlt);have hkb:s[k]'(by omega)=b:=by rw[←hb];exact(HG.out k hlt _)
    have b1:(0:Int)≤(k:Int):=Qn _;have b2:(k:Int)<(l.length:Int):=by omega
    have b3:(k:Int)<(s.size:Int):=by omega
    have e1:IntKind.u8.wrap ((b.toNat:Int)-48)=((b.toNat-48:Nat):Int):=by rw[IntKind.wrap_u8];omega
    have e2:decide ((10:Int)≤((b.toNat-48:Nat):Int))=false:=decide_eq_false (by omega);have HT:=Zbj hlt;rw[hb]at HT;have HL:=ZaH l (k+1);have HS:=Qh HT;clear hb;obtain⟨c,hc⟩:∃c:Nat,b.toNat-48=c:=⟨_,rfl⟩;obtain⟨V1,hV1⟩:∃V1:Nat,Zm (l.take (k+1))=V1:=⟨_,rfl⟩;obtain⟨V,hV⟩:∃V:Nat,Zm (l.take k)=V:=⟨_,rfl⟩;have HV1:=Qh hV1;rw[hc]at e1 e2 HT;rw[hV1,hV]at HT;rw[hV1]at HL;rw[hV];have e3:IntKind.u64.wrap ((V:Int)*10)=(V:Int)*10:=by rw[IntKind.wrap_u64];omega
    have e4:IntKind.u64.wrap (c:Int)=(c:Int):=by rw[IntKind.wrap_u64];omega
    have e5:IntKind.u64.wrap ((V:Int)*10+(c:Int))=(V1:Int):=by rw[IntKind.wrap_u64];omega
    have E6:=Qh (show min (V1:Int) 2147483648=(V1:Int) by omega);clear HT HL HS hV hV1 hc hbb
    go_upto_region 11 with fail
    rw[E6.out];go_wp2
    go_roundg (gk-1)
    case measure=>omega
    case rel=>exact⟨k+1,by omega,by go_num,by rw[HV1.out],rfl⟩
   ·obtain rfl:k=l.length:=by omega
    have HE:Zm (l.take l.length)=Zm l:=by rw[List.take_length]
    have e1:decide ((2147483647:Int)<(Zm l:Int))=false:=decide_eq_false (by omega);have e2:IntKind.i64.wrap (Zm l:Int)=(Zm l:Int):=IntWalk.i64_in _ (by omega);rw[HE];go_wp2
    go_ret2
    exact⟨rfl,rfl⟩
 ·have d2:decide ((1:Int)<(s.size:Int))=false:=decide_eq_false (by omega);have d3:decide ((1:Int)<(l.length:Int))=false:=decide_eq_false (by omega)
  go_enter Tryz.func60,Tryz.ntmps60
  go_wp2
  go_loopg [4,21] l.length (fun gk sn si wr=>∃k:Nat,k+gk=l.length∧si= .int .i64 (k:Int)∧sn= .int .u64 (Zm (l.take k):Int)∧w=wr)
  case atStart=>exact⟨0,by omega,rfl,rfl,rfl⟩
  case round=>
   obtain⟨k,hgk,rfl,rfl,rfl⟩:=hrel
   by_cases hlt:k<l.length
   ·obtain⟨b,hb⟩:∃b,l[k]=b:=⟨_,rfl⟩;have hbb:=H.out.2.1 b (hb▸List.getElem_mem hlt);have hkb:s[k]'(by omega)=b:=by rw[←hb];exact(HG.out k hlt _)
    have b1:(0:Int)≤(k:Int):=Qn _;have b2:(k:Int)<(l.length:Int):=by omega
    have b3:(k:Int)<(s.size:Int):=by omega
    have e1:IntKind.u8.wrap ((b.toNat:Int)-48)=((b.toNat-48:Nat):Int):=by rw[IntKind.wrap_u8];omega
    have e2:decide ((10:Int)≤((b.toNat-48:Nat):Int))=false:=decide_eq_false (by omega);have HT:=Zbj hlt;rw[hb]at HT;have HL:=ZaH l (k+1);have HS:=Qh HT;clear hb;obtain⟨c,hc⟩:∃c:Nat,b.toNat-48=c:=⟨_,rfl⟩;obtain⟨V1,hV1⟩:∃V1:Nat,Zm (l.take (k+1))=V1:=⟨_,rfl⟩;obtain⟨V,hV⟩:∃V:Nat,Zm (l.take k)=V:=⟨_,rfl⟩;have HV1:=Qh hV1;rw[hc]at e1 e2 HT;rw[hV1,hV]at HT;rw[hV1]at HL;rw[hV];have e3:IntKind.u64.wrap ((V:Int)*10)=(V:Int)*10:=by rw[IntKind.wrap_u64];omega
    have e4:IntKind.u64.wrap (c:Int)=(c:Int):=by rw[IntKind.wrap_u64];omega
    have e5:IntKind.u64.wrap ((V:Int)*10+(c:Int))=(V1:Int):=by rw[IntKind.wrap_u64];omega
    have E6:=Qh (show min (V1:Int) 2147483648=(V1:Int) by omega);clear HT HL HS hV hV1 hc hbb
    go_upto_region 11 with fail
    rw[E6.out];go_wp2
    go_roundg (gk-1)
    case measure=>omega
    case rel=>exact⟨k+1,by omega,by go_num,by rw[HV1.out],rfl⟩
   ·obtain rfl:k=l.length:=by omega
    have HE:Zm (l.take l.length)=Zm l:=by rw[List.take_length]
    have e1:decide ((2147483647:Int)<(Zm l:Int))=false:=decide_eq_false (by omega);have e2:IntKind.i64.wrap (Zm l:Int)=(Zm l:Int):=IntWalk.i64_in _ (by omega);rw[HE];go_wp2
    go_ret2
    exact⟨rfl,rfl⟩
end
/- Scripts out of numbers:the words of a line,plain. -/
section
open Go.RowKit
def WordB (x:ByteArray):Prop:=x.data.toList≠[]∧∀b∈x.data.toList,33≤b.toNat∧b.toNat≤126
theorem WordB.nb {x:ByteArray} (h:WordB x):(32:UInt8)∉x.data.toList:=fun e=>absurd (h.2 _ e).1 (by decide)
def LCmd.ws (i:Nat):LCmd→List ByteArray
 | .add d ops=>⟨#[97,100,100]⟩::Za i::⟨#[if d then 99 else 97]⟩::ops.map Zb
 | .mov k j p=>[⟨#[109,111,118]⟩,Za k,Za j,Za p]
 | .undo=>[⟨#[117,110,100,111]⟩]
 | .redo=>[⟨#[114,101,100,111]⟩]
 | .del j=>[⟨#[100,101,108]⟩,Za j]
 | .ask=>[⟨#[97,115,107]⟩]
 | .why p=>[⟨#[119,104,121]⟩,Zk p]
theorem Zy (x:ByteArray) (r:List ByteArray):(Zo (x::r)).data.toList=x.data.toList++r.flatMap (fun y=>32::y.data.toList):=by
 unfold Zo;rw[List.map_cons,Lib.join_cons];unfold Lib.joinTail;simp[List.flatMap,Function.comp_def]
theorem ZbM (i:Nat) (cm:LCmd):Zo (cm.ws i)=cm.text i:=by
 apply Zan
 cases cm with
 |add d ops=>
  rw[LCmd.ws,Zy,LCmd.text];unfold ZF Zp Za;simp[List.flatMap_map]
 |mov k j p=>
  rw[LCmd.ws,Zy,LCmd.text];unfold ZF ZD Za;simp[Zl]
 |undo=>rw[LCmd.ws,Zy,LCmd.text];simp
 |redo=>rw[LCmd.ws,Zy,LCmd.text];simp
 |del j=>
  rw[LCmd.ws,Zy,LCmd.text];unfold ZF Za;simp
 |ask=>rw[LCmd.ws,Zy,LCmd.text];simp
 |why p=>
  rw[LCmd.ws,Zy,LCmd.text];unfold ZF;simp
theorem Zbt {n:Int} (h0:0≤n) (h1:n≤1000000000000):WordB (Za n):=by
 obtain⟨⟨a,b,_⟩,_⟩:=ZaA h0 h1;refine⟨by unfold Za;simpa using a,fun x hx=> ?_⟩;have:=b x (by unfold Za at hx;simpa using hx);omega
theorem ZaT {o:HOp} (h:opB o=true):
  (∃k,o=⟨false,k,0,0⟩∧(1≤k∧k≤1048575)∧Zb o=⟨(119::Zc k).toArray⟩)∨
  (∃k,o=⟨true,k,0,0⟩∧(1≤k∧k≤1048575)∧Zb o=⟨(114::(Zc k++64::Zc 0)).toArray⟩)∨
  (∃k t n,o=⟨true,k,t,n⟩∧(1≤k∧k≤1048575)∧(1≤t∧t≤1048575)∧(1≤n∧n≤4095)∧Zb o=⟨(114::(Zc k++64::(Zc t++46::Zc n))).toArray⟩):=by
 have e0:Zc 0=[48]:=by decide
 obtain⟨r,k,t,n⟩:=o;have h2:=h;unfold Zb;rw[if_neg (by rw[h];decide)]
 cases r with
 |false=>
  unfold opB idB at h2;simp at h2;obtain⟨⟨⟨a,b⟩,rfl⟩,rfl⟩:=h2;refine .inl ⟨k,rfl,⟨a,b⟩,?_⟩;rw[if_pos rfl];unfold Za
  apply Zan
  simp
 |true=>
  unfold opB Zn ZaO idB at h2;simp at h2;rw[if_neg (fun e=>by cases e)];obtain⟨⟨a,b⟩,h3⟩:=h2
  by_cases ht:t=0
  ·subst ht;have hn:n=0:=by omega
   subst hn;refine .inr (.inl ⟨k,rfl,⟨a,b⟩,?_⟩);rw[if_pos rfl,e0];unfold Za
   apply Zan
   simp
  ·refine .inr (.inr ⟨k,t,n,rfl,⟨a,b⟩,by omega,by omega,?_⟩);rw[if_neg ht];unfold Za
   apply Zan
   simp
theorem ZcH {l:List UInt8} (h:ZR l):∀b∈l,33≤b.toNat∧b.toNat≤126:=fun b hb=>by have:=h.2.1 b hb;omega
theorem ZcS {o:HOp} (h:opB o=true):WordB (Zb o):=by
 have nd:∀{n:Int},0≤n→n≤1048575→∀b∈Zc n,33≤b.toNat∧b.toNat≤126:=fun h0 h1=>ZcH (ZaA h0 (by omega)).1
 rcases ZaT h with ⟨k,-,hk,e⟩|⟨k,-,hk,e⟩|⟨k,t,n,-,hk,ht,hn,e⟩<;>rw[e]<;>refine⟨by simp,fun b hb=> ?_⟩
 ·have hb2:b=119∨b∈Zc k:=by simpa using hb
  rcases hb2 with rfl|h2
  ·decide
  ·exact nd (by omega) (by omega) b h2
 ·have hb2:b=114∨b∈Zc k∨b=64∨b∈Zc 0:=by simpa using hb
  rcases hb2 with rfl|h2|rfl|h2
  ·decide
  ·exact nd (by omega) (by omega) b h2
  ·decide
  ·exact nd (by omega) (by omega) b h2
 ·have hb2:b=114∨b∈Zc k∨b=64∨b∈Zc t∨b=46∨b∈Zc n:=by simpa using hb
  rcases hb2 with rfl|h2|rfl|h2|rfl|h2
  ·decide
  ·exact nd (by omega) (by omega) b h2
  ·decide
  ·exact nd (by omega) (by omega) b h2
  ·decide
  ·exact nd (by omega) (by omega) b h2
theorem Zb6 {p:Int} (h:1≤p∧p≤5):WordB (Zk p):=by
 obtain rfl|rfl|rfl|rfl|rfl:p=1∨p=2∨p=3∨p=4∨p=5:=by omega
 all_goals exact⟨by decide,by decide⟩
theorem Zbs {i:Nat} (hi:i≤1000) {cm:LCmd} (h:cm.ok i):∀x∈cm.ws i,WordB x:=by
 have c1:∀b:List UInt8,(b≠[]∧b.all (fun b=>decide (33≤b.toNat)&&decide (b.toNat≤126))=true)→WordB ⟨b.toArray⟩:=fun b hb=>⟨by simpa using hb.1,fun x hx=>by have:=List.all_eq_true.1 hb.2 x (by simpa using hx);simpa using this⟩
 have nm:∀{n:Int},Zf n→WordB (Za n):=fun hn=>Zbt hn.1 (by have:=hn.2;omega)
 intro x hx
 cases cm with
 |add d ops=>
  simp only[LCmd.ws,List.mem_cons,List.mem_map]at hx;rcases hx with rfl|rfl|rfl|⟨o,ho,rfl⟩
  ·exact c1 [97,100,100] (by decide)
  ·exact Zbt (by omega) (by omega)
  ·cases d
   ·exact c1 [97] (by decide)
   ·exact c1 [99] (by decide)
  ·exact ZcS (h.2 o ho).1
 |mov k j p=>
  simp only[LCmd.ws,List.mem_cons,List.not_mem_nil,or_false]at hx;rcases hx with rfl|rfl|rfl|rfl
  ·exact c1 [109,111,118] (by decide)
  ·exact nm h.1
  ·exact nm h.2.1
  ·exact nm h.2.2
 |undo=>simp only[LCmd.ws,List.mem_singleton]at hx;subst hx;exact c1 [117,110,100,111] (by decide)
 |redo=>simp only[LCmd.ws,List.mem_singleton]at hx;subst hx;exact c1 [114,101,100,111] (by decide)
 |del j=>
  simp only[LCmd.ws,List.mem_cons,List.not_mem_nil,or_false]at hx;rcases hx with rfl|rfl
  ·exact c1 [100,101,108] (by decide)
  ·exact nm h
 |ask=>simp only[LCmd.ws,List.mem_singleton]at hx;subst hx;exact c1 [97,115,107] (by decide)
 |why p=>
  simp only[LCmd.ws,List.mem_cons,List.not_mem_nil,or_false]at hx;rcases hx with rfl|rfl
  ·exact c1 [119,104,121] (by decide)
  ·exact Zb6 h
theorem Zbb {ws:List ByteArray} (h:∀x∈ws,WordB x):∀b∈(Zo ws).data.toList,32≤b.toNat∧b.toNat≤126:=by
 cases ws with
 |nil=>intro b hb;exact absurd hb (by unfold Zo;simp[Lib.join_nil])
 |cons x r=>
  intro b hb;rw[Zy,List.mem_append]at hb;rcases hb with hb|hb
  ·have:=(h x (by simp)).2 b hb;omega
  ·obtain⟨y,hy,hb⟩:=List.mem_flatMap.1 hb;rcases List.mem_cons.1 hb with rfl|hb
   ·decide
   ·have:=(h y (by simp[hy])).2 b hb;omega
theorem Zdc {ws:List ByteArray} (h:∀x∈ws,WordB x) (hne:ws≠[]):(Zo ws).data.toList≠[]:=by
 cases ws with
 |nil=>exact absurd rfl hne
 |cons x r=>
  rw[Zy];have:=(h x (by simp)).1;simp[this]
end
end Go.Proofs.YtbcpoloakepnkaaGreatDoor
