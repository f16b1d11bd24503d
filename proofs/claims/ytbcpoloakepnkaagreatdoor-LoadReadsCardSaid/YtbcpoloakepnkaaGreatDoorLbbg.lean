/- Scripts out of numbers: each line is a command. -/
import Derived.Test.YtbcpoloakepnkaaGreatDoorLbbe
import Derived.Test.YtbcpoloakepnkaaGreatDoorLbbf
namespace Go.Proofs.YtbcpoloakepnkaaGreatDoor
set_option linter.unusedVariables false
set_option linter.unusedSimpArgs false
section
open Go.RowKit
set_option maxRecDepth 100000 in
set_option maxHeartbeats 2000000 in
theorem ZdR (w:World) (hm:MaxL w) (g:Nat) (A:Option Addr) (c:Nat) (i:Int) (d:Bool) (ops:List HOp) (hi:0≤i∧i≤2000000) (hn:ops.length≤100) (ho:∀o∈ops,opB o=true) (hc:ops.length+2≤c)
  (hb:Blk w g 36 (Zq 1)) (hs:Strz (fun _=>True) w A (Za i::⟨#[if d then 99 else 97]⟩::ops.map Zb)):
  Calls Tryz.prog 31 #[.pointer (some ⟨g,0,none⟩),.slice A (ops.length+2) c] w (Z7 w g):=by
 have CN:Calls Tryz.prog 45 #[.slice A (ops.length+2) c] w fun e w'=>(∃B d2,e= .returned (.tuple #[.agg #[.int .i64 i,.bool d,.slice B ops.length d2],.int .i64 0]))∧Upd No w w':=by
  cases d with
  |true=>exact Zc5 w hm A c i ops hi hn ho hs hc
  |false=>exact Zc6 w hm A c i ops hi hn ho hs hc
 have CN:=Qh CN
 generalize ops.length=N at*
 have c0:=hb.cell 0;simp only[Zq,Qz]at c0;have HB:=Qh hb;clear hb hs
 go_enter Tryz.func31,Tryz.ntmps31
 go_wp2_with fail
 refine(CN.out).mono ?_;rintro e w1 ⟨⟨B,d2,rfl⟩,hu1⟩;have b1:=HB.out.upd hu1 id;have c1:=b1.cell 1;have c2:=b1.cell 2;have c3:=b1.cell 3;have f1:=b1.free 1;have f2:=b1.free 2;have f3:=b1.free 3;simp only[Zq,Qz,Qs]at c1 c2 c3;have HU1:=Qh (show Upd (One g) w w1 from hu1.mono fun _ _ e=>e.elim);have B1:=Qh b1;clear b1 hu1;go_wp2
 go_ret
 exact⟨rfl,⟨_,_,_,_,_,_,_,_,_,_,_,_,_,_,((B1.out.set_ 1 _).set_ 2 _).set_ 3 _⟩,((HU1.out.setOne 1 _).setOne 2 _).setOne 3 _⟩
theorem ZdL (w:World) (hm:MaxL w) {i:Nat} (hi:i≤1000) (cm:LCmd) (hok:cm.ok i):
  Calls Tryz.prog 12 #[.string (cm.text i)] w fun e w'=>(∃v,Zb5 v∧e= .returned (.tuple #[v,.int .i64 0]))∧Upd No w w':=by
 have hw:=Zbs hi hok;have hl:=Zbm i hok;rw[←ZbM]at hl ⊢
 cases cm with
 |add d ops=>
  obtain⟨o1,o2⟩:=hok;refine Z5 w hm (t:=1) (by decide) (by decide) (Za i::⟨#[if d then 99 else 97]⟩::ops.map Zb) Za7 (by simp;omega) (by simp;omega) hw (by exact Nat.le_trans hl (by decide)) (by simp;omega) fun W g A c u hc hb hs=> ?_
  have e:(Za (i:Int)::(⟨#[if d then 99 else 97]⟩:ByteArray)::ops.map Zb).length=ops.length+2:=by simp
  rw[e]at hc ⊢;exact ZdR W (hm.upd u) g A c i d ops ⟨by omega,by omega⟩ (by omega) (fun o h=>(o2 o h).1) hc hb hs
 |mov k j p=>exact Z5 w hm (t:=5) (by decide) (by decide) [Za k,Za j,Za p] Za5 (by simp) (by simp) hw (Nat.le_trans hl (by decide)) (by simp) fun W g A c u hc hb hs=>ZdP W g A c k j p hok.1 hok.2.1 hok.2.2 hb hs
 |undo=>exact Z5 w hm (t:=6) (by decide) (by decide) [] Za4 (by decide) (by decide) hw (Nat.le_trans hl (by decide)) (by decide) fun W g A c u hc hb hs=>ZdU W g A c hb
 |redo=>exact Z5 w hm (t:=7) (by decide) (by decide) [] Za3 (by decide) (by decide) hw (Nat.le_trans hl (by decide)) (by decide) fun W g A c u hc hb hs=>ZdT W g A c hb
 |del j=>exact Z5 w hm (t:=3) (by decide) (by decide) [Za j] Za6 (by simp) (by simp) hw (Nat.le_trans hl (by decide)) (by simp) fun W g A c u hc hb hs=>ZdQ W g A c j hok hb hs
 |ask=>exact Z5 w hm (t:=8) (by decide) (by decide) [] Za2 (by decide) (by decide) hw (Nat.le_trans hl (by decide)) (by decide) fun W g A c u hc hb hs=>ZdS W g A c hb
 |why p=>exact Z5 w hm (t:=9) (by decide) (by decide) [Zk p] Za1 (by simp) (by simp) hw (Nat.le_trans hl (by decide)) (by simp) fun W g A c u hc hb hs=>ZdO W g A c p hok hb hs
theorem ZbN (mx nxt:BitVec 64→BitVec 64) (w:World) (hm:MaxL w) (seed:BitVec 64) (i:Int):
  Calls Tryz.prog 12 #[.string (Zd mx nxt seed i)] w fun e w'=>(∃v,Zb5 v∧e= .returned (.tuple #[v,.int .i64 (if 1≤i∧i≤1000 then 0 else 12)]))∧Upd No w w':=by
 unfold Zd
 split
 ·exact ZdL w hm (by omega) _ (Zau nxt _ (by omega) (by omega))
 ·exact Zc8 w
end
/- Scripts out of numbers:lines are short;a script's lines,plain. -/
section
open Go.RowKit
theorem Zbe:∀(f u k:Nat),u<10 ^ k→0<k→(ZI f u).length≤k
 |0,u,k,_,hk=>by
  rw[ZI];exact Nat.zero_le _
 |f+1,u,k,hu,hk=>by
  rw[ZI]
  by_cases h:u<10
  ·rw[if_pos h,List.nil_append,List.length_singleton];exact hk
  ·rw[if_neg h,List.length_append,List.length_singleton]
   have hk1:0<k-1:=by
    rcases Nat.lt_or_ge 1 k with h1|h1
    ·omega
    ·have:k=1:=by omega
     subst this;omega
   have he:k=(k-1)+1:=by omega
   rw[he,Nat.pow_succ]at hu;have:=Zbe f (u/10) (k-1) (by omega) hk1;omega
theorem Zac {n:Int} {k:Nat} (h0:0≤n) (h1:n<(10 ^ k:Nat)) (hk:0<k):(Zc n).length≤k:=by
 have e:Zc n=ZI 20 n.natAbs:=by unfold Zc Zaa Zx;rw[decide_eq_false (by omega)];rfl
 rw[e];exact Zbe 20 _ k (by omega) hk
theorem ZbZ {o:HOp} (h:opB o=true):(Zb o).data.toList.length≤21:=by
 have n7:∀{x:Int},0≤x→x≤1048575→(Zc x).length≤7:=fun h0 h1=>Zac h0 (by have:(10 ^ 7:Nat)=10000000:=rfl;omega) (by decide)
 rcases ZaT h with ⟨k,-,hk,e⟩|⟨k,-,hk,e⟩|⟨k,t,n,-,hk,ht,hn,e⟩<;>rw[e]
 ·have:=n7 (x:=k) (by omega) (by omega);simp;omega
 ·have:=n7 (x:=k) (by omega) (by omega);have:=n7 (x:=0) (by omega) (by omega);simp;omega
 ·have:=n7 (x:=k) (by omega) (by omega);have:=n7 (x:=t) (by omega) (by omega);have:(Zc n).length≤4:=Zac (by omega) (by have:(10 ^ 4:Nat)=10000:=rfl;omega) (by decide);simp;omega
theorem Zbc {α:Type _} {f:α→List UInt8} {c:Nat}:∀{l:List α},(∀x∈l,(f x).length≤c)→(l.flatMap f).length≤c*l.length
 |[],_=>by simp
 |x::l,h=>by
  have h1:=h x (by simp);have h2:=Zbc (l:=l) fun y hy=>h y (by simp[hy])
  rw[List.flatMap_cons,List.length_append,List.length_cons,Nat.mul_succ];omega
theorem Zab {j:Int} (h:Zf j):(Za j).size≤10:=by
 have:(Zc j).length≤10:=Zac h.1 (by have:=h.2;have:(10 ^ 10:Nat)=10000000000:=rfl;omega) (by decide)
 show Array.size _≤10
 rw[List.size_toArray];exact this
theorem bsz (l:List UInt8):(⟨l.toArray⟩:ByteArray).size=l.length:=by show Array.size _=_;rw[List.size_toArray]
theorem ZbS {i:Nat} (hi:i≤1000) {cm:LCmd} (h:cm.ok i):(cm.text i).size≤200:=by
 cases cm with
 |add d ops=>
  have h1:(Zc (i:Int)).length≤4:=Zac (by omega) (by have:(10 ^ 4:Nat)=10000:=rfl;omega) (by decide);have h2:(ops.flatMap fun o=>32::(Zb o).data.toList).length≤22*ops.length:=Zbc fun o ho=>by have:=ZbZ (h.2 o ho).1;rw[List.length_cons];omega
  have h3:=h.1
  have h4:(Zp (i:Int) d ops).length=(Zc (i:Int)).length+2+(ops.flatMap fun o=>32::(Zb o).data.toList).length:=by
   unfold Zp;rw[List.length_append,List.length_append];rfl
  have h5:(⟨(Zp (i:Int) d ops).toArray⟩:ByteArray).size=(Zp (i:Int) d ops).length:=bsz _;rw[LCmd.text,ZK,h5,h4,show(⟨#[97,100,100]⟩:ByteArray).size=3 from rfl];omega
 |mov k j p=>
  have a:=Zab h.1;have b:=Zab h.2.1;have c:=Zab h.2.2
  have e:(ZD [k,j,p]).size=(Za k).size+(Za j).size+(Za p).size+2:=by
   unfold ZD Za;rw[bsz,bsz,bsz,bsz];simp[Zl];omega
  rw[LCmd.text,ZK,e,show(⟨#[109,111,118]⟩:ByteArray).size=3 from rfl];omega
 |undo=>exact(by decide:(⟨#[117,110,100,111]⟩:ByteArray).size≤200)
 |redo=>exact(by decide:(⟨#[114,101,100,111]⟩:ByteArray).size≤200)
 |del j=>
  have a:=Zab h;rw[LCmd.text,ZK,show(⟨#[100,101,108]⟩:ByteArray).size=3 from rfl];omega
 |ask=>exact(by decide:(⟨#[97,115,107]⟩:ByteArray).size≤200)
 |why p=>
  have a:=(ZaG h).2;rw[LCmd.text,ZK,show(⟨#[119,104,121]⟩:ByteArray).size=3 from rfl];omega
theorem Zb1 (mx nxt:BitVec 64→BitVec 64) (seed:BitVec 64) (i:Int):(Zd mx nxt seed i).size≤200:=by
 unfold Zd
 split
 ·exact ZbS (by omega) (Zau nxt _ (by omega) (by omega))
 ·decide
theorem Zda (mx nxt:BitVec 64→BitVec 64) (seed:BitVec 64) (i:Int):(10:UInt8)∉(Zd mx nxt seed i).data.toList:=by
 unfold Zd
 split
 ·rename_i h
  rw[←ZbM];intro e;have:=(Zbb (Zbs (by omega) (Zau nxt (ZbT mx seed i) (i:=i.toNat) (by omega) (by omega))) _ e).1
  revert this
  decide
 ·simp
def ZP (mx nxt:BitVec 64→BitVec 64) (seed:BitVec 64) (n:Nat):List ByteArray:=(List.range n).map fun(j:Nat)=>Zd mx nxt seed ((j:Int)+1)
theorem ZaD (mx nxt:BitVec 64→BitVec 64) (seed:BitVec 64) (n:Nat):(ZP mx nxt seed n).length=n:=by unfold ZP;simp
theorem ZaL (mx nxt:BitVec 64→BitVec 64) (seed:BitVec 64):∀n,Zw mx nxt seed n=(ZP mx nxt seed n).flatMap fun s=>s.data.toList++[10]
 |0=>rfl
 |n+1=>by
  rw[Zw,ZaL mx nxt seed n];unfold ZP;rw[List.range_succ,List.map_append,List.flatMap_append];simp
theorem ZaZ (mx nxt:BitVec 64→BitVec 64) (seed:BitVec 64) (n:Nat):∀d,∃r,Zw mx nxt seed (n+d)=Zw mx nxt seed n++r
 |0=>⟨[],by simp⟩
 |d+1=>by
  obtain⟨r,h⟩:=ZaZ mx nxt seed n d;exact⟨r++(Zd mx nxt seed (((n+d:Nat):Int)+1)++⟨#[10]⟩).data.toList,by rw[←Nat.add_assoc,Zw,h,List.append_assoc]⟩
theorem ZbV (mx nxt:BitVec 64→BitVec 64) (seed:BitVec 64) {n m:Int} (h0:0≤n) (h1:n≤m) (h2:m≤60):(Zr mx nxt seed n).size≤(Zr mx nxt seed m).size∧(Zr mx nxt seed m).extract 0 (Zr mx nxt seed n).size=Zr mx nxt seed n:=by
 obtain⟨a,rfl⟩:∃a:Nat,n=(a:Int):=⟨n.toNat,by omega⟩;obtain⟨d,rfl⟩:∃d:Nat,m=((a+d:Nat):Int):=⟨(m-a).toNat,by omega⟩;unfold Zr;rw[show(min ((a:Nat):Int) 1000).toNat=a by omega,show(min ((a+d:Nat):Int) 1000).toNat=a+d by omega,bsz,bsz];obtain⟨r,h⟩:=ZaZ mx nxt seed a d;rw[h];refine⟨by simp,?_⟩
 apply Zan
 simp
def Z4 (c:UInt8) (ws:List ByteArray):ByteArray:=⟨(Lib.join (ws.map (·.data.toList)) [c]).toArray⟩
theorem ZbK {c:UInt8} {ws:List ByteArray} (h:ws≠[]) (hc:∀x∈ws,c∉x.data.toList):Lib.countB (Z4 c ws) ⟨#[c]⟩+1=ws.length∧Lib.splitB ⟨#[c]⟩ 0 (Lib.countB (Z4 c ws) ⟨#[c]⟩) (Z4 c ws)=ws:=by
 have h1:ws.map (·.data.toList)≠[]:=by simpa using h
 have h2:∀x∈ws.map (·.data.toList),c∉x:=fun x hx=>by
  obtain⟨y,hy,rfl⟩:=List.mem_map.1 hx;exact hc y hy
 obtain⟨a,b⟩:=Zaq h1 h2;have e:Lib.countB (Z4 c ws) ⟨#[c]⟩=Lib.count (Lib.join (ws.map (·.data.toList)) [c]) [c]:=by unfold Lib.countB Z4;rfl
 refine⟨by rw[e,a];simp,ZaB ?_⟩;rw[Lib.splitB_data,e];exact b
theorem Zba:∀(ls:List ByteArray),Lib.join ((ls++[(⟨#[]⟩:ByteArray)]).map (·.data.toList)) [10]=ls.flatMap fun s=>s.data.toList++[10]
 |[]=>by rw[List.nil_append,List.map_cons,List.map_nil,Lib.join_one];rfl
 |x::l=>by
  rw[List.cons_append,List.map_cons,Lib.join_cons,List.flatMap_cons,←Zba l]
  cases l with
  |nil=>simp[Lib.joinTail,Lib.join_one]
  |cons y r=>
   rw[List.cons_append,List.map_cons,Lib.join_cons];simp[Lib.joinTail]
end
end Go.Proofs.YtbcpoloakepnkaaGreatDoor
