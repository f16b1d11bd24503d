/- Edges, reads and witnesses by the document, in plain words; for right histories they are what the program tells. -/
import Derived.Test.YtonblekdfinpkaaGreatWqbf
import Derived.Test.YtonblekdfinpkaaGreatWqbh
namespace Go.Proofs.YtonblekdfinpkaaGreat
set_option linter.unusedVariables false
set_option linter.unusedSimpArgs false
section
open Go.RowKit
section
variable {h:Hist}
theorem ZhI (hr:Zc h=true) {i:Nat} (hi:i<h.txs.length):Zev h.txs i=true:=by
 unfold Zc at hr;simp only[Bool.and_eq_true,List.all_eq_true,List.mem_range]at hr;exact hr.1.1.2 i hi
theorem ZdC (hr:Zc h=true):(h.txs.map (·.id)).Pairwise (·<·):=Zmc fun j hj=>by
 rw[List.length_map]at hj;have:=ZhI hr hj;unfold Zev at this;rw[Qg hj]at this;simp only[Bool.and_eq_true]at this;have h1:=this.1.1;simp only[Qg (show j<h.txs.length by omega),decide_eq_true_eq]at h1;rw[List.getD_eq_getElem?_getD,List.getD_eq_getElem?_getD,List.getElem?_map,List.getElem?_map,Qg hj,Qg (show j<h.txs.length by omega)];exact h1
theorem ZhL (hr:Zc h=true) {t:HTx} (ht:t∈h.txs):Zu h.txs t.id=some t:=by
 obtain⟨k,hk,rfl⟩:=List.mem_iff_getElem.1 ht;have hp:=List.pairwise_iff_getElem.1 (ZdC hr);refine Zio hk (fun j hj=> ?_) (by simp);have:=hp j k (by simp;omega) (by simpa using hk) hj;simp only[List.getElem_map]at this;rw[beq_eq_false_iff_ne];omega
theorem ZeV {txs:List HTx} {i:Int} {t:HTx} (hf:Zu txs i=some t):t∈txs∧t.id=i:=by
 refine⟨Zer hf,?_⟩;unfold Zu at hf;have:=List.find?_some hf
 simpa using this
theorem Zc4 (hr:Zc h=true) {t:HTx} (ht:t∈h.txs):ZaF t.id t.ops=0∧ZbI h.txs t.id t.ops=true:=by
 obtain⟨k,hk,rfl⟩:=List.mem_iff_getElem.1 ht;have:=ZhI hr hk;unfold Zev at this;rw[Qg hk]at this;simp only[Bool.and_eq_true,beq_iff_eq]at this;exact⟨this.1.2,this.2⟩
theorem ZkH (hr:Zc h=true) {t:HTx} (ht:t∈h.txs):1≤t.id:=by
 have:=(Zc4 hr ht).1;unfold ZaF at this
 split at this
 ·cases this
 ·rename_i hid
  unfold idB at hid;simp at hid;exact hid.1
theorem Zjs (id:Int) (l:List HOp):∀k,k≤l.length→∀j (hj:j<k) (hl:j<l.length),Zch id l[j]=true→Zaf l[j]∈Zar id l k
 |0,_,j,hj,_,_=>by omega
 |k+1,hk,j,hj,hl,hn=>by
  have ih:=Zjs id l k (by omega)
  show Zaf l[j]∈(match l[k]? with|some o=>_|none=>_)
  rw[Qg (show k<l.length by omega)]
  by_cases e:j=k
  ·subst e;simp only[hn,Bool.true_and]
   by_cases hc:Zaf l[j]∈Zar id l j
   ·simp[hc]
   ·simp[hc]
  ·have:=ih j (by omega) hl hn;simp only
   split
   ·exact List.mem_append_left _ this
   ·exact this
theorem Zoc (hr:Zc h=true) {t:HTx} (ht:t∈h.txs) {o:HOp} (ho:o∈t.ops) (hn:Zch t.id o=true):Zay h.txs (Zaf o)=true:=by
 have h1:=(Zc4 hr ht).2;unfold ZbI at h1;rw[List.all_eq_true]at h1;obtain⟨j,hj,rfl⟩:=List.mem_iff_getElem.1 ho;exact h1 _ (Zjs t.id t.ops _ (Nat.le_refl _) j hj hj hn)
theorem ZlN (hr:Zc h=true) {t:HTx} (ht:t∈h.txs) {o:HOp} (ho:o∈t.ops) (hrd:o.read=true) (h0:o.tx≠0) (h1:o.tx≠t.id):∃u,Zu h.txs o.tx=some u:=by
 have hv:Zaf o=⟨o.tx,o.key,o.nth⟩:=by unfold Zaf;rw[if_pos hrd]
 have:=Zoc hr ht ho (by unfold Zch;rw[hv];simp[hrd,h0,h1]);rw[hv]at this
 cases hf:Zu h.txs o.tx with
 |some u=>exact⟨u,rfl⟩
 |none=>
  unfold Zay at this;simp[h0,hf]at this
end
/-! how often there is a reason for an edge -/
def p2 (f key:Int) (n:Nat) (o:HOp):Bool:=o.read&&o.key==key&&o.tx==f&&o.nth==(n:Int)
def p3 (h:Hist) (id key t:Int) (o:HOp):Bool:=o.read&&o.key==key&& !(o.tx==id)&&Zic h.txs ⟨o.tx,o.key,o.nth⟩&&Zfi h.ords key o.tx t
def ZaE (h:Hist) (e:Edge):Nat:=
 match Z0 h.txs e.f,Z0 h.txs e.t with
 |some a,some b=>
  if e.f=e.t then 0
  else if e.k=1 then (if Zfi h.ords e.key e.f e.t then 1 else 0)
  else if e.k=2 then b.ops.countP (p2 e.f e.key (Zai a.ops e.key))
  else if e.k=3 then a.ops.countP (p3 h a.id e.key e.t)
  else 0
 |_,_=>0
theorem ZcR {txs:List HTx} {i:Int} {t:HTx} (hd:Z0 txs i=some t):Zu txs i=some t∧t.done=true:=by
 unfold Z0 at hd
 split at hd
 ·split at hd
  ·rename_i u hf hu
   cases hd
   exact⟨hf,hu⟩
  ·cases hd
 ·cases hd
/-! bad reads -/
def Zgi (txs:List HTx) (t:HTx) (p:Int) (o:HOp):Bool:=
 t.done&&o.read&& !(o.tx==0)&& !(o.tx==t.id)&&(match Zu txs o.tx with|none=>false|some u=>if p=2 then !u.done else p==3&&decide (o.nth<(Zai u.ops o.key:Int)))
def Zkh (txs:List HTx) (p:Int) (t:HTx) (i:Nat) (acc:List HBad):List HOp→List HBad
 |[]=>acc
 |o::l=>Zkh txs p t (i+1) (if Zgi txs t p o then acc++[⟨t.id,i,Zaf o⟩] else acc) l
def Zki (txs:List HTx) (p:Int) (acc:List HBad):List HTx→List HBad
 |[]=>acc
 |t::l=>Zki txs p (Zkh txs p t 0 acc t.ops) l
def Zcq (h:Hist) (p:Int):List HBad:=if Zc h=true then Zki h.txs p [] h.txs else []
/-! witnesses -/
end
/- Looking at a history:reads that may not be. -/
section
open Go.RowKit
def Zeg (txs:List HTx) (i:Int):Bool:=match Zu txs i with|some u=>u.done|none=>false
def Zeu (txs:List HTx) (i:Int):List HOp:=match Zu txs i with|some u=>u.ops|none=>[]
section
variable {txs:List HTx} {p:Int} {b:HBad}
end
theorem Zt5 (w:World) (k t n:Int):Calls Tryz.prog 134 #[.agg #[.bool true,.int .i64 k,.int .i64 t,.int .i64 n]] w fun e w'=>e= .returned (.agg #[.int .i64 t,.int .i64 k,.int .i64 n])∧Upd No w w':=oof w ⟨true,k,t,n⟩
end
/- Looking at a history:witnesses. -/
section
open Go.RowKit
def ZnE (b:HBad):Value:= .agg #[.int .i64 b.tx,.int .i64 b.place,.int .i64 b.of.tx,.int .i64 b.of.key,.int .i64 b.of.nth]
theorem ZmK (w:World) (n:Nat) (a b c a' b' c':Int):(Op.equalIn (n+1+1) 36 (.agg #[.int .i64 a,.int .i64 b,.int .i64 c]) (.agg #[.int .i64 a',.int .i64 b',.int .i64 c'])).run Tryz.prog w= .ok (decide ((⟨a,b,c⟩:Ver)=⟨a',b',c'⟩)) w:=by
 rw[run_equalIn_struct w _ _ _ _ (by kernel_rfl) (by kernel_rfl)];have hI:∀(w:World) (d:Nat) (x y:Int),(Op.equalIn (d+1) 3 (.int .i64 x) (.int .i64 y)).run Tryz.prog w= .ok (x==y) w:=fun w d x y=>run_equalIn_int w d _ _ _ x y Tryz.underlying3
 by_cases h1:a=a'<;>by_cases h2:b=b'<;>by_cases h3:c=c'<;>
  simp[Program.fieldsOf,Tryz.underlying36,Op.eqFields,part,hI,h1,h2,h3,Result.andThen]
theorem Zpa (w:World) (x y:HBad):(Op.equalIn 10000 38 (ZnE x) (ZnE y)).run Tryz.prog w= .ok (decide (x=y)) w:=by
 obtain⟨a,b,⟨c,d,e⟩⟩:=x;obtain⟨a',b',⟨c',d',e'⟩⟩:=y;unfold ZnE
 show(Op.equalIn (9997+1+1+1) _ _ _).run _ w=_
 rw[run_equalIn_struct w _ _ _ _ (by kernel_rfl) (by kernel_rfl)]
 generalize 9997=n
 have hI:∀(w:World) (d:Nat) (x y:Int),(Op.equalIn (d+1) 3 (.int .i64 x) (.int .i64 y)).run Tryz.prog w= .ok (x==y) w:=fun w d x y=>run_equalIn_int w d _ _ _ x y Tryz.underlying3
 have hV:=fun w=>ZmK w n c d e c' d' e'
 have hp:∀(w:World) (q r c d e:Value),(part 36 #[q,r,c,d,e] 2).run Tryz.prog w= .ok (.agg #[c,d,e]) w:=fun w q r c d e=>by
  obtain⟨i,hi,_,hs,_⟩:=info_parts (P:=Tryz.prog) (e:=36) (z:= .agg #[.int .i64 0,.int .i64 0,.int .i64 0]) (size:=3) (bytes:=24) (by kernel_rfl);simp[part,isAgg,run_underlying Tryz.underlying36,sizeOf,typeInfo,hi,hs,Result.andThen]
 have hp0:∀(w:World) (q r c d e:Value),(part 3 #[q,r,c,d,e] 0).run Tryz.prog w= .ok q w:=fun w q r c d e=>by simp[part,isAgg,run_underlying Tryz.underlying3]
 have hp1:∀(w:World) (q r c d e:Value),(part 3 #[q,r,c,d,e] 1).run Tryz.prog w= .ok r w:=fun w q r c d e=>by simp[part,isAgg,run_underlying Tryz.underlying3]
 by_cases h1:a=a'<;>by_cases h2:b=b'<;>by_cases h3:(⟨c,d,e⟩:Ver)=⟨c',d',e'⟩<;>
  simp[Program.fieldsOf,Tryz.underlying38,Op.eqFields,hp,hp0,hp1,hI,hV,h1,h2,h3,Result.andThen]
section
variable {h:Hist} {p:Int} {l:List Edge} {b:HBad}
end
theorem ZrH {F:Nat→Prop} {w:World} {txs:List HTx} {ords:List HOrd} {A:Option Addr} {c:Nat} {B:Option Addr} {d:Nat} {r:Bool} (H:Hist.lies F w ⟨txs,ords,A,c,B,d⟩) (hr:Zc ⟨txs,ords,A,c,B,d⟩=r):
  Calls Tryz.prog 41 #[.agg #[.slice A txs.length c,.slice B ords.length d]] w fun e w'=>e= .returned (.bool r)∧Upd No w w':=by subst hr;exact ZoN F w ⟨txs,ords,A,c,B,d⟩ H
end
/- The document:the reads that may not be. -/
section
open Go.RowKit
theorem Upd.noR {S:Nat→Prop} {a w w':World} (h:Upd S a w) (k:Upd No w w'):Upd S a w':=h.trans_ k fun _ _ t=>t.elim
def Bads (F:Nat→Prop) (w:World) (A:Option Addr) (l:List HBad):Prop:=Recs F w A 5 (l.map HBad.cells)
theorem Bads.at_ {F:Nat→Prop} {w:World} {A:Option Addr} {l:List HBad} (h:Bads F w A l) {k:Nat} (hk:k<l.length):∃ad,A=some ad∧
  w.cell? (ad.add (k*5))=some (.int .i64 l[k].tx)∧w.cell? ⟨(ad.add (k*5)).block,(ad.add (k*5)).off+1,none⟩=some (.int .i64 l[k].place)∧
  w.cell? ⟨(ad.add (k*5)).block,(ad.add (k*5)).off+2,none⟩=some (.int .i64 l[k].of.tx)∧w.cell? ⟨(ad.add (k*5)).block,(ad.add (k*5)).off+3,none⟩=some (.int .i64 l[k].of.key)∧
  w.cell? ⟨(ad.add (k*5)).block,(ad.add (k*5)).off+4,none⟩=some (.int .i64 l[k].of.nth):=by
 have hk':k<(l.map HBad.cells).length:=by simpa using hk
 obtain⟨ad,e,_,_,hc⟩:=Recs.at_ h hk';rw[List.getElem_map]at hc;exact⟨ad,e,by simpa using hc 0 _ rfl,by simpa using hc 1 _ rfl,by simpa using hc 2 _ rfl,by simpa using hc 3 _ rfl,by simpa using hc 4 _ rfl⟩
theorem Bads.upd {F S:Nat→Prop} {w w':World} {A:Option Addr} {l:List HBad} (h:Bads F w A l) (k:Upd S w w') (hn:∀i,F i→¬S i):Bads F w' A l:=Recs.upd h k hn
theorem Zqz {l:List HBad}:∀r∈l.map HBad.cells,r.length=5:=fun r hr=>by
 obtain⟨e,_,rfl⟩:=List.mem_map.1 hr;rfl
theorem Zpx:SlT Tryz.prog 103 38 5 40:=SlT.mk_ Tryz.underlying103 (z:= .agg #[.int .i64 0,.int .i64 0,.int .i64 0,.int .i64 0,.int .i64 0]) (by kernel_rfl) rfl (by omega)
theorem ZrX (w:World) (x y:HBad):(binOp .eql 38 (.agg #[.int .i64 x.tx,.int .i64 x.place,.int .i64 x.of.tx,.int .i64 x.of.key,.int .i64 x.of.nth]) (.agg #[.int .i64 y.tx,.int .i64 y.place,.int .i64 y.of.tx,.int .i64 y.of.key,.int .i64 y.of.nth])).run Tryz.prog w= .ok (.bool (x==y)) w:=by
 have:=Zpa w x y;unfold ZnE at this;rw[run_eql_struct,this];simp only[Result.andThen]
 by_cases h:x=y<;>simp[h]
theorem ZlB {w':World} {base:Nat} {l:List HBad} {A:Option Addr} {c:Nat} (h:w'.ownsRow base 38 5 (.slice A l.length c) l.length (l.map HBad.cells).flatten):Bads (fun i=>base≤i) w' A l:=by
 have h2:=Recs.of_own (n:=l.length) (c:=c) Zqz (by omega) h;exact Recs.weak h2 fun i _ hi=>(h.lt i hi).1
def ZmE (w:World) (l:List HBad) (e:Ending) (w':World):Prop:=∃A c,e= .returned (.slice A l.length c)∧w'.ownsRow w.heap.size 38 5 (.slice A l.length c) l.length (l.map HBad.cells).flatten∧Upd No w w'
end
/- Looking at a history:the exported functions,with their values named. -/
section
open Go.RowKit
section
variable {F G:Nat→Prop} {w:World} {txs:List HTx} {ords:List HOrd} {A B:Option Addr} {c d n1 n2:Nat}
end
theorem Zcs {w:World} {g size:Nat} {t:TypeId} {rows:List (List Value)} (hr:∀r∈rows,r.length=size) (h:Blk w g t rows.flatten):Recs (fun i=>i=g) w (some ⟨g,0,none⟩) size rows:=fun _=>by
 refine⟨_,rfl,rfl,h.lt,fun i row hi j v hj=> ?_⟩;have e1:(⟨g,0,none⟩:Addr).add (i*size+j)=⟨g,i*size+j,none⟩:=by unfold Addr.add;split<;>simp_all
 rw[e1,h.cell];exact Zd8 hr hi hj
theorem Zfm {w:World} {g:Nat} {t:TypeId} {xs:List Int} (h:Blk w g t (xs.map (Value.int .i64))):Ints (fun i=>i=g) w (some ⟨g,0,none⟩) xs:=
 Ints.of_row h rfl fun j v hj=>by rw[List.getElem?_toArray,List.getElem?_map,hj];rfl
def Zaa (n:Nat):Hist:=
 ⟨[⟨1,true,[⟨true,1,0,0⟩,⟨false,2,0,0⟩],some ⟨n+1,0,none⟩,2⟩,⟨2,true,[⟨true,2,0,0⟩,⟨false,1,0,0⟩],some ⟨n+1+1,0,none⟩,2⟩],
  [⟨1,[2],some ⟨n+1+1+1+1,0,none⟩,1⟩,⟨2,[1],some ⟨n+1+1+1+1+1,0,none⟩,1⟩],some ⟨n+1+1+1,0,none⟩,2,some ⟨n+1+1+1+1+1+1,0,none⟩,2⟩
theorem Zn1 {W:World} {n:Nat} {t1 t2 t3 t4:TypeId}
  (b1:Blk W (n+1) t1 [.bool true,.int .i64 1,.int .i64 0,.int .i64 0,.bool false,.int .i64 2,.int .i64 0,.int .i64 0])
  (b2:Blk W (n+1+1) t1 [.bool true,.int .i64 2,.int .i64 0,.int .i64 0,.bool false,.int .i64 1,.int .i64 0,.int .i64 0])
  (b3:Blk W (n+1+1+1) t2 [.int .i64 1,.bool true,.slice (some ⟨n+1,0,none⟩) 2 2,.int .i64 2,.bool true,.slice (some ⟨n+1+1,0,none⟩) 2 2])
  (b4:Blk W (n+1+1+1+1) t3 [.int .i64 2]) (b5:Blk W (n+1+1+1+1+1) t3 [.int .i64 1])
  (b6:Blk W (n+1+1+1+1+1+1) t4 [.int .i64 1,.slice (some ⟨n+1+1+1+1,0,none⟩) 1 1,.int .i64 2,.slice (some ⟨n+1+1+1+1+1,0,none⟩) 1 1]):
  (Zaa n).lies (fun _=>True) W:=by
 have h3:∀(l:List HTx),∀r∈l.map HTx.cells,r.length=3:=fun l r hr=>by
  obtain⟨e,_,rfl⟩:=List.mem_map.1 hr;rfl
 have h2:∀(l:List HOrd),∀r∈l.map HOrd.cells,r.length=2:=fun l r hr=>by
  obtain⟨e,_,rfl⟩:=List.mem_map.1 hr;rfl
 refine⟨(Zcs (h3 _) b3).weak fun _ _ _=>trivial,(Zcs (h2 _) b6).weak fun _ _ _=>trivial,?_,?_,by simp[Zaa],by simp[Zaa],by simp[Zaa],by simp[Zaa]⟩
 ·intro t ht;simp only[Zaa,List.mem_cons,List.not_mem_nil,or_false]at ht;rcases ht with rfl|rfl
  ·refine⟨Recs.weak (Zcs Zc0 b1) fun _ _ _=>trivial,by simp,by unfold ZM;simp,by unfold i64;simp,?_⟩;intro o ho;simp only[List.mem_cons,List.not_mem_nil,or_false]at ho;rcases ho with rfl|rfl<;>(unfold HOp.ok i64;decide)
  ·refine⟨Recs.weak (Zcs Zc0 b2) fun _ _ _=>trivial,by simp,by unfold ZM;simp,by unfold i64;simp,?_⟩;intro o ho;simp only[List.mem_cons,List.not_mem_nil,or_false]at ho;rcases ho with rfl|rfl<;>(unfold HOp.ok i64;decide)
 ·intro o ho;simp only[Zaa,List.mem_cons,List.not_mem_nil,or_false]at ho;rcases ho with rfl|rfl
  ·refine⟨(Zfm (xs:=[2]) b4).weak fun _ _ _=>trivial,by simp,by simp,by unfold i64;simp,?_⟩;intro n hn;simp only[List.mem_cons,List.not_mem_nil,or_false]at hn;subst hn;unfold i64;decide
  ·refine⟨(Zfm (xs:=[1]) b5).weak fun _ _ _=>trivial,by simp,by simp,by unfold i64;simp,?_⟩;intro n hn;simp only[List.mem_cons,List.not_mem_nil,or_false]at hn;subst hn;unfold i64;decide
set_option maxRecDepth 100000 in
theorem Ztb (w:World):Calls Tryz.prog 46 #[] w fun e w'=>e= .returned (.agg #[.slice (some ⟨w.heap.size+1+1+1,0,none⟩) 2 2,.slice (some ⟨w.heap.size+1+1+1+1+1+1,0,none⟩) 2 2])∧(Zaa w.heap.size).lies (fun _=>True) w'∧Upd No w w':=by
 go_enter Tryz.func46,Tryz.ntmps46
 go_wp2;refine bodyPost_ret (v:= .agg #[.slice (some ⟨w.heap.size+1+1+1,0,none⟩) 2 2,.slice (some ⟨w.heap.size+1+1+1+1+1+1,0,none⟩) 2 2]) (by simp[results,Tryz.results46,go_sem]) rfl ⟨rfl,?_,((((((((Upd.refl No w).alloc _).alloc _).alloc _).alloc _).alloc _).alloc _).alloc _)⟩;exact Zn1 (((((((Blk.new_at (by simp only[World.size_alloc])).alloc _).alloc _).alloc _).alloc _).alloc _)) ((((((Blk.new_at (by simp only[World.size_alloc])).alloc _).alloc _).alloc _).alloc _)) (((((Blk.new_at (by simp only[World.size_alloc])).alloc _).alloc _).alloc _)) ((((Blk.new_at (by simp only[World.size_alloc])).alloc _).alloc _)) (((Blk.new_at (by simp only[World.size_alloc])).alloc _)) (Blk.new_at (by simp only[World.size_alloc]))
def Zcz (n:Nat):Hist:=
 ⟨[⟨1,false,[⟨false,5,0,0⟩],some ⟨n,0,none⟩,1⟩,⟨2,true,[⟨true,5,1,1⟩],some ⟨n+1,0,none⟩,1⟩],[],some ⟨n+1+1,0,none⟩,2,none,0⟩
theorem ZqA {W:World} {n:Nat} {t1 t2:TypeId}
  (b1:Blk W n t1 [.bool false,.int .i64 5,.int .i64 0,.int .i64 0]) (b2:Blk W (n+1) t1 [.bool true,.int .i64 5,.int .i64 1,.int .i64 1])
  (b3:Blk W (n+1+1) t2 [.int .i64 1,.bool false,.slice (some ⟨n,0,none⟩) 1 1,.int .i64 2,.bool true,.slice (some ⟨n+1,0,none⟩) 1 1]):
  (Zcz n).lies (fun _=>True) W:=by
 have h3:∀(l:List HTx),∀r∈l.map HTx.cells,r.length=3:=fun l r hr=>by
  obtain⟨e,_,rfl⟩:=List.mem_map.1 hr;rfl
 refine⟨(Zcs (h3 _) b3).weak fun _ _ _=>trivial,fun h=>absurd rfl h,?_,fun o ho=>by simp[Zcz]at ho,by simp[Zcz],by simp[Zcz],by simp[Zcz],by simp[Zcz]⟩;intro t ht;simp only[Zcz,List.mem_cons,List.not_mem_nil,or_false]at ht;rcases ht with rfl|rfl
 ·refine⟨Recs.weak (Zcs Zc0 b1) fun _ _ _=>trivial,by simp,by unfold ZM;simp,by unfold i64;simp,?_⟩;intro o ho;simp only[List.mem_cons,List.not_mem_nil,or_false]at ho;subst ho;unfold HOp.ok i64;decide
 ·refine⟨Recs.weak (Zcs Zc0 b2) fun _ _ _=>trivial,by simp,by unfold ZM;simp,by unfold i64;simp,?_⟩;intro o ho;simp only[List.mem_cons,List.not_mem_nil,or_false]at ho;subst ho;unfold HOp.ok i64;decide
def e1:Edge:=⟨1,2,3,1⟩
def e2:Edge:=⟨2,1,3,2⟩
section
variable (n:Nat)
theorem a1:ZdT (Zaa n) 5 [e1,e2] ZdH=true:=by kernel_rfl
theorem a2:ZdT (Zaa n) 5 [e1,e2,e1,e2] ZdH=true:=by kernel_rfl
theorem a3:ZdT (Zaa n) 4 [e1,e2] ZdH=false:=by kernel_rfl
theorem a4:ZdT (Zaa n) 5 [e1] ZdH=false:=by kernel_rfl
theorem a5:ZdT (Zaa n) 5 [e1,e2] ⟨2,0,⟨1,5,1⟩⟩=false:=by kernel_rfl
theorem a6 (B:Option Addr):ZdT ⟨(Zaa n).txs,[],(Zaa n).A,2,B,0⟩ 5 [e1,e2] ZdH=false:=by kernel_rfl
theorem a9:(Zc (Zaa n)&&ZqU (Zaa n) ⟨1,2,3,2⟩)=false:=by kernel_rfl
end
end
end Go.Proofs.YtonblekdfinpkaaGreat
