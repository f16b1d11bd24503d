/- Orders as if one by one, plain: an order agrees with a history just if there are no bad reads and it goes along all edges. -/
import Derived.Test.YtonblekdfinpkaaGreatSyao
import Derived.Test.YtonblekdfinpkaaGreatSyav
import Derived.Test.YtonblekdfinpkaaGreatSybe
import Derived.Test.YtonblekdfinpkaaGreatSybg
import Derived.Test.YtonblekdfinpkaaGreatSybh
import Derived.Test.YtonblekdfinpkaaGreatSybi
import Derived.Test.YtonblekdfinpkaaGreatSybm
import Derived.Test.YtonblekdfinpkaaGreatSybn
import Derived.Test.YtonblekdfinpkaaGreatSybp
import Derived.Test.YtonblekdfinpkaaGreatSybq
import Derived.Test.YtonblekdfinpkaaGreatSybu
import Derived.Test.YtonblekdfinpkaaGreatSybw
import Derived.Test.YtonblekdfinpkaaGreatSybx
namespace Go.Proofs.YtonblekdfinpkaaGreat
set_option linter.unusedVariables false
set_option linter.unusedSimpArgs false
section
def wrT (txs:List HTx) (id key:Int):Bool:=match Ze txs id with|some t=>decide (0<Zc t.ops key)|none=>false
def Zae (txs:List HTx) (l:List Int) (key:Int):Int:=l.foldl (fun a id=>if wrT txs id key then id else a) 0
theorem Zi1 (txs:List HTx) (l:List Int) (y key:Int):Zae txs (l++[y]) key=if wrT txs y key then y else Zae txs l key:=by
 unfold Zae;rw[List.foldl_append];rfl
section
variable {h:Hist} {O:List Int}
theorem ZmA (hr:Za h=true) {o:HOrd} (ho:o∈h.ords) (x:Int):x∈o.txs↔∃t,Zq h.txs x=some t∧0<Zc t.ops o.key:=by
 rw[(Zbe hr ho).mem_iff];unfold Zf;rw[List.mem_map]
 constructor
 ·rintro⟨t,ht,rfl⟩;rw[List.mem_filter,Bool.and_eq_true]at ht;refine⟨t,ZlJ hr ht.1 ht.2.1,?_⟩;rw[←Zcc]
  simpa using ht.2.2
 ·rintro⟨t,ht,hw⟩;obtain⟨h1,h2⟩:=ZcL ht;rw[List.mem_filter]at h1;refine⟨t,?_,h2⟩;rw[List.mem_filter,Bool.and_eq_true];refine⟨h1.1,h1.2,?_⟩;have:=(Zcc t.ops o.key).2 hw
  simpa using this
/-! edges in plain words -/
/-! an order that agrees goes along -/
/-! an order that goes along agrees,if there are no bad reads -/
/-! along all edges none goes round -/
end
end
/- Orders as if one by one,plain:whether one agrees,as it is computed. -/
section
def ZQ (txs:List HTx) (id:Int):HTx:=(Ze txs id).getD ⟨0,false,[],none,0⟩
def ZbL (txs:List HTx) (ahead:List Int) (t:HTx):Bool:=
 t.ops.all fun o=> !o.read||(o.tx==t.id||(o.tx==Zae txs ahead o.key&&(o.tx==0||o.nth==(Zc (ZQ txs o.tx).ops o.key:Int))))
def ZaW (a b:List Int):List Int:=a.filter fun x=>decide (x∈b)
def Zeg (h:Hist) (O:List Int):Bool:=
 Za h&&(ZaP O (Zd h.txs)&&(h.ords.all (fun o=>ZaW O o.txs==o.txs)&&(List.range O.length).all fun i=>ZbL h.txs (O.take i) (ZQ h.txs (O.getD i 0))))
section
variable {h:Hist} {O:List Int}
theorem Zj4 (hr:Za h=true):ZaP O (Zd h.txs)=true↔O.Nodup∧∀x,x∈O↔∃t,Zq h.txs x=some t:=by
 have hd:(Zd h.txs).Nodup:=Zdw hr
 constructor
 ·intro e;rw[ZbS,beq_iff_eq]at e;have hp:O.Perm (Zd h.txs):=(Zo _).symm.trans (e▸Zo _);exact⟨hp.nodup_iff.2 hd,fun x=>(hp.mem_iff).trans (Za9 hr x)⟩
 ·rintro⟨h1,h2⟩;have hp:O.Perm (Zd h.txs):=(List.perm_ext_iff_of_nodup h1 hd).2 fun x=>(h2 x).trans (Za9 hr x).symm
  unfold ZaP;rw[Bool.and_eq_true,beq_iff_eq,List.all_eq_true];exact⟨hp.length_eq,fun x _=>by rw[hp.count_eq];simp⟩
theorem ZdH {x:Int} {t:HTx} (ht:Zq h.txs x=some t):ZQ h.txs x=t∧t.id=x∧t∈h.txs∧t.done=true:=by
 obtain⟨h1,h2⟩:=ZaQ ht;obtain⟨h3,h4⟩:=ZbC h1;exact⟨by unfold ZQ;rw[h1];rfl,h4,h3,h2⟩
end
end
/- Orders as if one by one,plain:what the program computes,of each key the version that was written last,is the document's. -/
section
def ZfK (t:HTx) (f:Int→Option Ver) (k:Int):Option Ver:=if k∈Zl t.ops then some ⟨t.id,k,(Zc t.ops k:Int)⟩ else f k
def Zeh (f:Int→Option Ver) (t:HTx):Bool:=t.ops.all fun o=> !o.read||(o.tx==t.id||ZN o==(f o.key).getD ⟨0,o.key,0⟩)
def ZM (txs:List HTx):List Int→(Int→Option Ver)→Int→Option Ver
 |[],f=>f
 |id::l,f=>ZM txs l (ZfK (ZQ txs id) f)
def ZaS (txs:List HTx):List Int→(Int→Option Ver)→Bool
 |[],_=>true
 |id::l,f=>Zeh f (ZQ txs id)&&ZaS txs l (ZfK (ZQ txs id) f)
def ZX (txs:List HTx) (l:List Int) (k:Int):List Int:=l.filter fun id=>decide (k∈Zl (ZQ txs id).ops)
def Zbo (h:Hist) (O:List Int):Bool:=Za h&&(ZaP O (Zd h.txs)&&(ZaS h.txs O (fun _=>none)&&h.ords.all fun o=>o.txs==ZX h.txs O o.key))
theorem Zeo (txs:List HTx) (id k:Int):wrT txs id k=decide (k∈Zl (ZQ txs id).ops):=by
 unfold wrT ZQ
 cases Ze txs id with
 |none=>rfl
 |some t=>
  show decide _=decide _
  rw[Bool.eq_iff_iff,decide_eq_true_eq,decide_eq_true_eq];exact(Zcc t.ops k).symm
theorem Zml {txs:List HTx} {id k:Int} (h:wrT txs id k=true):(ZQ txs id).id=id:=by
 unfold wrT at h;unfold ZQ
 cases hf:Ze txs id with
 |none=>rw[hf]at h;cases h
 |some t=>exact(ZbC hf).2
theorem ZbE (txs:List HTx) (id:Int):∀(l:List Int) (f:Int→Option Ver),ZM txs (l++[id]) f=ZfK (ZQ txs id) (ZM txs l f)
 |[],_=>rfl
 |_::l,f=>ZbE txs id l _
theorem Zcl (txs:List HTx) (k:Int):∀(n:Nat) (l:List Int),l.length=n→
  (ZM txs l (fun _=>none) k=none∧Zae txs l k=0∧∀x∈l,wrT txs x k=false)∨
  (ZM txs l (fun _=>none) k=some ⟨Zae txs l k,k,(Zc (ZQ txs (Zae txs l k)).ops k:Int)⟩∧Zae txs l k∈l∧wrT txs (Zae txs l k) k=true)
 |0,l,h=>by
  obtain rfl:=List.eq_nil_of_length_eq_zero h;exact Or.inl ⟨rfl,rfl,fun x hx=>by cases hx⟩
 |n+1,l,h=>by
  obtain⟨m,id,rfl⟩:∃m id,l=m++[id]:=⟨l.dropLast,l.getLast (by intro e;rw[e]at h;cases h),(List.dropLast_concat_getLast _).symm⟩;have ih:=Zcl txs k n m (by simpa using h);rw[ZbE,Zi1];unfold ZfK
  by_cases hw:wrT txs id k=true
  ·have hk:k∈Zl (ZQ txs id).ops:=by rw[Zeo]at hw;exact of_decide_eq_true hw
   rw[if_pos hk,if_pos hw,Zml hw];exact Or.inr ⟨rfl,by simp,hw⟩
  ·have hk:¬k∈Zl (ZQ txs id).ops:=fun e=>hw (by rw[Zeo];exact decide_eq_true e)
   rw[if_neg hk,if_neg hw];rcases ih with ⟨h1,h2,h3⟩|⟨h1,h2,h3⟩
   ·refine Or.inl ⟨h1,h2,fun x hx=> ?_⟩;rcases List.mem_append.1 hx with hx|hx
    ·exact h3 x hx
    ·rw[List.mem_singleton.1 hx];simpa using hw
   ·exact Or.inr ⟨h1,List.mem_append_left _ h2,h3⟩
section
variable {h:Hist} {O:List Int}
theorem ZkV (hr:Za h=true) {t:HTx} (ht:t∈h.txs) {o:HOp} (ho:o∈t.ops):opB o=true:=by
 have h0:=(ZcM hr ht).1;unfold ZE at h0
 split at h0
 ·cases h0
 ·split at h0
  ·cases h0
  ·have key:∀n,Zt t.id t.ops n=0→∀j,j<n→Z7 t.id t.ops j=0:=by
    intro n
    induction n with
    |zero=>intro _ j hj;omega
    |succ n ih=>
     intro e j hj;unfold Zt at e
     split at e
     ·rename_i e1
      by_cases hjn:j=n
      ·rw[hjn];exact e
      ·exact ih e1 j (by omega)
     ·rename_i e1;exact absurd e e1
   obtain⟨j,hj,rfl⟩:=List.mem_iff_getElem.1 ho;have hb:=key _ h0 j hj;unfold Z7 at hb;rw[Qg hj]at hb;simp only at hb
   split at hb
   ·cases hb
   ·rename_i hq;simpa using hq
theorem ZjX (hr:Za h=true) {t:HTx} (ht:t∈h.txs) {o:HOp} (ho:o∈t.ops) (hrd:o.read=true) (h0:o.tx=0):o.nth=0:=by
 have:=ZkV hr ht ho;unfold opB ZI ZN at this;rw[if_pos hrd,if_pos hrd,h0]at this;simp only[Bool.and_eq_true,Bool.or_eq_true,beq_iff_eq]at this;rcases this.2 with h1|h1
 ·exact h1.2
 ·have:=h1.1.1;unfold idB at this;simp at this
theorem ZiH (hr:Za h=true) {t:HTx} (ht:t∈h.txs) {l:List Int} (hl:∀x∈l,x≠0):Zeh (ZM h.txs l (fun _=>none)) t=ZbL h.txs l t:=by
 unfold Zeh ZbL;rw[Bool.eq_iff_iff,List.all_eq_true,List.all_eq_true];refine forall_congr' fun o=>forall_congr' fun ho=> ?_
 cases hrd:o.read with
 |false=>simp
 |true=>
  have hv:ZN o=⟨o.tx,o.key,o.nth⟩:=by unfold ZN;rw[if_pos hrd]
  rw[hv]
  by_cases he:o.tx=t.id
  ·simp[he]
  ·have e1:(o.tx==t.id)=false:=by simpa using he
   rw[e1,Bool.not_true,Bool.false_or,Bool.false_or,Bool.false_or,Bool.false_or,beq_iff_eq,Bool.and_eq_true,beq_iff_eq,Bool.or_eq_true,beq_iff_eq,beq_iff_eq];rcases Zcl h.txs o.key l.length l rfl with ⟨h1,h2,_⟩|⟨h1,h2,h3⟩
   ·rw[h1,h2,Option.getD_none,Ver.mk.injEq]
    constructor
    ·rintro⟨a,_,_⟩;exact⟨a,Or.inl a⟩
    ·rintro⟨a,_⟩;exact⟨a,rfl,ZjX hr ht ho hrd a⟩
   ·rw[h1,Option.getD_some,Ver.mk.injEq];have hne:=hl _ h2
    constructor
    ·rintro⟨a,_,b⟩;exact⟨a,Or.inr (by rw[a];exact b)⟩
    ·rintro⟨a,b⟩;rcases b with b|b
     ·exact absurd (a.symm.trans b) hne
     ·exact⟨a,rfl,by rw[a]at b;exact b⟩
theorem Zg7 (hr:Za h=true) (hO:∀x∈O,∃t,Zq h.txs x=some t):∀(m l:List Int),l++m=O→ZaS h.txs m (ZM h.txs l (fun _=>none))=(List.range m.length).all fun i=>ZbL h.txs (O.take (l.length+i)) (ZQ h.txs (m.getD i 0))
 |[],l,_=>rfl
 |id::m,l,e=>by
  have ih:=Zg7 hr hO m (l++[id]) (by rw[←e];simp);rw[ZbE]at ih;unfold ZaS;rw[ih,List.length_cons,List.range_succ_eq_map,List.all_cons,List.all_map];have hid:id∈O:=by rw[←e];simp
  obtain⟨t,ht⟩:=hO id hid;obtain⟨g1,g2,g3,g4⟩:=ZdH ht
  have h1:ZbL h.txs (O.take (l.length+0)) (ZQ h.txs ((id::m).getD 0 0))=Zeh (ZM h.txs l (fun _=>none)) (ZQ h.txs id):=by
   rw[show(id::m).getD 0 0=id from rfl,Nat.add_zero,←e,List.take_left,g1];refine(ZiH hr g3 fun x hx=> ?_).symm;obtain⟨u,hu⟩:=hO x (by rw[←e];exact List.mem_append_left _ hx);obtain⟨_,k2,k3,_⟩:=ZdH hu;have:=ZeI hr k3;omega
  rw[h1]
  congr 1
  congr 1
  funext i
  simp only[Function.comp_apply,List.length_append,List.length_cons,List.length_nil];rw[show l.length+(i+1)=l.length+(0+1)+i by omega];rfl
theorem Zjz (hr:Za h=true) (hm:∀x,x∈O↔∃t,Zq h.txs x=some t) {o:HOrd} (ho:o∈h.ords):ZX h.txs O o.key=ZaW O o.txs:=by
 unfold ZX ZaW;refine List.filter_congr fun x hx=> ?_
 obtain⟨t,ht⟩:=(hm x).1 hx;obtain⟨g1,g2,g3,g4⟩:=ZdH ht;rw[g1,Bool.eq_iff_iff,decide_eq_true_eq,decide_eq_true_eq,Zcc,ZmA hr ho x]
 constructor
 ·intro h;exact⟨t,ht,h⟩
 ·rintro⟨u,hu,h⟩;rw[ht]at hu;cases hu;exact h
theorem ZkG (h:Hist) (O:List Int):Zbo h O=Zeg h O:=by
 unfold Zbo Zeg
 cases hr:Za h with
 |false=>rfl
 |true=>
  cases hp:ZaP O (Zd h.txs)with
  |false=>rfl
  |true=>
   obtain⟨hn,hm⟩:=(Zj4 hr).1 hp;have h1:=Zg7 hr (O:=O) (fun x hx=>(hm x).1 hx) O [] rfl;rw[show ZM h.txs [] (fun _=>none)=(fun _=>none) from rfl]at h1
   have h2:(h.ords.all fun o=>o.txs==ZX h.txs O o.key)=h.ords.all (fun o=>ZaW O o.txs==o.txs):=by
    rw[Bool.eq_iff_iff,List.all_eq_true,List.all_eq_true];refine forall_congr' fun o=>forall_congr' fun ho=> ?_
    rw[Zjz hr hm ho,beq_iff_eq,beq_iff_eq];exact eq_comm
   rw[h1,h2];simp only[List.length_nil,Nat.zero_add];rw[Bool.true_and,Bool.true_and,Bool.true_and,Bool.true_and,Bool.and_comm]
end
/-! who wrote each key last -/
def ZV (txs:List HTx):List Int→List Int→List Int
 |[],s=>s
 |id::l,s=>ZV txs l ((Zl (ZQ txs id).ops).foldl (fun a k=>Zp k a) s)
theorem Zhe (x:Int):∀(ks s:List Int),x∈ks.foldl (fun a k=>Zp k a) s↔x∈ks∨x∈s
 |[],s=>by simp
 |k::ks,s=>by
  rw[List.foldl_cons,Zhe x ks,Zcz,List.mem_cons]
  constructor
  ·rintro(h|h|h)
   ·exact Or.inl (Or.inr h)
   ·exact Or.inl (Or.inl h)
   ·exact Or.inr h
  ·rintro((h|h)|h)
   ·exact Or.inr (Or.inl h)
   ·exact Or.inl h
   ·exact Or.inr (Or.inr h)
theorem Zii:∀(ks s:List Int),s.Pairwise (·<·)→(ks.foldl (fun a k=>Zp k a) s).Pairwise (·<·)
 |[],_,h=>h
 |k::ks,s,h=>Zii ks _ (Zel k s h)
theorem ZeF (txs:List HTx) (x:Int):∀(l s:List Int),x∈ZV txs l s↔(∃id∈l,x∈Zl (ZQ txs id).ops)∨x∈s
 |[],s=>by simp[ZV]
 |id::l,s=>by
  unfold ZV;rw[ZeF txs x l,Zhe]
  constructor
  ·rintro(⟨i,h1,h2⟩|h|h)
   ·exact Or.inl ⟨i,List.mem_cons_of_mem _ h1,h2⟩
   ·exact Or.inl ⟨id,List.mem_cons_self ..,h⟩
   ·exact Or.inr h
  ·rintro(⟨i,h1,h2⟩|h)
   ·rcases List.mem_cons.1 h1 with rfl|h1
    ·exact Or.inr (Or.inl h2)
    ·exact Or.inl ⟨i,h1,h2⟩
   ·exact Or.inr (Or.inr h)
theorem Zfv (txs:List HTx):∀(l s:List Int),s.Pairwise (·<·)→(ZV txs l s).Pairwise (·<·)
 |[],_,h=>h
 |id::l,s,h=>Zfv txs l _ (Zii _ _ h)
def Zbm (txs:List HTx) (O:List Int):List (Int×Int):=(ZV txs O []).map fun k=>(k,Zae txs O k)
theorem Zjd (txs:List HTx) (O:List Int) {ks:List Int} (hn:ks.Pairwise (·<·)) (hm:∀k,k∈ks↔(ZM txs O (fun _=>none) k).isSome=true):ks=ZV txs O []:=by
 refine Zd5 (r:=fun a b:Int=>a<b) (fun a=>Int.lt_irrefl a) (fun a b c=>Int.lt_trans) hn (Zfv txs O [] List.Pairwise.nil) fun k=> ?_
 rw[hm,ZeF];rcases Zcl txs k O.length O rfl with ⟨h1,_,h3⟩|⟨h1,h2,h3⟩
 ·rw[h1]
  constructor
  ·intro h;cases h
  ·rintro(⟨id,h4,h5⟩|h)
   ·have:=h3 id h4;rw[Zeo,decide_eq_false_iff_not]at this;exact absurd h5 this
   ·cases h
 ·rw[h1];refine⟨fun _=>Or.inl ⟨_,h2,?_⟩,fun _=>rfl⟩;rw[Zeo]at h3;exact of_decide_eq_true h3
theorem Zkv (txs:List HTx) (O:List Int) (k:Int):((ZM txs O (fun _=>none) k).getD ⟨0,0,0⟩).tx=Zae txs O k:=by
 rcases Zcl txs k O.length O rfl with ⟨h1,h2,_⟩|⟨h1,_,_⟩
 ·rw[h1,h2];rfl
 ·rw[h1];rfl
end
/- Orders as if one by one:who is done;the versions that were written last,in a map. -/
section
open Go.RowKit
theorem ZaZ (txs:List HTx) (i:Int):(ZQ txs i).ops=ZJ txs i:=by
 unfold ZQ ZJ;cases Ze txs i<;>rfl
theorem Zc7 (txs:List HTx) (i:Int):(ZQ txs i).id=uid txs i:=by
 unfold ZQ uid;cases Ze txs i<;>rfl
theorem Zj3 (F:Nat→Prop) (w:World) (txs:List HTx) (ords:List HOrd) (A:Option Addr) (c:Nat) (B:Option Addr) (d:Nat) (i:Int) (H:Hist.lies F w ⟨txs,ords,A,c,B,d⟩):
  Calls Tryz.prog 74 #[.agg #[.slice A txs.length c,.slice B ords.length d],.int .i64 i] w fun e w'=>
  ∃(A':Option Addr) (c':Nat),e= .returned (.tuple #[.agg #[.int .i64 (uid txs i),.bool (Zas txs i),.slice A' (ZJ txs i).length c'],.bool (Ze txs i).isSome])∧Zh (ZJ txs i).length∧HOps (fun i=>w.heap.size≤i) w' A' (ZJ txs i)∧Upd No w w':=by
 unfold Zas ZJ uid
 cases hf:Ze txs i with
 |none=>
  refine(Zdd F w txs ords A c B d i H hf).mono ?_;rintro e w' ⟨rfl,hu⟩;exact⟨none,0,rfl,by unfold Zh;simp,fun h=>absurd rfl h,hu⟩
 |some t=>
  refine(ZbM F w txs ords A c B d i H hf).mono ?_;rintro e w' ⟨A',c',rfl,h1,h2,h3⟩;exact⟨A',c',rfl,(H.tx t (Za8 hf)).2.2.1,h2,h3⟩
theorem Zfx {txs:List HTx} {k:Nat} {x:HTx} (hk:k<txs.length) (hx:txs[k]=x):Zd (txs.drop k)=(if x.done then [x.id] else [])++Zd (txs.drop (k+1)):=by
 subst hx;rw[List.drop_eq_getElem_cons hk];unfold Zd;rw[List.filter_cons]
 split<;>rfl
set_option maxRecDepth 100000 in
set_option maxHeartbeats 1000000 in
theorem ZgN (F:Nat→Prop) (w:World) (txs:List HTx) (ords:List HOrd) (A:Option Addr) (c:Nat) (B:Option Addr) (d:Nat) (H:Hist.lies F w ⟨txs,ords,A,c,B,d⟩):
  Calls Tryz.prog 34 #[.agg #[.slice A txs.length c,.slice B ords.length d]] w (Zf2 w (Zd txs)):=by
 have hft:=H.few;simp only at hft;obtain⟨wb,hwb⟩:∃wb,w.alloc (.cells #[.slice A txs.length c,.slice B ords.length d] 50)=wb:=⟨_,rfl⟩;have ub:Upd No w wb:=by rw[←hwb];exact(Upd.refl No w).alloc _
 have bH:Blk wb w.heap.size 50 [.slice A txs.length c,.slice B ords.length d]:=by rw[←hwb];exact Blk.new w _ _
 have h0:∀W,Upd No wb W→W.cell? ⟨w.heap.size,0,none⟩=some (.slice A txs.length c):=fun W u=>(bH.upd u id).cell 0
 have hbb:Upd No wb wb:=Upd.refl _ _;have HH:=Qh (H.upd ub (fun _ _=>id));have UB:=Qh ub;have HS0:=Qh (show([]:List Int)++Zd (txs.drop 0)=Zd txs from rfl);obtain⟨D,hD⟩:∃D,Zd txs=D:=⟨_,rfl⟩;rw[hD]at HS0 ⊢;clear bH H ub hD
 go_enter Tryz.func34,Tryz.ntmps34
 go_wp2
 go_loopg [3,9] txs.length (fun gk s i wr=>∃(k:Nat) (A5:Option Addr) (c5:Nat) (xs:List Int),k+gk=txs.length∧i= .int .i64 (k:Int)∧s= .slice A5 xs.length c5∧Hid (xs++Zd (txs.drop k)=D)∧xs.length≤k∧
  Hid (wr.ownsRow wb.heap.size 3 1 (.slice A5 xs.length c5) xs.length (xs.map (Value.int .i64)))∧Hid (Upd No wb wr))
 case atStart=>exact⟨0,none,0,[],by omega,rfl,rfl,HS0,Nat.zero_le _,Qh (World.ownsRow_nil _ _ _ _),Qh hbb⟩
 case round=>
  clear HS0 hbb h0;obtain⟨k,A5,c5,xs,hgk,rfl,rfl,hs,hxl,hown,hu⟩:=hrel
  by_cases hlt:k<txs.length
  ·obtain⟨ad,rfl,q0,q1,q2⟩:=(HH.out.upd hu.out (fun _ _=>id)).tx_at hlt;simp only at q0 q1 q2;obtain⟨x,hx⟩:∃x,txs[k]=x:=⟨_,rfl⟩;rw[hx]at q0 q1 q2;have hst:=hs.out;rw[Zfx hlt hx]at hst;obtain⟨xi,xd,xo,xA,xc⟩:=x;simp only at q0 q1 q2 hst;have i1:(0:Int)≤(k:Int):=Qn _;have i2:(k:Int)<(txs.length:Int):=by omega
   have jw:IntKind.i64.wrap ((k:Int)+1)=(k:Int)+1:=IntWalk.i64_in _ (by omega);obtain⟨wz,hwz⟩:∃wz,wr.alloc (.cells #[.int .i64 xi,.bool xd,.slice xA xo.length xc] 85)=wz:=⟨_,rfl⟩;have uz:Upd No wr wz:=by rw[←hwz];exact(Upd.refl No wr).alloc _
   have bo:Blk wz wr.heap.size 85 [.int .i64 xi,.bool xd,.slice xA xo.length xc]:=by rw[←hwz];exact Blk.new wr _ _
   have g0:=bo.cell 0;have g1:=bo.cell 1;have g2:=bo.cell 2;simp only[Qz,Qs]at g0 g1 g2;have HUZ:=Qh (hu.out.trans uz);have hownz:=Zb hown.out uz (fun _ _=>id);clear hx bo uz hs
   cases xd
   ·have HS:=Qh (show xs++Zd (txs.drop (k+1))=D by simpa using hst);have HO:=Qh hownz;clear hst hownz;go_wp2
    go_roundg (gk-1)
    case measure=>omega
    case rel=>exact⟨k+1,A5,c5,xs,by omega,by go_num,rfl,HS,by omega,HO,HUZ⟩
   ·have HS:=Qh (show(xs++[xi])++Zd (txs.drop (k+1))=D by simpa using hst);have hsz:=HUZ.out.size;have hub:=UB.out.size;clear hst
    go_wp2_with (at_builtin;refine Z8 rfl rfl Z6 (v:= .slice A5 xs.length c5) (n:=xs.length) (xs:=xs.map (Value.int .i64)) (cells:=[.int .i64 xi]) (by rfl) rfl hownz rfl rfl (by omega) (by omega) (by omega) ?_;intro g5 c7 w5 hown5 hu5 hg5 hlt5)
    go_roundg (gk-1)
    case measure=>omega
    case rel=>exact⟨k+1,some ⟨g5,0,none⟩,c7,xs++[xi],by omega,by go_num,by simp,HS,by simp;omega,Qh (by simpa using hown5),Qh (HUZ.out.then_ hu5 fun i e=>Or.inr (hownz.lt i e).1)⟩
  ·obtain rfl:k=txs.length:=by omega
   have hx:xs=D:=by have:=hs.out;rw[List.drop_length]at this;simpa[Zd]using this
   subst hx;go_wp2
   go_ret
   exact⟨A5,c5,rfl,ZB hown.out UB.out.size,UB.out.trans hu.out⟩
set_option maxRecDepth 100000 in
set_option maxHeartbeats 1000000 in
theorem ZfI (F:Nat→Prop) (w:World) (txs:List HTx) (ords:List HOrd) (A:Option Addr) (c:Nat) (B:Option Addr) (d:Nat) (H:Hist.lies F w ⟨txs,ords,A,c,B,d⟩):
  Calls Tryz.prog 35 #[.agg #[.slice A txs.length c,.slice B ords.length d]] w (Zf2 w (Zd txs)):=by
 have hft:=H.few;simp only at hft;obtain⟨wb,hwb⟩:∃wb,w.alloc (.cells #[.slice A txs.length c,.slice B ords.length d] 50)=wb:=⟨_,rfl⟩;have ub:Upd No w wb:=by rw[←hwb];exact(Upd.refl No w).alloc _
 have bH:Blk wb w.heap.size 50 [.slice A txs.length c,.slice B ords.length d]:=by rw[←hwb];exact Blk.new w _ _
 have h0:∀W,Upd No wb W→W.cell? ⟨w.heap.size,0,none⟩=some (.slice A txs.length c):=fun W u=>(bH.upd u id).cell 0
 have hbb:Upd No wb wb:=Upd.refl _ _;have HH:=Qh (H.upd ub (fun _ _=>id));have UB:=Qh ub;have HS0:=Qh (show([]:List Int)++Zd (txs.drop 0)=Zd txs from rfl);obtain⟨D,hD⟩:∃D,Zd txs=D:=⟨_,rfl⟩;rw[hD]at HS0 ⊢;clear bH H ub hD
 go_enter Tryz.func35,Tryz.ntmps35
 go_wp2
 go_loopg [3,9] txs.length (fun gk s i wr=>∃(k:Nat) (A5:Option Addr) (c5:Nat) (xs:List Int),k+gk=txs.length∧i= .int .i64 (k:Int)∧s= .slice A5 xs.length c5∧Hid (xs++Zd (txs.drop k)=D)∧xs.length≤k∧
  Hid (wr.ownsRow wb.heap.size 3 1 (.slice A5 xs.length c5) xs.length (xs.map (Value.int .i64)))∧Hid (Upd No wb wr))
 case atStart=>exact⟨0,none,0,[],by omega,rfl,rfl,HS0,Nat.zero_le _,Qh (World.ownsRow_nil _ _ _ _),Qh hbb⟩
 case round=>
  clear HS0 hbb h0;obtain⟨k,A5,c5,xs,hgk,rfl,rfl,hs,hxl,hown,hu⟩:=hrel
  by_cases hlt:k<txs.length
  ·obtain⟨ad,rfl,q0,q1,q2⟩:=(HH.out.upd hu.out (fun _ _=>id)).tx_at hlt;simp only at q0 q1 q2;obtain⟨x,hx⟩:∃x,txs[k]=x:=⟨_,rfl⟩;rw[hx]at q0 q1 q2;have hst:=hs.out;rw[Zfx hlt hx]at hst;obtain⟨xi,xd,xo,xA,xc⟩:=x;simp only at q0 q1 q2 hst;have i1:(0:Int)≤(k:Int):=Qn _;have i2:(k:Int)<(txs.length:Int):=by omega
   have jw:IntKind.i64.wrap ((k:Int)+1)=(k:Int)+1:=IntWalk.i64_in _ (by omega);obtain⟨wz,hwz⟩:∃wz,wr.alloc (.cells #[.int .i64 xi,.bool xd,.slice xA xo.length xc] 85)=wz:=⟨_,rfl⟩;have uz:Upd No wr wz:=by rw[←hwz];exact(Upd.refl No wr).alloc _
   have bo:Blk wz wr.heap.size 85 [.int .i64 xi,.bool xd,.slice xA xo.length xc]:=by rw[←hwz];exact Blk.new wr _ _
   have g0:=bo.cell 0;have g1:=bo.cell 1;have g2:=bo.cell 2;simp only[Qz,Qs]at g0 g1 g2;have HUZ:=Qh (hu.out.trans uz);have hownz:=Zb hown.out uz (fun _ _=>id);clear hx bo uz hs
   cases xd
   ·have HS:=Qh (show xs++Zd (txs.drop (k+1))=D by simpa using hst);have HO:=Qh hownz;clear hst hownz;go_wp2
    go_roundg (gk-1)
    case measure=>omega
    case rel=>exact⟨k+1,A5,c5,xs,by omega,by go_num,rfl,HS,by omega,HO,HUZ⟩
   ·have HS:=Qh (show(xs++[xi])++Zd (txs.drop (k+1))=D by simpa using hst);have hsz:=HUZ.out.size;have hub:=UB.out.size;clear hst
    go_wp2_with (at_builtin;refine Z8 rfl rfl Z6 (v:= .slice A5 xs.length c5) (n:=xs.length) (xs:=xs.map (Value.int .i64)) (cells:=[.int .i64 xi]) (by rfl) rfl hownz rfl rfl (by omega) (by omega) (by omega) ?_;intro g5 c7 w5 hown5 hu5 hg5 hlt5)
    go_roundg (gk-1)
    case measure=>omega
    case rel=>exact⟨k+1,some ⟨g5,0,none⟩,c7,xs++[xi],by omega,by go_num,by simp,HS,by simp;omega,Qh (by simpa using hown5),Qh (HUZ.out.then_ hu5 fun i e=>Or.inr (hownz.lt i e).1)⟩
  ·obtain rfl:k=txs.length:=by omega
   have hx:xs=D:=by have:=hs.out;rw[List.drop_length]at this;simpa[Zd]using this
   subst hx;go_wp2
   go_ret
   exact⟨A5,c5,rfl,ZB hown.out UB.out.size,UB.out.trans hu.out⟩
/-! the map -/
theorem ZlT (w:World):(zeroValue 36).run Tryz.prog w= .ok (Zab ⟨0,0,0⟩) w:=by kernel_rfl
theorem ZiU {m:List (Int×Value)} {k:Int} {v:Value} (h:(m.map (·.1)).Nodup):((Zk m k v).map (·.1)).Nodup:=by
 rw[ZdP]
 show(ZZ _ [k]).Nodup
 unfold ZZ;unfold ZZ
 split
 ·exact h
 ·rename_i hn
  rw[List.nodup_append];exact⟨h,by simp,fun a ha b hb e=>hn (by rw[List.mem_singleton.1 hb]at e;exact e▸ha)⟩
theorem Zkb {m:List (Int×Value)} {k:Int}:(Zn m k).isSome=true↔k∈m.map (·.1):=by
 unfold Zn
 have key:∀(m:List (Int×Value)) (i:Nat),(look k m i).isSome=true↔k∈m.map (·.1):=by
  intro m
  induction m with
  |nil=>intro i;simp[look]
  |cons p m ih=>
   intro i;unfold look
   by_cases e:k=p.1
   ·simp[e]
   ·rw[if_neg e,ih (i+1)];simp[e]
 rw[Option.isSome_map,key]
structure WorldM (w:World) (b:Nat) (m:List (Int×Value)) (f:Int→Option Ver):Prop where
 is:MapE w b (fun n:Int=>Value.int .i64 n) m
 nd:(m.map (·.1)).Nodup
 get:∀k,Zn m k=(f k).map Zab
namespace WorldM
variable {w w':World} {b:Nat} {m:List (Int×Value)} {f g:Int→Option Ver} {S:Nat→Prop}
theorem upd (h:WorldM w b m f) (u:Upd S w w') (hn:¬S b):WorldM w' b m f:=⟨h.is.upd u hn,h.nd,h.get⟩
theorem new (w:World):WorldM (w.alloc (.map #[] 0)) w.heap.size [] (fun _=>none):=⟨MapE.new w _,by simp,fun _=>rfl⟩
theorem look (h:WorldM w b m f) (k:Int):(Instr.lookup 124 (.map (some b)) (.int .i64 k) true).run Tryz.prog w= .ok (.tuple #[Zab ((f k).getD ⟨0,0,0⟩),.bool (f k).isSome]) w:=by
 have:=ZhR ZR Tryz.underlying124 ZlT h.is.is k;rw[h.get]at this;rw[this]
 cases f k<;>rfl
theorem look1 (h:WorldM w b m f) (k:Int):(Instr.lookup 124 (.map (some b)) (.int .i64 k) false).run Tryz.prog w= .ok (Zab ((f k).getD ⟨0,0,0⟩)) w:=by
 have:=Zi ZR Tryz.underlying124 ZlT h.is.is k;rw[h.get]at this;rw[this]
 cases f k<;>rfl
theorem put (h:WorldM w b m f) (k:Int) (v:Ver):∃w',(Instr.mapUpdate 124 (.map (some b)) (.int .i64 k) (Zab v)).run Tryz.prog w= .ok () w'∧WorldM w' b (Zk m k (Zab v)) (fun k'=>if k'=k then some v else f k')∧Upd (One b) w w':=by
 obtain⟨w',h1,h2,h3⟩:=Za2 ZR Tryz.underlying124 h.is k (Zab v);refine⟨w',h1,⟨h2,ZiU h.nd,fun k'=> ?_⟩,h3⟩;rw[Zah]
 split
 ·rfl
 ·exact h.get k'
theorem congr (h:WorldM w b m f) (e:∀k,f k=g k):WorldM w b m g:=⟨h.is,h.nd,fun k=>by rw[h.get,e]⟩
theorem lt (h:WorldM w b m f):b<w.heap.size:=h.is.lt
theorem keys (h:WorldM w b m f) (k:Int):k∈m.map (·.1)↔(f k).isSome=true:=by rw[←Zkb,h.get,Option.isSome_map]
end WorldM
theorem Zn9 {W:World} {b:Nat} {ty:TypeId} {c0 c1 c2:Value} (h:Blk W b ty [c0,c1,c2]) (v0 v1 v2:Value):
  Blk (((W.setCell ⟨b,0,none⟩ v0).setCell ⟨b,1,none⟩ v1).setCell ⟨b,2,none⟩ v2) b ty [v0,v1,v2]∧Upd (One b) W (((W.setCell ⟨b,0,none⟩ v0).setCell ⟨b,1,none⟩ v1).setCell ⟨b,2,none⟩ v2):=by
 refine⟨?_,(((Upd.refl _ _).setOne 0 _).setOne 1 _).setOne 2 _⟩;have:=((h.set_ 0 v0).set_ 1 v1).set_ 2 v2
 simpa only[List.set_cons_zero,List.set_cons_succ]using this
def Zbc (f:Int→Option Ver) (id:Int) (o:HOp):Bool:= !o.read||(o.tx==id||ZN o==(f o.key).getD ⟨0,o.key,0⟩)
theorem ZjL (f:Int→Option Ver) (t:HTx):Zeh f t=t.ops.all (Zbc f t.id):=rfl
set_option maxRecDepth 100000 in
set_option maxHeartbeats 4000000 in
theorem Zn5 (F:Nat→Prop) (w:World) (b:Nat) (m:List (Int×Value)) (f:Int→Option Ver) (h:WorldM w b m f) (i0:Int) (dn:Bool) (A:Option Addr) (c:Nat) (l:List HOp) (hop:HOps F w A l) (hl:Zh l.length) {v:Bool} (hv:l.all (Zbc f i0)=v):
  Calls Tryz.prog 75 #[.map (some b),.agg #[.int .i64 i0,.bool dn,.slice A l.length c]] w fun e w'=>e= .returned (.bool v)∧Upd No w w':=by
 unfold Zh at hl;obtain⟨wb,hwb⟩:∃wb,w.alloc (.cells #[.int .i64 i0,.bool dn,.slice A l.length c] 85)=wb:=⟨_,rfl⟩;have ub:Upd No w wb:=by rw[←hwb];exact(Upd.refl No w).alloc _
 have bT:Blk wb w.heap.size 85 [.int .i64 i0,.bool dn,.slice A l.length c]:=by rw[←hwb];exact Blk.new w _ _
 have h0:∀W,Upd No wb W→W.cell? ⟨w.heap.size,0,none⟩=some (.int .i64 i0):=fun W u=>(bT.upd u id).cell 0
 have h2:∀W,Upd No wb W→W.cell? ⟨w.heap.size,2,none⟩=some (.slice A l.length c):=fun W u=>(bT.upd u id).cell 2
 have hbb:Upd No wb wb:=Upd.refl _ _;have HM:=Qh (h.upd ub id);have HOP:=Qh (HOps.upd hop ub (fun _ _=>id));have UB:=Qh ub;have HV:=Qh (show(l.drop 0).all (Zbc f i0)=v from hv);clear bT ub h hop hv
 go_enter Tryz.func75,Tryz.ntmps75
 go_wp2
 go_loopg [12] l.length (fun gk i wr=>∃(k:Nat),k+gk=l.length∧i= .int .i64 (k:Int)∧Hid ((l.drop k).all (Zbc f i0)=v)∧Upd No wb wr)
 case atStart=>exact⟨0,by omega,rfl,HV,hbb⟩
 case round=>
  clear HV hbb;obtain⟨k,hgk,rfl,hs,hu⟩:=hrel
  by_cases hlt:k<l.length
  ·obtain⟨ad,rfl,q0,q1,q2,q3⟩:=(HOps.upd HOP.out hu (fun _ _=>id)).at_ hlt;obtain⟨x,hx⟩:∃x,l[k]=x:=⟨_,rfl⟩;rw[hx]at q0 q1 q2 q3;have hst:=hs.out;rw[show l.drop k=x::l.drop (k+1) by rw[←hx];exact List.drop_eq_getElem_cons hlt,List.all_cons]at hst;obtain⟨r,ky,tx,nt⟩:=x;simp only at q0 q1 q2 q3;have i1:(0:Int)≤(k:Int):=Qn _;have i2:(k:Int)<(l.length:Int):=by omega
   have jw:IntKind.i64.wrap ((k:Int)+1)=(k:Int)+1:=IntWalk.i64_in _ (by omega);obtain⟨wz,hwz⟩:∃wz,wr.alloc (.cells #[.bool r,.int .i64 ky,.int .i64 tx,.int .i64 nt] 82)=wz:=⟨_,rfl⟩;have uz:Upd No wr wz:=by rw[←hwz];exact(Upd.refl No wr).alloc _
   have bo:Blk wz wr.heap.size 82 [.bool r,.int .i64 ky,.int .i64 tx,.int .i64 nt]:=by rw[←hwz];exact Blk.new wr _ _
   have hszz:wz.heap.size=wr.heap.size+1:=by rw[←hwz];simp
   have g0:∀W,Upd No wz W→W.cell? ⟨wr.heap.size,0,none⟩=some (.bool r):=fun W u=>(bo.upd u id).cell 0
   have g1:∀W,Upd No wz W→W.cell? ⟨wr.heap.size,1,none⟩=some (.int .i64 ky):=fun W u=>(bo.upd u id).cell 1
   have g2:∀W,Upd No wz W→W.cell? ⟨wr.heap.size,2,none⟩=some (.int .i64 tx):=fun W u=>(bo.upd u id).cell 2
   have g3:∀W,Upd No wz W→W.cell? ⟨wr.heap.size,3,none⟩=some (.int .i64 nt):=fun W u=>(bo.upd u id).cell 3
   have hz:Upd No wb wz:=hu.trans uz;have hzz:Upd No wz wz:=Upd.refl _ _;have HZ:=Qh hz;have BO:=Qh bo;have HSZ:=Qh hszz;clear hx bo uz hs hszz
   cases r
   ·have HS:=Qh (show(l.drop (k+1)).all (Zbc f i0)=v by rw[show Zbc f i0 ⟨false,ky,tx,nt⟩=true from rfl,Bool.true_and]at hst;exact hst);clear hst;go_wp2
    go_roundg (gk-1)
    case measure=>omega
    case rel=>exact⟨k+1,by omega,by go_num,HS,HZ.out⟩
   ·by_cases he:tx=i0
    ·have heb:(tx==i0)=true:=by simpa using he
     have HS:=Qh (show(l.drop (k+1)).all (Zbc f i0)=v by rw[show Zbc f i0 ⟨true,ky,tx,nt⟩=true by unfold Zbc;simp[he],Bool.true_and]at hst;exact hst);clear hst he;go_wp2
     go_roundg (gk-1)
     case measure=>omega
     case rel=>exact⟨k+1,by omega,by go_num,HS,HZ.out⟩
    ·have heb:(tx==i0)=false:=by simpa using he
     obtain⟨⟨va,vb,vc⟩,hvv⟩:∃z,(f ky).getD ⟨0,ky,0⟩=z:=⟨_,rfl⟩
     have hso:Zbc f i0 ⟨true,ky,tx,nt⟩= !((⟨tx,ky,nt⟩:Ver) != ⟨va,vb,vc⟩):=by
      unfold Zbc;rw[show ZN ⟨true,ky,tx,nt⟩=⟨tx,ky,nt⟩ from rfl,hvv,heb];simp[bne]
     rw[hso]at hst;have HOF:=Qh (fun W=>Zo7 W ky tx nt);obtain⟨nb,hnb⟩:∃nb,((⟨tx,ky,nt⟩:Ver) != ⟨va,vb,vc⟩)=nb:=⟨_,rfl⟩;have hne:=fun W=>Zmg W ⟨tx,ky,nt⟩ ⟨va,vb,vc⟩
     unfold Zab at hne;simp only[hnb]at hne;rw[hnb]at hst;have HST:=Qh hst;have HNE:=Qh hne;have HVV:=Qh hvv;have e1:=(HM.out.upd hz id).look ky;obtain⟨⟨ua,ub,uc⟩,huu⟩:∃z,(f ky).getD ⟨0,0,0⟩=z:=⟨_,rfl⟩;obtain⟨is,his⟩:∃b,(f ky).isSome=b:=⟨_,rfl⟩;rw[huu,his]at e1;unfold Zab at e1;simp only at e1
     have HCS:=Qh (show(is=true→ua=va∧ub=vb∧uc=vc)∧(is=false→ua=0∧ub=0∧uc=0∧va=0∧vb=ky∧vc=0) by
      cases hfk:f ky with
      |none=>
       rw[hfk]at hvv huu his;simp only[Option.getD_none,Option.isSome_none,Ver.mk.injEq]at hvv huu his;obtain⟨a1,a2,a3⟩:=hvv;obtain⟨a4,a5,a6⟩:=huu;exact⟨fun e=>(by rw[←his]at e;cases e),fun _=>⟨a4.symm,a5.symm,a6.symm,a1.symm,a2.symm,a3.symm⟩⟩
      |some ve=>
       rw[hfk]at hvv huu his;simp only[Option.getD_some,Option.isSome_some]at hvv huu his;subst hvv;simp only[Ver.mk.injEq]at huu;exact⟨fun _=>⟨huu.1.symm,huu.2.1.symm,huu.2.2.symm⟩,fun e=>(by rw[←his]at e;cases e)⟩)
     clear hst hso he hnb hne hvv huu his
     go_upto_if 34 with fail
     go_cut [8] (fun s wc=>∃bs:Bool,s= .bool bs∧Hid (Blk wc wz.heap.size 36 [.int .i64 va,.int .i64 vb,.int .i64 vc])∧Hid (Upd No wz wc))
     case first=>
      cases is
      ·obtain⟨rfl,rfl,rfl,rfl,rfl,rfl⟩:=HCS.out.2 rfl;obtain⟨wv,hwv⟩:∃wv,wz.alloc (.cells #[.int .i64 0,.int .i64 0,.int .i64 0] 36)=wv:=⟨_,rfl⟩;have uv:Upd No wz wv:=by rw[←hwv];exact(Upd.refl No wz).alloc _
       have bv:Blk wv wz.heap.size 36 [.int .i64 0,.int .i64 0,.int .i64 0]:=by rw[←hwv];exact Blk.new wz _ _
       have y0:=bv.cell 0;have y1:=bv.cell 1;have y2:=bv.cell 2;have k0:=bv.free 0;have k1:=bv.free 1;have k2:=bv.free 2;have gg1:=g1 wv uv;simp only[Qz,Qs]at y0 y1 y2;have BV:=Qh bv;have UV:=Qh uv;clear bv uv HCS;go_wp2
       go_meet
       obtain⟨b3,u3⟩:=Zn9 BV.out (.int .i64 0) (.int .i64 vb) (.int .i64 0);exact⟨false,rfl,Qh b3,Qh (UV.out.then_ u3 (fun i e=>Or.inr (by unfold One at e;omega)))⟩
      ·obtain⟨rfl,rfl,rfl⟩:=HCS.out.1 rfl;clear HCS;go_wp2
       go_meet
       exact⟨true,rfl,Qh (Blk.new wz _ _),Qh ((Upd.refl No wz).alloc _)⟩
     case rest=>
      obtain⟨bs,rfl,HBV,HUV⟩:=hcut;obtain⟨w5,hw5⟩:∃w5,w5=wc:=⟨_,rfl⟩;subst hw5;have p0:∀W,Upd No w5 W→W.cell? ⟨wz.heap.size,0,none⟩=some (.int .i64 va):=fun W u=>(HBV.out.upd u id).cell 0
      have p1:∀W,Upd No w5 W→W.cell? ⟨wz.heap.size,1,none⟩=some (.int .i64 vb):=fun W u=>(HBV.out.upd u id).cell 1
      have p2:∀W,Upd No w5 W→W.cell? ⟨wz.heap.size,2,none⟩=some (.int .i64 vc):=fun W u=>(HBV.out.upd u id).cell 2
      have t0:∀W,Upd No w5 W→W.cell? ⟨wr.heap.size,0,none⟩=some (.bool true):=fun W u=>g0 W (HUV.out.trans u)
      have t1:∀W,Upd No w5 W→W.cell? ⟨wr.heap.size,1,none⟩=some (.int .i64 ky):=fun W u=>g1 W (HUV.out.trans u)
      have t2:∀W,Upd No w5 W→W.cell? ⟨wr.heap.size,2,none⟩=some (.int .i64 tx):=fun W u=>g2 W (HUV.out.trans u)
      have t3:∀W,Upd No w5 W→W.cell? ⟨wr.heap.size,3,none⟩=some (.int .i64 nt):=fun W u=>g3 W (HUV.out.trans u)
      have h55:Upd No w5 w5:=Upd.refl _ _;have hne:=HNE.out;clear g0 g1 g2 g3 hzz e1
      cases nb
      ·have HS:=Qh (show(l.drop (k+1)).all (Zbc f i0)=v by have:=HST.out;rwa [Bool.not_false,Bool.true_and]at this);go_wp2;refine wp_region_noPanic ?_;refine wp_region_held_drew (S:=(fun W'=>Upd No w5 W')) (by kernel_rfl) ?_ (fun hHeld=> ?_)
       ·(first|exact h55.drew|exact hHeld.trans hu6)
       refine wpK 0 rfl ?_;refine wpK 2 rfl ?_;refine wpR [1] ?_;refine wpC rfl (fun K hK=> ?_) AllReadyH.nil;go_simp
       (first
  |(go_at_call 134;refine(HOF.out _).mono ?_;rintro e w6 ⟨rfl,hu6⟩))
       try (go_wp2_with fail)
       refine hK.out _ _ ?_ (fun hHeld=> ?_)
       ·(first|exact h55.drew|exact hHeld.trans hu6)
       clear hK K
       try simp only[Act.put,sT,sS,sZ]
       refine wpK 3 rfl ?_;refine wpD (NoPanic.normal ?_);have HL:=Qh ((HZ.out.trans HUV.out).trans hHeld);clear hHeld;go_wp2
       go_roundg (gk-1)
       case measure=>omega
       case rel=>exact⟨k+1,by omega,by go_num,HS,HL.out⟩
      ·have HS:=Qh (show v=false by have:=HST.out;rw[Bool.not_true,Bool.false_and]at this;exact this.symm);go_wp2;refine wp_region_noPanic ?_;refine wp_region_held_drew (S:=(fun W'=>Upd No w5 W')) (by kernel_rfl) ?_ (fun hHeld=> ?_)
       ·(first|exact h55.drew|exact hHeld.trans hu6)
       refine wpK 0 rfl ?_;refine wpK 2 rfl ?_;refine wpR [1] ?_;refine wpC rfl (fun K hK=> ?_) AllReadyH.nil;go_simp
       (first
  |(go_at_call 134;refine(HOF.out _).mono ?_;rintro e w6 ⟨rfl,hu6⟩))
       try (go_wp2_with fail)
       refine hK.out _ _ ?_ (fun hHeld=> ?_)
       ·(first|exact h55.drew|exact hHeld.trans hu6)
       clear hK K
       try simp only[Act.put,sT,sS,sZ]
       refine wpK 3 rfl ?_;refine wpD (NoPanic.normal ?_);have HL:=Qh ((HZ.out.trans HUV.out).trans hHeld);clear hHeld;go_wp2
       go_ret
       exact⟨by rw[HS.out];rfl,UB.out.trans HL.out⟩
  ·obtain rfl:k=l.length:=by omega
   have hvt:v=true:=by have:=hs.out;rw[List.drop_length]at this;exact this.symm
   subst hvt;go_wp2
   go_ret
   exact⟨rfl,UB.out.trans hu⟩
def ZeK (id:Int) (l:List HOp) (f:Int→Option Ver) (k:Int):Option Ver:=if k∈Zl l then some ⟨id,k,(Zc l k:Int)⟩ else f k
theorem ZeJ (t:HTx) (f:Int→Option Ver):ZfK t f=ZeK t.id t.ops f:=rfl
theorem ZhP {P:Program} {w w':World} {ops:Array Oper} {o:Oper} {ac:Act} {Kk:Act→World→Prop} {Q:Exit→Act→World→Prop} {E:Prop} {t:TypeId} (hgd:o.guard=none) {x y v:Operand}
  (ho:o.op= .mapUpdate t x y v) {mv kv vv:Value} (hx:ac.eval x=mv) (hy:ac.eval y=kv) (hv:ac.eval v=vv) (hr:(Instr.mapUpdate t mv kv vv).run P w= .ok () w')
  (hk:Kk (ac.put o.dst undef) w'):if Region.wanted o (yielded ops ac.tmps)=true then Oper.wp P o ac w Kk Q else E:=by
 rw[if_pos (by simp[Region.wanted,hgd])];unfold Oper.wp;simp[execOp,ho,hx,hy,hv,hr,Result.andThen];exact hk
set_option maxRecDepth 100000 in
set_option maxHeartbeats 4000000 in
theorem Zm5 (F:Nat→Prop) (w:World) (b:Nat) (m:List (Int×Value)) (f:Int→Option Ver) (h:WorldM w b m f) (i0:Int) (dn:Bool) (A:Option Addr) (c:Nat) (l:List HOp) (hop:HOps F w A l) (hl:Zh l.length) (hF:∀i,F i→i≠b):
  Calls Tryz.prog 76 #[.map (some b),.agg #[.int .i64 i0,.bool dn,.slice A l.length c]] w fun e w'=>e= .returned (.tuple #[])∧(∃m',WorldM w' b m' (ZeK i0 l f))∧Upd (One b) w w':=by
 obtain⟨wb,hwb⟩:∃wb,w.alloc (.cells #[.int .i64 i0,.bool dn,.slice A l.length c] 85)=wb:=⟨_,rfl⟩;have ub:Upd No w wb:=by rw[←hwb];exact(Upd.refl No w).alloc _
 have bT:Blk wb w.heap.size 85 [.int .i64 i0,.bool dn,.slice A l.length c]:=by rw[←hwb];exact Blk.new w _ _
 have hblt:=h.lt;have h0:=bT.cell 0;have h1:=bT.cell 1;have h2:=bT.cell 2;simp only[Qz,Qs]at h0 h1 h2;have HM:=Qh (h.upd ub id);have HOP:=Qh (HOps.upd hop ub (fun _ _=>id));have BT:=Qh bT;have UB:=Qh ub;have HBL:=Qh hblt;have HF:=Qh hF;have CK:=Qh (Zi8 F wb i0 dn A c l HOP.out hl);have HL:=Qh hl;obtain⟨ks,hks⟩:∃ks,Zl l=ks:=⟨_,rfl⟩;have hkl:ks.length≤l.length:=by rw[←hks];exact Nat.le_trans (ZaB _) (Zce _ _)
 have HKL:=Qh (show ks.length≤4398046511103 from Nat.le_trans hkl hl);have HPO:=Qh (show∀k,(if k∈ks then some (⟨i0,k,(Zc l k:Int)⟩:Ver) else f k)=ZeK i0 l f k from fun k=>by unfold ZeK;rw[hks]);rw[hks]at CK;clear bT ub h hop hl hblt hF hks hkl
 go_enter Tryz.func76,Tryz.ntmps76
 go_wp2_with fail
 refine(CK.out).mono ?_;rintro e w1 ⟨A1,c1,rfl,ho1,hu1⟩;have HI1:=Qh (show Ints (fun i=>wb.heap.size≤i) w1 A1 ks from Ints.of_owned ho1);have HM1:=Qh (HM.out.upd hu1 id);have HOP1:=Qh (HOps.upd HOP.out hu1 (fun _ _=>id));have BT1:=Qh (BT.out.upd hu1 id);have HU1:=Qh (UB.out.trans hu1);clear ho1 hu1 CK h0 h1 h2;go_wp2
 go_loopg [9] ks.length (fun gk i wr=>∃(j:Nat) (m':List (Int×Value)),j+gk=ks.length∧i= .int .i64 (j:Int)∧Hid (WorldM wr b m' (fun k=>if k∈ks.take j then some ⟨i0,k,(Zc l k:Int)⟩ else f k))∧Hid (Upd (One b) w1 wr))
 case atStart=>exact⟨0,m,by omega,rfl,Qh (HM1.out.congr (fun k=>by simp)),Qh (Upd.refl _ _)⟩
 case round=>
  clear HM1;obtain⟨j,m',hgj,rfl,hW,hu⟩:=hrel;have hkl:=HKL.out
  by_cases hlt:j<ks.length
  ·obtain⟨ad,rfl,_,_,q0⟩:=(HI1.out.upd hu.out (fun i (hi:wb.heap.size≤i) (e:i=b)=>by have:=HBL.out;have:=UB.out.size;omega)).at_ hlt;obtain⟨key,hkey⟩:∃key,ks[j]=key:=⟨_,rfl⟩;rw[hkey]at q0
   have HNX:=Qh (show∀k,(if k=key then some (⟨i0,key,(Zc l key:Int)⟩:Ver) else if k∈ks.take j then some ⟨i0,k,(Zc l k:Int)⟩ else f k)=if k∈ks.take (j+1) then some ⟨i0,k,(Zc l k:Int)⟩ else f k from fun k=>by
    rw[List.take_succ_eq_append_getElem hlt,hkey]
    by_cases e:k=key
    ·subst e;simp
    ·simp[e])
   have i1:(0:Int)≤(j:Int):=Qn _;have i2:(j:Int)<(ks.length:Int):=by omega
   have jw:IntKind.i64.wrap ((j:Int)+1)=(j:Int)+1:=IntWalk.i64_in _ (by omega);have hnb:w.heap.size≠b:=by have:=HBL.out;omega
   have t0:∀W,Upd (One b) wr W→W.cell? ⟨w.heap.size,0,none⟩=some (.int .i64 i0):=fun W u=>(BT1.out.upd (hu.out.trans u) hnb).cell 0
   have t1:∀W,Upd (One b) wr W→W.cell? ⟨w.heap.size,1,none⟩=some (.bool dn):=fun W u=>(BT1.out.upd (hu.out.trans u) hnb).cell 1
   have t2:∀W,Upd (One b) wr W→W.cell? ⟨w.heap.size,2,none⟩=some (.slice A l.length c):=fun W u=>(BT1.out.upd (hu.out.trans u) hnb).cell 2
   have CW:=Qh (fun W (u:Upd (One b) wr W)=>ZfJ F W i0 dn A c l key (HOps.upd HOP1.out (hu.out.trans u) (fun i hi (e:i=b)=>HF.out i hi e)) HL.out);have hrr:Upd (One b) wr wr:=Upd.refl _ _;clear hkey;go_wp2;refine wp_region_noPanic ?_;refine wp_region_held_drew (S:=(fun W'=>Upd (One b) wr W')) (by kernel_rfl) ?_ (fun hHeld=> ?_)
   ·(first|exact hrr.drew|(with_reducible exact hHeld)|(with_reducible exact hq5)|(with_reducible exact hq6))
   refine wpK 0 rfl ?_;refine wpK 1 rfl ?_;refine wpK 2 rfl ?_;refine wpK 3 rfl ?_;refine wpK 4 rfl ?_;refine wpK 5 rfl ?_;refine wpK 6 rfl ?_;refine wpR [7] ?_;refine wpC rfl (fun K hK=> ?_) AllReadyH.nil;go_simp
   (first
  |(go_at_call 135;refine(CW.out _ hHeld).mono ?_;rintro e w5 ⟨rfl,hu5⟩;have HW5:=Qh (hW.out.upd (show Upd No wr w5 from Upd.of_drew hu5) id);have hq5:Upd (One b) wr w5:=hHeld.trans (hu5.mono (fun _ _ e=>e.elim))))
   try (go_wp2_with fail)
   refine hK.out _ _ ?_ (fun hHeld=> ?_)
   ·(first|exact hrr.drew|(with_reducible exact hHeld)|(with_reducible exact hq5)|(with_reducible exact hq6))
   clear hK K
   try simp only[Act.put,sT,sS,sZ]
   refine wpK 8 rfl ?_;refine wpR [9] ?_;refine wpC rfl (fun K hK=> ?_) AllReadyH.nil
   (first
  |(obtain⟨w6,e6,h6,u6⟩:=HW5.out.put key ⟨i0,key,(Zc l key:Int)⟩;refine ZhP (by rfl) (by rfl) (by rfl) (by rfl) (by rfl) e6 ?_;have HW6:=Qh (h6.congr HNX.out);have hq6:Upd (One b) wr w6:=hHeld.trans u6))
   refine hK.out _ _ ?_ (fun hHeld=> ?_)
   ·(first|exact hrr.drew|(with_reducible exact hHeld)|(with_reducible exact hq5)|(with_reducible exact hq6))
   clear hK K
   try simp only[Act.put,sT,sS,sZ]
   refine wpD (NoPanic.normal ?_);have HL6:=Qh (hu.out.trans hHeld);clear hHeld;go_wp2
   go_roundg (gk-1)
   case measure=>omega
   case rel=>exact⟨j+1,_,by omega,by go_num,HW6,HL6⟩
  ·obtain rfl:j=ks.length:=by omega
   have HFN:=Qh (hW.out.congr (g:=ZeK i0 l f) (fun k=>by rw[List.take_length];exact HPO.out k));go_wp2;exact bodyPost_end (results_none rfl _ _ _) rfl ⟨rfl,⟨_,HFN.out⟩,(HU1.out.mono (fun _ _ e=>e.elim)).trans hu.out⟩
end
end Go.Proofs.YtonblekdfinpkaaGreat
