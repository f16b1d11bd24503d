/- Orders: what is kept while topo.Order runs. -/
import Derived.Test.YtaicemjckagcaaaMar
import Derived.Test.YtaicemjckagcaaaMbh
import Derived.Test.YtaicemjckagcaaaMbt
namespace Go.Proofs.Ytaicemjckagcaaa
set_option linter.unusedVariables false
open Go.RowKit
/-- what is told of an order -/
def ToldT (w : World) (o : List Int × Int) (e : Ending) (w' : World) : Prop :=
  ∃ A c, e = .returned (.tuple #[.slice A o.1.length c, .int .i64 o.2]) ∧ w'.ownsRow w.heap.size 3 1 (.slice A o.1.length c) o.1.length (o.1.map (Value.int .i64)) ∧ Upd No w w'
/-- a map of slices that turn no more: all of blocks between -/
structure NextIs (w : World) (b z : Nat) (m : List (Int × Value)) (f : Int → List Int) : Prop where
  is : MapIs w b (fun n : Int => Value.int .i64 n) m
  row : ∀ key, ∃ A c, (mget m key).getD (.slice none 0 0) = .slice A (f key).length c ∧ Ints (fun i => b < i ∧ i < z) w A (f key)
theorem NextIs.upd {S : Nat → Prop} {w w' : World} {b z : Nat} {m : List (Int × Value)} {f : Int → List Int} (h : NextIs w b z m f) (k : Upd S w w') (hS : ∀ i, b ≤ i → i < z → ¬ S i) (hz : b < z) : NextIs w' b z m f := by
  refine ⟨h.is.upd k (hS b (Nat.le_refl _) hz), fun key => ?_⟩
  obtain ⟨A, c, h1, h2⟩ := h.row key
  exact ⟨A, c, h1, h2.upd k fun i hi => hS i (Nat.le_of_lt hi.1) hi.2⟩
theorem MapSl.next {w : World} {b z : Nat} {m : List (Int × Value)} {f : Int → List Int} (h : MapSl w (b + 1) b m f) (hz : w.heap.size ≤ z) : NextIs w b z m f := by
  refine ⟨h.is, fun key => ?_⟩
  obtain ⟨A, c, h1, h2⟩ := h.row key
  exact ⟨A, c, h1, (Ints.of_own h2).weak fun i hi hb => ⟨by omega, by omega⟩⟩
theorem zeroN' (w : World) : (zeroValue 3).run Try.prog w = .ok (.int .i64 0) w := by kernel_rfl
def GMap (m : List (Int × Value)) (ids : List Int) (g : Int → Int) : Prop := ∀ x, mget m x = if x ∈ ids then some (.int .i64 (g x)) else none
theorem GMap.get {m : List (Int × Value)} {ids : List Int} {g : Int → Int} (h : GMap m ids g) (x : Int) : (mget m x).getD (.int .i64 0) = .int .i64 (if x ∈ ids then g x else 0) := by
  rw [h x]; split <;> rfl
theorem GMap.put {m : List (Int × Value)} {ids : List Int} {g : Int → Int} (h : GMap m ids g) {x v : Int} (hx : x ∈ ids) : GMap (mput m x (.int .i64 v)) ids (fun y => if y = x then v else g y) := fun y => by
  rw [mget_mput]
  by_cases e : y = x
  · subst e; simp [hx]
  · rw [if_neg e, h y]; simp [e]
theorem keys_same {m : List (Int × Value)} {ids : List Int} {x : Int} {v : Value} (h : m.map (·.1) = addK [] ids) (hx : x ∈ ids) : (mput m x v).map (·.1) = addK [] ids := by
  rw [mput_keys, if_pos (by rw [h, mem_addK]; exact Or.inr hx), h]
theorem mget_mem : ∀ {m : List (Int × Value)} {p : Int × Value}, (m.map (·.1)).Nodup → p ∈ m → mget m p.1 = some p.2
  | [], p, _, h => by cases h
  | q :: m, p, hn, h => by
    rw [List.map_cons, List.nodup_cons] at hn
    have hlk : ∀ (l : List (Int × Value)) (i j : Nat), (look p.1 l i).map (·.2) = (look p.1 l j).map (·.2) := fun l => by
      induction l with
      | nil => intro i j; rfl
      | cons a l ih => intro i j; unfold look; split; rfl; exact ih _ _
    unfold mget look
    rcases List.mem_cons.1 h with rfl | h
    · rw [if_pos rfl]; rfl
    · rw [if_neg (fun e : p.1 = q.1 => hn.1 (List.mem_map.2 ⟨p, h, e⟩)), hlk m 1 0]
      exact mget_mem hn.2 h
theorem HeapM.app {w w9 : World} {base hb : Nat} {A A9 : Option Addr} {xs : List Int} {c c9 : Nat} {x : Int} (HH : HeapM w base hb A xs c) (hsz : hb < w.heap.size)
    (hown9 : w9.ownsRow base 3 1 (.slice A9 (xs.length + 1) c9) (xs.length + 1) (xs.map (Value.int .i64) ++ [.int .i64 x])) (hu9 : Upd (Own (.slice A xs.length c)) w w9) (hg9 : Grew w (.slice A xs.length c) (.slice A9 (xs.length + 1) c9)) :
    HeapM (w9.setCell ⟨hb, 0, none⟩ (.slice A9 (xs.length + 1) c9)) base hb A9 (xs ++ [x]) c9 ∧ Upd (fun i => i = hb ∨ Own (.slice A xs.length c) i) w (w9.setCell ⟨hb, 0, none⟩ (.slice A9 (xs.length + 1) c9)) := by
  have hl1 : (xs ++ [x]).length = xs.length + 1 := by simp
  have hN : ¬ Own (.slice A9 (xs.length + 1) c9) hb := by
    intro e
    rcases hg9 with h1 | ⟨k, h1, h2⟩
    · exact HH.2.2 (show _ = some hb by rw [← h1]; exact e)
    · unfold Own at e
      rw [h1] at e
      cases e
      omega
  have hu : Upd (One hb) w9 (w9.setCell ⟨hb, 0, none⟩ (.slice A9 (xs.length + 1) c9)) := (Upd.refl (One hb) w9).setOne 0 _
  refine ⟨⟨?_, ?_, ?_⟩, (hu9.mono (fun _ _ e => Or.inr e)).trans (hu.mono (fun _ _ e => Or.inl e))⟩
  · rw [hl1]; simpa using (HH.1.upd hu9 HH.2.2).set_ 0 (.slice A9 (xs.length + 1) c9)
  · rw [hl1, List.map_append]; exact own_upd hown9 hu (fun i e1 e2 => hN (by unfold One at e2; subst e2; exact e1))
  · rw [hl1]; exact hN
theorem TpI.perm {l : List Edge} {ids L nx xs ys : List Int} {g : Int → Int} (h : TpI l ids L nx xs g) (hp : ys.Perm xs) : TpI l ids L nx ys g := ⟨h.rise, h.sub, h.cnt, hp.trans h.heap, h.gone, h.nxs⟩
/-- between two rounds: who is left, what is ready, what is told, and how all lies in memory -/
structure TpW (w wr : World) (base hb ba bn : Nat) (mn : List (Int × Value)) (l : List Edge) (ids L nx ys out : List Int) (g : Int → Int) (mA : List (Int × Value)) (A : Option Addr) (c : Nat) (Ao : Option Addr) (co : Nat) : Prop where
  I : TpI l ids L nx ys g
  hp : HpF ys 0 ys.length
  H : HeapM wr base hb A ys c
  O : wr.ownsRow base 3 1 (.slice Ao out.length co) out.length (out.map (Value.int .i64))
  ap : ∀ i, Own (.slice Ao out.length co) i → ¬ Own (.slice A ys.length c) i
  M : MapE wr ba (fun n : Int => Value.int .i64 n) mA
  G : GMap mA ids g
  K : mA.map (·.1) = addK [] ids
  N : NextIs wr bn hb mn (nextF l ids)
  U : Upd No w wr
  S : ordA l L.length L out = ordD ids l
  Ln : out.length + L.length = (setK ids).length
  B : base ≤ wr.heap.size
  o1 : w.heap.size ≤ ba
  o2 : ba < bn
  o3 : bn < hb
  o4 : hb < base
section
variable {w wr w1 w2 w5 w6 : World} {base hb ba bn : Nat} {mn mA : List (Int × Value)} {l : List Edge} {ids L nx ys ys' out : List Int} {g : Int → Int} {A A' Ao Ao' : Option Addr} {c c' co co' : Nat} {m x : Int}
theorem TpW.took (h : TpW w wr base hb ba bn mn l ids L [] ys out g mA A c Ao co) (hm : m ∈ ys) (hle : ∀ y ∈ ys, m ≤ y) (p : (ys' ++ [m]).Perm ys) (hp' : HpF ys' 0 ys'.length) (H1 : HeapM w1 base hb A ys' c) (u1 : Upd (fun i => i = hb ∨ Own (.slice A ys.length c) i) wr w1)
    (u2 : Upd (Own (.slice Ao out.length co)) w1 w2) (own2 : w2.ownsRow base 3 1 (.slice Ao' (out.length + 1) co') (out.length + 1) (out.map (Value.int .i64) ++ [.int .i64 m])) (g2 : Grew w1 (.slice Ao out.length co) (.slice Ao' (out.length + 1) co')) :
    TpW w w2 base hb ba bn mn l ids (L.erase m) (nextF l ids m) ys' (out ++ [m]) g mA A c Ao' co' := by
  have hge : ∀ i, Own (.slice A ys.length c) i → base ≤ i := fun i hi => (h.H.2.1.lt i hi).1
  have hge2 : ∀ i, Own (.slice Ao out.length co) i → base ≤ i := fun i hi => (h.O.lt i hi).1
  have e1 := h.o1; have e2 := h.o2; have e3 := h.o3; have e4 := h.o4
  have hs1 := u1.size; have hs2 := u2.size
  have hap : ∀ i, Own (.slice Ao out.length co) i → ¬ Own (.slice A ys'.length c) i := fun i hi e => h.ap i hi (own_any e)
  have hmL := ((h.I.mem m).1 hm).1
  have hl1 : (out ++ [m]).length = out.length + 1 := by simp
  refine ⟨h.I.pop p, hp', ?_, ?_, ?_, ?_, h.G, h.K, ?_, ?_, ?_, ?_, ?_, e1, e2, e3, e4⟩
  · refine ⟨H1.1.upd u2 (fun e => ?_), own_upd H1.2.1 u2 (fun i hi e => hap i e hi), H1.2.2⟩
    have := hge2 hb e
    omega
  · rw [hl1, List.map_append]; exact own2
  · rw [hl1]
    intro i hi e
    rcases g2 with h2 | ⟨k, h2, h3⟩
    · exact hap i (show _ = some i by rw [← h2]; exact hi) e
    · unfold Own at hi; rw [h2] at hi; cases hi
      have := (H1.2.1.lt i e).2
      omega
  · exact (h.M.upd u1 (fun e => by rcases e with e | e; omega; have := hge _ e; omega)).upd u2 (fun e => by have := hge2 _ e; omega)
  · exact (h.N.upd u1 (fun i _ hi e => by rcases e with e | e; omega; have := hge _ e; omega) e3).upd u2 (fun i _ hi e => by have := hge2 _ e; omega) e3
  · refine (h.U.then_ u1 (fun i e => Or.inr (by rcases e with e | e; omega; have := hge _ e; omega))).then_ u2 (fun i e => Or.inr (by have := hge2 _ e; omega))
  · rw [← h.S]; exact (ordA_some (h.I.find hm hle)).symm
  · rw [hl1, List.length_erase_of_mem hmL]; have := h.Ln; have := List.length_pos_of_mem hmL; omega
  · have := h.B; omega
theorem TpW.less (h : TpW w wr base hb ba bn mn l ids L (x :: nx) ys out g mA A c Ao co) (hne : g x - 1 ≠ 1) (M5 : MapE w5 ba (fun n : Int => Value.int .i64 n) (mput mA x (.int .i64 (g x - 1)))) (u5 : Upd (One ba) wr w5) :
    TpW w w5 base hb ba bn mn l ids L nx ys out (fun y => if y = x then g x - 1 else g y) (mput mA x (.int .i64 (g x - 1))) A c Ao co := by
  have e1 := h.o1; have e2 := h.o2; have e3 := h.o3; have e4 := h.o4
  have hx := h.I.nxs x (List.mem_cons_self ..)
  have hI := h.I.step
  rw [if_neg hne] at hI
  have hnb : ∀ i, bn ≤ i → ¬ One ba i := fun i hi e => by unfold One at e; omega
  refine ⟨hI, h.hp, ⟨h.H.1.upd u5 (hnb _ (by omega)), own_upd h.H.2.1 u5 (fun i hi => hnb i (by have := (h.H.2.1.lt i hi).1; omega)), h.H.2.2⟩, own_upd h.O u5 (fun i hi => hnb i (by have := (h.O.lt i hi).1; omega)), h.ap, M5, h.G.put hx, keys_same h.K hx,
    h.N.upd u5 (fun i h1 h2 => hnb i h1) e3, h.U.then_ u5 (fun i e => Or.inr (by unfold One at e; omega)), h.S, h.Ln, Nat.le_trans h.B u5.size, e1, e2, e3, e4⟩
theorem TpW.more (h : TpW w wr base hb ba bn mn l ids L (x :: nx) ys out g mA A c Ao co) (he : g x - 1 = 1) (M5 : MapE w5 ba (fun n : Int => Value.int .i64 n) (mput mA x (.int .i64 (g x - 1)))) (u5 : Upd (One ba) wr w5)
    (p : ys'.Perm (ys ++ [x])) (hp' : HpF ys' 0 ys'.length) (H6 : HeapM w6 base hb A' ys' c') (g6 : Grew w5 (.slice A ys.length c) (.slice A' ys'.length c')) (u6 : Upd (fun i => i = hb ∨ Own (.slice A ys.length c) i) w5 w6) :
    TpW w w6 base hb ba bn mn l ids L nx ys' out (fun y => if y = x then g x - 1 else g y) (mput mA x (.int .i64 (g x - 1))) A' c' Ao co := by
  have e1 := h.o1; have e2 := h.o2; have e3 := h.o3; have e4 := h.o4
  have hx := h.I.nxs x (List.mem_cons_self ..)
  have hI := h.I.step
  rw [if_pos he] at hI
  have hnb : ∀ i, bn ≤ i → ¬ One ba i := fun i hi e => by unfold One at e; omega
  have hge : ∀ i, Own (.slice A ys.length c) i → base ≤ i := fun i hi => (h.H.2.1.lt i hi).1
  have O5 := own_upd h.O u5 (fun i hi => hnb i (by have := (h.O.lt i hi).1; omega))
  refine ⟨hI.perm p, hp', H6, own_upd O5 u6 (fun i hi e => ?_), fun i hi e => ?_, M5.upd u6 (fun e => by rcases e with e | e; omega; have := hge _ e; omega), h.G.put hx, keys_same h.K hx,
    (h.N.upd u5 (fun i h1 h2 => hnb i h1) e3).upd u6 (fun i _ hi e => by rcases e with e | e; omega; have := hge _ e; omega) e3, (h.U.then_ u5 (fun i e => Or.inr (by unfold One at e; omega))).then_ u6 (fun i e => Or.inr (by rcases e with e | e; omega; have := hge _ e; omega)), h.S, h.Ln, ?_, e1, e2, e3, e4⟩
  · rcases e with e | e
    · have := (h.O.lt i hi).1; omega
    · exact h.ap i hi e
  · rcases g6 with h2 | ⟨k, h2, h3⟩
    · exact h.ap i hi (show _ = some i by rw [← h2]; exact e)
    · unfold Own at e; rw [h2] at e; cases e
      have := (O5.lt i hi).2
      omega
  · have := h.B; have := u5.size; have := u6.size; omega
end
theorem grew_of {w : World} {v : Value} {g n c : Nat} (h : v.ownBlock = some g ∨ w.heap.size ≤ g) : Grew w v (.slice (some ⟨g, 0, none⟩) n c) := by
  rcases h with h | h
  · exact .inl h.symm
  · exact .inr ⟨g, rfl, h⟩
/-- is its count one -/
def oneG (l : List Edge) (ids : List Int) (x : Int) : Bool := 1 + ((cntF l ids x : Nat) : Int) == 1
theorem one_perm {l : List Edge} {ids xs : List Int} {m : List (Int × Value)} (hk : m.map (·.1) = addK [] ids) (hp : xs.Perm ((m.filter fun p => oneG l ids p.1).map (·.1))) : xs.Perm ((setK ids).filter fun x => 1 + ((cntF l ids x : Nat) : Int) == 1) := by
  have h1 : (m.filter fun p => oneG l ids p.1).map (·.1) = (addK [] ids).filter (oneG l ids) := by
    rw [← hk, List.filter_map]; rfl
  rw [h1] at hp
  refine hp.trans ?_
  refine (List.perm_ext_iff_of_nodup ((addK_nodup ids [] (by simp)).filter _) ((rise_nodup (setK_lt ids)).filter _)).2 fun x => ?_
  rw [List.mem_filter, List.mem_filter, mem_addK, mem_setK]
  simp [oneG]
theorem filter_out {l1 l2 : List (Int × Value)} {p : Int × Value} {f : Int → Bool} {xs ys : List Int} (h : (xs ++ ((l1 ++ p :: l2).filter fun q => f q.1).map (·.1)).Perm ys) : ((if f p.1 = true then xs ++ [p.1] else xs) ++ ((l1 ++ l2).filter fun q => f q.1).map (·.1)).Perm ys := by
  refine List.Perm.trans ?_ h
  rw [List.filter_append, List.filter_append, List.map_append, List.map_append]
  by_cases hp : f p.1 = true
  · rw [if_pos hp, List.filter_cons_of_pos (by simpa using hp), List.map_cons, List.append_assoc]
    refine List.Perm.append_left xs ?_
    exact (List.perm_middle (a := p.1) (l₁ := (l1.filter fun q => f q.1).map (·.1)) (l₂ := (l2.filter fun q => f q.1).map (·.1))).symm
  · rw [if_neg hp, List.filter_cons_of_neg (by simpa using hp)]
end Go.Proofs.Ytaicemjckagcaaa
