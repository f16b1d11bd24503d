/- Digraphs, plain: the rows hold just the arcs, whatever is added and dropped. -/
import Derived.Test.YtaicemjckagcaaaMaj
import Derived.Test.YtaicemjckagcaaaMbi
namespace Go.Proofs.Ytaicemjckagcaaa
set_option linter.unusedVariables false
open Go.RowKit
theorem rightA_iff (N : Nat) (a : HArc) : rightA N a = true ↔ 0 ≤ a.f ∧ a.f < (N : Int) ∧ 0 ≤ a.t ∧ a.t < (N : Int) ∧ 1 ≤ a.kind ∧ a.kind ≤ 3 ∧ 0 ≤ a.label ∧ a.label ≤ 1048575 := by
  simp only [rightA, nodeB, Bool.and_eq_true, decide_eq_true_eq, and_assoc]
theorem harc_eq (i n k l : Int) (a : HArc) : (⟨i, n, k, l⟩ : HArc) = a ↔ i = a.f ∧ n = a.t ∧ k = a.kind ∧ l = a.label := by
  obtain ⟨af, at', ak, al⟩ := a
  simp
theorem dend_eq (e : DEnd) (k l n : Int) : e = ⟨k, l, n⟩ ↔ e.kind = k ∧ e.label = l ∧ e.node = n := by
  obtain ⟨ek, el, en⟩ := e
  simp
/-- rows out and in hold the arcs q -/
structure DOk (N K : Nat) (q : List HArc) (out inn : List (List DEnd)) : Prop where
  s : sortedA q
  r : ∀ a ∈ q, rightA N a = true
  lo : out.length = N
  li : inn.length = N
  so : ∀ l ∈ out, riseD l
  si : ∀ l ∈ inn, riseD l
  mo : ∀ (i : Nat) l, out[i]? = some l → ∀ e : DEnd, e ∈ l ↔ (⟨i, e.node, e.kind, e.label⟩ : HArc) ∈ q
  mi : ∀ (i : Nat) l, inn[i]? = some l → ∀ e : DEnd, e ∈ l ↔ (⟨e.node, i, e.kind, e.label⟩ : HArc) ∈ q
  fo : ∀ l ∈ out, l.length ≤ K
  fi : ∀ l ∈ inn, l.length ≤ K
  fq : q.length ≤ K
def addQ (N : Nat) (q : List HArc) (a : HArc) : List HArc := if rightA N a = true then (if a ∈ q then q else putA a q) else q
def addE (N : Nat) (q : List HArc) (a : HArc) : Int := if rightA N a = true then (if a ∈ q then 4 else 0) else 1
def dropE (q : List HArc) (a : HArc) : Int := if a ∈ q then 0 else 3
theorem mem_modify {α : Type} {l : List α} {f : α → α} {i : Nat} {x : α} (h : x ∈ l.modify i f) : x ∈ l ∨ ∃ y ∈ l, l[i]? = some y ∧ x = f y := by
  obtain ⟨k, hk, rfl⟩ := List.mem_iff_getElem.1 h
  rw [List.length_modify] at hk
  rw [List.getElem_modify]
  split
  · next e => subst e; exact .inr ⟨l[i], List.getElem_mem hk, List.getElem?_eq_getElem hk, rfl⟩
  · exact .inl (List.getElem_mem hk)
theorem mem_set_row {l m : List (List DEnd)} {f : List DEnd → List DEnd} {i k : Nat} {r : List DEnd} (h : (l.modify i f)[k]? = some r) : (k = i ∧ ∃ s, l[k]? = some s ∧ r = f s) ∨ (k ≠ i ∧ l[k]? = some r) := by
  rw [List.getElem?_modify] at h
  by_cases e : i = k
  · subst e
    simp only [if_true, Option.map_eq_map, Option.map_eq_some_iff] at h
    obtain ⟨s, h1, rfl⟩ := h
    exact .inl ⟨rfl, s, h1, rfl⟩
  · simp only [if_neg e] at h
    exact .inr ⟨fun e2 => e e2.symm, by simpa using h⟩
theorem DOk.nil (N : Nat) : DOk N 0 [] (List.replicate N []) (List.replicate N []) := by
  have hm : ∀ l ∈ List.replicate N ([] : List DEnd), l = [] := fun l h => (List.mem_replicate.1 h).2
  have hg : ∀ (i : Nat) l, (List.replicate N ([] : List DEnd))[i]? = some l → l = [] := fun i l h => hm l (List.mem_of_getElem? h)
  exact ⟨List.Pairwise.nil, by simp, by simp, by simp, fun l h => by rw [hm l h]; exact List.Pairwise.nil, fun l h => by rw [hm l h]; exact List.Pairwise.nil,
    fun i l h e => by rw [hg i l h]; simp, fun i l h e => by rw [hg i l h]; simp, fun l h => by rw [hm l h]; simp, fun l h => by rw [hm l h]; simp, by simp⟩
section
variable {N K : Nat} {q : List HArc} {out inn : List (List DEnd)}
theorem DOk.mono (h : DOk N K q out inn) {K' : Nat} (hk : K ≤ K') : DOk N K' q out inn :=
  { h with fo := fun l hl => Nat.le_trans (h.fo l hl) hk, fi := fun l hl => Nat.le_trans (h.fi l hl) hk, fq := Nat.le_trans h.fq hk }
theorem DOk.has (h : DOk N K q out inn) (a : HArc) : hasA out a = decide (a ∈ q) := by
  unfold hasA
  rw [h.lo]
  by_cases hr : rightA N a = true
  · obtain ⟨i, j, e1, e2, hi, hj⟩ := rightA_node hr
    have hil : i < out.length := by rw [h.lo]; exact hi
    rw [hr, e1]
    simp only [Int.toNat_natCast, List.getElem?_eq_getElem hil, Bool.true_and]
    rw [decide_eq_decide, h.mo i _ (List.getElem?_eq_getElem hil)]
    have : (⟨(i : Int), (outE a).node, (outE a).kind, (outE a).label⟩ : HArc) = a := by rw [harc_eq]; exact ⟨e1.symm, rfl, rfl, rfl⟩
    rw [this]
  · have hn : a ∉ q := fun e => hr (h.r a e)
    have hf : rightA N a = false := by simpa using hr
    rw [hf, decide_eq_false hn]
    rfl
theorem DOk.addW_ (h : DOk N K q out inn) (a : HArc) : addW out a = addE N q a := by
  unfold addW addE
  rw [h.has a, h.lo]
  simp only [decide_eq_true_eq]
theorem DOk.dropW_ (h : DOk N K q out inn) (a : HArc) : dropW out a = dropE q a := by
  unfold dropW dropE
  rw [h.has a]
  simp only [decide_eq_true_eq]
theorem putE_len1 {l : List DEnd} (h : riseD l) (e : DEnd) : (putE l e).length = l.length + 1 := putE_len l e (posD_parts h e)
theorem takeE_len1 (l : List DEnd) (e : DEnd) : (takeE l e).length ≤ l.length := by
  unfold takeE delAt
  rw [List.length_append, List.length_take, List.length_drop]
  omega
theorem DOk.add (h : DOk N K q out inn) (a : HArc) : DOk N (K + 1) (addQ N q a) (addO out a) (addI out inn a) := by
  unfold addO addI addQ
  rw [h.addW_ a]
  unfold addE
  by_cases hr : rightA N a = true
  · by_cases hm : a ∈ q
    · simp only [if_pos hr, if_pos hm, if_neg (show ¬ (4 : Int) = 0 by decide)]
      exact h.mono (by omega)
    · simp only [if_pos hr, if_neg hm, if_true]
      obtain ⟨i, j, e1, e2, hi, hj⟩ := rightA_node hr
      have hil : i < out.length := by rw [h.lo]; exact hi
      have hjl : j < inn.length := by rw [h.li]; exact hj
      rw [e1, e2]
      simp only [Int.toNat_natCast]
      have ao : ∀ s, out[i]? = some s → outE a ∉ s := fun s hs => by
        rw [h.mo i s hs]
        have : (⟨(i : Int), (outE a).node, (outE a).kind, (outE a).label⟩ : HArc) = a := by rw [harc_eq]; exact ⟨e1.symm, rfl, rfl, rfl⟩
        rw [this]; exact hm
      have ai : ∀ s, inn[j]? = some s → inE a ∉ s := fun s hs => by
        rw [h.mi j s hs]
        have : (⟨(inE a).node, (j : Int), (inE a).kind, (inE a).label⟩ : HArc) = a := by rw [harc_eq]; exact ⟨rfl, e2.symm, rfl, rfl⟩
        rw [this]; exact hm
      constructor
      case s => exact putA_sorted a q h.s
      case r =>
        intro b hb
        rcases (mem_putA a b q).1 hb with rfl | hb
        · exact hr
        · exact h.r b hb
      case lo => simpa using h.lo
      case li => simpa using h.li
      case so =>
        intro l hl
        rcases mem_modify hl with hl | ⟨y, hy, hy2, rfl⟩
        · exact h.so l hl
        · exact putE_rise (h.so y hy) (ao y hy2)
      case si =>
        intro l hl
        rcases mem_modify hl with hl | ⟨y, hy, hy2, rfl⟩
        · exact h.si l hl
        · exact putE_rise (h.si y hy) (ai y hy2)
      case mo =>
        intro k l hl e
        rcases mem_set_row (m := []) hl with ⟨rfl, s, hs, rfl⟩ | ⟨hne, hl⟩
        · rw [mem_putE, mem_putA, h.mo k s hs, harc_eq, show outE a = ⟨a.kind, a.label, a.t⟩ from rfl, dend_eq]
          constructor
          · rintro (⟨x1, x2, x3⟩ | x)
            · exact .inl ⟨e1.symm, x3, x1, x2⟩
            · exact .inr x
          · rintro (⟨_, x1, x2, x3⟩ | x)
            · exact .inl ⟨x2, x3, x1⟩
            · exact .inr x
        · rw [mem_putA, h.mo k l hl, harc_eq]
          constructor
          · exact .inr
          · rintro (⟨x, _⟩ | x)
            · exact absurd (by omega) hne
            · exact x
      case mi =>
        intro k l hl e
        rcases mem_set_row (m := []) hl with ⟨rfl, s, hs, rfl⟩ | ⟨hne, hl⟩
        · rw [mem_putE, mem_putA, h.mi k s hs, harc_eq, show inE a = ⟨a.kind, a.label, a.f⟩ from rfl, dend_eq]
          constructor
          · rintro (⟨x1, x2, x3⟩ | x)
            · exact .inl ⟨x3, e2.symm, x1, x2⟩
            · exact .inr x
          · rintro (⟨x1, _, x2, x3⟩ | x)
            · exact .inl ⟨x2, x3, x1⟩
            · exact .inr x
        · rw [mem_putA, h.mi k l hl, harc_eq]
          constructor
          · exact .inr
          · rintro (⟨_, x, _⟩ | x)
            · exact absurd (by omega) hne
            · exact x
      case fo =>
        intro l hl
        rcases mem_modify hl with hl | ⟨y, hy, hy2, rfl⟩
        · have := h.fo l hl; omega
        · have := h.fo y hy
          rw [putE_len1 (h.so y hy)]
          omega
      case fi =>
        intro l hl
        rcases mem_modify hl with hl | ⟨y, hy, hy2, rfl⟩
        · have := h.fi l hl; omega
        · have := h.fi y hy
          rw [putE_len1 (h.si y hy)]
          omega
      case fq =>
        have := putA_len a q
        have := h.fq
        omega
  · simp only [if_neg hr, if_neg (show ¬ (1 : Int) = 0 by decide)]
    exact h.mono (by omega)
theorem DOk.addN_ (h : DOk N K q out inn) (a : HArc) : addN out (q.length : Int) a = ((addQ N q a).length : Int) := by
  unfold addN addQ
  rw [h.addW_ a]
  unfold addE
  by_cases hr : rightA N a = true
  · by_cases hm : a ∈ q
    · simp [hr, hm]
    · simp only [if_pos hr, if_neg hm, if_true, putA_new a q hm]
      omega
  · simp [hr]
theorem DOk.drop (h : DOk N K q out inn) (a : HArc) : DOk N K (q.filter fun x => x != a) (dropO out a) (dropI out inn a) := by
  unfold dropO dropI
  rw [h.dropW_ a]
  unfold dropE
  by_cases hm : a ∈ q
  · simp only [if_pos hm, if_true]
    obtain ⟨i, j, e1, e2, hi, hj⟩ := rightA_node (h.r a hm)
    rw [e1, e2]
    simp only [Int.toNat_natCast]
    have ao : ∀ s, out[i]? = some s → outE a ∈ s := fun s hs => by
      rw [h.mo i s hs]
      have : (⟨(i : Int), (outE a).node, (outE a).kind, (outE a).label⟩ : HArc) = a := by rw [harc_eq]; exact ⟨e1.symm, rfl, rfl, rfl⟩
      rw [this]; exact hm
    have ai : ∀ s, inn[j]? = some s → inE a ∈ s := fun s hs => by
      rw [h.mi j s hs]
      have : (⟨(inE a).node, (j : Int), (inE a).kind, (inE a).label⟩ : HArc) = a := by rw [harc_eq]; exact ⟨rfl, e2.symm, rfl, rfl⟩
      rw [this]; exact hm
    constructor
    case s => exact h.s.filter _
    case r => exact fun b hb => h.r b (List.mem_filter.1 hb).1
    case lo => simpa using h.lo
    case li => simpa using h.li
    case so =>
      intro l hl
      rcases mem_modify hl with hl | ⟨y, hy, hy2, rfl⟩
      · exact h.so l hl
      · exact takeE_rise (h.so y hy) _
    case si =>
      intro l hl
      rcases mem_modify hl with hl | ⟨y, hy, hy2, rfl⟩
      · exact h.si l hl
      · exact takeE_rise (h.si y hy) _
    case mo =>
      intro k l hl e
      rw [List.mem_filter, bne_iff_ne]
      rcases mem_set_row (m := []) hl with ⟨rfl, s, hs, rfl⟩ | ⟨hne, hl⟩
      · rw [mem_takeE (h.so s (List.mem_of_getElem? hs)) (ao s hs), h.mo k s hs, and_comm]
        refine and_congr_right fun _ => not_congr ?_
        rw [harc_eq, show outE a = ⟨a.kind, a.label, a.t⟩ from rfl, dend_eq]
        constructor
        · rintro ⟨x1, x2, x3⟩
          exact ⟨e1.symm, x3, x1, x2⟩
        · rintro ⟨_, x1, x2, x3⟩
          exact ⟨x2, x3, x1⟩
      · rw [h.mo k l hl]
        refine ⟨fun x => ⟨x, fun x2 => ?_⟩, fun x => x.1⟩
        rw [harc_eq] at x2
        exact hne (by omega)
    case mi =>
      intro k l hl e
      rw [List.mem_filter, bne_iff_ne]
      rcases mem_set_row (m := []) hl with ⟨rfl, s, hs, rfl⟩ | ⟨hne, hl⟩
      · rw [mem_takeE (h.si s (List.mem_of_getElem? hs)) (ai s hs), h.mi k s hs, and_comm]
        refine and_congr_right fun _ => not_congr ?_
        rw [harc_eq, show inE a = ⟨a.kind, a.label, a.f⟩ from rfl, dend_eq]
        constructor
        · rintro ⟨x1, x2, x3⟩
          exact ⟨x3, e2.symm, x1, x2⟩
        · rintro ⟨x1, _, x2, x3⟩
          exact ⟨x2, x3, x1⟩
      · rw [h.mi k l hl]
        refine ⟨fun x => ⟨x, fun x2 => ?_⟩, fun x => x.1⟩
        rw [harc_eq] at x2
        exact hne (by omega)
    case fo =>
      intro l hl
      rcases mem_modify hl with hl | ⟨y, hy, hy2, rfl⟩
      · exact h.fo l hl
      · exact Nat.le_trans (takeE_len1 _ _) (h.fo y hy)
    case fi =>
      intro l hl
      rcases mem_modify hl with hl | ⟨y, hy, hy2, rfl⟩
      · exact h.fi l hl
      · exact Nat.le_trans (takeE_len1 _ _) (h.fi y hy)
    case fq => exact Nat.le_trans (List.length_filter_le _ _) h.fq
  · simp only [if_neg hm, if_neg (show ¬ (3 : Int) = 0 by decide)]
    rw [List.filter_eq_self.2 (fun x hx => by rw [bne_iff_ne]; exact fun e => hm (e ▸ hx))]
    exact h
theorem DOk.ko (h : DOk N K q out inn) : kindsD out := fun l hl e he => by
  obtain ⟨i, hi, rfl⟩ := List.mem_iff_getElem.1 hl
  have := h.r _ ((h.mo i _ (List.getElem?_eq_getElem hi) e).1 he)
  rw [rightA_iff] at this
  exact ⟨this.2.2.2.2.1, this.2.2.2.2.2.1⟩
theorem DOk.ki (h : DOk N K q out inn) : kindsD inn := fun l hl e he => by
  obtain ⟨i, hi, rfl⟩ := List.mem_iff_getElem.1 hl
  have := h.r _ ((h.mi i _ (List.getElem?_eq_getElem hi) e).1 he)
  rw [rightA_iff] at this
  exact ⟨this.2.2.2.2.1, this.2.2.2.2.2.1⟩
/-- the arcs of a mask -/
def ofA (mask : Int) (q : List HArc) : List HArc := q.filter fun x => bitM mask x.kind
theorem mem_ofA {mask : Int} {q : List HArc} {x : HArc} : x ∈ ofA mask q ↔ x ∈ q ∧ bitM mask x.kind = true := by unfold ofA; rw [List.mem_filter]
theorem DOk.mem_outD (h : DOk N K q out inn) (mask i : Int) (x : HArc) : x ∈ outD mask out i ↔ x ∈ q ∧ bitM mask x.kind = true ∧ x.f = i := by
  unfold outD
  by_cases hb : nodeB out.length i = true
  · rw [if_pos hb]
    simp only [nodeB, Bool.and_eq_true, decide_eq_true_eq] at hb
    obtain ⟨j, rfl⟩ : ∃ j : Nat, i = (j : Int) := ⟨i.toNat, by omega⟩
    have hj : j < out.length := by omega
    simp only [Int.toNat_natCast, List.getElem?_eq_getElem hj]
    unfold pickA
    rw [List.mem_map]
    constructor
    · rintro ⟨e, he, rfl⟩
      rw [List.mem_filter] at he
      exact ⟨(h.mo j _ (List.getElem?_eq_getElem hj) e).1 he.1, he.2, rfl⟩
    · rintro ⟨h1, h2, h3⟩
      refine ⟨⟨x.kind, x.label, x.t⟩, ?_, by rw [harc_eq]; exact ⟨h3.symm, rfl, rfl, rfl⟩⟩
      rw [List.mem_filter, h.mo j _ (List.getElem?_eq_getElem hj)]
      refine ⟨?_, h2⟩
      have : (⟨(j : Int), x.t, x.kind, x.label⟩ : HArc) = x := by rw [harc_eq]; exact ⟨h3.symm, rfl, rfl, rfl⟩
      rw [this]
      exact h1
  · rw [if_neg hb]
    simp only [List.not_mem_nil, false_iff]
    rintro ⟨h1, _, h3⟩
    have := (rightA_iff _ _).1 (h.r x h1)
    apply hb
    simp only [nodeB, Bool.and_eq_true, decide_eq_true_eq, h.lo]
    omega
theorem DOk.sorted_outD (h : DOk N K q out inn) (mask i : Int) : sortedA (outD mask out i) := by
  unfold outD
  split
  · next l hl =>
    split at hl
    · have hr := h.so l (List.mem_of_getElem? hl)
      unfold pickA sortedA
      rw [List.pairwise_map]
      refine (hr.filter _).imp fun {a b} hab => ?_
      show lessA ⟨i, a.node, a.kind, a.label⟩ ⟨i, b.node, b.kind, b.label⟩ = true
      rw [lessA_iff]
      rw [cmpD_lt] at hab
      show i < i ∨ (i = i ∧ (a.kind < b.kind ∨ (a.kind = b.kind ∧ (a.label < b.label ∨ (a.label = b.label ∧ a.node < b.node)))))
      exact .inr ⟨rfl, hab⟩
    · cases hl
  · exact List.Pairwise.nil
theorem DOk.outD_ (h : DOk N K q out inn) (mask i : Int) : outD mask out i = (ofA mask q).filter fun x => x.f == i :=
  sortedA_eq (h.sorted_outD mask i) ((h.s.filter _).filter _) fun x => by
    rw [h.mem_outD, List.mem_filter, mem_ofA, beq_iff_eq, and_assoc]
theorem nextD_lt (mask : Int) (ls : List (List DEnd)) (i : Int) : (nextD mask ls i).Pairwise (· < ·) := by
  unfold nextD
  split
  · unfold nodesD
    rw [setK_compact]
    exact setK_lt _
  · exact List.Pairwise.nil
theorem mem_nodesD (mask : Int) (l : List DEnd) (v : Int) : v ∈ nodesD mask l ↔ ∃ e ∈ l, bitM mask e.kind = true ∧ v = e.node := by
  unfold nodesD
  rw [setK_compact, mem_setK]
  unfold pickN
  rw [List.mem_map]
  constructor
  · rintro ⟨e, he, rfl⟩
    rw [List.mem_filter] at he
    exact ⟨e, he.1, he.2, rfl⟩
  · rintro ⟨e, h1, h2, rfl⟩
    exact ⟨e, List.mem_filter.2 ⟨h1, h2⟩, rfl⟩
theorem DOk.mem_prev (h : DOk N K q out inn) (mask i v : Int) : v ∈ nextD mask inn i ↔ ∃ x ∈ ofA mask q, x.t = i ∧ v = x.f := by
  unfold nextD
  by_cases hb : nodeB inn.length i = true
  · rw [if_pos hb]
    simp only [nodeB, Bool.and_eq_true, decide_eq_true_eq] at hb
    obtain ⟨j, rfl⟩ : ∃ j : Nat, i = (j : Int) := ⟨i.toNat, by omega⟩
    have hj : j < inn.length := by omega
    simp only [Int.toNat_natCast, List.getElem?_eq_getElem hj]
    rw [mem_nodesD]
    constructor
    · rintro ⟨e, h1, h2, rfl⟩
      exact ⟨_, mem_ofA.2 ⟨(h.mi j _ (List.getElem?_eq_getElem hj) e).1 h1, h2⟩, rfl, rfl⟩
    · rintro ⟨x, h1, h3, rfl⟩
      rw [mem_ofA] at h1
      refine ⟨⟨x.kind, x.label, x.f⟩, ?_, h1.2, rfl⟩
      rw [h.mi j _ (List.getElem?_eq_getElem hj)]
      have : (⟨x.f, (j : Int), x.kind, x.label⟩ : HArc) = x := by rw [harc_eq]; exact ⟨rfl, h3.symm, rfl, rfl⟩
      rw [this]
      exact h1.1
  · rw [if_neg hb]
    simp only [List.not_mem_nil, false_iff]
    rintro ⟨x, h1, h3, _⟩
    rw [mem_ofA] at h1
    have := (rightA_iff _ _).1 (h.r x h1.1)
    apply hb
    simp only [nodeB, Bool.and_eq_true, decide_eq_true_eq, h.li]
    omega
theorem DOk.prev_ (h : DOk N K q out inn) (mask i : Int) : nextD mask inn i = nxA i true (ofA mask q) :=
  rises_eq (nextD_lt _ _ _) (nxS_lt _ _ _ _ List.Pairwise.nil) fun v => by
    rw [h.mem_prev]
    unfold nxA
    rw [mem_nxS]
    simp
end
end Go.Proofs.Ytaicemjckagcaaa

/- Digraphs: the contracts by the arcs alone, nil or not. -/
namespace Go.Proofs.Ytaicemjckagcaaa
set_option linter.unusedVariables false
open Go.RowKit
theorem dprev0 (w : World) (i mask : Int) : Calls Try.prog 167 #[.pointer none, .int .i64 i, .int .i64 mask] w (NewI w []) := by
  have HN := Lib.hid (dnode0 w i)
  go_enter Try.func167, Try.ntmps167
  go_wp2_with fail
  refine (HN.out).mono ?_
  rintro e w1 ⟨rfl, rfl⟩
  go_wp2
  go_ret
  exact newI_nil _ _ (Upd.refl _ _)
theorem dout0 (w : World) (i mask : Int) : Calls Try.prog 83 #[.pointer none, .int .i64 i, .int .i64 mask] w (NewA w []) := by
  have HN := Lib.hid (dnode0 w i)
  go_enter Try.func83, Try.ntmps83
  go_wp2_with fail
  refine (HN.out).mono ?_
  rintro e w1 ⟨rfl, rfl⟩
  go_wp2
  go_ret
  exact ⟨none, 0, rfl, World.ownsRow_nil _ _ _ _, Upd.refl _ _⟩
/-- a digraph of arcs q lies there -/
def DGs (w : World) (G : Nat → Prop) (g N K : Nat) (q : List HArc) : Prop :=
  ∃ out inn ob ib oh ih base, GIs w G g out inn (q.length : Int) ob ib oh ih base ∧ DOk N K q out inn ∧ base ≤ w.heap.size
/-- the same, or it is nil -/
def DG (w : World) (G : Nat → Prop) (p : Option Addr) (N K : Nat) (q : List HArc) : Prop :=
  (p = none ∧ N = 0 ∧ q = []) ∨ ∃ g, p = some ⟨g, 0, none⟩ ∧ DGs w G g N K q
def DTs (w : World) (G : Nat → Prop) (p : Option Addr) (N K : Nat) (q : List HArc) (r : Value) (e : Ending) (w' : World) : Prop :=
  ∃ G', e = .returned r ∧ DG w' G' p N K q ∧ Upd G w w' ∧ ∀ k, G' k → G k ∨ w.heap.size ≤ k
def DMade (w : World) (N K : Nat) (q : List HArc) (e : Ending) (w' : World) : Prop :=
  ∃ G g, e = .returned (.pointer (some ⟨g, 0, none⟩)) ∧ DG w' G (some ⟨g, 0, none⟩) N K q ∧ Upd No w w' ∧ ∀ k, G k → w.heap.size ≤ k
theorem DG.nil (w : World) (G : Nat → Prop) : DG w G none 0 0 [] := .inl ⟨rfl, rfl, rfl⟩
section
variable {w : World} {G : Nat → Prop} {p : Option Addr} {N K : Nat} {q : List HArc}
theorem DG.upd (h : DG w G p N K q) {S : Nat → Prop} {w' : World} (k : Upd S w w') (hn : ∀ i, G i → ¬ S i) : DG w' G p N K q := by
  rcases h with h | ⟨g, rfl, out, inn, ob, ib, oh, ih, base, h1, h2, h3⟩
  · exact .inl h
  · exact .inr ⟨g, rfl, out, inn, ob, ib, oh, ih, base, h1.upd k hn, h2, Nat.le_trans h3 k.size⟩
theorem DG.no (h : DG w G p N K q) {w' : World} (k : Upd No w w') : DG w' G p N K q := h.upd k fun _ _ => id
theorem DG.sorted (h : DG w G p N K q) : sortedA q := by
  rcases h with ⟨_, _, rfl⟩ | ⟨g, rfl, out, inn, ob, ib, oh, ih, base, h1, h2, h3⟩
  · exact List.Pairwise.nil
  · exact h2.s
theorem DG.right (h : DG w G p N K q) : ∀ a ∈ q, rightA N a = true := by
  rcases h with ⟨_, _, rfl⟩ | ⟨g, rfl, out, inn, ob, ib, oh, ih, base, h1, h2, h3⟩
  · simp
  · exact h2.r
theorem DG.few (h : DG w G p N K q) : q.length ≤ K := by
  rcases h with ⟨_, _, rfl⟩ | ⟨g, rfl, out, inn, ob, ib, oh, ih, base, h1, h2, h3⟩
  · simp
  · exact h2.fq
theorem DG.nodes_le (h : DG w G p N K q) : N ≤ 4096 := by
  rcases h with ⟨_, rfl, rfl⟩ | ⟨g, rfl, out, inn, ob, ib, oh, ih, base, h1, h2, h3⟩
  · omega
  · have := h1.few.1
    have := h2.lo
    omega
theorem DG.old (h : DG w G p N K q) (hp : p ≠ none) : ∀ k, G k → k < w.heap.size := by
  rcases h with ⟨rfl, _, rfl⟩ | ⟨g, rfl, out, inn, ob, ib, oh, ih, base, h1, h2, h3⟩
  · exact absurd rfl hp
  · exact h1.old
theorem dgnodes (h : DG w G p N K q) : Calls Try.prog 76 #[.pointer p] w fun e w' => e = .returned (.int .i64 (N : Int)) ∧ w = w' := by
  rcases h with ⟨rfl, rfl, rfl⟩ | ⟨g, rfl, out, inn, ob, ib, oh, ih, base, h1, h2, h3⟩
  · exact dnodes0 w
  · rw [← h2.lo]; exact dnodes h1
theorem dgprev (h : DG w G p N K q) (i mask : Int) : Calls Try.prog 167 #[.pointer p, .int .i64 i, .int .i64 mask] w (NewI w (nxA i true (ofA mask q))) := by
  rcases h with ⟨rfl, rfl, rfl⟩ | ⟨g, rfl, out, inn, ob, ib, oh, ih, base, h1, h2, h3⟩
  · exact dprev0 w i mask
  · rw [← h2.prev_]; exact dprev h1 h2.ki i mask
theorem dgout (h : DG w G p N K q) (i mask : Int) : Calls Try.prog 83 #[.pointer p, .int .i64 i, .int .i64 mask] w (NewA w ((ofA mask q).filter fun x => x.f == i)) := by
  rcases h with ⟨rfl, rfl, rfl⟩ | ⟨g, rfl, out, inn, ob, ib, oh, ih, base, h1, h2, h3⟩
  · exact dout0 w i mask
  · rw [← h2.outD_]; exact dout h1 h2.ko i mask
theorem dgadd (h : DG w G p N K q) (hK : K < 100000) (a : HArc) : Calls Try.prog 33 #[.pointer p, .agg a.cells.toArray] w (DTs w G p N (K + 1) (addQ N q a) (.int .i64 (addE N q a))) := by
  rcases h with ⟨rfl, rfl, rfl⟩ | ⟨g, rfl, out, inn, ob, ib, oh, ih, base, h1, h2, h3⟩
  · have hr : ¬ rightA 0 a = true := fun e => by rw [rightA_iff] at e; omega
    refine (dadd0 w a).mono ?_
    rintro e w' ⟨rfl, hu⟩
    exact ⟨G, by unfold addE; rw [if_neg hr], .inl ⟨rfl, rfl, by unfold addQ; rw [if_neg hr]⟩, hu.mono (fun _ _ e => e.elim), fun _ e => .inl e⟩
  · have hq := h2.fq
    refine (dadd (n := q.length) h1 h2.so h2.si ⟨fun l hl => by have := h2.fo l hl; omega, fun l hl => by have := h2.fi l hl; omega⟩ (by omega) h3 a).mono ?_
    rintro e w' ⟨G', oh', ih', rfl, k1, k2, k3⟩
    rw [h2.addN_] at k1
    exact ⟨G', by rw [h2.addW_], .inr ⟨g, rfl, _, _, _, _, _, _, _, k1, h2.add a, Nat.le_trans h3 k2.size⟩, k2, k3⟩
end
theorem dgnew (w : World) (n : Int) : Calls Try.prog 72 #[.int .i64 n] w (DMade w (roomN n) 0 []) := by
  refine (dnew w n).mono ?_
  rintro e w' ⟨G, g, ob, ib, oh, ih, rfl, h1, h2, h3⟩
  exact ⟨G, g, rfl, .inr ⟨g, rfl, _, _, _, _, _, _, _, h1, DOk.nil _, Nat.le_refl _⟩, h2, h3⟩
end Go.Proofs.Ytaicemjckagcaaa

/- The document's digraph: an arc put among others. -/
namespace Go.Proofs.Ytaicemjckagcaaa
set_option linter.unusedVariables false
open Go.RowKit
end Go.Proofs.Ytaicemjckagcaaa

/- The document's digraph: whether an arc is right. -/
namespace Go.Proofs.Ytaicemjckagcaaa
set_option linter.unusedVariables false
open Go.RowKit
end Go.Proofs.Ytaicemjckagcaaa

/- Whether a number is among some. -/
namespace Go.Proofs.Ytaicemjckagcaaa
set_option linter.unusedVariables false
open Go.RowKit
theorem rin01 (w : World) (F : Nat → Prop) (A : Option Addr) (c : Nat) (l : List Int) (a : Int) (h : Ints F w A l) (hl : l.length ≤ 4398046511103) :
    Calls Try.prog 17 #[.slice A l.length c, .int .i64 a] w fun e w' => e = .returned (.bool (decide (a ∈ l))) ∧ w = w' := by
  go_enter Try.func17, Try.ntmps17
  go_wp2
  go_loopg [9] l.length (fun gk i wr => ∃ k : Nat, k + gk = l.length ∧ i = .int .i64 k ∧ Hid (decide (a ∈ l) = decide (a ∈ l.drop k)) ∧ w = wr)
  case atStart => exact ⟨0, by omega, rfl, Lib.hid (by simp), rfl⟩
  case round =>
    obtain ⟨k, hgk, rfl, hs, rfl⟩ := hrel
    by_cases hlt : k < l.length
    · obtain ⟨ax, rfl, hc0⟩ := h.at_ hlt
      obtain ⟨x, hx⟩ : ∃ x, l[k] = x := ⟨_, rfl⟩
      have hd := Lib.hid (show l.drop k = x :: l.drop (k + 1) by rw [← hx]; exact List.drop_eq_getElem_cons hlt)
      rw [hx] at hc0
      have b1 : (0 : Int) ≤ (k : Int) := Int.natCast_nonneg _
      have b2 : (k : Int) < (l.length : Int) := by omega
      clear hx
      by_cases he : x = a
      · have heb : (x == a) = true := by rw [he]; simp
        have He := Lib.hid he
        clear he
        go_wp2
        go_ret
        exact ⟨by rw [hs.out, hd.out, He.out]; simp, rfl⟩
      · have heb : (x == a) = false := by simpa using he
        have He := Lib.hid he
        clear he
        go_wp2
        go_roundg (gk - 1)
        case measure => omega
        case rel =>
          refine ⟨k + 1, by omega, by go_num, Lib.hid ?_, rfl⟩
          rw [hs.out, hd.out]
          have := He.out
          simp only [List.mem_cons, decide_eq_decide]
          exact ⟨fun e => e.elim (fun e => absurd e.symm this) id, .inr⟩
    · obtain rfl : k = l.length := by omega
      go_wp2
      go_ret
      exact ⟨by rw [hs.out, List.drop_length]; simp, rfl⟩
end Go.Proofs.Ytaicemjckagcaaa

/- Digraphs: the law of both sides. -/
namespace Go.Proofs.Ytaicemjckagcaaa
set_option linter.unusedVariables false
open Go.RowKit
/-- a digraph that was made in the call -/
def DMa (w : World) (g N K : Nat) (q : List HArc) (W : World) : Prop :=
  ∃ G, DG W G (some ⟨g, 0, none⟩) N K q ∧ Upd No w W ∧ ∀ k, G k → w.heap.size ≤ k
namespace DMa
variable {w W W' : World} {g N K : Nat} {q : List HArc}
theorem no (h : DMa w g N K q W) (k : Upd No W W') : DMa w g N K q W' := by
  obtain ⟨G, h1, h2, h3⟩ := h
  exact ⟨G, h1.no k, h2.trans k, h3⟩
theorem upd (h : DMa w g N K q W) : Upd No w W := by
  obtain ⟨G, h1, h2, h3⟩ := h
  exact h2
theorem is (h : DMa w g N K q W) : ∃ G, DG W G (some ⟨g, 0, none⟩) N K q := by
  obtain ⟨G, h1, h2, h3⟩ := h
  exact ⟨G, h1⟩
end DMa
theorem nx_nodup (node : Int) (back : Bool) (p : List HArc) : (nxA node back p).length ≤ p.length := by
  have := nxS_len node back p []
  simpa [nxA] using this
theorem arcs_own' {w : World} {base c : Nat} {A : Option Addr} {l : List HArc} (h : w.ownsRow base 41 4 (.slice A l.length c) l.length (arcsF l)) : ArcsL (Own (.slice A l.length c)) w A l := Recs.of_own (n := l.length) (c := c) (arc_len l) (by omega) h
end Go.Proofs.Ytaicemjckagcaaa
