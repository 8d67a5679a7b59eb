/- What each place has in the table that alias.Build makes: its stake times the number of places. No conditions. -/
import Derived.Test.YtbafkkbbjacekaaLmAliasB
namespace Go.Proofs.Ytbafkkbbjacekaa.Lm
open Go.RowKit Go.Proofs.YtbafkkbbjacekaaW.PrintWords Go.Proofs.Ytbafkkbbjacekaa.PB

theorem rd_setI {l : List Int} {i : Int} (x j : Int) (h0 : 0 ≤ i) (h : i < l.length) (hj : 0 ≤ j) : rd (l.set i.toNat x) j = if i = j then x else rd l j := by
  unfold rd
  rw [List.getD_eq_getElem?_getD, List.getD_eq_getElem?_getD]
  by_cases c : i = j
  · subst c
    rw [if_pos rfl, List.getElem?_set_self (by omega)]; rfl
  · rw [if_neg c, List.getElem?_set_ne (by omega)]
theorem rdT_setI {l : List S62} {i : Int} (x : S62) (j : Int) (h0 : 0 ≤ i) (h : i < l.length) (hj : 0 ≤ j) : rd_T62 (l.set i.toNat x) j = if i = j then x else rd_T62 l j := by
  unfold rd_T62
  rw [List.getD_eq_getElem?_getD, List.getD_eq_getElem?_getD]
  by_cases c : i = j
  · subst c
    rw [if_pos rfl, List.getElem?_set_self (by omega)]; rfl
  · rw [if_neg c, List.getElem?_set_ne (by omega)]
theorem gave_set (T : Int) (j : Int) (c : S62) : ∀ (cl : List S62) (i : Nat), i < cl.length → gave T (cl.set i c) j = gave T cl j + (if c.f1 = j then T - c.f0 else 0) - (if (rd_T62 cl (i : Int)).f1 = j then T - (rd_T62 cl (i : Int)).f0 else 0) := by
  intro cl
  induction cl with
  | nil => intro i h; simp at h
  | cons a cl ih =>
    intro i h
    cases i with
    | zero =>
      rw [List.set_cons_zero, gave_cons, gave_cons, rdT_nat]
      simp only [List.getD_cons_zero]
      omega
    | succ i =>
      rw [List.set_cons_succ, gave_cons, gave_cons, ih i (by simpa using h), rdT_nat, rdT_nat]
      simp only [List.getD_cons_succ]
      omega
theorem gave_nonneg {T j : Int} {cl : List S62} (h : ∀ c ∈ cl, c.f0 ≤ T) : 0 ≤ gave T cl j := by
  induction cl with
  | nil => simp [gave]
  | cons a cl ih =>
    rw [gave_cons]
    have := h a (by simp)
    have := ih (fun c hc => h c (by simp [hc]))
    split <;> omega
/-- What holds at each step of the pairing. -/
structure Inv (l : List Int) (T : Int) (hs : List Int) (cl : List S62) (sm lg : List Int) : Prop where
  lh : hs.length = l.length
  lc : cl.length = l.length
  is : InR l.length sm
  il : InR l.length lg
  nd : (sm ++ lg).Nodup
  hs_sm : ∀ j ∈ sm, 0 ≤ rd hs j ∧ rd hs j < T
  hs_lg : ∀ j ∈ lg, T ≤ rd hs j
  un : ∀ j ∈ sm ++ lg, rd_T62 cl j = ⟨T, j⟩
  dn : ∀ j : Int, 0 ≤ j → j < l.length → j ∉ sm ++ lg → (rd_T62 cl j).f0 = rd hs j ∧ 0 ≤ rd hs j ∧ rd hs j ≤ T ∧ 0 ≤ (rd_T62 cl j).f1 ∧ (rd_T62 cl j).f1 < l.length
  con : ∀ j : Int, 0 ≤ j → j < l.length → rd hs j + gave T cl j = l.length * rd l j
  bal : ((sm ++ lg).map (rd hs)).sum = T * ((sm.length : Int) + lg.length)
/-- A pair is made: i is done, k is among the small or the large then. -/
theorem Inv.step {l : List Int} {T : Int} {hs : List Int} {cl : List S62} {s g sm' lg' : List Int} {i k : Int} (hI : Inv l T hs cl (s ++ [i]) (g ++ [k])) (x : Int) (hx : x = rd hs k - (T - rd hs i))
    (h1 : (x < T ∧ sm' = s ++ [k] ∧ lg' = g) ∨ (T ≤ x ∧ sm' = s ∧ lg' = g ++ [k])) : Inv l T (hs.set k.toNat x) (cl.set i.toNat ⟨rd hs i, k⟩) sm' lg' := by
  obtain ⟨lh, lc, is, il, nd, hsm, hlg, un, dn, con, bal⟩ := hI
  have ri := is i (by simp)
  have rk := il k (by simp)
  have pold : ((s ++ [i]) ++ (g ++ [k])).Perm (i :: k :: (s ++ g)) := by
    rw [List.perm_iff_count]; intro a; simp only [List.count_append, List.count_cons, List.count_nil]; omega
  have pnew : (sm' ++ lg').Perm (k :: (s ++ g)) := by
    rw [List.perm_iff_count]; intro a
    rcases h1 with ⟨_, rfl, rfl⟩ | ⟨_, rfl, rfl⟩ <;> simp only [List.count_append, List.count_cons, List.count_nil] <;> omega
  have nd2 := pold.nodup_iff.mp nd
  rw [List.nodup_cons, List.nodup_cons] at nd2
  obtain ⟨n1, n2, n3⟩ := nd2
  have hik : i ≠ k := fun e => n1 (by rw [e]; simp)
  have mnew : ∀ j, j ∈ sm' ++ lg' ↔ j = k ∨ j ∈ s ∨ j ∈ g := fun j => by rw [pnew.mem_iff]; simp
  have mold : ∀ j, j ∈ (s ++ [i]) ++ (g ++ [k]) ↔ j = i ∨ j = k ∨ j ∈ s ∨ j ∈ g := fun j => by rw [pold.mem_iff]; simp
  have hsi := hsm i (by simp)
  have hlk := hlg k (by simp)
  have RS : ∀ j ∈ s, 0 ≤ j ∧ j < l.length ∧ j ≠ k ∧ j ≠ i := fun j hj => ⟨(is j (by simp [hj])).1, (is j (by simp [hj])).2, fun e => n2 (by rw [← e]; simp [hj]), fun e => n1 (by rw [← e]; simp [hj])⟩
  have RG : ∀ j ∈ g, 0 ≤ j ∧ j < l.length ∧ j ≠ k ∧ j ≠ i := fun j hj => ⟨(il j (by simp [hj])).1, (il j (by simp [hj])).2, fun e => n2 (by rw [← e]; simp [hj]), fun e => n1 (by rw [← e]; simp [hj])⟩
  have H : ∀ j : Int, 0 ≤ j → rd (hs.set k.toNat x) j = if k = j then x else rd hs j := fun j hj => rd_setI x j rk.1 (by omega) hj
  have C : ∀ j : Int, 0 ≤ j → rd_T62 (cl.set i.toNat ⟨rd hs i, k⟩) j = if i = j then ⟨rd hs i, k⟩ else rd_T62 cl j := fun j hj => rdT_setI _ j ri.1 (by omega) hj
  have HS : ∀ j ∈ s, rd (hs.set k.toNat x) j = rd hs j := fun j hj => by have := RS j hj; rw [H j this.1, if_neg (fun e => this.2.2.1 e.symm)]
  have HG : ∀ j ∈ g, rd (hs.set k.toNat x) j = rd hs j := fun j hj => by have := RG j hj; rw [H j this.1, if_neg (fun e => this.2.2.1 e.symm)]
  have Hk : rd (hs.set k.toNat x) k = x := by rw [H k rk.1, if_pos rfl]
  refine ⟨by rw [List.length_set]; exact lh, by rw [List.length_set]; exact lc, ?_, ?_, pnew.nodup_iff.mpr (List.nodup_cons.mpr ⟨n2, n3⟩), ?_, ?_, ?_, ?_, ?_, ?_⟩
  · intro j hj
    rcases (mnew j).mp (List.mem_append_left _ hj) with rfl | h | h
    · exact rk
    · exact ⟨(RS j h).1, (RS j h).2.1⟩
    · exact ⟨(RG j h).1, (RG j h).2.1⟩
  · intro j hj
    rcases (mnew j).mp (List.mem_append_right _ hj) with rfl | h | h
    · exact rk
    · exact ⟨(RS j h).1, (RS j h).2.1⟩
    · exact ⟨(RG j h).1, (RG j h).2.1⟩
  · intro j hj
    rcases h1 with ⟨hlt, rfl, rfl⟩ | ⟨hge, rfl, rfl⟩
    · rcases List.mem_append.1 hj with h | h
      · rw [HS j h]; exact hsm j (by simp [h])
      · simp only [List.mem_singleton] at h; subst h; rw [Hk]; omega
    · rw [HS j hj]; exact hsm j (by simp [hj])
  · intro j hj
    rcases h1 with ⟨hlt, rfl, rfl⟩ | ⟨hge, rfl, rfl⟩
    · rw [HG j hj]; exact hlg j (by simp [hj])
    · rcases List.mem_append.1 hj with h | h
      · rw [HG j h]; exact hlg j (by simp [h])
      · simp only [List.mem_singleton] at h; subst h; rw [Hk]; exact hge
  · intro j hj
    rcases (mnew j).mp hj with rfl | h | h
    · rw [C j rk.1, if_neg hik]; exact un j (by simp)
    · have := RS j h
      rw [C j this.1, if_neg (fun e => this.2.2.2 e.symm)]; exact un j (by simp [h])
    · have := RG j h
      rw [C j this.1, if_neg (fun e => this.2.2.2 e.symm)]; exact un j (by simp [h])
  · intro j h0 hn hj
    have hj2 : ¬ (j = k ∨ j ∈ s ∨ j ∈ g) := fun e => hj ((mnew j).mpr e)
    rw [C j h0, H j h0, if_neg (show ¬ k = j from fun e => hj2 (.inl e.symm))]
    by_cases c : i = j
    · subst c
      rw [if_pos rfl]
      exact ⟨rfl, hsi.1, by omega, rk.1, rk.2⟩
    · rw [if_neg c]
      exact dn j h0 hn (fun e => by rcases (mold j).mp e with h | h; exact c h.symm; exact hj2 h)
  · intro j h0 hn
    have e1 := gave_set T j ⟨rd hs i, k⟩ cl i.toNat (by omega)
    have e2 := un i (by simp)
    rw [show ((i.toNat : Nat) : Int) = i by omega, e2] at e1
    dsimp only at e1
    have e3 := con j h0 hn
    rw [e1, H j h0]
    by_cases c : k = j
    · subst c
      rw [if_pos rfl, if_pos rfl]
      split <;> omega
    · rw [if_neg c, if_neg c]
      split <;> omega
  · have es : (s.map (rd (hs.set k.toNat x))).sum = (s.map (rd hs)).sum := by rw [List.map_congr_left HS]
    have eg : (g.map (rd (hs.set k.toNat x))).sum = (g.map (rd hs)).sum := by rw [List.map_congr_left HG]
    have hb : (s.map (rd hs)).sum + rd hs i + ((g.map (rd hs)).sum + rd hs k) = T * (((s.length : Int) + g.length) + 2) := by
      have := bal
      simp only [List.map_append, List.sum_append, List.map_cons, List.map_nil, List.sum_cons, List.sum_nil, List.length_append, List.length_cons, List.length_nil] at this
      rw [show ((s.length : Int) + g.length) + 2 = ((s.length + (0 + 1) : Nat) : Int) + ((g.length + (0 + 1) : Nat) : Int) by omega, ← this]; omega
    rw [Int.mul_add] at hb
    rcases h1 with ⟨_, rfl, rfl⟩ | ⟨_, rfl, rfl⟩
    · simp only [List.map_append, List.sum_append, List.map_cons, List.map_nil, List.sum_cons, List.sum_nil, List.length_append, List.length_cons, List.length_nil]
      rw [es, eg, Hk, show ((s.length + (0 + 1) : Nat) : Int) + (lg'.length : Int) = ((s.length : Int) + lg'.length) + 1 by omega, Int.mul_add]
      omega
    · simp only [List.map_append, List.sum_append, List.map_cons, List.map_nil, List.sum_cons, List.sum_nil, List.length_append, List.length_cons, List.length_nil]
      rw [es, eg, Hk, show (sm'.length : Int) + ((g.length + (0 + 1) : Nat) : Int) = ((sm'.length : Int) + g.length) + 1 by omega, Int.mul_add]
      omega
theorem snoc_of {l : List Int} (h : 0 < l.length) : l = l.take (l.length - 1) ++ [rd l ((l.length - 1 : Nat) : Int)] := by
  have := take_step (l := l) (n := l.length - 1) (by omega)
  rw [show l.length - 1 + 1 = l.length by omega, List.take_length] at this
  exact this
theorem Inv.cell {l : List Int} {T : Int} {hs : List Int} {cl : List S62} {sm lg : List Int} (hI : Inv l T hs cl sm lg) (hT : 0 ≤ T) (j : Int) (h0 : 0 ≤ j) (h1 : j < l.length) : 0 ≤ (rd_T62 cl j).f0 ∧ (rd_T62 cl j).f0 ≤ T ∧ 0 ≤ (rd_T62 cl j).f1 ∧ (rd_T62 cl j).f1 < l.length := by
  by_cases c : j ∈ sm ++ lg
  · rw [hI.un j c]; exact ⟨hT, Int.le_refl _, h0, h1⟩
  · have := hI.dn j h0 h1 c; omega
theorem Inv.cells {l : List Int} {T : Int} {hs : List Int} {cl : List S62} {sm lg : List Int} (hI : Inv l T hs cl sm lg) (hT : 0 ≤ T) : ∀ c ∈ cl, 0 ≤ c.f0 ∧ c.f0 ≤ T ∧ 0 ≤ c.f1 ∧ c.f1 < l.length := fun c hc => by
  obtain ⟨n, hn, rfl⟩ := List.getElem_of_mem hc
  have := hI.cell hT (n : Int) (by omega) (by have := hI.lc; omega)
  rwa [rdT_get hn] at this
theorem fin_inv {l : List Int} {T : Int} (hT : 0 < T) (hb : ∀ j : Int, 0 ≤ j → j < l.length → (l.length : Int) * rd l j < 9223372036854775808) : ∀ (d : Nat) (hs : List Int) (cl : List S62) (sm lg : List Int), sm.length + lg.length ≤ d → Inv l T hs cl sm lg →
    ∃ hs' sm' lg', Inv l T hs' (fin d T hs cl sm lg) sm' lg' ∧ (sm' = [] ∨ lg' = []) := by
  intro d
  induction d with
  | zero =>
    intro hs cl sm lg hd hI
    exact ⟨hs, sm, lg, hI, .inl (List.length_eq_zero_iff.mp (by omega))⟩
  | succ d ih =>
    intro hs cl sm lg hd hI
    simp only [fin]
    by_cases c : 0 < sm.length ∧ 0 < lg.length
    · rw [if_pos c]
      have es := snoc_of c.1
      have el := snoc_of c.2
      have h1 : (sm.take (sm.length - 1)).length = sm.length - 1 := by rw [List.length_take]; omega
      have h2 : (lg.take (lg.length - 1)).length = lg.length - 1 := by rw [List.length_take]; omega
      generalize ht1 : sm.take (sm.length - 1) = s at *
      generalize ht2 : lg.take (lg.length - 1) = g at *
      generalize hti : rd sm ((sm.length - 1 : Nat) : Int) = i at *
      generalize htk : rd lg ((lg.length - 1 : Nat) : Int) = k at *
      have hI2 : Inv l T hs cl (s ++ [i]) (g ++ [k]) := by rw [← es, ← el]; exact hI
      have ri := hI2.is i (by simp)
      have rk := hI2.il k (by simp)
      have hsi := hI2.hs_sm i (by simp)
      have hlk := hI2.hs_lg k (by simp)
      have hc := hI2.con k rk.1 rk.2
      have hg : 0 ≤ gave T cl k := gave_nonneg (fun c hc => (hI2.cells (by omega) c hc).2.1)
      have hbk := hb k rk.1 rk.2
      rw [u64w_id (x := T - rd hs i) (by omega) (by omega), u64w_id (by omega) (by omega)]
      generalize hx : rd hs k - (T - rd hs i) = x
      by_cases e : x < T
      · rw [if_pos e, if_pos e]
        exact ih _ _ _ _ (by simp only [List.length_append, List.length_singleton]; omega) (hI2.step x hx.symm (.inl ⟨e, rfl, rfl⟩))
      · rw [if_neg e, if_neg e]
        exact ih _ _ _ _ (by simp only [List.length_append, List.length_singleton]; omega) (hI2.step x hx.symm (.inr ⟨by omega, rfl, rfl⟩))
    · rw [if_neg c]
      refine ⟨hs, sm, lg, hI, ?_⟩
      by_cases a : 0 < sm.length
      · exact .inr (List.length_eq_zero_iff.mp (by omega))
      · exact .inl (List.length_eq_zero_iff.mp (by omega))
theorem sum_below {T : Int} {f : Int → Int} : ∀ (l : List Int), (∀ j ∈ l, f j < T) → (l.map f).sum ≤ T * (l.length : Int) - l.length
  | [], _ => by simp
  | a :: l, h => by
    have h1 := h a (by simp)
    have h2 := sum_below l (fun j hj => h j (by simp [hj]))
    simp only [List.map_cons, List.sum_cons, List.length_cons]
    rw [show ((l.length + 1 : Nat) : Int) = (l.length : Int) + 1 by omega, Int.mul_add]
    omega
theorem sum_above {T : Int} {f : Int → Int} : ∀ (l : List Int), (∀ j ∈ l, T ≤ f j) → T * (l.length : Int) ≤ (l.map f).sum ∧ ((l.map f).sum = T * (l.length : Int) → ∀ j ∈ l, f j = T)
  | [], _ => by simp
  | a :: l, h => by
    have h1 := h a (by simp)
    obtain ⟨h2, h3⟩ := sum_above l (fun j hj => h j (by simp [hj]))
    simp only [List.map_cons, List.sum_cons, List.length_cons]
    rw [show ((l.length + 1 : Nat) : Int) = (l.length : Int) + 1 by omega, Int.mul_add]
    refine ⟨by omega, fun e j hj => ?_⟩
    rcases List.mem_cons.1 hj with rfl | hj
    · omega
    · exact h3 (by omega) j hj
/-- At the end all that is left has just T. -/
theorem Inv.owns {l : List Int} {T : Int} {hs : List Int} {cl : List S62} {sm lg : List Int} (hI : Inv l T hs cl sm lg) (he : sm = [] ∨ lg = []) (j : Int) (h0 : 0 ≤ j) (h1 : j < l.length) : (rd_T62 cl j).f0 + gave T cl j = l.length * rd l j := by
  have hc := hI.con j h0 h1
  by_cases c : j ∈ sm ++ lg
  · rw [hI.un j c]
    have hb := hI.bal
    have : rd hs j = T := by
      rcases he with rfl | rfl
      · rw [List.nil_append] at c hb
        rw [List.length_nil] at hb
        exact (sum_above lg hI.hs_lg).2 (by rw [hb]; congr 1; omega) j c
      · rw [List.append_nil] at c hb
        rw [List.length_nil] at hb
        have := sum_below sm (fun j hj => (hI.hs_sm j hj).2)
        rw [hb, show (sm.length : Int) + ((0 : Nat) : Int) = sm.length by omega] at this
        have : 0 < sm.length := List.length_pos_of_mem c
        omega
    show T + gave T cl j = _
    omega
  · have := (hI.dn j h0 h1 c).1
    omega
theorem sum_hs0 (l : List Int) (T : Int) (f : Int → Int) : ∀ i : Nat, ((sm0 l T i).map f).sum + ((lg0 l T i).map f).sum = ((List.range i).map fun j : Nat => f (j : Int)).sum := by
  intro i
  induction i with
  | zero => simp [sm0, lg0]
  | succ i ih =>
    rw [← sm0_step, ← lg0_step, List.range_succ, List.map_append, List.sum_append, ← ih]
    by_cases c : hasAt l i < T
    · rw [if_pos c, if_pos c, List.map_append, List.sum_append]; simp; omega
    · rw [if_neg c, if_neg c, List.map_append, List.sum_append]; simp; omega
theorem gave_cl0 (T : Int) (j : Int) : ∀ n, gave T (cl0 T n) j = 0 := by
  intro n
  unfold gave cl0
  induction n with
  | zero => rfl
  | succ n ih =>
    rw [List.range_succ, List.map_append, List.map_append, List.sum_append, ih]
    simp
theorem rd_hs0 (l : List Int) {j : Int} (h0 : 0 ≤ j) (h1 : j < l.length) : rd (hs0 l l.length) j = hasAt l j.toNat := by
  obtain ⟨n, rfl⟩ := Int.eq_ofNat_of_zero_le h0
  rw [rd_nat, List.getD_eq_getElem?_getD]
  simp only [hs0, Nat.sub_self, List.replicate_zero, List.append_nil, Int.toNat_natCast]
  rw [List.getElem?_map, List.getElem?_range (by omega)]; rfl
theorem rd_cl0 (T : Int) {n : Nat} {j : Int} (h0 : 0 ≤ j) (h1 : j < n) : rd_T62 (cl0 T n) j = ⟨T, j⟩ := by
  obtain ⟨m, rfl⟩ := Int.eq_ofNat_of_zero_le h0
  rw [rdT_nat, List.getD_eq_getElem?_getD]
  simp only [cl0]
  rw [List.getElem?_map, List.getElem?_range (by omega)]; rfl
theorem rd_le_sum {l : List Int} (hl : U64 l) (j : Int) : rd l j ≤ l.sum := by
  induction l generalizing j with
  | nil => simp [rd]
  | cons a l ih =>
    have ha := hl a (by simp)
    have hl' : U64 l := fun y hy => hl y (by simp [hy])
    have hs := sum_nonneg hl'
    rw [List.sum_cons]
    unfold rd
    cases hj : j.toNat with
    | zero => simp only [List.getD_cons_zero]; omega
    | succ m =>
      have := ih hl' (m : Int)
      rw [rd_nat] at this
      simp only [List.getD_cons_succ]; omega
theorem range_sum (l : List Int) (c : Int) : ((List.range l.length).map fun j : Nat => rd l (j : Int) * c).sum = l.sum * c := by
  have : ∀ n, n ≤ l.length → ((List.range n).map fun j : Nat => rd l (j : Int) * c).sum = (l.take n).sum * c := by
    intro n
    induction n with
    | zero => intro _; simp
    | succ n ih =>
      intro h
      rw [List.range_succ, List.map_append, List.sum_append, ih (by omega), sum_take_step (by omega), Int.add_mul]; simp
  rw [this _ (Nat.le_refl _), List.take_length]
theorem inv0 {l : List Int} (hl : U64 l) (hT : 0 < l.sum) (hb : (l.length : Int) * l.sum < 9223372036854775808) : Inv l l.sum (hs0 l l.length) (cl0 l.sum l.length) (sm0 l l.sum l.length) (lg0 l l.sum l.length) := by
  have hn : 0 < l.length := by
    cases l with
    | nil => simp at hT
    | cons a l => simp
  have hle : (l.length : Int) ≤ (l.length : Int) * l.sum := by
    have := Int.mul_le_mul_of_nonneg_left (show (1 : Int) ≤ l.sum by omega) (show (0 : Int) ≤ l.length by omega)
    omega
  have hat : ∀ j : Nat, hasAt l j = rd l (j : Int) * l.length := fun j => by
    have h1 := hl.rd (j : Int)
    have h2 := rd_le_sum hl (j : Int)
    have h3 : rd l (j : Int) * l.length ≤ l.sum * l.length := Int.mul_le_mul_of_nonneg_right h2 (by omega)
    rw [Int.mul_comm l.sum] at h3
    have h4 : 0 ≤ rd l (j : Int) * l.length := Int.mul_nonneg h1.1 (by omega)
    unfold hasAt
    rw [u64w_id (x := (l.length : Int)) (by omega) (by omega), u64w_id h4 (by omega)]
  have hrd : ∀ j : Int, 0 ≤ j → j < l.length → rd (hs0 l l.length) j = rd l j * l.length := fun j h0 h1 => by
    rw [rd_hs0 l h0 h1, hat, show ((j.toNat : Nat) : Int) = j by omega]
  have iS := sm0_in l l.sum l.length
  have iL := lg0_in l l.sum l.length
  have mS : ∀ j ∈ sm0 l l.sum l.length, rd (hs0 l l.length) j < l.sum := fun j hj => by
    have h := iS j hj
    simp only [sm0, List.mem_map, List.mem_filter, List.mem_range, decide_eq_true_eq] at hj
    obtain ⟨a, ⟨_, g⟩, rfl⟩ := hj
    rw [rd_hs0 l h.1 h.2, Int.toNat_natCast]; exact g
  have mL : ∀ j ∈ lg0 l l.sum l.length, l.sum ≤ rd (hs0 l l.length) j := fun j hj => by
    have h := iL j hj
    simp only [lg0, List.mem_map, List.mem_filter, List.mem_range, Bool.not_eq_true', decide_eq_false_iff_not] at hj
    obtain ⟨a, ⟨_, g⟩, rfl⟩ := hj
    rw [rd_hs0 l h.1 h.2, Int.toNat_natCast]; omega
  have all : ∀ j : Int, 0 ≤ j → j < l.length → j ∈ sm0 l l.sum l.length ++ lg0 l l.sum l.length := fun j h0 h1 => by
    simp only [sm0, lg0, List.mem_append, List.mem_map, List.mem_filter, List.mem_range]
    by_cases c : hasAt l j.toNat < l.sum
    · exact .inl ⟨j.toNat, ⟨by omega, by simpa using c⟩, by omega⟩
    · exact .inr ⟨j.toNat, ⟨by omega, by simpa using c⟩, by omega⟩
  refine ⟨hs0_len l (Nat.le_refl _), cl0_len _ _, iS, iL, ?_, ?_, mL, ?_, ?_, ?_, ?_⟩
  · rw [List.nodup_append]
    refine ⟨?_, ?_, fun a ha b hb e => by subst e; have := mS a ha; have := mL a hb; omega⟩
    · exact List.Pairwise.map _ (fun a b h e => h (by omega)) (List.Pairwise.filter _ List.nodup_range)
    · exact List.Pairwise.map _ (fun a b h e => h (by omega)) (List.Pairwise.filter _ List.nodup_range)
  · intro j hj
    have h := iS j hj
    refine ⟨?_, mS j hj⟩
    rw [hrd j h.1 h.2]
    exact Int.mul_nonneg (hl.rd j).1 (by omega)
  · intro j hj
    have h : 0 ≤ j ∧ j < l.length := by
      rcases List.mem_append.1 hj with h | h
      · exact iS j h
      · exact iL j h
    exact rd_cl0 _ h.1 h.2
  · intro j h0 h1 hj
    exact absurd (all j h0 h1) hj
  · intro j h0 h1
    rw [gave_cl0, hrd j h0 h1, Int.mul_comm, Int.add_zero]
  · rw [List.map_append, List.sum_append, sum_hs0, show (((sm0 l l.sum l.length).length : Int) + (lg0 l l.sum l.length).length) = l.length by have := smlg_len l l.sum l.length; omega, ← range_sum]
    congr 1
    refine List.map_congr_left fun j hj => ?_
    rw [List.mem_range] at hj
    exact hrd j (by omega) (by omega)
/-- The table of stakes is right, and each place has its stake as often as there are places. -/
theorem tab_right {l : List Int} (hl : U64 l) (hT : 0 < l.sum) (hb : (l.length : Int) * l.sum < 9223372036854775808) : (tabS l).length = l.length ∧ rightS l.sum (tabS l) = true ∧ W62 (tabS l) ∧ ∀ j : Int, 0 ≤ j → j < l.length → (rd_T62 (tabS l) j).f0 + gave l.sum (tabS l) j = l.length * rd l j := by
  have hI := inv0 hl hT hb
  have hn : 0 < l.length := by
    cases l with
    | nil => simp at hT
    | cons a l => simp
  have hle : (l.sum : Int) ≤ (l.length : Int) * l.sum := by
    have := Int.mul_le_mul_of_nonneg_right (show (1 : Int) ≤ l.length by omega) (show 0 ≤ l.sum by omega)
    omega
  obtain ⟨hs', sm', lg', h1, h2⟩ := fin_inv hT (fun j h0 h1 => by
    have := Int.mul_le_mul_of_nonneg_left (rd_le_sum hl j) (show (0 : Int) ≤ l.length by omega)
    omega) l.length _ _ _ _ (by have := smlg_len l l.sum l.length; omega) hI
  have hc := h1.cells (by omega)
  have hlen : (tabS l).length = l.length := h1.lc
  refine ⟨hlen, ?_, fun c hc' => by have := hc c hc'; omega, fun j h0 hj => h1.owns h2 j h0 hj⟩
  simp only [rightS, Bool.and_eq_true, decide_eq_true_eq, List.all_eq_true, cellOk, hlen]
  exact ⟨by omega, hT, hb, fun c hc' => by have := hc c hc'; omega⟩
end Go.Proofs.Ytbafkkbbjacekaa.Lm
