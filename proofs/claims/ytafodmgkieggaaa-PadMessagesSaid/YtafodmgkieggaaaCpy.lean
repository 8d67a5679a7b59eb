/- Copies of numbers into a row of the call's own: what one operation does. No conditions. -/
import Derived.Test.YtafodmgkieggaaaArs
namespace Go.Proofs.Ytafodmgkieggaaa.Ar
open Go.RowKit Go.Proofs.YtafodmgkieggaaaW.PrintWords

theorem fold_sets : ∀ (vs : List Int) (o : Nat) (xs : List Int), o + vs.length ≤ xs.length → (vs.zipIdx o).foldl (fun (l : List Int) (p : Int × Nat) => l.set p.2 p.1) xs = xs.take o ++ vs ++ xs.drop (o + vs.length)
  | [], o, xs, _ => by simp
  | x :: vs, o, xs, h => by
    simp only [List.zipIdx_cons, List.foldl_cons]
    simp only [List.length_cons] at h
    have hl : o < xs.length := by omega
    rw [fold_sets vs (o + 1) _ (by simp; omega), List.take_set, List.drop_set_of_lt (by omega)]
    have e : (xs.take (o + 1)).set o x = xs.take o ++ [x] := by
      rw [List.take_succ_eq_append_getElem hl, List.set_append_right _ _ (by rw [List.length_take]; omega)]
      simp [Nat.min_eq_left (Nat.le_of_lt hl)]
    rw [e, List.length_cons, show o + 1 + vs.length = o + (vs.length + 1) by omega]
    simp
theorem grown_trans {a b c : World} {r : Option Nat} (h : a.grownBy b r) (k : b.grownBy c r) : a.grownBy c r :=
  ⟨k.os.trans h.os, k.tape.trans h.tape, k.output.trans h.output, Nat.le_trans h.size k.size, fun q hq hne => (k.block q (Nat.lt_of_lt_of_le hq h.size) hne).trans (h.block q hq hne)⟩
theorem R_setCells {k : IntKind} {e base g n cap : Nat} {ok : Nat → Prop} : ∀ (vs : List Int) (o : Nat) (W : World) (xs : List Int), (Kd.int k).R e W base ok (.slice (some ⟨g, 0, none⟩) n cap) xs →
    (Kd.int k).R e (W.setCells g o (nums k vs)) base ok (.slice (some ⟨g, 0, none⟩) n cap) ((vs.zipIdx o).foldl (fun (l : List Int) (p : Int × Nat) => l.set p.2 p.1) xs) ∧ W.grownBy (W.setCells g o (nums k vs)) (some g)
  | [], _, W, xs, h => ⟨h, rfl, rfl, rfl, Nat.le_refl _, fun _ _ _ => rfl⟩
  | v :: vs, o, W, xs, h => by
    obtain ⟨h1, h2⟩ := Kd.R_putg h (o : Int) v
    rw [Int.toNat_natCast] at h1 h2
    obtain ⟨h3, h4⟩ := R_setCells vs (o + 1) _ _ h1
    exact ⟨h3, grown_trans h2 h4⟩
theorem R_cell {k : IntKind} {e base g n cap : Nat} {ok : Nat → Prop} {W : World} {xs : List Int} (h : (Kd.int k).R e W base ok (.slice (some ⟨g, 0, none⟩) n cap) xs) (j : Nat) (hj : j < xs.length) : W.cell? ⟨g, j, none⟩ = some (.int k (rd xs j)) ∧ W.frozen? ⟨g, j, none⟩ = false := by
  have hr := Kd.R_reads' h
  obtain ⟨ad, he, hx⟩ := Kd.at_int hr.2.2 (j : Int) (by omega) (by omega)
  injection he with he
  subst he
  rw [Int.toNat_natCast, at_] at hx
  obtain ⟨g', c', he2, _, _, cells, hb⟩ := Kd.R_form h (by omega)
  injection he2 with he2 _ _
  injection he2 with he2
  injection he2 with he2
  subst he2
  exact ⟨hx, blk_frozen hb _⟩
section
variable {P : Program} {W : World}
/-- 'copy(x, y)', y what may be read, x of the call's own and no shorter. -/
theorem copy_in_run {dT sT ty E : TypeId} (hu : P.underlying dT = some (.slice E)) (hE : (P.info? E).map (·.size) = some 1) {k : IntKind} {e base g n cap sc : Nat} {ok : Nat → Prop} {A : Option Addr} {xs l : List Int}
    (hR : (Kd.int k).R e W base ok (.slice (some ⟨g, 0, none⟩) n cap) xs) (hC : Kd.C (Kd.int k) W A l.length l) (hl : l.length ≤ xs.length) :
    (Builtin.copy_ #[dT, sT] ty #[.slice (some ⟨g, 0, none⟩) n cap, .slice A l.length sc]).run P W = .ok (goInt l.length) (W.setCells g 0 (nums k l)) := by
  have hn : n = xs.length := (Kd.R_reads' hR).1
  have hmin : Nat.min l.length n = l.length := Nat.min_eq_left (by omega)
  by_cases z : l.length = 0
  · have hnil : l = [] := List.length_eq_zero_iff.mp z
    subst hnil
    exact run_copy_none W dT sT ty E _ _ _ _ _ _ hu hE (by simp)
  · obtain ⟨ad, e1, _⟩ := Kd.at_int hC 0 (by omega) (by omega)
    subst e1
    have hr := run_copy_cells (P := P) W dT sT ty E g 0 n cap ad l.length sc (nums k l) hu hE (by rw [nums_length, hmin]) (fun j v hj => by
      have hjl : j < l.length := by
        have := (List.getElem?_eq_some_iff.1 hj).1
        rwa [nums_length] at this
      obtain ⟨ad2, e2, hx⟩ := Kd.at_int hC (j : Int) (by omega) (by omega)
      injection e2 with e2
      subst e2
      rw [Int.toNat_natCast] at hx
      rw [hx, ← hj]
      simp [nums, rd, List.getD, List.getElem?_eq_getElem hjl]) (fun j hj => by
      rw [nums_length] at hj
      rw [Nat.zero_add, (R_cell hR j (by omega)).1]; rfl) (fun j hj => by
      rw [nums_length] at hj
      rw [Nat.zero_add]; exact (R_cell hR j (by omega)).2) (fun v hv => by
      obtain ⟨z, _, rfl⟩ := List.mem_map.1 hv
      rfl)
    rw [hr, nums_length]
/-- 'copy(x[o:], a[:])', a an array variable that just fits. -/
theorem copy_at_run {dT sT ty E : TypeId} (hu : P.underlying dT = some (.slice E)) (hE : (P.info? E).map (·.size) = some 1) {k : IntKind} {e base g n cap c2 gs m T2 sc : Nat} {ok : Nat → Prop} {xs s : List Int}
    (hR : (Kd.int k).R e W base ok (.slice (some ⟨g, 0, none⟩) n cap) xs) (hbs : W.heap[gs]? = some (.cells (cells k m s) T2 (0, 0))) {o : Nat} (ho : o + m = xs.length) :
    (Builtin.copy_ #[dT, sT] ty #[.slice (some ⟨g, o, none⟩) m c2, .slice (some ⟨gs, 0, none⟩) m sc]).run P W = .ok (goInt m) (W.setCells g o (nums k (fit m s))) := by
  have hr := run_copy_cells (P := P) W dT sT ty E g o m c2 ⟨gs, 0, none⟩ m sc (nums k (fit m s)) hu hE (by rw [nums_length, fit_len]; exact (Nat.min_self m).symm) (fun j v hj => by
    have hjl : j < m := by
      have := (List.getElem?_eq_some_iff.1 hj).1
      rwa [nums_length, fit_len] at this
    have hcell := cell_run hbs (j := (j : Int)) (by omega) (by omega)
    rw [Int.toNat_natCast] at hcell
    rw [at_, hcell, ← hj]
    have hlt : j < (fit m s).length := by rw [fit_len]; exact hjl
    simp [nums, get, rd, List.getD, List.getElem?_eq_getElem hlt]) (fun j hj => by
    rw [nums_length, fit_len] at hj
    rw [(R_cell hR (o + j) (by omega)).1]; rfl) (fun j hj => by
    rw [nums_length, fit_len] at hj
    exact (R_cell hR (o + j) (by omega)).2) (fun v hv => by
    obtain ⟨z, _, rfl⟩ := List.mem_map.1 hv
    rfl)
  rw [hr, nums_length, fit_len]
/-- A cut of a row of the call's own from a place on. -/
theorem cut_own_run {t e : TypeId} {i : TypeInfo} (ht : P.underlying t = some (.slice e)) (hi : P.info? e = some i) (hsz : i.size = 1) {g n cap : Nat} (j : Int) (h0 : 0 ≤ j) (hm : j < n) (hc : n ≤ cap) :
    (Instr.slice t (.slice (some ⟨g, 0, none⟩) n cap) (some (.int .i64 j)) none none).run P W = .ok (.slice (some ⟨g, j.toNat, none⟩) (n - j.toNat) (cap - j.toNat)) W := by
  obtain ⟨m, rfl⟩ := Int.eq_ofNat_of_zero_le h0
  have hel : P.elem t = e := by simp [Program.elem, ht]
  have hu : P.underlying t = some (.slice (P.elem t)) := by rw [hel]; exact ht
  rw [run_slice_l W t (some ⟨g, 0, none⟩) n cap hu .i64 (m : Int) (by omega) (by omega), hel]
  simp only [Int.toNat_natCast]
  simp [sizeOf, typeInfo, hi, hsz, sliced, Result.andThen, at_]
  omega
end
section
variable {P : Program} {ops : Array Oper} {rest : List Oper} {o : Oper} {a : Act} {Q : Exit → Act → World → Prop} {Kc : Act → World → Prop} {W : World}
theorem copy_in_event (hgd : o.guard = none) {x y : Operand} {dT sT E : TypeId} (ho : o.op = .call { callee := .builtin .copy, args := #[x, y], argTypes := #[dT, sT] }) (hu : P.underlying dT = some (.slice E)) (hE : (P.info? E).map (·.size) = some 1)
    {k : IntKind} {e base g n cap sc : Nat} {ok : Nat → Prop} {A : Option Addr} {xs l : List Int} (hx : a.eval x = .slice (some ⟨g, 0, none⟩) n cap) (hy : a.eval y = .slice A l.length sc)
    (hR : (Kd.int k).R e W base ok (.slice (some ⟨g, 0, none⟩) n cap) xs) (hC : Kd.C (Kd.int k) W A l.length l) (hl : l.length ≤ xs.length)
    (h : ∀ w', (Kd.int k).R e w' base ok (.slice (some ⟨g, 0, none⟩) n cap) (l ++ xs.drop l.length) → W.grownBy w' (some g) → wpList P ops Q rest (a.put o.dst (.int .i64 l.length)) w') : wpList P ops Q (o :: rest) a W := by
  refine wpList_plain hgd fun K hK => ?_
  have hrun := copy_in_run (P := P) (ty := o.type) (dT := dT) (sT := sT) (sc := sc) hu hE hR hC hl
  obtain ⟨h3, h4⟩ := R_setCells l 0 W xs hR
  rw [fold_sets l 0 xs (by omega), List.take_zero, List.nil_append, Nat.zero_add] at h3
  unfold Oper.wp
  simp [execOp, ho, resolve, invoke, builtin, hx, hy, hrun, Result.andThen]
  exact hK _ _ (h _ h3 h4)
theorem copy_at_step (hw : Region.wanted o (yielded ops a.tmps) = true) {x y : Operand} {dT sT E : TypeId} (ho : o.op = .call { callee := .builtin .copy, args := #[x, y], argTypes := #[dT, sT] }) (hu : P.underlying dT = some (.slice E)) (hE : (P.info? E).map (·.size) = some 1)
    {k : IntKind} {e base g n cap c2 gs m T2 sc : Nat} {ok : Nat → Prop} {xs s : List Int} {q : Nat} (hx : a.eval x = .slice (some ⟨g, q, none⟩) m c2) (hy : a.eval y = .slice (some ⟨gs, 0, none⟩) m sc)
    (hR : (Kd.int k).R e W base ok (.slice (some ⟨g, 0, none⟩) n cap) xs) (hbs : W.heap[gs]? = some (.cells (cells k m s) T2 (0, 0))) (hq : q + m = xs.length)
    (h : ∀ w', (Kd.int k).R e w' base ok (.slice (some ⟨g, 0, none⟩) n cap) (xs.take q ++ fit m s) → W.grownBy w' (some g) → Kc (a.put o.dst (.int .i64 m)) w') :
    if Region.wanted o (yielded ops a.tmps) = true then Oper.wp P o a W Kc Q else Kc (a.put o.dst undef) W := by
  rw [if_pos hw]
  have hrun := copy_at_run (P := P) (ty := o.type) (dT := dT) (sT := sT) (sc := sc) (c2 := c2) hu hE hR hbs hq
  obtain ⟨h3, h4⟩ := R_setCells (fit m s) q W xs hR
  rw [fold_sets _ q xs (by rw [fit_len]; omega), fit_len, List.drop_eq_nil_of_le (by omega), List.append_nil] at h3
  unfold Oper.wp
  simp [execOp, ho, resolve, invoke, builtin, hx, hy, hrun, Result.andThen]
  exact h _ h3 h4
end
end Go.Proofs.Ytafodmgkieggaaa.Ar
