/- Maps whose keys are arrays of whole numbers and whose elements are whole numbers, made by the call itself and never deleted from: what their block is, and what one operation on them does. No conditions. -/
import Derived.Test.YtoaeedepfmfkkaaFat
namespace Go.Proofs.Ytoaeedepfmfkkaa.Ar
open Go.RowKit Go.Proofs.YtoaeedepfmfkkaaW.PrintWords

def ment (k kv : IntKind) (n : Nat) : Nat → List (List Int × Int) → List MapEntry
  | _, [] => []
  | b, p :: l => ⟨val k n p.1, .int kv p.2, b⟩ :: ment k kv n (b + 1) l
def mobj (k kv : IntKind) (n : Nat) (L : List (List Int × Int)) : Obj := .map (ment k kv n 0 L).toArray L.length
def mfind (n : Nat) (key : List Int) : List (List Int × Int) → Option Int
  | [] => none
  | p :: l => if eqb n key p.1 then some p.2 else mfind n key l
theorem ment_snoc (k kv : IntKind) (n : Nat) (p : List Int × Int) : ∀ (L : List (List Int × Int)) (b : Nat), ment k kv n b (L ++ [p]) = ment k kv n b L ++ [⟨val k n p.1, .int kv p.2, b + L.length⟩]
  | [], b => by simp [ment]
  | q :: L, b => by simp [ment, ment_snoc k kv n p L (b + 1)]; omega
section
variable {P : Program} {T E M V : TypeId} {n : Nat} {k kv : IntKind}
theorem run_ask (hT : P.underlying T = some (.array n E)) (hE : (P.info? E).map (·.size) = some 1) (hk : P.underlying E = some (.int k)) (key : List Int) (W : World) :
    ∀ (L : List (List Int × Int)) (b i : Nat), ∃ r : Option (Nat × Value), (Instr.findAsking T (val k n key) (ment k kv n b L) i).run P W = .ok r W ∧ r.map (·.2) = (mfind n key L).map (Value.int kv)
  | [], b, i => ⟨none, by simp [ment, Instr.findAsking], rfl⟩
  | p :: L, b, i => by
    have he : (Op.equal T (val k n key) (val k n p.1)).run P W = .ok (eqb n key p.1) W := run_eq 9998 T E hT hE hk key p.1 W
    obtain ⟨r, h1, h2⟩ := run_ask hT hE hk key W L (b + 1) (i + 1)
    cases hq : eqb n key p.1
    · exact ⟨r, by simp [ment, Instr.findAsking, he, hq, Result.andThen, h1], by simp [mfind, hq, h2]⟩
    · exact ⟨some (i, .int kv p.2), by simp [ment, Instr.findAsking, he, hq, Result.andThen], by simp [mfind, hq]⟩
theorem run_find (hT : P.underlying T = some (.array n E)) (hE : (P.info? E).map (·.size) = some 1) (hk : P.underlying E = some (.int k)) (key : List Int) (W : World) (L : List (List Int × Int)) :
    ∃ r : Option (Nat × Value), (Instr.findKey T (val k n key) (ment k kv n 0 L)).run P W = .ok r W ∧ r.map (·.2) = (mfind n key L).map (Value.int kv) := by
  rcases L with _ | ⟨p, L⟩
  · exact ⟨none, by simp [Instr.findKey, run_underlying hT, ment, Instr.findNow, Result.andThen], rfl⟩
  · obtain ⟨r, h1, h2⟩ := run_ask (kv := kv) hT hE hk key W (p :: L) 0 0
    refine ⟨r, ?_, h2⟩
    have hn : Instr.findNow (.array n E) (val k n key) (ment k kv n 0 (p :: L)) 0 = none := by simp [ment, Instr.findNow, Instr.sameNow, val]
    simp [Instr.findKey, run_underlying hT, hn, Result.andThen, h1]
theorem run_check (hT : P.underlying T = some (.array n E)) (hE : (P.info? E).map (·.size) = some 1) (hk : P.underlying E = some (.int k)) (b : Bool) (key : List Int) (W : World) :
    (Instr.checkKey b 10000 T (val k n key)).run P W = .ok () W := by
  obtain ⟨ie, hie, hsz⟩ := Option.map_eq_some_iff.1 hE
  have hs : ∀ W, (sizeOf E).run P W = .ok 1 W := fun W => by simp [sizeOf, typeInfo, hie, hsz]
  have hu : ∀ W, (isAgg E).run P W = .ok false W := fun W => by simp [isAgg, run_underlying hk]
  have hp : ∀ (z : List Int) (i : Nat), i < n → (Go.part E (cells k n z) (i * 1)).run P W = .ok (.int k ((fit n z).getD i 0)) W := fun z i hi => by
    have hc := cells_at (k := k) (n := n) (l := z) (j := (i : Int)) (by omega) (by omega)
    simp only [Int.toNat_natCast, get, rd] at hc
    simp only [Go.part, Sem.run_bind, hu, Result.andThen_ok, Nat.mul_one]
    simp [hc]
  have hc : ∀ (d : Nat) (x : Int), (Instr.checkKey b (d + 1) E (.int k x)).run P W = .ok () W := fun d x => by simp [Instr.checkKey, run_underlying hk, Result.andThen]
  rw [val, show (10000 : Nat) = 9999 + 1 from rfl, Instr.checkKey]
  simp only [Sem.run_bind, run_underlying hT, Result.andThen_ok, Std.Legacy.Range.forIn_eq_forIn_range', Std.Legacy.Range.size, Nat.sub_zero, Nat.add_sub_cancel, Nat.div_one]
  have hl : ∀ i ∈ List.range' 0 n 1, i < n := fun i hi => by simpa using (List.mem_range'_1.1 hi).2
  generalize List.range' 0 n 1 = l at hl ⊢
  induction l with
  | nil => simp
  | cons i l ih =>
    have hi : i < n := hl i (by simp)
    have h2 := ih fun j hj => hl j (by simp [hj])
    simp only [List.forIn_cons, Sem.run_bind, hs, hp key i hi, hc 9998, Result.andThen_ok, Sem.run_pure] at h2 ⊢
    exact h2
theorem run_lookup2 (hM : P.underlying M = some (.map T V)) (hT : P.underlying T = some (.array n E)) (hE : (P.info? E).map (·.size) = some 1) (hk : P.underlying E = some (.int k)) {W : World} (hz : (zeroValue V).run P W = .ok (.int kv 0) W)
    {g : Nat} {L : List (List Int × Int)} (hb : W.heap[g]? = some (mobj k kv n L)) (key : List Int) :
    (Instr.lookup M (.map (some g)) (val k n key) true).run P W = .ok (.tuple #[.int kv ((mfind n key L).getD 0), .bool (mfind n key L).isSome]) W := by
  obtain ⟨r, h1, h2⟩ := run_find (kv := kv) hT hE hk key W L
  have hg := MapKept.run_getObj_map (P := P) hb
  rcases r with _ | ⟨i, v⟩
  · have hm : mfind n key L = none := by cases hq : mfind n key L <;> simp [hq] at h2 ⊢
    simp [Instr.lookup, run_underlying hM, hg, run_check hT hE hk, h1, hz, hm, Result.andThen]
  · cases hq : mfind n key L with
    | none => simp [hq] at h2
    | some x =>
      simp only [hq, Option.map_some, Option.some.injEq] at h2
      subst h2
      simp [Instr.lookup, run_underlying hM, hg, run_check hT hE hk, h1, Result.andThen]
theorem run_put (hM : P.underlying M = some (.map T V)) (hT : P.underlying T = some (.array n E)) (hE : (P.info? E).map (·.size) = some 1) (hk : P.underlying E = some (.int k)) {W : World}
    {g : Nat} {L : List (List Int × Int)} (hb : W.heap[g]? = some (mobj k kv n L)) (key : List Int) (hno : mfind n key L = none) (v : Int) :
    (Instr.mapUpdate M (.map (some g)) (val k n key) (.int kv v)).run P W = .ok () { W with heap := W.heap.setIfInBounds g (mobj k kv n (L ++ [(key, v)])) } := by
  obtain ⟨r, h1, h2⟩ := run_find (kv := kv) hT hE hk key W L
  have hg := MapKept.run_getObj_map (P := P) hb
  have hs := fun o => MapKept.run_setObj_map (P := P) o hb
  rcases r with _ | ⟨i, u⟩
  · have he : mobj k kv n (L ++ [(key, v)]) = .map ((ment k kv n 0 L).toArray.push ⟨val k n key, .int kv v, L.length⟩) (L.length + 1) := by simp [mobj, ment_snoc]
    rw [he]
    simp [Instr.mapUpdate, run_underlying hM, hg, run_check hT hE hk, h1, hs, Result.andThen]
  · simp [hno] at h2
theorem run_len (hM : P.underlying M = some (.map T V)) {W : World} {g : Nat} {L : List (List Int × Int)} (hb : W.heap[g]? = some (mobj k kv n L)) (ty : TypeId) :
    (Builtin.len_ #[M] ty #[.map (some g)]).run P W = .ok (.int .i64 (L.length : Int)) W := by
  have hl : ∀ (L : List (List Int × Int)) (b : Nat), (ment k kv n b L).length = L.length := by
    intro L
    induction L with
    | nil => intro b; rfl
    | cons p L ih => intro b; simp [ment, ih]
  simp [Builtin.len_, run_underlying hM, MapKept.run_getObj_map (P := P) hb, hl, Result.andThen, goInt]
end
section
variable {P : Program} {ops : Array Oper} {rest : List Oper} {o : Oper} {a : Act} {Q : Exit → Act → World → Prop} {W : World} {T E M V : TypeId} {n : Nat} {k kv : IntKind}
theorem mmake_event (hgd : o.guard = none) {x : Operand} (ho : o.op = .makeMap M (some x)) (hM : P.underlying M = some (.map T V)) {i : Int} (hx : a.eval x = .int .i64 i)
    (h : ∀ g w', g = W.heap.size → w'.heap[g]? = some (mobj k kv n []) → Below W.heap.size W w' → wpList P ops Q rest (a.put o.dst (.map (some g))) w') : wpList P ops Q (o :: rest) a W := by
  refine wpList_plain hgd fun K hK => ?_
  have hr : (Instr.makeMap M (some (.int .i64 i))).run P W = .ok (.map (some W.heap.size)) (W.alloc (.map #[] 0)) := by
    simp [Instr.makeMap, run_underlying hM, asInt, Result.andThen]
    rfl
  unfold Oper.wp
  simp [execOp, ho, hx, hr, Result.andThen]
  exact hK _ _ (h _ _ rfl (heap_alloc_new W _) (below_alloc (Below.refl _ _) _))
theorem mlook_event (hgd : o.guard = none) {m x : Operand} (ho : o.op = .lookup M m x true) (hM : P.underlying M = some (.map T V)) (hT : P.underlying T = some (.array n E)) (hE : (P.info? E).map (·.size) = some 1) (hk : P.underlying E = some (.int k))
    (hz : (zeroValue V).run P W = .ok (.int kv 0) W) {g : Nat} {L : List (List Int × Int)} (hb : W.heap[g]? = some (mobj k kv n L)) {key : List Int} (hm : a.eval m = .map (some g)) (hx : a.eval x = val k n key)
    (h : wpList P ops Q rest (a.put o.dst (.tuple #[.int kv ((mfind n key L).getD 0), .bool (mfind n key L).isSome])) W) : wpList P ops Q (o :: rest) a W := by
  refine wpList_plain hgd fun K hK => ?_
  have hr := run_lookup2 hM hT hE hk hz hb key
  unfold Oper.wp
  simp [execOp, ho, hm, hx, hr, Result.andThen]
  exact hK _ _ h
theorem mlook_run {m x : Operand} (ho : o.op = .lookup M m x true) (hM : P.underlying M = some (.map T V)) (hT : P.underlying T = some (.array n E)) (hE : (P.info? E).map (·.size) = some 1) (hk : P.underlying E = some (.int k))
    (hz : (zeroValue V).run P W = .ok (.int kv 0) W) {g : Nat} {L : List (List Int × Int)} (hb : W.heap[g]? = some (mobj k kv n L)) {key : List Int} (hm : a.eval m = .map (some g)) (hx : a.eval x = val k n key) :
    (execOp a.eval o).run P W = .ok (.value (.tuple #[.int kv ((mfind n key L).getD 0), .bool (mfind n key L).isSome])) W := by
  have hr := run_lookup2 hM hT hE hk hz hb key
  simp [execOp, ho, hm, hx, hr, Result.andThen]
theorem mput_event (hgd : o.guard = none) {m x v : Operand} (ho : o.op = .mapUpdate M m x v) (hM : P.underlying M = some (.map T V)) (hT : P.underlying T = some (.array n E)) (hE : (P.info? E).map (·.size) = some 1) (hk : P.underlying E = some (.int k))
    {g : Nat} {L : List (List Int × Int)} (hb : W.heap[g]? = some (mobj k kv n L)) {key : List Int} (hm : a.eval m = .map (some g)) (hx : a.eval x = val k n key) {i : Int} (hv : a.eval v = .int kv i) (hno : mfind n key L = none)
    (h : ∀ w', w'.heap[g]? = some (mobj k kv n (L ++ [(key, i)])) → W.grownBy w' (some g) → wpList P ops Q rest (a.put o.dst undef) w') : wpList P ops Q (o :: rest) a W := by
  refine wpList_plain hgd fun K hK => ?_
  have hr := run_put hM hT hE hk hb key hno i
  have hlt : g < W.heap.size := (Array.getElem?_eq_some_iff.1 hb).1
  unfold Oper.wp
  simp [execOp, ho, hm, hx, hv, hr, Result.andThen]
  refine hK _ _ (h _ (by simp [hlt]) ⟨rfl, rfl, rfl, by simp, fun j _ hj => ?_⟩)
  exact Array.getElem?_setIfInBounds_ne (fun e => hj (by rw [e]))
theorem mlen_event (hgd : o.guard = none) {m : Operand} (ho : o.op = .call { callee := .builtin .len, args := #[m], argTypes := #[M] }) (hM : P.underlying M = some (.map T V)) {g : Nat} {L : List (List Int × Int)} (hb : W.heap[g]? = some (mobj k kv n L)) (hm : a.eval m = .map (some g))
    (h : wpList P ops Q rest (a.put o.dst (.int .i64 (L.length : Int))) W) : wpList P ops Q (o :: rest) a W := by
  refine wpList_plain hgd fun K hK => ?_
  have hr := run_len (k := k) (kv := kv) (n := n) hM hb o.type
  unfold Oper.wp
  simp [execOp, ho, resolve, invoke, builtin, hm, hr, Result.andThen]
  exact hK _ _ h
end
end Go.Proofs.Ytoaeedepfmfkkaa.Ar
