/- '[]byte("..")' of a constant: the row gets a mark behind its last cell and is only read from now on. No conditions. -/
import Derived.Test.YtafodmgkieggaaaCpy
namespace Go.Proofs.Ytafodmgkieggaaa.Ar
open Go.RowKit Go.Proofs.YtafodmgkieggaaaW.PrintWords

def remark (W : World) (g : Nat) (f : Obj → Obj) : World := { W with heap := W.heap.modify g f }
theorem freeze_at {W : World} {g : Nat} {cells : Array Value} {e : TypeId} (hb : W.heap[g]? = some (.cells cells e (0, 0))) (k : Nat) : (W.freeze ⟨g, k, none⟩ 1).heap[g]? = some (.cells cells e (k, k + 1)) ∧ W.grownBy (W.freeze ⟨g, k, none⟩ 1) (some g) := by
  have hlt := (Array.getElem?_eq_some_iff.1 hb).1
  unfold World.freeze
  rw [if_neg (by decide)]
  refine ⟨?_, rfl, rfl, rfl, ?_, ?_⟩
  · show (W.heap.modify g _)[g]? = _
    rw [Array.getElem?_modify, if_pos rfl, hb]
    rfl
  · show W.heap.size ≤ (W.heap.modify g _).size
    rw [Array.size_modify]
    exact Nat.le_refl _
  · intro q hq hne
    show (W.heap.modify g _)[q]? = _
    rw [Array.getElem?_modify, if_neg (fun h => hne (by rw [h]))]
theorem cell_same {W W1 : World} {g : Nat} {cells : Array Value} {e : TypeId} {f f1 : Nat × Nat} (h : W.heap[g]? = some (.cells cells e f)) (h1 : W1.heap[g]? = some (.cells cells e f1)) (j : Nat) : W1.cell? ⟨g, j, none⟩ = W.cell? ⟨g, j, none⟩ := by
  simp [World.cell?, h, h1]
section
variable {P : Program} {W w0 : World} {ops : List Oper} {Q : Act → World → Prop}
theorem convert_same (t e : TypeId) (ht : P.underlying t = some (.slice e)) (he : P.underlying e = some (.int .u8)) {g n c : Nat} {cells : Array Value} {e2 : TypeId} (hb : W.heap[g]? = some (.cells cells e2 (0, 0))) :
    (convert t t (.slice (some ⟨g, 0, none⟩) n c)).run P W = .ok (.slice (some ⟨g, 0, none⟩) n c) (W.freeze ⟨g, cells.size, none⟩ 1) := by
  have hsh : W.shape? g = some (e2, cells.size) := by
    unfold World.shape?
    rw [hb]
  simp [convert, run_underlying ht, run_underlying he, markStringish, hsh]
theorem mark_V {k : IntKind} {e base g n cap : Nat} {ok : Nat → Prop} {xs : List Int} {cells : Array Value} {e2 : TypeId} {f : Nat × Nat} (h : (Kd.int k).R e W base ok (.slice (some ⟨g, 0, none⟩) n cap) xs) (hb : W.heap[g]? = some (.cells cells e2 (0, 0))) {W2 : World} (h2 : W2.heap[g]? = some (.cells cells e2 f)) :
    Kd.V (Kd.int k) e W2 base ok (.slice (some ⟨g, 0, none⟩) n cap) xs := by
  obtain ⟨hn, hc, hr⟩ := Kd.R_reads' h
  have hok : ok g := h.1 g rfl
  subst hn
  refine Kd.V_mk hc ?_
  intro W3 hW
  have h3 : W3.heap[g]? = some (.cells cells e2 f) := (hW g hok (Array.getElem?_eq_some_iff.1 h2).1).trans h2
  refine ⟨rfl, hr.2.1, fun hp => ⟨⟨g, 0, none⟩, rfl, fun j p hj => ⟨[.int k p], rfl, rfl, fun i u hu => ?_⟩⟩⟩
  obtain ⟨ad, e1, hcell⟩ := hr.2.2 hp
  injection e1 with e1
  subst e1
  obtain ⟨c, _, hK, hx⟩ := hcell j p hj
  have hK' : c = [.int k p] := hK
  subst hK'
  have hz := hx i u hu
  rw [← hz]
  rw [at_]
  exact cell_same hb h3 _
end
/-- A string of a row that may be read. -/
theorem V_string {P : Program} {w : World} {src dst e : TypeId} {e2 base : Nat} {ok : Nat → Prop} {v : Value} {xs : List Int} (hs : P.underlying src = some (.slice e)) (he : P.underlying e = some (.int .u8)) (hd : P.underlying dst = some .string)
    (h : Kd.V (Kd.int .u8) e2 w base ok v xs) : (convert src dst v).run P w = .ok (.string (strOfNums xs)) w := by
  obtain ⟨A, c, rfl⟩ := Kd.V_slice h
  exact Kd.C_string hs he hd (Kd.V_reads' h).2.2
section
variable {P : Program} {ops : Array Oper} {rest : List Oper} {o : Oper} {a : Act} {Q : Exit → Act → World → Prop} {W w0 : World}
/-- The conversion of a constant's row to its own type. -/
theorem mark_event (hgd : o.guard = none) {D : Tmp} (_hd : o.dst = some D) {T : TypeId} {x : Operand} (ho : o.op = .convert T T x) {E : TypeId} (hT : P.underlying T = some (.slice E)) (hE : P.underlying E = some (.int .u8))
    {v : Value} (hx : a.eval x = v) {k : IntKind} {e base : Nat} {ok : Nat → Prop} {xs : List Int} (hR : (Kd.int k).R e W base ok v xs) (hp : 0 < xs.length) (hB : Below base w0 W)
    (h : ∀ v1 w2, Kd.V (Kd.int k) e w2 base ok v1 xs → Below base w0 w2 → W.grownBy w2 v.ownBlock → (v1.ownBlock = v.ownBlock ∨ ∃ b, v1.ownBlock = some b ∧ W.heap.size ≤ b) → wpList P ops Q rest (a.put o.dst v1) w2) : wpList P ops Q (o :: rest) a W := by
  obtain ⟨g, cap, rfl, hbg, hlt, cells, hb⟩ := Kd.R_form hR hp
  obtain ⟨h2, hg⟩ := freeze_at hb cells.size
  refine Kd.event_run hgd ?_ (h _ _ (mark_V hR hb h2) (Below.trans hB ⟨hg.os, hg.tape, hg.output, hg.size, fun q hq => ?_⟩) hg (Or.inl rfl))
  · have hr := convert_same (P := P) (W := W) T E hT hE (n := xs.length) (c := cap) hb
    unfold execOp
    simp only [ho, hx, Sem.run_bind, hr, Result.andThen_ok]
    rfl
  · rcases Nat.lt_or_ge q W.heap.size with hq2 | hq2
    · exact hg.block q hq2 (fun e1 => by injection e1 with e1; omega)
    · omega
end
end Go.Proofs.Ytafodmgkieggaaa.Ar
