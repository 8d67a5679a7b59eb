/- Written by xprint.py, this session's own driver, for the seat Ytkbpdnhbmceajaa: contracts of Go functions, each saying that a call answers what a plain Lean function of the same name says, and, in a text named Law, the row of a law: its Go function answers true for every input. No conditions. -/
import Derived.Test.YtkbpdnhbmceajaaPQx0
import Derived.Test.YtkbpdnhbmceajaaPQx1
import Derived.Test.YtkbpdnhbmceajaaPQx2
namespace Go.Proofs.Ytkbpdnhbmceajaa.PQ
open Go.RowKit Go.Proofs.YtkbpdnhbmceajaaW.PrintWords Go.Proofs.YtkbpdnhbmceajaaW.PrintLast Go.Proofs.YtkbpdnhbmceajaaW.PrintMore
attribute [local go_sem] max2_int min2_int max_two min_two max_three min_three max_four min_four   -- for this text's walks alone
set_option linter.unusedVariables false
set_option linter.unusedSimpArgs false

/-! ### op_one: function 19 -/
/-- A field taken out of its bytes. -/
def takeF (k : Nat) (x : Fld) (o : S39) (b : List Int) : Option S39 :=
  match x with
  | .h => some { o with f3 := b }
  | .a => (word_Get64.f k b).bind fun z => some { o with f2 := z }
  | .w => (word_Get32.f k b).bind fun z => if 0 ≤ z ∧ z < 4294967296 then some { o with f1 := z } else none
  | .n => (word_Get32.f k b).bind fun z => if 0 ≤ z ∧ z < 4294967296 then some { o with f4 := z } else none
theorem takeF.mono (x : Fld) (o : S39) (b : List Int) (k : Nat) : LeO (takeF k x o b) (takeF (k + 1) x o b) := by
  cases x with
  | h => exact LeO.refl _
  | a => exact LeO.bind (word_Get64.mono _ k) (fun _ => LeO.refl _)
  | w => exact LeO.bind (word_Get32.mono _ k) (fun _ => LeO.refl _)
  | n => exact LeO.bind (word_Get32.mono _ k) (fun _ => LeO.refl _)
theorem take_calls {k : Nat} {x : Fld} {o o1 : S39} {b : List Int} (c : Nat) (hl : b.length = x.size) (h : takeF k x o b = some o1) :
    ∃ f fn cap, x.take c = .func (.func f) #[] cap ∧ Try.prog.funcs[f]? = some fn ∧ (fn.name == "runtime.NumGoroutine") = false ∧ fn.body.isSome = true ∧ ∀ w g A cp, x.held w c → w.heap[g]? = some (.cells (opC o) 39 (0, 0)) → Kd.C (Kd.int .u8) w A b.length b →
      Calls Try.prog f (#[.pointer (some ⟨g, 0, none⟩), .slice A b.length cp] ++ cap) w fun e w' => e = .returned (.tuple #[]) ∧ ∃ w1, Below w.heap.size w w1 ∧ w1.grownBy w' (some g) ∧ w'.heap[g]? = some (.cells (opC o1) 39 (0, 0)) := by
  cases x with
  | h =>
    obtain rfl := Option.some.inj (show some { o with f3 := b } = some o1 from h)
    exact ⟨39, Try.f39, #[], rfl, Try.func39, by kernel_rfl, rfl, fun w g A cp _ ho hs => by rw [hl] at hs ⊢; exact op_hash2.calls o b A 0 cp g w ho hs hl⟩
  | a =>
    obtain ⟨z, h1, h2⟩ := Option.bind_eq_some_iff.mp (show (word_Get64.f k b).bind (fun z => some { o with f2 := z }) = some o1 from h)
    obtain rfl := Option.some.inj h2
    exact ⟨42, Try.f42, #[], rfl, Try.func42, by kernel_rfl, rfl, fun w g A cp _ ho hs => by rw [hl] at hs ⊢; exact op_amount2.calls k o b A cp g z w ho hs hl h1⟩
  | w =>
    obtain ⟨z, h1, h2⟩ := Option.bind_eq_some_iff.mp (show (word_Get32.f k b).bind (fun z => if 0 ≤ z ∧ z < 4294967296 then some { o with f1 := z } else none) = some o1 from h)
    split at h2
    · rename_i hz
      obtain rfl := Option.some.inj h2
      exact ⟨49, Try.f49, #[.pointer (some ⟨c, 0, none⟩)], rfl, Try.func49, by kernel_rfl, rfl, fun w g A cp hh ho hs => by rw [hl] at hs ⊢; exact op_small2.who k o b A cp g c z w hh ho hs hl h1 hz.1 hz.2⟩
    · exact absurd h2 (by simp)
  | n =>
    obtain ⟨z, h1, h2⟩ := Option.bind_eq_some_iff.mp (show (word_Get32.f k b).bind (fun z => if 0 ≤ z ∧ z < 4294967296 then some { o with f4 := z } else none) = some o1 from h)
    split at h2
    · rename_i hz
      obtain rfl := Option.some.inj h2
      exact ⟨49, Try.f49, #[.pointer (some ⟨c, 0, none⟩)], rfl, Try.func49, by kernel_rfl, rfl, fun w g A cp hh ho hs => by rw [hl] at hs ⊢; exact op_small2.number k o b A cp g c z w hh ho hs hl h1 hz.1 hz.2⟩
    · exact absurd h2 (by simp)
abbrev opN (k n : Int) : S39 := ⟨k, 0, 0, List.replicate 32 0, n⟩
def op_one.l (k : Nat) : List Fld → S39 → List Int → Option (S39 × List Int)
  | [], o, b => some (o, b)
  | x :: L, o, b => if x.size ≤ b.length then (takeF k x o (b.take x.size)).bind fun o1 => op_one.l k L o1 (b.drop x.size) else none
theorem op_one.mono_l (k : Nat) : ∀ L o b, LeO (op_one.l k L o b) (op_one.l (k + 1) L o b)
  | [], _, _ => LeO.refl _
  | x :: L, o, b => LeO.ite (LeO.bind (takeF.mono x o _ k) (fun o1 => op_one.mono_l k L o1 _)) (LeO.none _)
def op_one.g (k : Nat) (l0 : List Int) : Option (S39 × List Int) :=
  if 0 < (l0.length : Int) then (if (flds (wrap64 (rd l0 0))).2 = true then ((op_whole.f l0).bind fun t => if t = true then op_one.l k (flds (wrap64 (rd l0 0))).1 (opN (wrap64 (rd l0 0)) 0) (l0.drop 1) else some (opN 0 (wrap64 (rd l0 0)), [])) else some (opN 0 (wrap64 (rd l0 0)), l0.drop 1)) else none
def op_one.f (k : Nat) (l0 : List Int) : Option (Int × Int × Int × List Int × Int × List Int) := (op_one.g k l0).bind fun p => some (p.1.f0, p.1.f1, p.1.f2, p.1.f3, p.1.f4, p.2)
theorem op_one.mono : ∀ a0 k, LeO (op_one.f k a0) (op_one.f (k + 1) a0) := fun a0 k => by
  unfold op_one.f op_one.g
  exact LeO.bind (LeO.ite (LeO.ite (LeO.bind (LeO.refl _) (fun t => LeO.ite (op_one.mono_l k _ _ _) (LeO.refl _))) (LeO.refl _)) (LeO.none _)) (fun _ => LeO.refl _)
set_option maxHeartbeats 8000000 in
set_option maxRecDepth 100000 in
theorem op_one.callsO (k : Nat) (P0_ : Nat → Prop) (A0 : Option Addr) (c0 : Nat) (l0 : List Int) (o1 : S39) (r6 : List Int) (w : World) (hs0 : Kd.V (Kd.int .u8) 5 w w.heap.size (fun k_ => P0_ k_) (.slice A0 l0.length c0) l0) (h : op_one.g k l0 = some (o1, r6)) :
    Calls Try.prog 19 #[.slice A0 l0.length c0] w fun e w' => ∃ v5_ : Value, e = .returned (.tuple #[.agg (opC o1), v5_]) ∧ Kd.V (Kd.int .u8) 5 w' w.heap.size (fun k_ => (P0_ k_ ∨ w.heap.size ≤ k_)) v5_ r6 ∧ Below w.heap.size w w' := by
  obtain ⟨i5, hi5, _, hsz5, _⟩ := info_parts info5
  have HV0 := Aside0.mk (Kd.V_bound hs0)
  have HR0 := Aside0.mk (Kd.V_reads' hs0).2.2
  have HC0 := Aside0.mk (Kd.V_reads' hs0).2.1
  have HB := Aside0.mk (Below.refl w.heap.size w)
  unfold op_one.g at h
  by_cases c2 : 0 < (l0.length : Int)
  · rw [if_pos c2] at h
    have c2b0 : decide (0 < (l0.length : Int)) = true := decide_eq_true c2
    have c2b1 : decide (0 < l0.length) = true := decide_eq_true (by omega)
    obtain ⟨ad, e2, hx0⟩ := Kd.at_int HR0.out 0 (by omega) c2
    cases e2
    rw [show ((0 : Int)).toNat = 0 from rfl, Addr.add_zero'] at hx0
    have HX0 := Aside0.mk hx0
    have qi : (0 < l0.length) = True := eq_true (by omega)
    have p0 : ((0 : Int) ≤ 0) = True := eq_true (by omega)
    have q0 : ((0 : Int) < (l0.length : Int)) = True := eq_true c2
    obtain ⟨A3, hcut, hV3⟩ := Ar.cut_V (P := Try.prog) Try.underlying22 hi5 hsz5 HV0.out 1 (by omega) (by omega)
    have HV3 := Aside0.mk (show Kd.V (Kd.int .u8) 5 w w.heap.size (fun k_ => P0_ k_ ∧ k_ < w.heap.size) (.slice A3 (l0.length - 1) (c0 - 1)) (l0.drop 1) by rw [← List.length_drop]; exact hV3)
    clear hs0 c2 hx0 hV3
    by_cases hok : (flds (wrap64 (rd l0 0))).2 = true
    · rw [if_pos hok] at h
      obtain ⟨t, ht, h⟩ := Option.bind_eq_some_iff.mp h
      have HWH := Aside0.mk ht
      clear ht
      by_cases hw : t = true
      · rw [if_pos hw] at h
        subst hw
        generalize hL : (flds (wrap64 (rd l0 0))).1 = L at h
        have H' := Aside0.mk h
        have LL := Aside0.mk (show L.length ≤ 2 by rw [← hL]; exact flds_len _)
        clear h
        go_enter Try.func19, Try.ntmps19
        go_wp2_with (first | ((with_reducible refine gate_dst (N := 2) rfl ?_); refine box_event ?hg (N := 2) ?hd (cs := opC (opN 0 0)) (t := 39) ?hr ?_; (case hd => rfl); (case hg => rfl); (case hr => exact Ar.galloc_run rfl (by kernel_rfl)); intro gr hg wx hbox hb; have n0_ := Aside0.mk (below_step (by repeat (first | (with_reducible first | exact HB.out | apply below_alloc | apply pw_below_drewN | apply below_drew1) | exact HB.out)) hb); have n1_ := Aside0.mk (hbox); have n2_ := Aside0.mk ((by rw [hg]; exact below_size (by repeat (first | (with_reducible first | exact HB.out | apply below_alloc | apply pw_below_drewN | apply below_drew1) | exact HB.out)) : w.heap.size ≤ gr)); clear HB; have HB := n0_; have BR := n1_; have GEBR := n2_; clear n0_ n1_ n2_; clear hb hbox hg) | ((with_reducible refine gate_dst (N := 12) rfl ?_); refine Ar.cload_event rfl (T := 5) rfl Try.underlying5 rfl (A := ad) rfl (v := .int .u8 (rd l0 0)) ((HB.out.cell (World.block_lt_of_cell? _ _ HX0.out)).trans HX0.out) ?_) | ((with_reducible refine gate_callee (f := 25) rfl ?_); refine goesL_ (some 16) rfl rfl Try.func25 (by kernel_rfl) rfl #[.int .i64 (wrap64 (rd l0 0))] rfl (by (try simp only [List.map_toArray, List.map_cons, List.map_nil]); first | done | rfl) ?_; refine (op_fields.calls (wrap64 (rd l0 0)) _).mono ?_; rintro e wf ⟨A, c, rfl, hf, hb⟩; refine ⟨_, rfl, ?_⟩; have n0_ := Aside0.mk (below_step (by repeat (first | (with_reducible first | exact HB.out | apply below_alloc | apply pw_below_drewN | apply below_drew1) | exact HB.out)) hb); have n1_ := Aside0.mk hf; have n2_ := Aside0.mk (blk_below (g := gr) (o := .cells (opC (opN 0 0)) 39 (0, 0)) (by (with_reducible repeat (first | refine blk_drewN ?_ _ | refine blk_drew ?_ | refine blk_alloc ?_ _)); exact BR.out) hb); clear HB hf hb BR; have HW := n0_; have HF := n1_; have BR := n2_; clear n0_ n1_ n2_; have HB := Aside0.mk (Below.refl wf.heap.size wf)) | ((with_reducible refine gate_callee (f := 26) rfl ?_); refine goesL_ (some 28) rfl rfl Try.func26 (by kernel_rfl) rfl #[.slice (some ad) l0.length c0] rfl (by (try simp only [List.map_toArray, List.map_cons, List.map_nil]); first | done | rfl) ?_; refine (op_whole.calls (some ad) c0 l0 true _ ?s1 ?s2 HWH.out).mono ?_; (case s1 => exact Kd.C_below HR0.out (below_step HW.out HB.out)); (case s2 => exact HC0.out); rintro e wx ⟨rfl, hb⟩; refine ⟨_, rfl, ?_⟩; have n0_ := Aside0.mk (below_step (by repeat (first | (with_reducible first | exact HB.out | apply below_alloc | apply pw_below_drewN | apply below_drew1) | exact HB.out)) hb); have m0_ := Aside0.mk (blk_below (g := gr) (o := .cells (opC (opN 0 0)) 39 (0, 0)) (by (with_reducible repeat (first | refine blk_drewN ?_ _ | refine blk_drew ?_ | refine blk_alloc ?_ _)); exact BR.out) hb); clear HB BR; have BR := m0_; have HB := n0_; clear n0_; clear hb) | ((with_reducible refine gate_dst (N := 33) rfl ?_); refine Ar.gbuild_event rfl (T := 39) rfl (D := opC (opN (wrap64 (rd l0 0)) 0)) (by first | exact fatBuild39_0 _ _ | (simp only [List.map_toArray, List.map_cons, List.map_nil]; exact fatBuild39_0 _ _)) ?_) | ((with_reducible refine gate_dst (N := 7) rfl ?_); refine box_event ?hg (N := 7) ?hd (cs := opC (opN 0 0)) (t := 39) ?hr ?_; (case hd => rfl); (case hg => rfl); (case hr => exact Ar.galloc_run rfl (by kernel_rfl)); intro go hg wx hbox hb; have n0_ := Aside0.mk (below_step (by repeat (first | (with_reducible first | exact HB.out | apply below_alloc | apply pw_below_drewN | apply below_drew1) | exact HB.out)) hb); have n1_ := Aside0.mk (hbox); have n2_ := Aside0.mk ((by rw [hg]; exact below_size (by repeat (first | (with_reducible first | exact HB.out | apply below_alloc | apply pw_below_drewN | apply below_drew1) | exact HB.out)) : wf.heap.size ≤ go)); have m0_ := Aside0.mk (blk_below (g := gr) (o := .cells (opC (opN 0 0)) 39 (0, 0)) (by (with_reducible repeat (first | refine blk_drewN ?_ _ | refine blk_drew ?_ | refine blk_alloc ?_ _)); exact BR.out) hb); have m1_ := Aside0.mk (by rw [hg]; exact Nat.ne_of_lt (blk_lt (g := gr) (o := .cells (opC (opN 0 0)) 39 (0, 0)) (by (with_reducible repeat (first | refine blk_drewN ?_ _ | refine blk_drew ?_ | refine blk_alloc ?_ _)); exact BR.out)) : gr ≠ go); clear BR; have BR := m0_; have NRO := m1_; clear m0_ m1_; clear HB; have HB := n0_; have BO := n1_; have GEBO := n2_; clear n0_ n1_ n2_; clear hb hbox hg) | ((with_reducible refine gate_store (t := 39) (p := 7) rfl ?_); refine Ar.gstore_event rfl rfl rfl (D := opC (opN (wrap64 (rd l0 0)) 0)) (by simp only [opC, Array.size_append, Ar.cells_size, List.size_toArray, List.length_cons, List.length_nil]; kernel_rfl) (g := go) rfl (by first | rfl | (go_simp; done) | (go_simp; rfl)) (by (with_reducible repeat (first | refine blk_drewN ?_ _ | refine blk_drew ?_ | refine blk_alloc ?_ _)); exact BO.out) (by simp [Ar.cells_size]) (by refine Ar.all_app ?_ (Ar.all_app (Ar.cells_one _ _ _) ?_) <;> simp [Value.oneCell']) ?_; intro wz hbk_ hg; have n0_ := Aside0.mk hbk_; have n1_ := Aside0.mk (Below.grown (by repeat (first | (with_reducible first | exact HB.out | apply below_alloc | apply pw_below_drewN | apply below_drew1) | exact HB.out)) hg (below_size (by repeat (first | (with_reducible first | exact HB.out | apply below_alloc | apply pw_below_drewN | apply below_drew1) | exact HB.out))) (fun _ e_ => by cases e_; exact GEBO.out)); have m0_ := Aside0.mk (blk_grown (g := gr) (o := .cells (opC (opN 0 0)) 39 (0, 0)) (by (with_reducible repeat (first | refine blk_drewN ?_ _ | refine blk_drew ?_ | refine blk_alloc ?_ _)); exact BR.out) hg (fun e_ => NRO.out (Option.some.inj e_))); clear BR; have BR := m0_; clear m0_; clear BO HB hbk_ hg; have BO := n0_; have HB := n1_; clear n0_ n1_))
        rw [hL] at HF
        go_loopg [0, 38] (L.length + 1) (fun kq v0 v38 w' => ∃ (i : Nat) (o : S39) (b : List Int), v38 = .int .i64 (i : Int) ∧ Aside0 (kq + i = L.length + 1) ∧ Aside0 (op_one.l k (L.drop i) o b = some (o1, r6)) ∧ Aside0 (Kd.V (Kd.int .u8) 5 w w.heap.size (fun k_ => P0_ k_ ∧ k_ < w.heap.size) v0 b) ∧ Aside0 (w'.heap[gr]? = some (.cells (opC (opN 0 0)) 39 (0, 0))) ∧ Aside0 (w'.heap[go]? = some (.cells (opC o) 39 (0, 0))) ∧ Aside0 (Below wf.heap.size wf w'))
        case atStart => exact ⟨0, _, _, rfl, ⟨rfl⟩, ⟨by simpa using H'.out⟩, HV3, BR, BO, HB⟩
        case round =>
          clear H' BR BO HB
          obtain ⟨i, o, b, rfl, HK, HA, HV1, BR, BO, HB⟩ := hrel
          obtain ⟨A1, c1, rfl⟩ := Kd.V_slice HV1.out
          have H := HA.out
          clear HA
          by_cases c4 : i < L.length
          · obtain ⟨x, hx⟩ : ∃ x, L[i]? = some x := ⟨_, List.getElem?_eq_getElem c4⟩
            rw [List.drop_eq_getElem_cons c4, show L[i] = x by rw [List.getElem?_eq_getElem c4] at hx; exact Option.some.inj hx] at H
            replace H := (show (if x.size ≤ b.length then (takeF k x o (b.take x.size)).bind fun o1 => op_one.l k (L.drop (i + 1)) o1 (b.drop x.size) else none) = some (o1, r6) from H)
            by_cases hsz : x.size ≤ b.length
            · rw [if_pos hsz] at H
              obtain ⟨o2, ho2, H⟩ := Option.bind_eq_some_iff.mp H
              have H' := Aside0.mk H
              have HSZ := Aside0.mk hsz
              obtain ⟨af, cs, rfl, hv, hc⟩ := HF.out i x hx
              have HV := Aside0.mk hv
              have HC := Aside0.mk hc
              obtain ⟨cc, hcs, hh⟩ := hv
              obtain ⟨f_, fn_, cap_, hput, hn1, hn2, hn3, hcalls⟩ := take_calls cc (by rw [List.length_take]; omega) ho2
              have HX : Aside0 (cs.toList[2]? = some (.func (.func f_) #[] cap_)) := ⟨by rw [hcs, hput]; rfl⟩
              have HX2 : Aside0 (cs.toList[0]? = some (.int .i64 (x.size : Int))) := ⟨by rw [hcs]; rfl⟩
              have HH := Aside0.mk (fun (w' : World) (hb : Below wf.heap.size wf w') => Fld.held_below hh hb)
              have HN1 := Aside0.mk hn1
              have HN2 := Aside0.mk hn2
              have HN3 := Aside0.mk hn3
              obtain ⟨htake, _, _⟩ := print_take_of (P := Try.prog) (Value.int .u8) 0 22 5 .i64 Try.underlying22 hi5 hsz5 A1 c1 b (x.size : Int) (by omega) (by omega) (Kd.V_at HV1.out).2.1
              obtain ⟨A4, hcut4, hV4⟩ := Ar.cut_V (P := Try.prog) Try.underlying22 hi5 hsz5 HV1.out (x.size : Int) (by omega) (by omega)
              rw [Int.toNat_natCast] at htake hcut4 hV4
              have hxl : (b.take x.size).length = x.size := by rw [List.length_take]; omega
              rw [hxl] at htake hcalls
              have HP := Aside0.mk hcalls
              have HXL := Aside0.mk hxl
              have HV4 := Aside0.mk (show Kd.V (Kd.int .u8) 5 w w.heap.size (fun k_ => P0_ k_ ∧ k_ < w.heap.size) (.slice A4 (b.length - x.size) (c1 - x.size)) (b.drop x.size) by rw [← List.length_drop]; exact hV4)
              have p1 := eq_true (show (0 : Int) ≤ (i : Int) by omega)
              have q1 := eq_true (show (i : Int) < (L.length : Int) by omega)
              have c4b0 : decide ((i : Int) < (L.length : Int)) = true := decide_eq_true (by omega)
              have c4b1 : decide (i < L.length) = true := decide_eq_true c4
              have C4 := Aside0.mk c4
              have HI := Aside0.mk (show wrap64 ((i : Int) + 1) = ((i + 1 : Nat) : Int) by have := LL.out; unfold wrap64; omega)
              clear hx hc c4 hcs hh hput hn1 hn2 hn3 hcalls hsz H hV4 ho2 hxl
              go_wp2_with (first | ((with_reducible refine gate_dst (N := 41) rfl ?_); refine Ar.gload_event rfl (T := 55) rfl Try.underlying55 rfl (D := cs) (by rw [HV.out.size]; kernel_rfl) (A := af.add (i * 3)) (by first | rfl | (go_simp; done) | (go_simp; rfl)) (fun j_ v_ hj_ => by rw [add_add]; exact (HB.out.cell (World.block_lt_of_cell? _ _ (HC.out j_ v_ hj_))).trans (HC.out j_ v_ hj_)) ?_) | ((with_reducible refine gate_dst (N := 9) rfl ?_); refine box_event ?hg (N := 9) ?hd (cs := #[.int .i64 0, .nilFunc, .nilFunc]) (t := 55) ?hr ?_; (case hd => rfl); (case hg => rfl); (case hr => exact Ar.galloc_run rfl (by kernel_rfl)); intro gb hg wx hbox hb; have n0_ := Aside0.mk (below_step (by repeat (first | (with_reducible first | exact HB.out | apply below_alloc | apply pw_below_drewN | apply below_drew1) | exact HB.out)) hb); have n1_ := Aside0.mk (hbox); have n2_ := Aside0.mk ((by rw [hg]; exact below_size (by repeat (first | (with_reducible first | exact HB.out | apply below_alloc | apply pw_below_drewN | apply below_drew1) | exact HB.out)) : wf.heap.size ≤ gb)); have m0_ := Aside0.mk (blk_below (g := gr) (o := .cells (opC (opN 0 0)) 39 (0, 0)) (by (with_reducible repeat (first | refine blk_drewN ?_ _ | refine blk_drew ?_ | refine blk_alloc ?_ _)); exact BR.out) hb); have m1_ := Aside0.mk (blk_below (g := go) (o := .cells (opC o) 39 (0, 0)) (by (with_reducible repeat (first | refine blk_drewN ?_ _ | refine blk_drew ?_ | refine blk_alloc ?_ _)); exact BO.out) hb); have m2_ := Aside0.mk (by rw [hg]; exact Nat.ne_of_lt (blk_lt (g := gr) (o := .cells (opC (opN 0 0)) 39 (0, 0)) (by (with_reducible repeat (first | refine blk_drewN ?_ _ | refine blk_drew ?_ | refine blk_alloc ?_ _)); exact BR.out)) : gr ≠ gb); have m3_ := Aside0.mk (by rw [hg]; exact Nat.ne_of_lt (blk_lt (g := go) (o := .cells (opC o) 39 (0, 0)) (by (with_reducible repeat (first | refine blk_drewN ?_ _ | refine blk_drew ?_ | refine blk_alloc ?_ _)); exact BO.out)) : go ≠ gb); clear BR BO; have BR := m0_; have BO := m1_; have NR := m2_; have NO := m3_; clear m0_ m1_ m2_ m3_; clear HB; have HB := n0_; have BK := n1_; have GEBK := n2_; clear n0_ n1_ n2_; clear hb hbox hg) | ((with_reducible refine gate_store (t := 55) (p := 9) rfl ?_); refine Ar.gstore_event rfl rfl rfl (D := cs) (by rw [HV.out.size]; kernel_rfl) (g := gb) rfl (by first | rfl | (go_simp; done) | (go_simp; rfl)) (by (with_reducible repeat (first | refine blk_drewN ?_ _ | refine blk_drew ?_ | refine blk_alloc ?_ _)); exact BK.out) (by rw [HV.out.size]; rfl) HV.out.one ?_; intro wz hbk_ hg; have n0_ := Aside0.mk hbk_; have n1_ := Aside0.mk (Below.grown (by repeat (first | (with_reducible first | exact HB.out | apply below_alloc | apply pw_below_drewN | apply below_drew1) | exact HB.out)) hg (below_size (by repeat (first | (with_reducible first | exact HB.out | apply below_alloc | apply pw_below_drewN | apply below_drew1) | exact HB.out))) (fun _ e_ => by cases e_; exact GEBK.out)); have m0_ := Aside0.mk (blk_grown (g := gr) (o := .cells (opC (opN 0 0)) 39 (0, 0)) (by (with_reducible repeat (first | refine blk_drewN ?_ _ | refine blk_drew ?_ | refine blk_alloc ?_ _)); exact BR.out) hg (fun e_ => NR.out (Option.some.inj e_))); have m1_ := Aside0.mk (blk_grown (g := go) (o := .cells (opC o) 39 (0, 0)) (by (with_reducible repeat (first | refine blk_drewN ?_ _ | refine blk_drew ?_ | refine blk_alloc ?_ _)); exact BO.out) hg (fun e_ => NO.out (Option.some.inj e_))); clear BK HB BR BO hbk_ hg; have BK := n0_; have HB := n1_; have BR := m0_; have BO := m1_; clear n0_ n1_ m0_ m1_))
              have n0_ := Aside0.mk (below_drew1 HB.out)
              have m0_ := Aside0.mk (blk_drew BR.out)
              have m1_ := Aside0.mk (blk_drew BO.out)
              have m2_ := Aside0.mk (blk_drew BK.out)
              clear HB BR BO BK
              have HB := n0_
              have BR := m0_
              have BO := m1_
              have BK := m2_
              clear n0_ m0_ m1_ m2_
              refine start_ (n := 7) (S := fun w' => w'.heap[gb]? = some (.cells cs 55 (0, 0))) (ds := []) #[false, false, false, false, false, false, false] (by kernel_rfl) rfl rfl (blk_drew BK.out) (fun hHeld => ?_)
              refine pure_ (i := 0) (N := some 42) (v := ?_) (a' := ?_) #[true, false, false, false, false, false, false] rfl rfl (by kernel_rfl) (fun _ _ _ h => h) (Or.inl ⟨by rfl, ?_⟩) ?_ ?_
              rotate_left
              · intro w'
                go_simp
                with_reducible rfl
              rotate_left
              · simp only [Act.put, List.setIfInBounds_toArray, List.set_cons_zero, List.set_cons_succ, i64_w, i32_w]
                rfl
              refine pure_ (i := 2) (N := some 44) (v := ?_) (a' := ?_) #[true, false, true, false, false, false, false] rfl rfl (by kernel_rfl) (fun _ _ _ h => h) (Or.inl ⟨by rfl, ?_⟩) ?_ ?_
              rotate_left
              · intro w'
                go_simp
                with_reducible rfl
              rotate_left
              · simp only [Act.put, List.setIfInBounds_toArray, List.set_cons_zero, List.set_cons_succ, i64_w, i32_w]
                rfl
              refine pure_ (i := 3) (N := some 45) (v := ?_) (a' := ?_) #[true, false, true, true, false, false, false] rfl rfl (by kernel_rfl) (fun _ _ _ h => h) (Or.inl ⟨by rfl, ?_⟩) ?_ ?_
              rotate_left
              · intro w'
                go_simp
                with_reducible rfl
              rotate_left
              · simp only [Act.put, List.setIfInBounds_toArray, List.set_cons_zero, List.set_cons_succ, i64_w, i32_w]
                rfl
              refine take_ (i := 1) (N := some 43) (v := ?_) (a' := ?_) #[true, true, true, true, false, false, false] rfl rfl (by kernel_rfl) (fun _ _ _ h => h) (Or.inl ⟨by rfl, ?_⟩) hHeld ?_ ?_
              rotate_left
              · intro w' s0
                refine (Ar.cload_run rfl Try.underlying53 rfl rfl (Ar.blk_at s0 HX.out)).trans ?_; with_reducible rfl
              rotate_left
              · simp only [Act.put, List.setIfInBounds_toArray, List.set_cons_zero, List.set_cons_succ, i64_w, i32_w]
                rfl
              refine take_ (i := 4) (N := some 46) (v := ?_) (a' := ?_) #[true, true, true, true, true, false, false] rfl rfl (by kernel_rfl) (fun _ _ _ h => h) (Or.inl ⟨by rfl, ?_⟩) hHeld ?_ ?_
              rotate_left
              · intro w' s0
                refine (Ar.cload_run rfl Try.underlying3 rfl rfl (Ar.blk_at s0 HX2.out)).trans ?_; with_reducible rfl
              rotate_left
              · simp only [Act.put, List.setIfInBounds_toArray, List.set_cons_zero, List.set_cons_succ, i64_w, i32_w]
                rfl
              refine pure_ (i := 5) (N := some 47) (v := ?_) (a' := ?_) #[true, true, true, true, true, true, false] rfl rfl (by kernel_rfl) (fun _ _ _ h => h) (Or.inl ⟨by rfl, ?_⟩) ?_ ?_
              rotate_left
              · intro w'
                go_simp
                with_reducible rfl
              rotate_left
              · simp only [Act.put, List.setIfInBounds_toArray, List.set_cons_zero, List.set_cons_succ, i64_w, i32_w]
                rfl
              refine one_ (i := 6) (N := some 48) #[true, true, true, true, true, true, true] rfl rfl (by kernel_rfl) (by decide) (fun K hK => ?_)
              refine Ar.goesV_ HN1.out HN2.out HN3.out (#[.pointer (some ⟨go, 0, none⟩), .slice A1 x.size c1] ++ cap_) (by rfl) rfl rfl rfl (by first | rfl | (simp only [List.map_toArray, List.map_cons, List.map_nil]; rfl)) ?_
              have hct_ := Kd.C_take (Kd.V_reads' (Kd.V_below HV1.out (below_step HW.out HB.out))).2.2 HSZ.out
              rw [HXL.out] at hct_
              refine (HP.out _ go A1 c1 (HH.out _ HB.out) BO.out hct_).mono ?_
              clear hct_
              rintro e wy ⟨rfl, w1, hb, hg, ho1⟩
              refine ⟨_, rfl, ?_⟩
              have n0_ := Aside0.mk (Below.grown (below_step (by repeat (first | (with_reducible first | exact HB.out | apply below_alloc | apply pw_below_drewN | apply below_drew1) | exact HB.out)) hb) hg (below_size (below_step (by repeat (first | (with_reducible first | exact HB.out | apply below_alloc | apply pw_below_drewN | apply below_drew1) | exact HB.out)) hb)) (fun _ e_ => by cases e_; exact GEBO.out))
              have m0_ := Aside0.mk (blk_grown (g := gr) (o := .cells (opC (opN 0 0)) 39 (0, 0)) (blk_below (g := gr) (o := .cells (opC (opN 0 0)) 39 (0, 0)) (by (with_reducible repeat (first | refine blk_drewN ?_ _ | refine blk_drew ?_ | refine blk_alloc ?_ _)); exact BR.out) hb) hg (fun e_ => NRO.out (Option.some.inj e_)))
              have m1_ := Aside0.mk ho1
              have m2_ := Aside0.mk (blk_grown (g := gb) (o := .cells cs 55 (0, 0)) (blk_below (g := gb) (o := .cells cs 55 (0, 0)) hHeld hb) hg (fun e_ => NO.out (Option.some.inj e_).symm))
              clear HB BR BO BK hb hg ho1
              have HB := n0_
              have BR := m0_
              have BO := m1_
              have BK := m2_
              clear n0_ m0_ m1_ m2_
              refine hK.out _ _ (BK.out) (fun hHeld => ?_)
              clear hK K
              refine norm_ (a' := ?_) ?_ ?_
              rotate_left
              · show Act.put _ (some 48) _ = _
                simp only [Act.put, List.setIfInBounds_toArray, List.set_cons_zero, List.set_cons_succ, i64_w, i32_w]
                rfl
              refine done_ (by kernel_rfl) ?_
              go_wp2_with (first | ((with_reducible refine gate_dst (N := 51) rfl ?_); refine Ar.cload_event rfl (T := 3) rfl Try.underlying3 rfl (A := ⟨gb, 0, none⟩) rfl (v := .int .i64 (x.size : Int)) (Ar.blk_at (by (with_reducible repeat (first | refine blk_drewN ?_ _ | refine blk_drew ?_ | refine blk_alloc ?_ _)); exact BK.out) HX2.out) ?_))
              obtain ⟨k1, rfl⟩ : ∃ m, gk = m + 1 := ⟨gk - 1, by have := HK.out; have := C4.out; omega⟩
              go_roundg k1
              case measure => omega
              case rel => exact ⟨i + 1, _, _, by rw [HI.out], ⟨by have := HK.out; omega⟩, H', HV4, BR, BO, HB⟩
            · rw [if_neg hsz] at H
              exact absurd H (by simp)
          · have c4b0 : decide ((i : Int) < (L.length : Int)) = false := decide_eq_false (by omega)
            have c4b1 : decide (i < L.length) = false := decide_eq_false c4
            rw [List.drop_eq_nil_of_le (by omega)] at H
            have H2 := Option.some.inj (show some (o, b) = some (o1, r6) from H)
            simp only [Prod.mk.injEq] at H2
            obtain ⟨rfl, rfl⟩ := H2
            clear c4 H
            go_wp2_with (first | ((with_reducible refine gate_dst (N := 54) rfl ?_); refine Ar.gload_event rfl (T := 39) rfl Try.underlying39 rfl (D := opC o) (by simp only [opC, Array.size_append, Ar.cells_size, List.size_toArray, List.length_cons, List.length_nil]; kernel_rfl) (A := ⟨go, 0, none⟩) rfl (Ar.blk_part (by (with_reducible repeat (first | refine blk_drewN ?_ _ | refine blk_drew ?_ | refine blk_alloc ?_ _)); exact BO.out) Ar.in_whole) ?_) | ((with_reducible refine gate_store (t := 39) (p := 2) rfl ?_); refine Ar.gstore_event rfl rfl rfl (D := opC o) (by simp only [opC, Array.size_append, Ar.cells_size, List.size_toArray, List.length_cons, List.length_nil]; kernel_rfl) (g := gr) rfl (by first | rfl | (go_simp; done) | (go_simp; rfl)) (by (with_reducible repeat (first | refine blk_drewN ?_ _ | refine blk_drew ?_ | refine blk_alloc ?_ _)); exact BR.out) (by simp [Ar.cells_size]) (by refine Ar.all_app ?_ (Ar.all_app (Ar.cells_one _ _ _) ?_) <;> simp [Value.oneCell']) ?_; intro wz hbk_ hg; have n0_ := Aside0.mk hbk_; have n1_ := Aside0.mk (Below.grown (below_step HW.out (by repeat (first | (with_reducible first | exact HB.out | apply below_alloc | apply pw_below_drewN | apply below_drew1) | exact HB.out))) hg (below_size (below_step HW.out (by repeat (first | (with_reducible first | exact HB.out | apply below_alloc | apply pw_below_drewN | apply below_drew1) | exact HB.out)))) (fun _ e_ => by cases e_; exact GEBR.out)); clear BR HW HB hbk_ hg; have BR := n0_; have HW := n1_; have HB := Aside0.mk (Below.refl wz.heap.size wz); clear n0_ n1_))
            refine bodyPost_ret (Ar.results_cell_tmp rfl _ _ gr 39 (opC o) (0, 0) _ rfl BR.out Try.underlying39 rfl (by simp only [opC, Array.size_append, Ar.cells_size, List.size_toArray, List.length_cons, List.length_nil]; kernel_rfl)) rfl ?_
            exact ⟨.slice A1 b.length c1, rfl, Kd.V_mono (Kd.V_below HV1.out (below_step HW.out HB.out)) (fun k_ hk => .inl hk.1), below_step HW.out HB.out⟩
      · have hw' : t = false := by simpa using hw
        subst hw'
        rw [if_neg hw] at h
        have H2 := Option.some.inj h
        simp only [Prod.mk.injEq] at H2
        obtain ⟨rfl, rfl⟩ := H2
        clear h hw
        go_enter Try.func19, Try.ntmps19
        go_wp2_with (first | ((with_reducible refine gate_dst (N := 2) rfl ?_); refine box_event ?hg (N := 2) ?hd (cs := opC (opN 0 0)) (t := 39) ?hr ?_; (case hd => rfl); (case hg => rfl); (case hr => exact Ar.galloc_run rfl (by kernel_rfl)); intro gr hg wx hbox hb; have n0_ := Aside0.mk (below_step (by repeat (first | (with_reducible first | exact HB.out | apply below_alloc | apply pw_below_drewN | apply below_drew1) | exact HB.out)) hb); have n1_ := Aside0.mk (hbox); have n2_ := Aside0.mk ((by rw [hg]; exact below_size (by repeat (first | (with_reducible first | exact HB.out | apply below_alloc | apply pw_below_drewN | apply below_drew1) | exact HB.out)) : w.heap.size ≤ gr)); clear HB; have HB := n0_; have BR := n1_; have GEBR := n2_; clear n0_ n1_ n2_; clear hb hbox hg) | ((with_reducible refine gate_dst (N := 12) rfl ?_); refine Ar.cload_event rfl (T := 5) rfl Try.underlying5 rfl (A := ad) rfl (v := .int .u8 (rd l0 0)) ((HB.out.cell (World.block_lt_of_cell? _ _ HX0.out)).trans HX0.out) ?_) | ((with_reducible refine gate_callee (f := 25) rfl ?_); refine goesL_ (some 16) rfl rfl Try.func25 (by kernel_rfl) rfl #[.int .i64 (wrap64 (rd l0 0))] rfl (by (try simp only [List.map_toArray, List.map_cons, List.map_nil]); first | done | rfl) ?_; refine (op_fields.calls (wrap64 (rd l0 0)) _).mono ?_; rintro e wf ⟨A, c, rfl, hf, hb⟩; refine ⟨_, rfl, ?_⟩; have n0_ := Aside0.mk (below_step (by repeat (first | (with_reducible first | exact HB.out | apply below_alloc | apply pw_below_drewN | apply below_drew1) | exact HB.out)) hb); have n1_ := Aside0.mk hf; have n2_ := Aside0.mk (blk_below (g := gr) (o := .cells (opC (opN 0 0)) 39 (0, 0)) (by (with_reducible repeat (first | refine blk_drewN ?_ _ | refine blk_drew ?_ | refine blk_alloc ?_ _)); exact BR.out) hb); clear HB hf hb BR; have HW := n0_; have HF := n1_; have BR := n2_; clear n0_ n1_ n2_; have HB := Aside0.mk (Below.refl wf.heap.size wf)) | ((with_reducible refine gate_callee (f := 26) rfl ?_); refine goesL_ (some 28) rfl rfl Try.func26 (by kernel_rfl) rfl #[.slice (some ad) l0.length c0] rfl (by (try simp only [List.map_toArray, List.map_cons, List.map_nil]); first | done | rfl) ?_; refine (op_whole.calls (some ad) c0 l0 false _ ?s1 ?s2 HWH.out).mono ?_; (case s1 => exact Kd.C_below HR0.out (below_step HW.out HB.out)); (case s2 => exact HC0.out); rintro e wx ⟨rfl, hb⟩; refine ⟨_, rfl, ?_⟩; have n0_ := Aside0.mk (below_step (by repeat (first | (with_reducible first | exact HB.out | apply below_alloc | apply pw_below_drewN | apply below_drew1) | exact HB.out)) hb); have m0_ := Aside0.mk (blk_below (g := gr) (o := .cells (opC (opN 0 0)) 39 (0, 0)) (by (with_reducible repeat (first | refine blk_drewN ?_ _ | refine blk_drew ?_ | refine blk_alloc ?_ _)); exact BR.out) hb); clear HB BR; have BR := m0_; have HB := n0_; clear n0_; clear hb) | ((with_reducible refine gate_dst (N := 31) rfl ?_); refine Ar.gbuild_event rfl (T := 39) rfl (D := opC (opN 0 (wrap64 (rd l0 0)))) (by first | exact fatBuild39_4 _ _ | (simp only [List.map_toArray, List.map_cons, List.map_nil]; exact fatBuild39_4 _ _)) ?_) | ((with_reducible refine gate_store (t := 39) (p := 2) rfl ?_); refine Ar.gstore_event rfl rfl rfl (D := opC (opN 0 (wrap64 (rd l0 0)))) (by simp only [opC, Array.size_append, Ar.cells_size, List.size_toArray, List.length_cons, List.length_nil]; kernel_rfl) (g := gr) rfl (by first | rfl | (go_simp; done) | (go_simp; rfl)) (by (with_reducible repeat (first | refine blk_drewN ?_ _ | refine blk_drew ?_ | refine blk_alloc ?_ _)); exact BR.out) (by simp [Ar.cells_size]) (by refine Ar.all_app ?_ (Ar.all_app (Ar.cells_one _ _ _) ?_) <;> simp [Value.oneCell']) ?_; intro wz hbk_ hg; have n0_ := Aside0.mk hbk_; have n1_ := Aside0.mk (Below.grown (below_step HW.out (by repeat (first | (with_reducible first | exact HB.out | apply below_alloc | apply pw_below_drewN | apply below_drew1) | exact HB.out))) hg (below_size (below_step HW.out (by repeat (first | (with_reducible first | exact HB.out | apply below_alloc | apply pw_below_drewN | apply below_drew1) | exact HB.out)))) (fun _ e_ => by cases e_; exact GEBR.out)); clear BR HW HB hbk_ hg; have BR := n0_; have HW := n1_; have HB := Aside0.mk (Below.refl wz.heap.size wz); clear n0_ n1_))
        refine bodyPost_ret (Ar.results_cell_tmp rfl _ _ gr 39 (opC (opN 0 (wrap64 (rd l0 0)))) (0, 0) _ rfl BR.out Try.underlying39 rfl (by simp only [opC, Array.size_append, Ar.cells_size, List.size_toArray, List.length_cons, List.length_nil]; kernel_rfl)) rfl ?_
        exact ⟨.slice none 0 0, rfl, Kd.V_nil _ _ _ _ _, below_step HW.out HB.out⟩
    · have hok' : (flds (wrap64 (rd l0 0))).2 = false := by simpa using hok
      rw [if_neg hok] at h
      have H2 := Option.some.inj h
      simp only [Prod.mk.injEq] at H2
      obtain ⟨rfl, rfl⟩ := H2
      clear h hok
      go_enter Try.func19, Try.ntmps19
      go_wp2_with (first | ((with_reducible refine gate_dst (N := 2) rfl ?_); refine box_event ?hg (N := 2) ?hd (cs := opC (opN 0 0)) (t := 39) ?hr ?_; (case hd => rfl); (case hg => rfl); (case hr => exact Ar.galloc_run rfl (by kernel_rfl)); intro gr hg wx hbox hb; have n0_ := Aside0.mk (below_step (by repeat (first | (with_reducible first | exact HB.out | apply below_alloc | apply pw_below_drewN | apply below_drew1) | exact HB.out)) hb); have n1_ := Aside0.mk (hbox); have n2_ := Aside0.mk ((by rw [hg]; exact below_size (by repeat (first | (with_reducible first | exact HB.out | apply below_alloc | apply pw_below_drewN | apply below_drew1) | exact HB.out)) : w.heap.size ≤ gr)); clear HB; have HB := n0_; have BR := n1_; have GEBR := n2_; clear n0_ n1_ n2_; clear hb hbox hg) | ((with_reducible refine gate_dst (N := 12) rfl ?_); refine Ar.cload_event rfl (T := 5) rfl Try.underlying5 rfl (A := ad) rfl (v := .int .u8 (rd l0 0)) ((HB.out.cell (World.block_lt_of_cell? _ _ HX0.out)).trans HX0.out) ?_) | ((with_reducible refine gate_callee (f := 25) rfl ?_); refine goesL_ (some 16) rfl rfl Try.func25 (by kernel_rfl) rfl #[.int .i64 (wrap64 (rd l0 0))] rfl (by (try simp only [List.map_toArray, List.map_cons, List.map_nil]); first | done | rfl) ?_; refine (op_fields.calls (wrap64 (rd l0 0)) _).mono ?_; rintro e wf ⟨A, c, rfl, hf, hb⟩; refine ⟨_, rfl, ?_⟩; have n0_ := Aside0.mk (below_step (by repeat (first | (with_reducible first | exact HB.out | apply below_alloc | apply pw_below_drewN | apply below_drew1) | exact HB.out)) hb); have n1_ := Aside0.mk hf; have n2_ := Aside0.mk (blk_below (g := gr) (o := .cells (opC (opN 0 0)) 39 (0, 0)) (by (with_reducible repeat (first | refine blk_drewN ?_ _ | refine blk_drew ?_ | refine blk_alloc ?_ _)); exact BR.out) hb); clear HB hf hb BR; have HW := n0_; have HF := n1_; have BR := n2_; clear n0_ n1_ n2_; have HB := Aside0.mk (Below.refl wf.heap.size wf)))
      have n0_ := Aside0.mk (below_drew1 HB.out)
      clear HB
      have HB := n0_
      clear n0_
      obtain ⟨Dq, hDq⟩ : ∃ D : Array Value, D = opC (opN 0 (wrap64 (rd l0 0))) := ⟨_, rfl⟩
      have HDq := Aside0.mk hDq
      clear hDq
      refine start_ (n := 6) (S := fun w' => w'.heap[gr]? = some (.cells (opC (opN 0 0)) 39 (0, 0))) (ds := [4]) #[false, false, false, false, false, false] (by kernel_rfl) rfl rfl (blk_drew BR.out) (fun hHeld => ?_)
      refine pure_ (i := 0) (N := some 22) (v := ?_) (a' := ?_) #[true, false, false, false, false, false] rfl rfl (by kernel_rfl) (fun _ _ _ h => h) (Or.inl ⟨by rfl, ?_⟩) ?_ ?_
      rotate_left
      · intro w'
        go_simp
        with_reducible rfl
      rotate_left
      · simp only [Act.put, List.setIfInBounds_toArray, List.set_cons_zero, List.set_cons_succ, i64_w, i32_w]
        rfl
      refine pure_ (i := 1) (N := some 23) (v := ?_) (a' := ?_) #[true, true, false, false, false, false] rfl rfl (by kernel_rfl) (fun _ _ _ h => h) (Or.inl ⟨by rfl, ?_⟩) ?_ ?_
      rotate_left
      · intro w'
        refine (Ar.gbuild_run rfl (D := Dq) (by rw [HDq.out]; first | exact fatBuild39_4 _ _ | (simp only [List.map_toArray, List.map_cons, List.map_nil]; exact fatBuild39_4 _ _))).trans ?_; with_reducible rfl
      rotate_left
      · simp only [Act.put, List.setIfInBounds_toArray, List.set_cons_zero, List.set_cons_succ, i64_w, i32_w]
        rfl
      refine pure_ (i := 2) (N := some 24) (v := ?_) (a' := ?_) #[true, true, true, false, false, false] rfl rfl (by kernel_rfl) (fun _ _ _ h => h) (Or.inl ⟨by rfl, ?_⟩) ?_ ?_
      rotate_left
      · intro w'
        go_simp
        with_reducible rfl
      rotate_left
      · simp only [Act.put, List.setIfInBounds_toArray, List.set_cons_zero, List.set_cons_succ, i64_w, i32_w]
        rfl
      refine pure_ (i := 3) (N := some 25) (v := ?_) (a' := ?_) #[true, true, true, true, false, false] rfl rfl (by kernel_rfl) (fun _ _ _ h => h) (Or.inl ⟨by rfl, ?_⟩) ?_ ?_
      rotate_left
      · intro w'
        go_simp
        with_reducible rfl
      rotate_left
      · simp only [Act.put, List.setIfInBounds_toArray, List.set_cons_zero, List.set_cons_succ, i64_w, i32_w]
        rfl
      refine last_ (i := 4) (N := none) #[true, true, true, true, true, false] rfl rfl (by kernel_rfl) (by decide) (fun K hK => ?_)
      refine Ar.gstore_step ?hw (T := 39) (p := 2) (v := .tmp 23) ?ho ?hN (D := Dq) (by rw [HDq.out]; simp only [opC, Array.size_append, Ar.cells_size, List.size_toArray, List.length_cons, List.length_nil]; kernel_rfl) (g := gr) ?hx ?hv hHeld (by rw [HDq.out]; simp [Ar.cells_size]) (by rw [HDq.out]; refine Ar.all_app ?_ (Ar.all_app (Ar.cells_one _ _ _) ?_) <;> simp [Value.oneCell']) ?_; (case hw => rfl); (case ho => rfl); (case hN => rfl); (case hx => rfl); (case hv => first | rfl | (go_simp; done) | (go_simp; rfl))
      intro wz hbk_ hg
      have n0_ := Aside0.mk hbk_
      have n1_ := Aside0.mk (Below.grown (below_step HW.out (by repeat (first | (with_reducible first | exact HB.out | apply below_alloc | apply pw_below_drewN | apply below_drew1) | exact HB.out))) hg (below_size (below_step HW.out (by repeat (first | (with_reducible first | exact HB.out | apply below_alloc | apply pw_below_drewN | apply below_drew1) | exact HB.out)))) (fun _ e_ => by cases e_; exact GEBR.out))
      clear BR HW HB hbk_ hg
      have BR := n0_
      have HW := n1_
      have HB := Aside0.mk (Below.refl wz.heap.size wz)
      clear n0_ n1_
      refine hK.out _ _ ?_
      clear hK K
      refine pure_ (i := 5) (N := some 3) (v := ?_) (a' := ?_) #[true, true, true, true, true, true] rfl rfl (by kernel_rfl) (fun _ _ _ h => h) (Or.inl ⟨by rfl, ?_⟩) ?_ ?_
      rotate_left
      · intro w'
        go_simp
        with_reducible rfl
      rotate_left
      · simp only [Act.put, List.setIfInBounds_toArray, List.set_cons_zero, List.set_cons_succ, i64_w, i32_w]
        rfl
      refine done_ (by kernel_rfl) ?_
      try go_wp2
      rw [HDq.out] at BR
      refine bodyPost_ret (Ar.results_cell_tmp rfl _ _ gr 39 (opC (opN 0 (wrap64 (rd l0 0)))) (0, 0) _ rfl BR.out Try.underlying39 rfl (by simp only [opC, Array.size_append, Ar.cells_size, List.size_toArray, List.length_cons, List.length_nil]; kernel_rfl)) rfl ?_
      exact ⟨.slice A3 (l0.length - 1) (c0 - 1), rfl, Kd.V_mono (Kd.V_below HV3.out (below_step HW.out HB.out)) (fun k_ hk => .inl hk.1), below_step HW.out HB.out⟩
  · rw [if_neg c2] at h
    exact absurd h (by simp)
theorem op_one.calls (k : Nat) (P0_ : Nat → Prop) (A0 : Option Addr) (c0 : Nat) (l0 : List Int) (r1 : Int) (r2 : Int) (r3 : Int) (r4 : List Int) (r5 : Int) (r6 : List Int) (w : World) (hs0 : Kd.V (Kd.int .u8) 5 w w.heap.size (fun k_ => P0_ k_) (.slice A0 l0.length c0) l0) (h : op_one.f k l0 = some (r1, r2, r3, r4, r5, r6)) :
    Calls Try.prog 19 #[.slice A0 l0.length c0] w fun e w' => ∃ v5_ : Value, e = .returned (.tuple #[.agg (#[.int .i64 r1, .int .i64 r2, .int .u64 r3] ++ (Ar.cells .u8 32 r4 ++ #[.int .i64 r5])), v5_]) ∧ Kd.V (Kd.int .u8) 5 w' w.heap.size (fun k_ => (P0_ k_ ∨ w.heap.size ≤ k_)) v5_ r6 ∧ Below w.heap.size w w' := by
  obtain ⟨⟨o, b⟩, hg, he⟩ := Option.bind_eq_some_iff.mp h
  simp only [Option.some.injEq, Prod.mk.injEq] at he
  obtain ⟨rfl, rfl, rfl, rfl, rfl, rfl⟩ := he
  exact op_one.callsO k P0_ A0 c0 l0 o b w hs0 hg

/-! ### op_Decode: function 10 -/
def op_Decode.l0 : Nat → List Int → List (S39) → Option ((List (S39)))
 | 0, _, _ => none
 | k + 1, x0, x2 => if (x0.length : Int) > 0 then ((op_one.f k x0).bind fun bt120 => (if x2.length < 2199023255552 then (op_Decode.l0 k bt120.2.2.2.2.2 (x2 ++ [(⟨bt120.1, bt120.2.1, bt120.2.2.1, bt120.2.2.2.1, bt120.2.2.2.2.1⟩ : S39)])) else (none))) else (some x2)
def op_Decode.f (k : Nat) (l0 : List Int) : Option ((List (S39))) := op_Decode.l0 k l0 ([] : List (S39))
theorem op_Decode.mono_l : ∀ k, (∀ y0 y1, LeO (op_Decode.l0 k y0 y1) (op_Decode.l0 (k + 1) y0 y1))
 | 0 => fun _ _ r h => by simp [op_Decode.l0] at h
 | k + 1 => by
  have ih0 := op_Decode.mono_l k
  ·intro y0 y1
   unfold op_Decode.l0
   repeat' first
   | (with_reducible exact ih0 _ _)
   | (with_reducible exact op_one.mono _ _)
   | (with_reducible exact LeO.refl _)
   | (with_reducible exact LeO.none _)
   | (with_reducible refine LeO.ite ?_ ?_)
   | (with_reducible refine LeO.bind ?_ (fun _ => ?_))
   | exact ih0 _ _
   | exact op_one.mono _ _
   | exact LeO.none _
   | refine LeO.ite ?_ ?_
   | refine LeO.bind ?_ (fun _ => ?_)
theorem op_Decode.mono : ∀ a0 k, LeO (op_Decode.f k a0) (op_Decode.f (k + 1) a0) := by
 intro a0 k
 have ih0 := op_Decode.mono_l k
 unfold op_Decode.f
 repeat' first
   | (with_reducible exact ih0 _ _)
   | (with_reducible exact op_one.mono _ _)
   | (with_reducible exact LeO.refl _)
   | (with_reducible exact LeO.none _)
   | (with_reducible refine LeO.ite ?_ ?_)
   | (with_reducible refine LeO.bind ?_ (fun _ => ?_))
   | exact ih0 _ _
   | exact op_one.mono _ _
   | exact LeO.none _
   | refine LeO.ite ?_ ?_
   | refine LeO.bind ?_ (fun _ => ?_)
set_option maxHeartbeats 8000000 in
set_option maxRecDepth 100000 in
theorem op_Decode.calls (k : Nat) (P0_ : Nat → Prop) (A0 : Option Addr) (c0 : Nat) (l0 : List Int) (r : List (S39)) (w : World) (hs0 : Kd.V (Kd.int .u8) 5 w w.heap.size (fun k_ => P0_ k_) (.slice A0 l0.length c0) l0) (h : op_Decode.f k l0 = some r) :
  Calls Try.prog 10 #[.slice A0 l0.length c0] w fun e w' => ∃ v0_ : Value, e = .returned (v0_) ∧ Kd.R k39 39 w' w.heap.size (fun k_ => (w.heap.size ≤ k_)) v0_ r ∧ Below w.heap.size w w' := by
 have hu39 := Try.underlying39
 have HO0 := Aside0.mk (show Kd.V (Kd.int .u8) 5 w w.heap.size (fun k_ => (P0_ k_ ∨ w.heap.size ≤ k_)) (.slice A0 l0.length c0) l0 from Kd.V_mono hs0 (fun k_ hk => .inl hk))
 have HB := Aside0.mk (Below.refl w.heap.size w)
 have H : (op_Decode.l0 k l0 ([] : List (S39))) = some r := h
 clear h
 have H' := Aside0.mk H
 clear H
 go_enter Try.func10, Try.ntmps10
 go_wp2
 go_loopg [0, 2] k (fun kq v0 v2 w' => ∃ (x0_1 : List Int) (x2_1 : List (S39)), Aside0 (op_Decode.l0 kq x0_1 x2_1 = some r) ∧ Aside0 (kq ≤ k) ∧ Aside0 (Kd.V (Kd.int .u8) 5 w' w.heap.size (fun k_ => (P0_ k_ ∨ w.heap.size ≤ k_) ∧ some k_ ≠ (v2 : Value).ownBlock) v0 x0_1) ∧ Aside0 (Kd.R k39 39 w' w.heap.size (fun k_ => (w.heap.size ≤ k_)) v2 x2_1) ∧ Aside0 (Below w.heap.size w w'))
 case atStart => exact ⟨(l0), (([] : List (S39))), H', ⟨Nat.le_refl _⟩, ⟨by (with_reducible repeat (first | apply Kd.V_alloc | apply Kd.V_drewN | apply Kd.V_drew)); exact Kd.V_mono HO0.out (fun _ hk => ⟨hk, (by simp [Value.ownBlock])⟩)⟩, ⟨by first | exact Kd.R_nil _ _ _ _ _ | exact Kd.N_nil _ _ _ _ _ | exact Kd.V_nil _ _ _ _ _ | exact Kd.Q_nil _ _ _ _ _ | exact Kd.S_nil _ _ _ _ _⟩, ⟨by repeat (first | (with_reducible first | exact HB.out | apply below_alloc | apply pw_below_drewN | apply below_drew1) | exact HB.out)⟩⟩
 case round =>
  clear H'
  try clear c1
  obtain ⟨x0_1, x2_1, HA, HK1, HO_0, HO_2, HB⟩ := hrel
  cases gk with
  | zero => exact absurd HA.out (by simp [op_Decode.l0])
  | succ k1 =>
   have H := HA.out
   clear HA
   simp only [op_Decode.l0] at H
   by_cases c2 : (x0_1.length : Int) > 0
   ·rw [if_pos c2] at H
    have c2b0 : decide (0 < (x0_1.length : Int)) = true := decide_eq_true c2
    have c2b1 : decide (0 < x0_1.length) = true := decide_eq_true (by omega)
    clear c2
    replace H := Option.bind_eq_some_iff.mp H
    obtain ⟨⟨t120, t121, t122, t123, t124, t125⟩, A30, H⟩ := H
    replace H : (if x2_1.length < 2199023255552 then (op_Decode.l0 k1 t125 (x2_1 ++ [(⟨t120, t121, t122, t123, t124⟩ : S39)])) else (none)) = some r := H
    have A3 := Aside0.mk A30
    clear A30
    by_cases c4 : x2_1.length < 2199023255552
    ·rw [if_pos c4] at H
     have LMc4 := Aside0.mk c4
     clear c4
     obtain ⟨y129, hy129⟩ : ∃ y_ : List (S39), y_ = (x2_1 ++ [(⟨t120, t121, t122, t123, t124⟩ : S39)]) := ⟨_, rfl⟩
     replace H : (op_Decode.l0 k1 t125 y129) = some r := by first | (rw [hy129]; with_reducible exact H) | (have H2_ := (Option.bind_some _ _).symm.trans H; rw [hy129]; with_reducible exact H2_) | (have H2_ := (Option.bind_some _ _).symm.trans H; with_reducible exact H2_) | with_reducible exact H | (rw [hy129]; exact H) | exact H
     have Ny129 := Aside0.mk hy129
     clear hy129
     have H' := Aside0.mk H
     clear H
     obtain ⟨Ao5, co5, eo5⟩ := Kd.V_slice HO_0.out
     subst eo5
     go_wp2_with (first | ((with_reducible refine gate_callee (f := 19) rfl ?_); refine goesL_ (some 10) rfl rfl Try.func19 (by kernel_rfl) rfl #[.slice Ao5 x0_1.length co5] rfl (by (try simp only [List.map_toArray, List.map_cons, List.map_nil]); first | done | rfl | (simp only [List.length_drop, List.length_take]; rfl)) ?_; (with_reducible refine (op_one.calls k1 (fun k_ => ((P0_ k_ ∨ w.heap.size ≤ k_) ∧ some k_ ≠ (u2 : Value).ownBlock)) _ _ x0_1 t120 t121 t122 t123 t124 t125 _ ?side1 A3.out).mono ?_); (case side1 => exact HO_0.out); rintro e w6 ⟨v126, rfl, ho0, hb⟩; refine ⟨_, rfl, ?_⟩; have n0_ := Aside0.mk (Kd.V_below (by (with_reducible repeat (first | apply Kd.V_alloc | apply Kd.V_drewN | apply Kd.V_drew)); exact HO_0.out) hb); have n1_ := Aside0.mk (Kd.R_below (by (with_reducible repeat (first | apply Kd.R_alloc | apply Kd.R_drewN | apply Kd.R_drew)); exact HO_2.out) hb); have n2_ := Aside0.mk (Kd.V_lower (Kd.V_mono (ok' := fun k_ => (P0_ k_ ∨ w.heap.size ≤ k_) ∧ some k_ ≠ (u2 : Value).ownBlock) ho0 (fun k_ hk_ => ⟨Or.elim hk_ (fun hs_ => hs_.1) (fun hn_ => (.inr (Nat.le_trans (below_size (by repeat (first | (with_reducible first | exact HB.out | apply below_alloc | apply pw_below_drewN | apply below_drew1) | exact HB.out))) hn_))), Or.elim hk_ (fun hs_ => hs_.2) (fun hn_ => (Kd.fresh' (Kd.R_lt (by (with_reducible repeat (first | apply Kd.R_alloc | apply Kd.R_drewN | apply Kd.R_drew)); exact HO_2.out)) k_ hn_))⟩)) (below_size (by repeat (first | (with_reducible first | exact HB.out | apply below_alloc | apply pw_below_drewN | apply below_drew1) | exact HB.out)))); have n3_ := Aside0.mk (below_step (by repeat (first | (with_reducible first | exact HB.out | apply below_alloc | apply pw_below_drewN | apply below_drew1) | exact HB.out)) hb); clear HO_0; clear HO_2; clear HB; have HO_0 := n0_; have HO_2 := n1_; have HO127 := n2_; have HB := n3_; clear n0_ n1_ n2_ n3_; (try clear hb); (try clear hb2); (try clear hk); (try clear hi); (try clear ho0)) | ((with_reducible refine gate_dst (N := 3) rfl ?_); (try (refine gate_guard (by rfl) ?_; dsimp only)); refine box_event ?hg (N := 3) ?hd (cs := (#[.int .i64 0, .int .i64 0, .int .u64 0] ++ ((Ar.cells .u8 32 (List.replicate 32 0)) ++ #[.int .i64 0]))) (t := 39) ?hr ?_; (case hd => rfl); (case hg => rfl); (case hr => first | exact Ar.gbox_run rfl rfl | exact Ar.galloc_run rfl (by kernel_rfl) | (go_simp; done) | (go_simp; rfl)); intro gb128 hg w7 hbox hb; have n0_ := Aside0.mk (Kd.V_below (Kd.V_elderB (by (with_reducible repeat (first | apply Kd.V_alloc | apply Kd.V_drewN | apply Kd.V_drew)); exact HO_0.out) gb128 (Nat.le_of_eq hg.symm)) hb); have n1_ := Aside0.mk (Kd.R_below (Kd.R_elderB (by (with_reducible repeat (first | apply Kd.R_alloc | apply Kd.R_drewN | apply Kd.R_drew)); exact HO_2.out) gb128 (Nat.le_of_eq hg.symm)) hb); have n2_ := Aside0.mk (Kd.V_below (Kd.V_elderB (by (with_reducible repeat (first | apply Kd.V_alloc | apply Kd.V_drewN | apply Kd.V_drew)); exact HO127.out) gb128 (Nat.le_of_eq hg.symm)) hb); have n3_ := Aside0.mk (below_step (by repeat (first | (with_reducible first | exact HB.out | apply below_alloc | apply pw_below_drewN | apply below_drew1) | exact HB.out)) hb); have n4_ := Aside0.mk (hbox); have n5_ := Aside0.mk ((by rw [hg]; exact (below_size (by repeat (first | (with_reducible first | exact HB.out | apply below_alloc | apply pw_below_drewN | apply below_drew1) | exact HB.out))) : w.heap.size ≤ gb128)); have n6_ := Aside0.mk ((by rw [hg]; exact (below_size (by repeat (first | (with_reducible first | exact HB.out | apply below_alloc | apply pw_below_drewN | apply below_drew1) | exact HB.out))) : w.heap.size ≤ gb128)); clear HO_0; clear HO_2; clear HO127; clear HB; have HO_0 := n0_; have HO_2 := n1_; have HO127 := n2_; have HB := n3_; have BK128 := n4_; have GW128 := n5_; have GE128 := n6_; clear n0_ n1_ n2_ n3_ n4_ n5_ n6_; clear hb hbox hg) | ((with_reducible refine gate_store (t := 39) (p := 3) rfl ?_); refine Ar.gstore_event rfl rfl rfl (D := (#[.int .i64 t120, .int .i64 t121, .int .u64 t122] ++ ((Ar.cells .u8 32 t123) ++ #[.int .i64 t124]))) (by first | (rw [Ar.cells_size]; kernel_rfl) | (simp only [Array.size_append, Ar.cells_size, List.size_toArray, List.length_cons, List.length_nil]; kernel_rfl)) (g := gb128) rfl (by first | rfl | (go_simp; done) | (go_simp; rfl)) (by (with_reducible repeat (first | refine blk_drewN ?_ _ | refine blk_drew ?_ | refine blk_alloc ?_ _)); exact BK128.out) (by simp [Ar.cells_size]) (by repeat (first | (with_reducible refine Ar.all_app ?_ ?_) | (with_reducible exact Ar.cells_one _ _ _) | (focus (simp [Value.oneCell']; done)) | rfl)) ?_; intro w8 hbk_ hg; have n0_ := Aside0.mk (Kd.V_grown (by (with_reducible repeat (first | apply Kd.V_alloc | apply Kd.V_drewN | apply Kd.V_drew)); exact HO_0.out) hg (by intro k_ hk e_; exact (hk.2) (Option.some.inj e_))); have n1_ := Aside0.mk (Kd.R_grown (by (with_reducible repeat (first | apply Kd.R_alloc | apply Kd.R_drewN | apply Kd.R_drew)); exact HO_2.out) hg (by intro k_ hk e_; exact (hk.2) (Option.some.inj e_))); have n2_ := Aside0.mk (Kd.V_grown (by (with_reducible repeat (first | apply Kd.V_alloc | apply Kd.V_drewN | apply Kd.V_drew)); exact HO127.out) hg (by intro k_ hk e_; exact (hk.2) (Option.some.inj e_))); have n3_ := Aside0.mk (hbk_); have n4_ := Aside0.mk (Below.grown (by repeat (first | (with_reducible first | exact HB.out | apply below_alloc | apply pw_below_drewN | apply below_drew1 | refine below_set ?_ GE128.out) | exact HB.out)) hg ((below_size (by repeat (first | (with_reducible first | exact HB.out | apply below_alloc | apply pw_below_drewN | apply below_drew1 | refine below_set ?_ GE128.out) | exact HB.out)))) (fun _ e_ => by cases e_; exact GE128.out)); clear HO_0; clear HO_2; clear HO127; clear BK128; clear HB; have HO_0 := n0_; have HO_2 := n1_; have HO127 := n2_; have BK128 := n3_; have HB := n4_; clear n0_ n1_ n2_ n3_ n4_; clear hbk_ hg) | ((with_reducible refine gate_dst (N := 14) rfl ?_); (try (refine gate_guard (by rfl) ?_; dsimp only)); refine Ar.gload_event rfl (T := 39) rfl Try.underlying39 rfl (D := (#[.int .i64 t120, .int .i64 t121, .int .u64 t122] ++ ((Ar.cells .u8 32 t123) ++ #[.int .i64 t124]))) (by first | (rw [Ar.cells_size]; kernel_rfl) | (simp only [Array.size_append, Ar.cells_size, List.size_toArray, List.length_cons, List.length_nil]; kernel_rfl)) (A := ⟨gb128, 0, none⟩) rfl (Ar.blk_part (by (with_reducible repeat (first | refine blk_drewN ?_ _ | refine blk_drew ?_ | refine blk_alloc ?_ _)); exact BK128.out) Ar.in_whole) ?_) | ((with_reducible refine gate_dst (N := 15) rfl ?_); (try (refine gate_guard (by rfl) ?_; dsimp only)); refine Ar.glit_event rfl (T := 25) (E := 39) rfl (D := (#[.int .i64 t120, .int .i64 t121, .int .u64 t122] ++ ((Ar.cells .u8 32 t123) ++ #[.int .i64 t124]))) Try.underlying25 info39 (by rfl) (by decide) (by decide) (by rfl) (by simp [Ar.cells_size]) ?_) | ((with_reducible refine gate_builtin (b := .append) (xs := #[.tmp 13, .tmp 15]) rfl ?_); (try (refine gate_guard (by rfl) ?_; dsimp only)); at_builtin; refine Kd.R_append k39 (w0 := w) w.heap.size ?r0 (.tmp 13) (.tmp 15) 25 39 (.agg #[(.int .i64 0), (.int .i64 0), (.int .u64 0), (.int .u8 0), (.int .u8 0), (.int .u8 0), (.int .u8 0), (.int .u8 0), (.int .u8 0), (.int .u8 0), (.int .u8 0), (.int .u8 0), (.int .u8 0), (.int .u8 0), (.int .u8 0), (.int .u8 0), (.int .u8 0), (.int .u8 0), (.int .u8 0), (.int .u8 0), (.int .u8 0), (.int .u8 0), (.int .u8 0), (.int .u8 0), (.int .u8 0), (.int .u8 0), (.int .u8 0), (.int .u8 0), (.int .u8 0), (.int .u8 0), (.int .u8 0), (.int .u8 0), (.int .u8 0), (.int .u8 0), (.int .u8 0), (.int .i64 0)]) 64 ?r1 Try.underlying25 info39 rfl (by decide) (by omega) u2 x2_1 (⟨t120, t121, t122, t123, t124⟩ : S39) _ (fun k_ => (w.heap.size ≤ k_) ∧ k_ ≠ gb128) (fun _ => False) ?r2 ?r3 ?aP (fun _ hk => hk.elim) ?aF ?aO ?aB ?aS ?aL ?_; (case r0 => rfl); (case r1 => rfl); (case r2 => first | rfl | (go_simp; done) | (go_simp; rfl)); (case r3 => first | rfl | (go_simp; done) | (go_simp; rfl)); (case aP => exact k39_mkM _ _ _ (⟨t120, t121, t122, t123, t124⟩ : S39)); (case aB => exact (by repeat (first | (with_reducible first | exact HB.out | apply below_alloc | apply pw_below_drewN | apply below_drew1 | refine below_set ?_ GE128.out) | exact HB.out))); (case aF => exact (fun k_ hk => ⟨(Nat.le_trans (below_size (by repeat (first | (with_reducible first | exact HB.out | apply below_alloc | apply pw_below_drewN | apply below_drew1 | refine below_set ?_ GE128.out) | exact HB.out))) hk), Kd.freshB (g := gb128) (o := .cells (#[.int .i64 t120, .int .i64 t121, .int .u64 t122] ++ ((Ar.cells .u8 32 t123) ++ #[.int .i64 t124])) 39 (0, 0)) (by (with_reducible repeat (first | refine blk_drewN ?_ _ | refine blk_drew ?_ | refine blk_alloc ?_ _)); exact BK128.out) k_ hk⟩)); (case aO => exact (by (with_reducible repeat (first | apply Kd.R_alloc | apply Kd.R_drewN | apply Kd.R_drew)); exact HO_2.out)); (case aS => exact (below_size (by repeat (first | (with_reducible first | exact HB.out | apply below_alloc | apply pw_below_drewN | apply below_drew1 | refine below_set ?_ GE128.out) | exact HB.out)))); (case aL => have := LMc4.out; omega); intro v130 w9 ho hb hg hat; rw [← Ny129.out] at ho; have n0_ := Aside0.mk (Kd.V_afterv (ok := (fun k_ => (P0_ k_ ∨ w.heap.size ≤ k_) ∧ k_ ≠ gb128)) (by (with_reducible repeat (first | apply Kd.V_alloc | apply Kd.V_drewN | apply Kd.V_drew)); exact Kd.V_mono HO_0.out (fun _ hk => ⟨⟨hk.1.1, hk.2⟩, hk.1.2⟩)) hg hat); have n1_ := Aside0.mk (Kd.V_afterv (ok := (fun k_ => (P0_ k_ ∨ w.heap.size ≤ k_) ∧ k_ ≠ gb128)) (by (with_reducible repeat (first | apply Kd.V_alloc | apply Kd.V_drewN | apply Kd.V_drew)); exact Kd.V_mono HO127.out (fun _ hk => ⟨⟨hk.1.1, hk.2⟩, hk.1.2⟩)) hg hat); have n2_ := Aside0.mk (blk_grown (g := gb128) (o := .cells (#[.int .i64 t120, .int .i64 t121, .int .u64 t122] ++ ((Ar.cells .u8 32 t123) ++ #[.int .i64 t124])) 39 (0, 0)) (by (with_reducible repeat (first | refine blk_drewN ?_ _ | refine blk_drew ?_ | refine blk_alloc ?_ _)); exact BK128.out) hg (Kd.R_away HO_2.out (fun _ hk => hk.2))); have n3_ := Aside0.mk (hb); have n4_ := Aside0.mk (ho); clear HO_0; clear HO127; clear BK128; clear HB; clear HO_2; have HO_0 := n0_; have HO127 := n1_; have BK128 := n2_; have HB := n3_; have HO131 := n4_; clear n0_ n1_ n2_ n3_ n4_; clear ho hb hg hat))
     go_roundg k1
     case measure => have := HK1.out; omega
     case rel => exact ⟨(t125), (y129), H', ⟨by have := HK1.out; omega⟩, ⟨by (with_reducible repeat (first | apply Kd.V_alloc | apply Kd.V_drewN | apply Kd.V_drew)); exact Kd.V_mono HO127.out (fun _ hk => ⟨hk.1.1, hk.2⟩)⟩, ⟨by (with_reducible repeat (first | apply Kd.R_alloc | apply Kd.R_drewN | apply Kd.R_drew)); exact Kd.R_mono HO131.out (fun _ hk => hk.1)⟩, ⟨by repeat (first | (with_reducible first | exact HB.out | apply below_alloc | apply pw_below_drewN | apply below_drew1 | refine below_set ?_ GE128.out) | exact HB.out)⟩⟩
    ·rw [if_neg c4] at H
     exact absurd H (by simp)
   ·rw [if_neg c2] at H
    have c2b0 : decide (0 < (x0_1.length : Int)) = false := decide_eq_false c2
    have c2b1 : decide (0 < x0_1.length) = false := decide_eq_false (by omega)
    clear c2
    obtain rfl := Option.some.inj H
    obtain ⟨Ao10, co10, eo10⟩ := Kd.V_slice HO_0.out
    subst eo10
    go_wp2
    go_ret
    exact ⟨_, by first | rfl | (simp [errW_none, errW_some] <;> rfl) | (simp [*, errW_none, errW_some] <;> rfl), by (with_reducible repeat (first | apply Kd.R_alloc | apply Kd.R_drewN | apply Kd.R_drew)); exact HO_2.out, by repeat (first | (with_reducible first | exact HB.out | apply below_alloc | apply pw_below_drewN | apply below_drew1) | exact HB.out)⟩

/-! ### op_bytes: function 23 -/
/-- A field's bytes. -/
def putF (k : Nat) (x : Fld) (o : S39) : Option (List Int) :=
  match x with
  | .h => if o.f3.length = 32 then slices_Clone_byte_byte.f o.f3 else none
  | .a => (word_Put64.f k o.f2).bind fun r => if r.length = 8 then some r else none
  | .w => (word_Put32.f (IntKind.u32.wrap o.f1)).bind fun r => if r.length = 4 then some r else none
  | .n => (word_Put32.f (IntKind.u32.wrap o.f4)).bind fun r => if r.length = 4 then some r else none
theorem putF.mono (x : Fld) (o : S39) (k : Nat) : LeO (putF k x o) (putF (k + 1) x o) := by
  cases x with
  | h => exact LeO.refl _
  | a => exact LeO.bind (word_Put64.mono _ k) (fun _ => LeO.refl _)
  | w => exact LeO.refl _
  | n => exact LeO.refl _
theorem putF.len {k : Nat} {x : Fld} {o : S39} {r : List Int} (h : putF k x o = some r) : r.length = x.size := by
  cases x with
  | h =>
    simp only [putF] at h
    split at h
    · rename_i e
      unfold slices_Clone_byte_byte.f at h
      simp only [Option.bind_some, List.length_nil, Nat.zero_add, List.nil_append] at h
      rw [if_pos (by omega)] at h
      rw [← Option.some.inj h]; exact e
    · exact absurd h (by simp)
  | a =>
    obtain ⟨r1, _, h2⟩ := Option.bind_eq_some_iff.mp (show (word_Put64.f k o.f2).bind (fun r => if r.length = 8 then some r else none) = some r from h)
    split at h2
    · rename_i e
      rw [← Option.some.inj h2]; exact e
    · exact absurd h2 (by simp)
  | w =>
    obtain ⟨r1, _, h2⟩ := Option.bind_eq_some_iff.mp (show (word_Put32.f (IntKind.u32.wrap o.f1)).bind (fun r => if r.length = 4 then some r else none) = some r from h)
    split at h2
    · rename_i e
      rw [← Option.some.inj h2]; exact e
    · exact absurd h2 (by simp)
  | n =>
    obtain ⟨r1, _, h2⟩ := Option.bind_eq_some_iff.mp (show (word_Put32.f (IntKind.u32.wrap o.f4)).bind (fun r => if r.length = 4 then some r else none) = some r from h)
    split at h2
    · rename_i e
      rw [← Option.some.inj h2]; exact e
    · exact absurd h2 (by simp)
def op_bytes.l (k : Nat) (o : S39) : List Fld → List Int → Option (List Int)
  | [], acc => some acc
  | x :: L, acc => (putF k x o).bind fun r => if acc.length + r.length < 140737488355328 then op_bytes.l k o L (acc ++ r) else none
theorem op_bytes.mono_l (o : S39) (k : Nat) : ∀ L acc, LeO (op_bytes.l k o L acc) (op_bytes.l (k + 1) o L acc)
  | [], _ => LeO.refl _
  | x :: L, acc => LeO.bind (putF.mono x o k) (fun _ => LeO.ite (op_bytes.mono_l o k L _) (LeO.none _))
def op_bytes.g (k : Nat) (o : S39) : Option (List Int) := if (flds o.f0).2 = true then op_bytes.l k o (flds o.f0).1 [o.f0 % 256] else some [o.f4 % 256]
def op_bytes.f (k : Nat) (a0 a1 a2 : Int) (a3 : List Int) (a4 : Int) : Option (List Int) := op_bytes.g k ⟨a0, a1, a2, a3, a4⟩
theorem op_bytes.mono : ∀ a0 a1 a2 a3 a4 k, LeO (op_bytes.f k a0 a1 a2 a3 a4) (op_bytes.f (k + 1) a0 a1 a2 a3 a4) := fun a0 a1 a2 a3 a4 k => by
  unfold op_bytes.f op_bytes.g
  exact LeO.ite (op_bytes.mono_l _ k _ _) (LeO.refl _)
/-- A field's function that puts. -/
theorem put_calls {k : Nat} {x : Fld} {o : S39} {r : List Int} (c : Nat) (h : putF k x o = some r) :
    ∃ f fn cap, x.put c = .func (.func f) #[] cap ∧ Try.prog.funcs[f]? = some fn ∧ (fn.name == "runtime.NumGoroutine") = false ∧ fn.body.isSome = true ∧ ∀ w, x.held w c → Calls Try.prog f (#[.agg (opC o)] ++ cap) w fun e w' => ∃ A c, e = .returned (.slice A r.length c) ∧ r.length ≤ c ∧ Kd.C (Kd.int .u8) w' A r.length r ∧ Below w.heap.size w w' := by
  have hl := putF.len h
  cases x with
  | h =>
    simp only [putF] at h
    split at h
    · rename_i e
      rw [hl]
      exact ⟨37, Try.f37, #[], rfl, Try.func37, by kernel_rfl, rfl, fun w hh => op_hash1.calls o r w h e⟩
    · exact absurd h (by simp)
  | a =>
    obtain ⟨r1, h1, h2⟩ := Option.bind_eq_some_iff.mp (show (word_Put64.f k o.f2).bind (fun r => if r.length = 8 then some r else none) = some r from h)
    split at h2
    · rename_i e
      obtain rfl := Option.some.inj h2
      rw [hl]
      exact ⟨40, Try.f40, #[], rfl, Try.func40, by kernel_rfl, rfl, fun w hh => op_amount1.calls k o r1 w h1 e⟩
    · exact absurd h2 (by simp)
  | w =>
    obtain ⟨r1, h1, h2⟩ := Option.bind_eq_some_iff.mp (show (word_Put32.f (IntKind.u32.wrap o.f1)).bind (fun r => if r.length = 4 then some r else none) = some r from h)
    split at h2
    · rename_i e
      obtain rfl := Option.some.inj h2
      rw [hl]
      exact ⟨47, Try.f47, #[.pointer (some ⟨c, 0, none⟩)], rfl, Try.func47, by kernel_rfl, rfl, fun w hh => op_small1.who o r1 c w hh h1 e⟩
    · exact absurd h2 (by simp)
  | n =>
    obtain ⟨r1, h1, h2⟩ := Option.bind_eq_some_iff.mp (show (word_Put32.f (IntKind.u32.wrap o.f4)).bind (fun r => if r.length = 4 then some r else none) = some r from h)
    split at h2
    · rename_i e
      obtain rfl := Option.some.inj h2
      rw [hl]
      exact ⟨47, Try.f47, #[.pointer (some ⟨c, 0, none⟩)], rfl, Try.func47, by kernel_rfl, rfl, fun w hh => op_small1.number o r1 c w hh h1 e⟩
    · exact absurd h2 (by simp)
set_option maxHeartbeats 8000000 in
set_option maxRecDepth 100000 in
theorem op_bytes.callsO (k : Nat) (o : S39) (r : List Int) (w : World) (h : op_bytes.g k o = some r) :
    Calls Try.prog 23 #[.agg (opC o)] w fun e w' => ∃ v0_, e = .returned v0_ ∧ Kd.R (Kd.int .u8) 5 w' w.heap.size (fun _ => True) v0_ r ∧ Below w.heap.size w w' := by
  have HB := Aside0.mk (Below.refl w.heap.size w)
  unfold op_bytes.g at h
  generalize hL : (flds o.f0).1 = L at h
  by_cases hok : (flds o.f0).2 = true
  · rw [if_pos hok] at h
    have H' := Aside0.mk h
    clear h
    go_enter Try.func23, Try.ntmps23
    go_wp2_with (first | ((with_reducible refine gate_dst (N := 1) rfl ?_); refine box_event ?hg (N := 1) ?hd (cs := opC o) (t := 39) ?hr ?_; (case hd => rfl); (case hg => rfl); (case hr => exact Ar.gbox_run rfl rfl); intro gb0 hg wx hbox hb; have n0_ := Aside0.mk (below_step (by repeat (first | (with_reducible first | exact HB.out | apply below_alloc | apply pw_below_drewN | apply below_drew1) | exact HB.out)) hb); have n1_ := Aside0.mk (hbox); have n2_ := Aside0.mk ((by rw [hg]; exact below_size (by repeat (first | (with_reducible first | exact HB.out | apply below_alloc | apply pw_below_drewN | apply below_drew1) | exact HB.out)) : w.heap.size ≤ gb0)); clear HB; have HB := n0_; have BO := n1_; have GEBO := n2_; clear n0_ n1_ n2_; clear hb hbox hg) | ((with_reducible refine gate_dst (N := 10) rfl ?_); refine Ar.cload_event rfl (T := 3) rfl Try.underlying3 rfl (A := ⟨gb0, 0, none⟩) rfl (v := .int .i64 o.f0) (Ar.blk_at (by (with_reducible repeat (first | refine blk_drewN ?_ _ | refine blk_drew ?_ | refine blk_alloc ?_ _)); exact BO.out) (opC_0 o)) ?_) | ((with_reducible refine gate_callee (f := 25) rfl ?_); refine goesL_ (some 11) rfl rfl Try.func25 (by kernel_rfl) rfl #[.int .i64 o.f0] rfl (by (try simp only [List.map_toArray, List.map_cons, List.map_nil]); first | done | rfl) ?_; refine (op_fields.calls o.f0 _).mono ?_; rintro e wf ⟨A, c, rfl, hf, hb⟩; refine ⟨_, rfl, ?_⟩; have n0_ := Aside0.mk (below_step (by repeat (first | (with_reducible first | exact HB.out | apply below_alloc | apply pw_below_drewN | apply below_drew1) | exact HB.out)) hb); have n1_ := Aside0.mk hf; have n2_ := Aside0.mk (blk_below (g := gb0) (o := .cells (opC o) 39 (0, 0)) (by (with_reducible repeat (first | refine blk_drewN ?_ _ | refine blk_drew ?_ | refine blk_alloc ?_ _)); exact BO.out) hb); clear HB hf hb BO; have HW := n0_; have HF := n1_; have BO := n2_; clear n0_ n1_ n2_; have HB := Aside0.mk (Below.refl wf.heap.size wf)) | ((with_reducible refine gate_dst (N := 21) rfl ?_); refine Ar.cload_event rfl (T := 3) rfl Try.underlying3 rfl (A := ⟨gb0, 0, none⟩) rfl (v := .int .i64 o.f0) (Ar.blk_at (by (with_reducible repeat (first | refine blk_drewN ?_ _ | refine blk_drew ?_ | refine blk_alloc ?_ _)); exact BO.out) (opC_0 o)) ?_) | (refine Kd.R_lit (Kd.int .u8) (w0 := wf) wf.heap.size 5 ?hg (N := 23) ?hd (xs := ([o.f0 % 256] : List Int)) (inner := [.int .u8 (o.f0 % 256)]) (ok := fun _ => True) (okp := fun _ => True) ?hr ?hp (fun _ hk => hk) trivial HB.out (below_size HB.out) (by simp) ?_; (case hd => rfl); (case hg => rfl); (case hr => first | (go_simp; done) | (go_simp; rfl)); (case hp => exact Reps.front rfl rfl (Reps.none _ _) (List.append_nil _)); intro v1 wl ho hb hg hat; have n0_ := Aside0.mk hb; have n1_ := Aside0.mk ho; clear HB ho hb hg hat; have HB := n0_; have HO := n1_; clear n0_ n1_))
    rw [hL] at HF
    go_loopg [5, 26] (L.length + 1) (fun kq v5 v26 w' => ∃ (i : Nat) (acc : List Int), v26 = .int .i64 (i : Int) ∧ Aside0 (kq + i = L.length + 1) ∧ Aside0 (op_bytes.l k o (L.drop i) acc = some r) ∧ Aside0 (Kd.R (Kd.int .u8) 5 w' wf.heap.size (fun _ => True) v5 acc) ∧ Aside0 (Below wf.heap.size wf w'))
    case atStart => exact ⟨0, _, rfl, ⟨rfl⟩, ⟨by simpa using H'.out⟩, HO, HB⟩
    case round =>
      clear HO HB H'
      obtain ⟨i, acc, rfl, HK, HA, HO, HB⟩ := hrel
      have H := HA.out
      clear HA
      by_cases c4 : i < L.length
      · obtain ⟨x, hx⟩ : ∃ x, L[i]? = some x := ⟨_, List.getElem?_eq_getElem c4⟩
        rw [List.drop_eq_getElem_cons c4, show L[i] = x by rw [List.getElem?_eq_getElem c4] at hx; exact Option.some.inj hx] at H
        obtain ⟨r1, hr1, H⟩ := Option.bind_eq_some_iff.mp (show (putF k x o).bind (fun r => if acc.length + r.length < 140737488355328 then op_bytes.l k o (L.drop (i + 1)) (acc ++ r) else none) = some r from H)
        by_cases hlim : acc.length + r1.length < 140737488355328
        · rw [if_pos hlim] at H
          have H' := Aside0.mk H
          have HLIM := Aside0.mk hlim
          obtain ⟨ad, cs, rfl, hv, hc⟩ := HF.out i x hx
          have HV := Aside0.mk hv
          have HC := Aside0.mk hc
          obtain ⟨c0, hcs, hh⟩ := hv
          obtain ⟨f_, fn_, cap_, hput, hn1, hn2, hn3, hcalls⟩ := put_calls c0 hr1
          have HX : Aside0 (cs.toList[1]? = some (.func (.func f_) #[] cap_)) := ⟨by rw [hcs, hput]; rfl⟩
          have HH := Aside0.mk (fun (w' : World) (hb : Below wf.heap.size wf w') => Fld.held_below hh hb)
          have HP := Aside0.mk hcalls
          have HN1 := Aside0.mk hn1
          have HN2 := Aside0.mk hn2
          have HN3 := Aside0.mk hn3
          have p1 := eq_true (show (0 : Int) ≤ (i : Int) by omega)
          have q1 := eq_true (show (i : Int) < (L.length : Int) by omega)
          have c4b0 : decide ((i : Int) < (L.length : Int)) = true := decide_eq_true (by omega)
          have c4b1 : decide (i < L.length) = true := decide_eq_true c4
          have C4 := Aside0.mk c4
          have LL := Aside0.mk (show L.length ≤ 2 by rw [← hL]; exact flds_len _)
          have HI := Aside0.mk (show wrap64 ((i : Int) + 1) = ((i + 1 : Nat) : Int) by have := LL.out; unfold wrap64; omega)
          clear hx hc c4 hcs hh hput hn1 hn2 hn3 hcalls hlim H
          go_wp2_with (first | ((with_reducible refine gate_dst (N := 29) rfl ?_); refine Ar.gload_event rfl (T := 55) rfl Try.underlying55 rfl (D := cs) (by rw [HV.out.size]; kernel_rfl) (A := ad.add (i * 3)) (by first | rfl | (go_simp; done) | (go_simp; rfl)) (fun j_ v_ hj_ => by rw [add_add]; exact (HB.out.cell (World.block_lt_of_cell? _ _ (HC.out j_ v_ hj_))).trans (HC.out j_ v_ hj_)) ?_) | ((with_reducible refine gate_dst (N := 7) rfl ?_); refine box_event ?hg (N := 7) ?hd (cs := #[.int .i64 0, .nilFunc, .nilFunc]) (t := 55) ?hr ?_; (case hd => rfl); (case hg => rfl); (case hr => exact Ar.galloc_run rfl (by kernel_rfl)); intro gb hg wx hbox hb; have n0_ := Aside0.mk (below_step (by repeat (first | (with_reducible first | exact HB.out | apply below_alloc | apply pw_below_drewN | apply below_drew1) | exact HB.out)) hb); have n1_ := Aside0.mk (hbox); have n2_ := Aside0.mk ((by rw [hg]; exact below_size (by repeat (first | (with_reducible first | exact HB.out | apply below_alloc | apply pw_below_drewN | apply below_drew1) | exact HB.out)) : wf.heap.size ≤ gb)); have f0_ := Aside0.mk (Kd.R_below (by (with_reducible repeat (first | apply Kd.R_alloc | apply Kd.R_drewN | apply Kd.R_drew)); exact HO.out) hb); have f1_ := Aside0.mk (fun e_ => by have hl_ := Kd.R_lt HO.out _ e_.symm; omega : some gb ≠ (u5 : Value).ownBlock); clear HO; have HO := f0_; have NO := f1_; clear f0_ f1_; clear HB; have HB := n0_; have BK := n1_; have GEBK := n2_; clear n0_ n1_ n2_; clear hb hbox hg) | ((with_reducible refine gate_store (t := 55) (p := 7) rfl ?_); refine Ar.gstore_event rfl rfl rfl (D := cs) (by rw [HV.out.size]; kernel_rfl) (g := gb) rfl (by first | rfl | (go_simp; done) | (go_simp; rfl)) (by (with_reducible repeat (first | refine blk_drewN ?_ _ | refine blk_drew ?_ | refine blk_alloc ?_ _)); exact BK.out) (by rw [HV.out.size]; rfl) HV.out.one ?_; intro wz hbk_ hg; have n0_ := Aside0.mk hbk_; have n1_ := Aside0.mk (Below.grown (by repeat (first | (with_reducible first | exact HB.out | apply below_alloc | apply pw_below_drewN | apply below_drew1) | exact HB.out)) hg (below_size (by repeat (first | (with_reducible first | exact HB.out | apply below_alloc | apply pw_below_drewN | apply below_drew1) | exact HB.out))) (fun _ e_ => by cases e_; exact GEBK.out)); have n2_ := Aside0.mk (Kd.R_grown1 HO.out rfl hg NO.out); clear BK HB HO hbk_ hg; have BK := n0_; have HB := n1_; have HO := n2_; clear n0_ n1_ n2_) | ((with_reducible refine gate_dst (N := 32) rfl ?_); refine Ar.cload_event rfl (T := 48) rfl Try.underlying48 rfl (A := ⟨gb, 1, none⟩) rfl (v := .func (.func f_) #[] cap_) (Ar.blk_at (by (with_reducible repeat (first | refine blk_drewN ?_ _ | refine blk_drew ?_ | refine blk_alloc ?_ _)); exact BK.out) HX.out) ?_) | ((with_reducible refine gate_dst (N := 33) rfl ?_); refine Ar.gload_event rfl (T := 39) rfl Try.underlying39 rfl (D := opC o) (by simp only [opC, Array.size_append, Ar.cells_size, List.size_toArray, List.length_cons, List.length_nil]; kernel_rfl) (A := ⟨gb0, 0, none⟩) rfl (Ar.blk_part (blk_below (g := gb0) (o := .cells (opC o) 39 (0, 0)) BO.out HB.out) Ar.in_whole) ?_) | ((with_reducible refine gate_calleeT (j := 32) rfl ?_); refine goesT_ (some 34) rfl rfl HN1.out HN2.out HN3.out (#[.agg (opC o)] ++ cap_) rfl rfl (by first | rfl | (simp only [List.map_toArray, List.map_cons, List.map_nil]; rfl)) ?_; refine (HP.out _ (HH.out _ HB.out)).mono ?_; rintro e wx ⟨A1, c1, rfl, hc1, hC, hb⟩; refine ⟨_, rfl, ?_⟩; have n0_ := Aside0.mk (below_step (by repeat (first | (with_reducible first | exact HB.out | apply below_alloc | apply pw_below_drewN | apply below_drew1) | exact HB.out)) hb); have n1_ := Aside0.mk (Kd.R_below (by (with_reducible repeat (first | apply Kd.R_alloc | apply Kd.R_drewN | apply Kd.R_drew)); exact HO.out) hb); have n2_ := Aside0.mk hC; clear HB HO hb hC hc1; have HB := n0_; have HO := n1_; have HS := n2_; clear n0_ n1_ n2_) | (refine Kd.R_append_rows (Kd.int .u8) (w0 := wf) wf.heap.size rfl (.tmp 30) (.tmp 34) 22 5 (.int .u8 0) 1 rfl Try.underlying22 info5 rfl (by decide) (by omega) u5 acc r1 A1 r1.length c1 (fun _ => True) (fun _ => False) rfl rfl ?aO ?aR (fun _ _ h => h) (fun _ h => h.elim) (fun _ _ => trivial) ?aB ?aS ?aL ?_; (case aO => exact HO.out); (case aR => exact HS.out); (case aB => exact HB.out); (case aS => exact below_size HB.out); (case aL => have := HLIM.out; omega); intro v1 w9 ho hb hg hat; have n0_ := Aside0.mk hb; have n1_ := Aside0.mk ho; clear HB HO HS ho hb hg hat; have HB := n0_; have HO := n1_; clear n0_ n1_))
          obtain ⟨k1, rfl⟩ : ∃ m, gk = m + 1 := ⟨gk - 1, by have := HK.out; have := C4.out; omega⟩
          go_roundg k1
          case measure => omega
          case rel => exact ⟨i + 1, _, by rw [HI.out], ⟨by have := HK.out; omega⟩, H', HO, HB⟩
        · rw [if_neg hlim] at H
          exact absurd H (by simp)
      · have c4b0 : decide ((i : Int) < (L.length : Int)) = false := decide_eq_false (by omega)
        have c4b1 : decide (i < L.length) = false := decide_eq_false c4
        rw [List.drop_eq_nil_of_le (by omega)] at H
        obtain rfl : acc = r := Option.some.inj H
        clear c4 H
        go_wp2
        go_ret
        exact ⟨_, rfl, Kd.R_lower HO.out (below_size HW.out), below_step HW.out HB.out⟩
  · have hok' : (flds o.f0).2 = false := by simpa using hok
    rw [if_neg hok] at h
    obtain rfl := Option.some.inj h
    clear hok h
    go_enter Try.func23, Try.ntmps23
    go_wp2_with (first | ((with_reducible refine gate_dst (N := 1) rfl ?_); refine box_event ?hg (N := 1) ?hd (cs := opC o) (t := 39) ?hr ?_; (case hd => rfl); (case hg => rfl); (case hr => exact Ar.gbox_run rfl rfl); intro gb0 hg wx hbox hb; have n0_ := Aside0.mk (below_step (by repeat (first | (with_reducible first | exact HB.out | apply below_alloc | apply pw_below_drewN | apply below_drew1) | exact HB.out)) hb); have n1_ := Aside0.mk (hbox); have n2_ := Aside0.mk ((by rw [hg]; exact below_size (by repeat (first | (with_reducible first | exact HB.out | apply below_alloc | apply pw_below_drewN | apply below_drew1) | exact HB.out)) : w.heap.size ≤ gb0)); clear HB; have HB := n0_; have BO := n1_; have GEBO := n2_; clear n0_ n1_ n2_; clear hb hbox hg) | ((with_reducible refine gate_dst (N := 10) rfl ?_); refine Ar.cload_event rfl (T := 3) rfl Try.underlying3 rfl (A := ⟨gb0, 0, none⟩) rfl (v := .int .i64 o.f0) (Ar.blk_at (by (with_reducible repeat (first | refine blk_drewN ?_ _ | refine blk_drew ?_ | refine blk_alloc ?_ _)); exact BO.out) (opC_0 o)) ?_) | ((with_reducible refine gate_callee (f := 25) rfl ?_); refine goesL_ (some 11) rfl rfl Try.func25 (by kernel_rfl) rfl #[.int .i64 o.f0] rfl (by (try simp only [List.map_toArray, List.map_cons, List.map_nil]); first | done | rfl) ?_; refine (op_fields.calls o.f0 _).mono ?_; rintro e wf ⟨A, c, rfl, hf, hb⟩; refine ⟨_, rfl, ?_⟩; have n0_ := Aside0.mk (below_step (by repeat (first | (with_reducible first | exact HB.out | apply below_alloc | apply pw_below_drewN | apply below_drew1) | exact HB.out)) hb); have n1_ := Aside0.mk hf; have n2_ := Aside0.mk (blk_below (g := gb0) (o := .cells (opC o) 39 (0, 0)) (by (with_reducible repeat (first | refine blk_drewN ?_ _ | refine blk_drew ?_ | refine blk_alloc ?_ _)); exact BO.out) hb); clear HB hf hb BO; have HW := n0_; have HF := n1_; have BO := n2_; clear n0_ n1_ n2_; have HB := Aside0.mk (Below.refl wf.heap.size wf)) | ((with_reducible refine gate_dst (N := 17) rfl ?_); refine Ar.cload_event rfl (T := 3) rfl Try.underlying3 rfl (A := ⟨gb0, 35, none⟩) rfl (v := .int .i64 o.f4) (Ar.blk_at (by (with_reducible repeat (first | refine blk_drewN ?_ _ | refine blk_drew ?_ | refine blk_alloc ?_ _)); exact BO.out) (opC_35 o)) ?_) | (refine Kd.R_lit (Kd.int .u8) (w0 := wf) wf.heap.size 5 ?hg (N := 19) ?hd (xs := ([o.f4 % 256] : List Int)) (inner := [.int .u8 (o.f4 % 256)]) (ok := fun _ => True) (okp := fun _ => True) ?hr ?hp (fun _ hk => hk) trivial HB.out (below_size HB.out) (by simp) ?_; (case hd => rfl); (case hg => rfl); (case hr => first | (go_simp; done) | (go_simp; rfl)); (case hp => exact Reps.front rfl rfl (Reps.none _ _) (List.append_nil _)); intro v1 wl ho hb hg hat; have n0_ := Aside0.mk hb; have n1_ := Aside0.mk ho; clear HB ho hb hg hat; have HB := n0_; have HO := n1_; clear n0_ n1_))
    go_ret
    exact ⟨_, rfl, Kd.R_lower HO.out (below_size HW.out), below_step HW.out HB.out⟩
theorem op_bytes.calls (k : Nat) (a0 a1 a2 : Int) (a3 : List Int) (a4 : Int) (r : List Int) (w : World) (h : op_bytes.f k a0 a1 a2 a3 a4 = some r) :
    Calls Try.prog 23 #[.agg (#[.int .i64 a0, .int .i64 a1, .int .u64 a2] ++ (Ar.cells .u8 32 a3 ++ #[.int .i64 a4]))] w fun e w' => ∃ v0_, e = .returned v0_ ∧ Kd.R (Kd.int .u8) 5 w' w.heap.size (fun _ => True) v0_ r ∧ Below w.heap.size w w' := op_bytes.callsO k ⟨a0, a1, a2, a3, a4⟩ r w h

/-! ### op_Right: function 16 -/
def op_Right.j0 : Nat → Bool → Int → Int → Int → List Int → Int → Option (Bool)
 | 0, _, _, _, _, _, _ => none
 | k + 1, x23, x133000, x133001, x133002, x133003, x133004 => if x23 = true then (some false) else ((op_bytes.f k x133000 x133001 x133002 x133003 x133004).bind fun t133 => ((op_one.f k t133).bind fun bt136 => (if (eqS39 (⟨bt136.1, bt136.2.1, bt136.2.2.1, bt136.2.2.2.1, bt136.2.2.2.2.1⟩ : S39) (⟨x133000, x133001, x133002, x133003, x133004⟩ : S39)) = true then (if (bt136.2.2.2.2.2.length : Int) = 0 then ((op_whole.f t133).bind fun t145 => (some t145)) else (some false)) else (some false))))
def op_Right.f (k : Nat) (a0_0 : Int) (a0_1 : Int) (a0_2 : Int) (a0_3 : List Int) (a0_4 : Int) : Option (Bool) := if a0_1 < 0 then (op_Right.j0 k true a0_0 a0_1 a0_2 a0_3 a0_4) else (if a0_1 > 4294967295 then (op_Right.j0 k true a0_0 a0_1 a0_2 a0_3 a0_4) else (if a0_4 < 0 then (op_Right.j0 k true a0_0 a0_1 a0_2 a0_3 a0_4) else (op_Right.j0 k (decide (a0_4 > 4294967295)) a0_0 a0_1 a0_2 a0_3 a0_4)))
theorem op_Right.mono_l : ∀ k, (∀ y0 y1 y2 y3 y4 y5, LeO (op_Right.j0 k y0 y1 y2 y3 y4 y5) (op_Right.j0 (k + 1) y0 y1 y2 y3 y4 y5))
 | 0 => fun _ _ _ _ _ _ r h => by simp [op_Right.j0] at h
 | k + 1 => by
  have ih0 := op_Right.mono_l k
  ·intro y0 y1 y2 y3 y4 y5
   unfold op_Right.j0
   repeat' first
   | (with_reducible exact ih0 _ _ _ _ _ _)
   | (with_reducible exact op_bytes.mono _ _ _ _ _ _)
   | (with_reducible exact op_one.mono _ _)
   | (with_reducible exact LeO.refl _)
   | (with_reducible exact LeO.none _)
   | (with_reducible refine LeO.ite ?_ ?_)
   | (with_reducible refine LeO.bind ?_ (fun _ => ?_))
   | exact ih0 _ _ _ _ _ _
   | exact op_bytes.mono _ _ _ _ _ _
   | exact op_one.mono _ _
   | exact LeO.none _
   | refine LeO.ite ?_ ?_
   | refine LeO.bind ?_ (fun _ => ?_)
theorem op_Right.mono : ∀ a0 a1 a2 a3 a4 k, LeO (op_Right.f k a0 a1 a2 a3 a4) (op_Right.f (k + 1) a0 a1 a2 a3 a4) := by
 intro a0 a1 a2 a3 a4 k
 have ih0 := op_Right.mono_l k
 unfold op_Right.f
 repeat' first
   | (with_reducible exact ih0 _ _ _ _ _ _)
   | (with_reducible exact op_bytes.mono _ _ _ _ _ _)
   | (with_reducible exact op_one.mono _ _)
   | (with_reducible exact LeO.refl _)
   | (with_reducible exact LeO.none _)
   | (with_reducible refine LeO.ite ?_ ?_)
   | (with_reducible refine LeO.bind ?_ (fun _ => ?_))
   | exact ih0 _ _ _ _ _ _
   | exact op_bytes.mono _ _ _ _ _ _
   | exact op_one.mono _ _
   | exact LeO.none _
   | refine LeO.ite ?_ ?_
   | refine LeO.bind ?_ (fun _ => ?_)
set_option maxHeartbeats 8000000 in
set_option maxRecDepth 100000 in
theorem op_Right.calls (k : Nat) (a0_0 : Int) (a0_1 : Int) (a0_2 : Int) (a0_3 : List Int) (a0_4 : Int) (r : Bool) (w : World) (h : op_Right.f k a0_0 a0_1 a0_2 a0_3 a0_4 = some r) :
  Calls Try.prog 16 #[.agg (#[.int .i64 a0_0, .int .i64 a0_1, .int .u64 a0_2] ++ (Ar.cells .u8 32 a0_3 ++ #[.int .i64 a0_4]))] w fun e w' => e = .returned (.bool r) ∧ Below w.heap.size w w' := by
 have hu39 := Try.underlying39
 have HB := Aside0.mk (Below.refl w.heap.size w)
 have H : (if a0_1 < 0 then (op_Right.j0 k true a0_0 a0_1 a0_2 a0_3 a0_4) else (if a0_1 > 4294967295 then (op_Right.j0 k true a0_0 a0_1 a0_2 a0_3 a0_4) else (if a0_4 < 0 then (op_Right.j0 k true a0_0 a0_1 a0_2 a0_3 a0_4) else (op_Right.j0 k (decide (a0_4 > 4294967295)) a0_0 a0_1 a0_2 a0_3 a0_4)))) = some r := h
 clear h
 have HC2 := Aside0.mk H
 clear H
 go_enter Try.func16, Try.ntmps16
 go_upto_region 1 with (first | ((with_reducible refine gate_dst (N := 1) rfl ?_); (try (refine gate_guard (by rfl) ?_; dsimp only)); refine box_event ?hg (N := 1) ?hd (cs := (#[.int .i64 a0_0, .int .i64 a0_1, .int .u64 a0_2] ++ ((Ar.cells .u8 32 a0_3) ++ #[.int .i64 a0_4]))) (t := 39) ?hr ?_; (case hd => rfl); (case hg => rfl); (case hr => first | exact Ar.gbox_run rfl rfl | exact Ar.galloc_run rfl (by kernel_rfl) | (go_simp; done) | (go_simp; rfl)); intro gb132 hg w3 hbox hb; have n0_ := Aside0.mk (below_step (by repeat (first | (with_reducible first | exact HB.out | apply below_alloc | apply pw_below_drewN | apply below_drew1) | exact HB.out)) hb); have n1_ := Aside0.mk (hbox); have n2_ := Aside0.mk ((by rw [hg]; exact (below_size (by repeat (first | (with_reducible first | exact HB.out | apply below_alloc | apply pw_below_drewN | apply below_drew1) | exact HB.out))) : w.heap.size ≤ gb132)); have n3_ := Aside0.mk ((by rw [hg]; exact (below_size (by repeat (first | (with_reducible first | exact HB.out | apply below_alloc | apply pw_below_drewN | apply below_drew1) | exact HB.out))) : w.heap.size ≤ gb132)); clear HB; have HB := n0_; have BK132 := n1_; have GW132 := n2_; have GE132 := n3_; clear n0_ n1_ n2_ n3_; clear hb hbox hg))
 (try simp only [Act.put, List.setIfInBounds_toArray, List.set_cons_zero, List.set_cons_succ])
 go_cut [23] (fun v23 wc => ∃ (kq : Nat) (x23_1 : Bool), v23 = .bool x23_1 ∧ Aside0 (op_Right.j0 kq x23_1 a0_0 a0_1 a0_2 a0_3 a0_4 = some r) ∧ Aside0 (kq ≤ k) ∧ Aside0 (wc.heap[gb132]? = some (.cells (#[.int .i64 a0_0, .int .i64 a0_1, .int .u64 a0_2] ++ (Ar.cells .u8 32 a0_3 ++ #[.int .i64 a0_4])) 39 (0, 0))) ∧ Aside0 (Below w.heap.size w wc))
 case first =>
  have H := HC2.out
  clear HC2
  by_cases c4 : a0_1 < 0
  ·rw [if_pos c4] at H
   have c4b0 : decide (a0_1 < 0) = true := decide_eq_true c4
   clear c4
   (first | rw [c4b0] | (simp only [i64_w, i32_w]; rw [c4b0]) | skip)
   have H' := Aside0.mk H
   clear H
   have hcz5_0 : w3.cell? ⟨gb132, 0, none⟩ = some (.int .i64 a0_0) := (blk_cell BK132.out 0).trans (by first | (simp [Array.getElem?_append, Ar.cells_size]; done) | (simp [Array.getElem?_append, Array.getElem_push, Ar.cells_size]; done))
   have hcz5_1 : w3.cell? ⟨gb132, 1, none⟩ = some (.int .i64 a0_1) := (blk_cell BK132.out 1).trans (by first | (simp [Array.getElem?_append, Ar.cells_size]; done) | (simp [Array.getElem?_append, Array.getElem_push, Ar.cells_size]; done))
   have hcz5_2 : w3.cell? ⟨gb132, 2, none⟩ = some (.int .u64 a0_2) := (blk_cell BK132.out 2).trans (by first | (simp [Array.getElem?_append, Ar.cells_size]; done) | (simp [Array.getElem?_append, Array.getElem_push, Ar.cells_size]; done))
   have hcz5_4 : w3.cell? ⟨gb132, 35, none⟩ = some (.int .i64 a0_4) := (blk_cell BK132.out 35).trans (by first | (simp [Array.getElem?_append, Ar.cells_size]; done) | (simp [Array.getElem?_append, Array.getElem_push, Ar.cells_size]; done))
   go_wp2
   go_meet
   case rel => exact ⟨_, (true), (by first | rfl | (simp; done) | (simp [*]; done)), H', ⟨by first | omega | exact Nat.le_refl _⟩, ⟨by (with_reducible repeat (first | refine blk_drewN ?_ _ | refine blk_drew ?_ | refine blk_alloc ?_ _)); exact BK132.out⟩, ⟨by repeat (first | (with_reducible first | exact HB.out | apply below_alloc | apply pw_below_drewN | apply below_drew1 | refine below_set ?_ GE132.out) | exact HB.out)⟩⟩
  ·rw [if_neg c4] at H
   have c4b0 : decide (a0_1 < 0) = false := decide_eq_false c4
   clear c4
   (first | rw [c4b0] | (simp only [i64_w, i32_w]; rw [c4b0]) | skip)
   by_cases c6 : a0_1 > 4294967295
   ·rw [if_pos c6] at H
    have c6b0 : decide (4294967295 < a0_1) = true := decide_eq_true c6
    clear c6
    have H' := Aside0.mk H
    clear H
    have hcz7_0 : w3.cell? ⟨gb132, 0, none⟩ = some (.int .i64 a0_0) := (blk_cell BK132.out 0).trans (by first | (simp [Array.getElem?_append, Ar.cells_size]; done) | (simp [Array.getElem?_append, Array.getElem_push, Ar.cells_size]; done))
    have hcz7_1 : w3.cell? ⟨gb132, 1, none⟩ = some (.int .i64 a0_1) := (blk_cell BK132.out 1).trans (by first | (simp [Array.getElem?_append, Ar.cells_size]; done) | (simp [Array.getElem?_append, Array.getElem_push, Ar.cells_size]; done))
    have hcz7_2 : w3.cell? ⟨gb132, 2, none⟩ = some (.int .u64 a0_2) := (blk_cell BK132.out 2).trans (by first | (simp [Array.getElem?_append, Ar.cells_size]; done) | (simp [Array.getElem?_append, Array.getElem_push, Ar.cells_size]; done))
    have hcz7_4 : w3.cell? ⟨gb132, 35, none⟩ = some (.int .i64 a0_4) := (blk_cell BK132.out 35).trans (by first | (simp [Array.getElem?_append, Ar.cells_size]; done) | (simp [Array.getElem?_append, Array.getElem_push, Ar.cells_size]; done))
    go_wp2
    go_meet
    case rel => exact ⟨_, (true), (by first | rfl | (simp; done) | (simp [*]; done)), H', ⟨by first | omega | exact Nat.le_refl _⟩, ⟨by (with_reducible repeat (first | refine blk_drewN ?_ _ | refine blk_drew ?_ | refine blk_alloc ?_ _)); exact BK132.out⟩, ⟨by repeat (first | (with_reducible first | exact HB.out | apply below_alloc | apply pw_below_drewN | apply below_drew1 | refine below_set ?_ GE132.out) | exact HB.out)⟩⟩
   ·rw [if_neg c6] at H
    have c6b0 : decide (4294967295 < a0_1) = false := decide_eq_false c6
    clear c6
    by_cases c8 : a0_4 < 0
    ·rw [if_pos c8] at H
     have c8b0 : decide (a0_4 < 0) = true := decide_eq_true c8
     clear c8
     have H' := Aside0.mk H
     clear H
     have hcz9_0 : w3.cell? ⟨gb132, 0, none⟩ = some (.int .i64 a0_0) := (blk_cell BK132.out 0).trans (by first | (simp [Array.getElem?_append, Ar.cells_size]; done) | (simp [Array.getElem?_append, Array.getElem_push, Ar.cells_size]; done))
     have hcz9_1 : w3.cell? ⟨gb132, 1, none⟩ = some (.int .i64 a0_1) := (blk_cell BK132.out 1).trans (by first | (simp [Array.getElem?_append, Ar.cells_size]; done) | (simp [Array.getElem?_append, Array.getElem_push, Ar.cells_size]; done))
     have hcz9_2 : w3.cell? ⟨gb132, 2, none⟩ = some (.int .u64 a0_2) := (blk_cell BK132.out 2).trans (by first | (simp [Array.getElem?_append, Ar.cells_size]; done) | (simp [Array.getElem?_append, Array.getElem_push, Ar.cells_size]; done))
     have hcz9_4 : w3.cell? ⟨gb132, 35, none⟩ = some (.int .i64 a0_4) := (blk_cell BK132.out 35).trans (by first | (simp [Array.getElem?_append, Ar.cells_size]; done) | (simp [Array.getElem?_append, Array.getElem_push, Ar.cells_size]; done))
     go_wp2
     go_meet
     case rel => exact ⟨_, (true), (by first | rfl | (simp; done) | (simp [*]; done)), H', ⟨by first | omega | exact Nat.le_refl _⟩, ⟨by (with_reducible repeat (first | refine blk_drewN ?_ _ | refine blk_drew ?_ | refine blk_alloc ?_ _)); exact BK132.out⟩, ⟨by repeat (first | (with_reducible first | exact HB.out | apply below_alloc | apply pw_below_drewN | apply below_drew1 | refine below_set ?_ GE132.out) | exact HB.out)⟩⟩
    ·rw [if_neg c8] at H
     have c8b0 : decide (a0_4 < 0) = false := decide_eq_false c8
     clear c8
     have H' := Aside0.mk H
     clear H
     have hcz10_0 : w3.cell? ⟨gb132, 0, none⟩ = some (.int .i64 a0_0) := (blk_cell BK132.out 0).trans (by first | (simp [Array.getElem?_append, Ar.cells_size]; done) | (simp [Array.getElem?_append, Array.getElem_push, Ar.cells_size]; done))
     have hcz10_1 : w3.cell? ⟨gb132, 1, none⟩ = some (.int .i64 a0_1) := (blk_cell BK132.out 1).trans (by first | (simp [Array.getElem?_append, Ar.cells_size]; done) | (simp [Array.getElem?_append, Array.getElem_push, Ar.cells_size]; done))
     have hcz10_2 : w3.cell? ⟨gb132, 2, none⟩ = some (.int .u64 a0_2) := (blk_cell BK132.out 2).trans (by first | (simp [Array.getElem?_append, Ar.cells_size]; done) | (simp [Array.getElem?_append, Array.getElem_push, Ar.cells_size]; done))
     have hcz10_4 : w3.cell? ⟨gb132, 35, none⟩ = some (.int .i64 a0_4) := (blk_cell BK132.out 35).trans (by first | (simp [Array.getElem?_append, Ar.cells_size]; done) | (simp [Array.getElem?_append, Array.getElem_push, Ar.cells_size]; done))
     go_wp2
     go_meet
     case rel => exact ⟨_, (decide (a0_4 > 4294967295)), (by first | rfl | (simp; done) | (simp [*]; done)), H', ⟨by first | omega | exact Nat.le_refl _⟩, ⟨by (with_reducible repeat (first | refine blk_drewN ?_ _ | refine blk_drew ?_ | refine blk_alloc ?_ _)); exact BK132.out⟩, ⟨by repeat (first | (with_reducible first | exact HB.out | apply below_alloc | apply pw_below_drewN | apply below_drew1 | refine below_set ?_ GE132.out) | exact HB.out)⟩⟩
 case rest =>
  clear HC2
  try clear c1
  try clear p2
  try clear c4
  try clear c4b0
  try clear c6
  try clear c6b0
  try clear c8
  try clear c8b0
  try clear hcz10_0
  try clear hcz10_1
  try clear hcz10_2
  try clear hcz10_4
  try clear hcz5_0
  try clear hcz5_1
  try clear hcz5_2
  try clear hcz5_4
  try clear hcz7_0
  try clear hcz7_1
  try clear hcz7_2
  try clear hcz7_4
  try clear hcz9_0
  try clear hcz9_1
  try clear hcz9_2
  try clear hcz9_4
  obtain ⟨kq, x23_1, rfl, HA, HJ1, BK132, HB⟩ := hcut
  cases kq with
  | zero => exact absurd HA.out (by simp [op_Right.j0])
  | succ kj1 =>
   have H := HA.out
   clear HA
   simp only [op_Right.j0] at H
   by_cases c11 : x23_1 = true
   ·subst c11
    have H1 : (some false) = some r := by rw [if_pos rfl] at H; exact H
    clear H
    have H := H1
    clear H1
    obtain rfl := Option.some.inj H
    go_wp2
    go_ret
    exact ⟨by first | rfl | (simp [errW_none, errW_some] <;> rfl) | (simp [*, errW_none, errW_some] <;> rfl), by repeat (first | (with_reducible first | exact HB.out | apply below_alloc | apply pw_below_drewN | apply below_drew1 | refine below_set ?_ GE132.out) | exact HB.out)⟩
   ·replace c11 := Bool.eq_false_iff.mpr c11
    subst c11
    have H1 : ((op_bytes.f kj1 a0_0 a0_1 a0_2 a0_3 a0_4).bind fun t133 => ((op_one.f kj1 t133).bind fun bt136 => (if (eqS39 (⟨bt136.1, bt136.2.1, bt136.2.2.1, bt136.2.2.2.1, bt136.2.2.2.2.1⟩ : S39) (⟨a0_0, a0_1, a0_2, a0_3, a0_4⟩ : S39)) = true then (if (bt136.2.2.2.2.2.length : Int) = 0 then ((op_whole.f t133).bind fun t145 => (some t145)) else (some false)) else (some false)))) = some r := by rw [if_neg (show ¬ (false = true) by decide)] at H; exact H
    clear H
    have H := H1
    clear H1
    replace H := Option.bind_eq_some_iff.mp H
    obtain ⟨t133, A120, H⟩ := H
    replace H : ((op_one.f kj1 t133).bind fun bt136 => (if (eqS39 (⟨bt136.1, bt136.2.1, bt136.2.2.1, bt136.2.2.2.1, bt136.2.2.2.2.1⟩ : S39) (⟨a0_0, a0_1, a0_2, a0_3, a0_4⟩ : S39)) = true then (if (bt136.2.2.2.2.2.length : Int) = 0 then ((op_whole.f t133).bind fun t145 => (some t145)) else (some false)) else (some false))) = some r := H
    have A12 := Aside0.mk A120
    clear A120
    replace H := Option.bind_eq_some_iff.mp H
    obtain ⟨⟨t136, t137, t138, t139, t140, t141⟩, A130, H⟩ := H
    replace H : (if (eqS39 (⟨t136, t137, t138, t139, t140⟩ : S39) (⟨a0_0, a0_1, a0_2, a0_3, a0_4⟩ : S39)) = true then (if (t141.length : Int) = 0 then ((op_whole.f t133).bind fun t145 => (some t145)) else (some false)) else (some false)) = some r := H
    have A13 := Aside0.mk A130
    clear A130
    by_cases c14 : (eqS39 (⟨t136, t137, t138, t139, t140⟩ : S39) (⟨a0_0, a0_1, a0_2, a0_3, a0_4⟩ : S39)) = true
    ·rw [if_pos c14] at H
     have c14b0 : (eqS39 (⟨t136, t137, t138, t139, t140⟩ : S39) (⟨a0_0, a0_1, a0_2, a0_3, a0_4⟩ : S39)) = true := c14
     clear c14
     by_cases c15 : (t141.length : Int) = 0
     ·rw [if_pos c15] at H
      have c15b0 : ((t141.length : Int) == 0) = true := beq_iff_eq.mpr c15
      have c15b1 : ((t141.length : Int) != 0) = false := bne_eq_false_iff_eq.mpr c15
      clear c15
      replace H := Option.bind_eq_some_iff.mp H
      obtain ⟨t145, A160, H⟩ := H
      replace H : (some t145) = some r := H
      have A16 := Aside0.mk A160
      clear A160
      obtain rfl := Option.some.inj H
      go_wp2_with (first | ((with_reducible refine gate_dst (N := 24) rfl ?_); (try (refine gate_guard (by rfl) ?_; dsimp only)); refine Ar.gload_event rfl (T := 39) rfl Try.underlying39 rfl (D := (#[.int .i64 a0_0, .int .i64 a0_1, .int .u64 a0_2] ++ ((Ar.cells .u8 32 a0_3) ++ #[.int .i64 a0_4]))) (by first | (rw [Ar.cells_size]; kernel_rfl) | (simp only [Array.size_append, Ar.cells_size, List.size_toArray, List.length_cons, List.length_nil]; kernel_rfl)) (A := ⟨gb132, 0, none⟩) rfl (Ar.blk_part (by (with_reducible repeat (first | refine blk_drewN ?_ _ | refine blk_drew ?_ | refine blk_alloc ?_ _)); exact BK132.out) Ar.in_whole) ?_) | ((with_reducible refine gate_callee (f := 23) rfl ?_); refine goesL_ (some 25) rfl rfl Try.func23 (by kernel_rfl) rfl #[.agg (#[.int .i64 a0_0, .int .i64 a0_1, .int .u64 a0_2] ++ ((Ar.cells .u8 32 a0_3) ++ #[.int .i64 a0_4]))] rfl (by (try simp only [List.map_toArray, List.map_cons, List.map_nil]); first | done | rfl | (simp only [List.length_drop, List.length_take]; rfl)) ?_; (with_reducible refine (op_bytes.calls kj1 a0_0 a0_1 a0_2 a0_3 a0_4 t133 _ A12.out).mono ?_); rintro e w17 ⟨v134, rfl, ho0, hb⟩; refine ⟨_, rfl, ?_⟩; have n0_ := Aside0.mk (Kd.R_lower ho0 (below_size (by repeat (first | (with_reducible first | exact HB.out | apply below_alloc | apply pw_below_drewN | apply below_drew1 | refine below_set ?_ GE132.out) | exact HB.out)))); have n1_ := Aside0.mk (blk_below (g := gb132) (o := .cells (#[.int .i64 a0_0, .int .i64 a0_1, .int .u64 a0_2] ++ ((Ar.cells .u8 32 a0_3) ++ #[.int .i64 a0_4])) 39 (0, 0)) (by (with_reducible repeat (first | refine blk_drewN ?_ _ | refine blk_drew ?_ | refine blk_alloc ?_ _)); exact BK132.out) hb); have n2_ := Aside0.mk (below_step (by repeat (first | (with_reducible first | exact HB.out | apply below_alloc | apply pw_below_drewN | apply below_drew1 | refine below_set ?_ GE132.out) | exact HB.out)) hb); clear BK132; clear HB; have HO135 := n0_; have BK132 := n1_; have HB := n2_; clear n0_ n1_ n2_; (try clear hb); (try clear hb2); (try clear hk); (try clear hi); (try clear ho0); obtain ⟨Ao18, co18, eo18⟩ := Kd.R_slice HO135.out; subst eo18) | ((with_reducible refine gate_callee (f := 19) rfl ?_); refine goesL_ (some 28) rfl rfl Try.func19 (by kernel_rfl) rfl #[.slice Ao18 t133.length co18] rfl (by (try simp only [List.map_toArray, List.map_cons, List.map_nil]); first | done | rfl | (simp only [List.length_drop, List.length_take]; rfl)) ?_; (with_reducible refine (op_one.calls kj1 (fun k_ => some k_ = (.slice Ao18 t133.length co18 : Value).ownBlock) _ _ t133 t136 t137 t138 t139 t140 t141 _ ?side1 A13.out).mono ?_); (case side1 => exact Kd.R_V (Kd.R_tight rfl (Kd.R_types (HO135.out) BK132.out (by decide)))); rintro e w19 ⟨v142, rfl, ho0, hb⟩; refine ⟨_, rfl, ?_⟩; have n0_ := Aside0.mk (Kd.R_below (by (with_reducible repeat (first | apply Kd.R_alloc | apply Kd.R_drewN | apply Kd.R_drew)); exact HO135.out) hb); have n1_ := Aside0.mk (Kd.V_lower (Kd.V_mono (ok' := fun k_ => k_ ≠ gb132) ho0 (fun k_ hk_ => Or.elim hk_ (fun hs_ => ((Kd.R_types (HO135.out) BK132.out (by decide)).1 k_ hs_.symm).2) (fun hn_ => (Kd.freshB (g := gb132) (o := .cells (#[.int .i64 a0_0, .int .i64 a0_1, .int .u64 a0_2] ++ ((Ar.cells .u8 32 a0_3) ++ #[.int .i64 a0_4])) 39 (0, 0)) (by (with_reducible repeat (first | refine blk_drewN ?_ _ | refine blk_drew ?_ | refine blk_alloc ?_ _)); exact BK132.out) k_ hn_)))) (below_size (by repeat (first | (with_reducible first | exact HB.out | apply below_alloc | apply pw_below_drewN | apply below_drew1 | refine below_set ?_ GE132.out) | exact HB.out)))); have n2_ := Aside0.mk (blk_below (g := gb132) (o := .cells (#[.int .i64 a0_0, .int .i64 a0_1, .int .u64 a0_2] ++ ((Ar.cells .u8 32 a0_3) ++ #[.int .i64 a0_4])) 39 (0, 0)) (by (with_reducible repeat (first | refine blk_drewN ?_ _ | refine blk_drew ?_ | refine blk_alloc ?_ _)); exact BK132.out) hb); have n3_ := Aside0.mk (below_step (by repeat (first | (with_reducible first | exact HB.out | apply below_alloc | apply pw_below_drewN | apply below_drew1 | refine below_set ?_ GE132.out) | exact HB.out)) hb); clear HO135; clear BK132; clear HB; have HO135 := n0_; have HO143 := n1_; have BK132 := n2_; have HB := n3_; clear n0_ n1_ n2_ n3_; (try clear hb); (try clear hb2); (try clear hk); (try clear hi); (try clear ho0)) | ((with_reducible refine gate_dst (N := 4) rfl ?_); (try (refine gate_guard (by rfl) ?_; dsimp only)); refine box_event ?hg (N := 4) ?hd (cs := (#[.int .i64 0, .int .i64 0, .int .u64 0] ++ ((Ar.cells .u8 32 (List.replicate 32 0)) ++ #[.int .i64 0]))) (t := 39) ?hr ?_; (case hd => rfl); (case hg => rfl); (case hr => first | exact Ar.gbox_run rfl rfl | exact Ar.galloc_run rfl (by kernel_rfl) | (go_simp; done) | (go_simp; rfl)); intro gb144 hg w20 hbox hb; have n0_ := Aside0.mk (Kd.R_below (by (with_reducible repeat (first | apply Kd.R_alloc | apply Kd.R_drewN | apply Kd.R_drew)); exact HO135.out) hb); have n1_ := Aside0.mk (Kd.V_below (Kd.V_elderB (by (with_reducible repeat (first | apply Kd.V_alloc | apply Kd.V_drewN | apply Kd.V_drew)); exact HO143.out) gb144 (Nat.le_of_eq hg.symm)) hb); have n2_ := Aside0.mk (blk_below (g := gb132) (o := .cells (#[.int .i64 a0_0, .int .i64 a0_1, .int .u64 a0_2] ++ ((Ar.cells .u8 32 a0_3) ++ #[.int .i64 a0_4])) 39 (0, 0)) (by (with_reducible repeat (first | refine blk_drewN ?_ _ | refine blk_drew ?_ | refine blk_alloc ?_ _)); exact BK132.out) hb); have n3_ := Aside0.mk (below_step (by repeat (first | (with_reducible first | exact HB.out | apply below_alloc | apply pw_below_drewN | apply below_drew1 | refine below_set ?_ GE132.out) | exact HB.out)) hb); have n4_ := Aside0.mk (hbox); have n5_ := Aside0.mk ((by rw [hg]; exact (below_size (by repeat (first | (with_reducible first | exact HB.out | apply below_alloc | apply pw_below_drewN | apply below_drew1 | refine below_set ?_ GE132.out) | exact HB.out))) : w.heap.size ≤ gb144)); have n6_ := Aside0.mk ((by rw [hg]; exact (below_size (by repeat (first | (with_reducible first | exact HB.out | apply below_alloc | apply pw_below_drewN | apply below_drew1 | refine below_set ?_ GE132.out) | exact HB.out))) : w.heap.size ≤ gb144)); have n7_ := Aside0.mk ((by rw [hg]; exact Nat.ne_of_lt (blk_lt (g := gb132) (o := .cells (#[.int .i64 a0_0, .int .i64 a0_1, .int .u64 a0_2] ++ ((Ar.cells .u8 32 a0_3) ++ #[.int .i64 a0_4])) 39 (0, 0)) (by (with_reducible repeat (first | refine blk_drewN ?_ _ | refine blk_drew ?_ | refine blk_alloc ?_ _)); exact BK132.out)) : gb132 ≠ gb144)); have n8_ := Aside0.mk ((by rw [hg]; exact Nat.ne_of_gt (blk_lt (g := gb132) (o := .cells (#[.int .i64 a0_0, .int .i64 a0_1, .int .u64 a0_2] ++ ((Ar.cells .u8 32 a0_3) ++ #[.int .i64 a0_4])) 39 (0, 0)) (by (with_reducible repeat (first | refine blk_drewN ?_ _ | refine blk_drew ?_ | refine blk_alloc ?_ _)); exact BK132.out)) : gb144 ≠ gb132)); clear HO135; clear HO143; clear BK132; clear HB; have HO135 := n0_; have HO143 := n1_; have BK132 := n2_; have HB := n3_; have BK144 := n4_; have GW144 := n5_; have GE144 := n6_; have NB132_144 := n7_; have NB144_132 := n8_; clear n0_ n1_ n2_ n3_ n4_ n5_ n6_ n7_ n8_; clear hb hbox hg) | ((with_reducible refine gate_store (t := 39) (p := 4) rfl ?_); refine Ar.gstore_event rfl rfl rfl (D := (#[.int .i64 t136, .int .i64 t137, .int .u64 t138] ++ ((Ar.cells .u8 32 t139) ++ #[.int .i64 t140]))) (by first | (rw [Ar.cells_size]; kernel_rfl) | (simp only [Array.size_append, Ar.cells_size, List.size_toArray, List.length_cons, List.length_nil]; kernel_rfl)) (g := gb144) rfl (by first | rfl | (go_simp; done) | (go_simp; rfl)) (by (with_reducible repeat (first | refine blk_drewN ?_ _ | refine blk_drew ?_ | refine blk_alloc ?_ _)); exact BK144.out) (by simp [Ar.cells_size]) (by repeat (first | (with_reducible refine Ar.all_app ?_ ?_) | (with_reducible exact Ar.cells_one _ _ _) | (focus (simp [Value.oneCell']; done)) | rfl)) ?_; intro w21 hbk_ hg; have n0_ := Aside0.mk (blk_grown (g := gb132) (o := .cells (#[.int .i64 a0_0, .int .i64 a0_1, .int .u64 a0_2] ++ ((Ar.cells .u8 32 a0_3) ++ #[.int .i64 a0_4])) 39 (0, 0)) (by (with_reducible repeat (first | refine blk_drewN ?_ _ | refine blk_drew ?_ | refine blk_alloc ?_ _)); exact BK132.out) hg (fun e_ => NB132_144.out (Option.some.inj e_))); have n1_ := Aside0.mk (Kd.R_mono (Kd.R_grown (Kd.R_types (by (with_reducible repeat (first | apply Kd.R_alloc | apply Kd.R_drewN | apply Kd.R_drew)); exact HO135.out) BK144.out (by decide)) hg (fun k_ hk_ e_ => hk_.2 (Option.some.inj e_))) (fun _ h_ => h_.1)); have n2_ := Aside0.mk (Kd.V_grown (by (with_reducible repeat (first | apply Kd.V_alloc | apply Kd.V_drewN | apply Kd.V_drew)); exact HO143.out) hg (by intro k_ hk e_; exact (hk.2) (Option.some.inj e_))); have n3_ := Aside0.mk (hbk_); have n4_ := Aside0.mk (Below.grown (by repeat (first | (with_reducible first | exact HB.out | apply below_alloc | apply pw_below_drewN | apply below_drew1 | refine below_set ?_ GE132.out | refine below_set ?_ GE144.out) | exact HB.out)) hg ((below_size (by repeat (first | (with_reducible first | exact HB.out | apply below_alloc | apply pw_below_drewN | apply below_drew1 | refine below_set ?_ GE132.out | refine below_set ?_ GE144.out) | exact HB.out)))) (fun _ e_ => by cases e_; exact GE144.out)); clear BK132; clear HO135; clear HO143; clear BK144; clear HB; have BK132 := n0_; have HO135 := n1_; have HO143 := n2_; have BK144 := n3_; have HB := n4_; clear n0_ n1_ n2_ n3_ n4_; clear hbk_ hg; obtain ⟨Ao22, co22, eo22⟩ := Kd.V_slice HO143.out; subst eo22) | ((with_reducible refine gate_dst (N := 31) rfl ?_); (try (refine gate_guard (by rfl) ?_; dsimp only)); refine Ar.gload_event rfl (T := 39) rfl Try.underlying39 rfl (D := (#[.int .i64 t136, .int .i64 t137, .int .u64 t138] ++ ((Ar.cells .u8 32 t139) ++ #[.int .i64 t140]))) (by first | (rw [Ar.cells_size]; kernel_rfl) | (simp only [Array.size_append, Ar.cells_size, List.size_toArray, List.length_cons, List.length_nil]; kernel_rfl)) (A := ⟨gb144, 0, none⟩) rfl (Ar.blk_part (by (with_reducible repeat (first | refine blk_drewN ?_ _ | refine blk_drew ?_ | refine blk_alloc ?_ _)); exact BK144.out) Ar.in_whole) ?_) | ((with_reducible refine gate_dst (N := 32) rfl ?_); (try (refine gate_guard (by rfl) ?_; dsimp only)); refine Ar.gload_event rfl (T := 39) rfl Try.underlying39 rfl (D := (#[.int .i64 a0_0, .int .i64 a0_1, .int .u64 a0_2] ++ ((Ar.cells .u8 32 a0_3) ++ #[.int .i64 a0_4]))) (by first | (rw [Ar.cells_size]; kernel_rfl) | (simp only [Array.size_append, Ar.cells_size, List.size_toArray, List.length_cons, List.length_nil]; kernel_rfl)) (A := ⟨gb132, 0, none⟩) rfl (Ar.blk_part (by (with_reducible repeat (first | refine blk_drewN ?_ _ | refine blk_drew ?_ | refine blk_alloc ?_ _)); exact BK132.out) Ar.in_whole) ?_) | ((with_reducible refine gate_dst (N := 33) rfl ?_); (try (refine gate_guard (by rfl) ?_; dsimp only)); refine Ar.geq_event rfl rfl (by kernel_rfl) (b := (eqS39 (⟨t136, t137, t138, t139, t140⟩ : S39) (⟨a0_0, a0_1, a0_2, a0_3, a0_4⟩ : S39))) (fun w_ => fatEq39 w_ t136 a0_0 t137 a0_1 t138 a0_2 t139 a0_3 t140 a0_4) rfl rfl ?_) | (go_at_call 26; (with_reducible refine (op_whole.calls _ _ t133 t145 _ ?side1 ?side2 A16.out).mono ?_); (case side1 => repeat (first | exact (Kd.R_reads' HO135.out).2.2 | (with_reducible refine Kd.C_alloc ?_ _) | (with_reducible refine Kd.C_drewN ?_ _) | (with_reducible refine Kd.C_drew ?_))); (case side2 => exact (Kd.R_reads' HO135.out).2.1); rintro e w23 ⟨rfl, hb⟩; have n0_ := Aside0.mk (Kd.R_below (by (with_reducible repeat (first | apply Kd.R_alloc | apply Kd.R_drewN | apply Kd.R_drew)); exact HO135.out) hb); have n1_ := Aside0.mk (Kd.V_below (by (with_reducible repeat (first | apply Kd.V_alloc | apply Kd.V_drewN | apply Kd.V_drew)); exact HO143.out) hb); have n2_ := Aside0.mk (blk_below (g := gb132) (o := .cells (#[.int .i64 a0_0, .int .i64 a0_1, .int .u64 a0_2] ++ ((Ar.cells .u8 32 a0_3) ++ #[.int .i64 a0_4])) 39 (0, 0)) (by (with_reducible repeat (first | refine blk_drewN ?_ _ | refine blk_drew ?_ | refine blk_alloc ?_ _)); exact BK132.out) hb); have n3_ := Aside0.mk (blk_below (g := gb144) (o := .cells (#[.int .i64 t136, .int .i64 t137, .int .u64 t138] ++ ((Ar.cells .u8 32 t139) ++ #[.int .i64 t140])) 39 (0, 0)) (by (with_reducible repeat (first | refine blk_drewN ?_ _ | refine blk_drew ?_ | refine blk_alloc ?_ _)); exact BK144.out) hb); have n4_ := Aside0.mk (below_step (by repeat (first | (with_reducible first | exact HB.out | apply below_alloc | apply pw_below_drewN | apply below_drew1 | refine below_set ?_ GE132.out | refine below_set ?_ GE144.out) | exact HB.out)) hb); clear HO135; clear HO143; clear BK132; clear BK144; clear HB; have HO135 := n0_; have HO143 := n1_; have BK132 := n2_; have BK144 := n3_; have HB := n4_; clear n0_ n1_ n2_ n3_ n4_; (try clear hb); (try clear hb2); (try clear hk); (try clear hi)))
      go_ret
      exact ⟨by first | rfl | (simp [errW_none, errW_some] <;> rfl) | (simp [*, errW_none, errW_some] <;> rfl), by repeat (first | (with_reducible first | exact HB.out | apply below_alloc | apply pw_below_drewN | apply below_drew1 | refine below_set ?_ GE132.out | refine below_set ?_ GE144.out) | exact HB.out)⟩
     ·rw [if_neg c15] at H
      have c15b0 : ((t141.length : Int) == 0) = false := beq_eq_false_iff_ne.mpr c15
      have c15b1 : ((t141.length : Int) != 0) = true := bne_iff_ne.mpr c15
      have c15b2 : ¬ (t141 = []) := fun h_ => c15 (by rw [h_]; rfl)
      obtain rfl := Option.some.inj H
      go_wp2_with (first | ((with_reducible refine gate_dst (N := 24) rfl ?_); (try (refine gate_guard (by rfl) ?_; dsimp only)); refine Ar.gload_event rfl (T := 39) rfl Try.underlying39 rfl (D := (#[.int .i64 a0_0, .int .i64 a0_1, .int .u64 a0_2] ++ ((Ar.cells .u8 32 a0_3) ++ #[.int .i64 a0_4]))) (by first | (rw [Ar.cells_size]; kernel_rfl) | (simp only [Array.size_append, Ar.cells_size, List.size_toArray, List.length_cons, List.length_nil]; kernel_rfl)) (A := ⟨gb132, 0, none⟩) rfl (Ar.blk_part (by (with_reducible repeat (first | refine blk_drewN ?_ _ | refine blk_drew ?_ | refine blk_alloc ?_ _)); exact BK132.out) Ar.in_whole) ?_) | ((with_reducible refine gate_callee (f := 23) rfl ?_); refine goesL_ (some 25) rfl rfl Try.func23 (by kernel_rfl) rfl #[.agg (#[.int .i64 a0_0, .int .i64 a0_1, .int .u64 a0_2] ++ ((Ar.cells .u8 32 a0_3) ++ #[.int .i64 a0_4]))] rfl (by (try simp only [List.map_toArray, List.map_cons, List.map_nil]); first | done | rfl | (simp only [List.length_drop, List.length_take]; rfl)) ?_; (with_reducible refine (op_bytes.calls kj1 a0_0 a0_1 a0_2 a0_3 a0_4 t133 _ A12.out).mono ?_); rintro e w24 ⟨v134, rfl, ho0, hb⟩; refine ⟨_, rfl, ?_⟩; have n0_ := Aside0.mk (Kd.R_lower ho0 (below_size (by repeat (first | (with_reducible first | exact HB.out | apply below_alloc | apply pw_below_drewN | apply below_drew1 | refine below_set ?_ GE132.out) | exact HB.out)))); have n1_ := Aside0.mk (blk_below (g := gb132) (o := .cells (#[.int .i64 a0_0, .int .i64 a0_1, .int .u64 a0_2] ++ ((Ar.cells .u8 32 a0_3) ++ #[.int .i64 a0_4])) 39 (0, 0)) (by (with_reducible repeat (first | refine blk_drewN ?_ _ | refine blk_drew ?_ | refine blk_alloc ?_ _)); exact BK132.out) hb); have n2_ := Aside0.mk (below_step (by repeat (first | (with_reducible first | exact HB.out | apply below_alloc | apply pw_below_drewN | apply below_drew1 | refine below_set ?_ GE132.out) | exact HB.out)) hb); clear BK132; clear HB; have HO135 := n0_; have BK132 := n1_; have HB := n2_; clear n0_ n1_ n2_; (try clear hb); (try clear hb2); (try clear hk); (try clear hi); (try clear ho0); obtain ⟨Ao25, co25, eo25⟩ := Kd.R_slice HO135.out; subst eo25) | ((with_reducible refine gate_callee (f := 19) rfl ?_); refine goesL_ (some 28) rfl rfl Try.func19 (by kernel_rfl) rfl #[.slice Ao25 t133.length co25] rfl (by (try simp only [List.map_toArray, List.map_cons, List.map_nil]); first | done | rfl | (simp only [List.length_drop, List.length_take]; rfl)) ?_; (with_reducible refine (op_one.calls kj1 (fun k_ => some k_ = (.slice Ao25 t133.length co25 : Value).ownBlock) _ _ t133 t136 t137 t138 t139 t140 t141 _ ?side1 A13.out).mono ?_); (case side1 => exact Kd.R_V (Kd.R_tight rfl (Kd.R_types (HO135.out) BK132.out (by decide)))); rintro e w26 ⟨v142, rfl, ho0, hb⟩; refine ⟨_, rfl, ?_⟩; have n0_ := Aside0.mk (Kd.R_below (by (with_reducible repeat (first | apply Kd.R_alloc | apply Kd.R_drewN | apply Kd.R_drew)); exact HO135.out) hb); have n1_ := Aside0.mk (Kd.V_lower (Kd.V_mono (ok' := fun k_ => k_ ≠ gb132) ho0 (fun k_ hk_ => Or.elim hk_ (fun hs_ => ((Kd.R_types (HO135.out) BK132.out (by decide)).1 k_ hs_.symm).2) (fun hn_ => (Kd.freshB (g := gb132) (o := .cells (#[.int .i64 a0_0, .int .i64 a0_1, .int .u64 a0_2] ++ ((Ar.cells .u8 32 a0_3) ++ #[.int .i64 a0_4])) 39 (0, 0)) (by (with_reducible repeat (first | refine blk_drewN ?_ _ | refine blk_drew ?_ | refine blk_alloc ?_ _)); exact BK132.out) k_ hn_)))) (below_size (by repeat (first | (with_reducible first | exact HB.out | apply below_alloc | apply pw_below_drewN | apply below_drew1 | refine below_set ?_ GE132.out) | exact HB.out)))); have n2_ := Aside0.mk (blk_below (g := gb132) (o := .cells (#[.int .i64 a0_0, .int .i64 a0_1, .int .u64 a0_2] ++ ((Ar.cells .u8 32 a0_3) ++ #[.int .i64 a0_4])) 39 (0, 0)) (by (with_reducible repeat (first | refine blk_drewN ?_ _ | refine blk_drew ?_ | refine blk_alloc ?_ _)); exact BK132.out) hb); have n3_ := Aside0.mk (below_step (by repeat (first | (with_reducible first | exact HB.out | apply below_alloc | apply pw_below_drewN | apply below_drew1 | refine below_set ?_ GE132.out) | exact HB.out)) hb); clear HO135; clear BK132; clear HB; have HO135 := n0_; have HO143 := n1_; have BK132 := n2_; have HB := n3_; clear n0_ n1_ n2_ n3_; (try clear hb); (try clear hb2); (try clear hk); (try clear hi); (try clear ho0)) | ((with_reducible refine gate_dst (N := 4) rfl ?_); (try (refine gate_guard (by rfl) ?_; dsimp only)); refine box_event ?hg (N := 4) ?hd (cs := (#[.int .i64 0, .int .i64 0, .int .u64 0] ++ ((Ar.cells .u8 32 (List.replicate 32 0)) ++ #[.int .i64 0]))) (t := 39) ?hr ?_; (case hd => rfl); (case hg => rfl); (case hr => first | exact Ar.gbox_run rfl rfl | exact Ar.galloc_run rfl (by kernel_rfl) | (go_simp; done) | (go_simp; rfl)); intro gb144 hg w27 hbox hb; have n0_ := Aside0.mk (Kd.R_below (by (with_reducible repeat (first | apply Kd.R_alloc | apply Kd.R_drewN | apply Kd.R_drew)); exact HO135.out) hb); have n1_ := Aside0.mk (Kd.V_below (Kd.V_elderB (by (with_reducible repeat (first | apply Kd.V_alloc | apply Kd.V_drewN | apply Kd.V_drew)); exact HO143.out) gb144 (Nat.le_of_eq hg.symm)) hb); have n2_ := Aside0.mk (blk_below (g := gb132) (o := .cells (#[.int .i64 a0_0, .int .i64 a0_1, .int .u64 a0_2] ++ ((Ar.cells .u8 32 a0_3) ++ #[.int .i64 a0_4])) 39 (0, 0)) (by (with_reducible repeat (first | refine blk_drewN ?_ _ | refine blk_drew ?_ | refine blk_alloc ?_ _)); exact BK132.out) hb); have n3_ := Aside0.mk (below_step (by repeat (first | (with_reducible first | exact HB.out | apply below_alloc | apply pw_below_drewN | apply below_drew1 | refine below_set ?_ GE132.out) | exact HB.out)) hb); have n4_ := Aside0.mk (hbox); have n5_ := Aside0.mk ((by rw [hg]; exact (below_size (by repeat (first | (with_reducible first | exact HB.out | apply below_alloc | apply pw_below_drewN | apply below_drew1 | refine below_set ?_ GE132.out) | exact HB.out))) : w.heap.size ≤ gb144)); have n6_ := Aside0.mk ((by rw [hg]; exact (below_size (by repeat (first | (with_reducible first | exact HB.out | apply below_alloc | apply pw_below_drewN | apply below_drew1 | refine below_set ?_ GE132.out) | exact HB.out))) : w.heap.size ≤ gb144)); have n7_ := Aside0.mk ((by rw [hg]; exact Nat.ne_of_lt (blk_lt (g := gb132) (o := .cells (#[.int .i64 a0_0, .int .i64 a0_1, .int .u64 a0_2] ++ ((Ar.cells .u8 32 a0_3) ++ #[.int .i64 a0_4])) 39 (0, 0)) (by (with_reducible repeat (first | refine blk_drewN ?_ _ | refine blk_drew ?_ | refine blk_alloc ?_ _)); exact BK132.out)) : gb132 ≠ gb144)); have n8_ := Aside0.mk ((by rw [hg]; exact Nat.ne_of_gt (blk_lt (g := gb132) (o := .cells (#[.int .i64 a0_0, .int .i64 a0_1, .int .u64 a0_2] ++ ((Ar.cells .u8 32 a0_3) ++ #[.int .i64 a0_4])) 39 (0, 0)) (by (with_reducible repeat (first | refine blk_drewN ?_ _ | refine blk_drew ?_ | refine blk_alloc ?_ _)); exact BK132.out)) : gb144 ≠ gb132)); clear HO135; clear HO143; clear BK132; clear HB; have HO135 := n0_; have HO143 := n1_; have BK132 := n2_; have HB := n3_; have BK144 := n4_; have GW144 := n5_; have GE144 := n6_; have NB132_144 := n7_; have NB144_132 := n8_; clear n0_ n1_ n2_ n3_ n4_ n5_ n6_ n7_ n8_; clear hb hbox hg) | ((with_reducible refine gate_store (t := 39) (p := 4) rfl ?_); refine Ar.gstore_event rfl rfl rfl (D := (#[.int .i64 t136, .int .i64 t137, .int .u64 t138] ++ ((Ar.cells .u8 32 t139) ++ #[.int .i64 t140]))) (by first | (rw [Ar.cells_size]; kernel_rfl) | (simp only [Array.size_append, Ar.cells_size, List.size_toArray, List.length_cons, List.length_nil]; kernel_rfl)) (g := gb144) rfl (by first | rfl | (go_simp; done) | (go_simp; rfl)) (by (with_reducible repeat (first | refine blk_drewN ?_ _ | refine blk_drew ?_ | refine blk_alloc ?_ _)); exact BK144.out) (by simp [Ar.cells_size]) (by repeat (first | (with_reducible refine Ar.all_app ?_ ?_) | (with_reducible exact Ar.cells_one _ _ _) | (focus (simp [Value.oneCell']; done)) | rfl)) ?_; intro w28 hbk_ hg; have n0_ := Aside0.mk (blk_grown (g := gb132) (o := .cells (#[.int .i64 a0_0, .int .i64 a0_1, .int .u64 a0_2] ++ ((Ar.cells .u8 32 a0_3) ++ #[.int .i64 a0_4])) 39 (0, 0)) (by (with_reducible repeat (first | refine blk_drewN ?_ _ | refine blk_drew ?_ | refine blk_alloc ?_ _)); exact BK132.out) hg (fun e_ => NB132_144.out (Option.some.inj e_))); have n1_ := Aside0.mk (Kd.R_mono (Kd.R_grown (Kd.R_types (by (with_reducible repeat (first | apply Kd.R_alloc | apply Kd.R_drewN | apply Kd.R_drew)); exact HO135.out) BK144.out (by decide)) hg (fun k_ hk_ e_ => hk_.2 (Option.some.inj e_))) (fun _ h_ => h_.1)); have n2_ := Aside0.mk (Kd.V_grown (by (with_reducible repeat (first | apply Kd.V_alloc | apply Kd.V_drewN | apply Kd.V_drew)); exact HO143.out) hg (by intro k_ hk e_; exact (hk.2) (Option.some.inj e_))); have n3_ := Aside0.mk (hbk_); have n4_ := Aside0.mk (Below.grown (by repeat (first | (with_reducible first | exact HB.out | apply below_alloc | apply pw_below_drewN | apply below_drew1 | refine below_set ?_ GE132.out | refine below_set ?_ GE144.out) | exact HB.out)) hg ((below_size (by repeat (first | (with_reducible first | exact HB.out | apply below_alloc | apply pw_below_drewN | apply below_drew1 | refine below_set ?_ GE132.out | refine below_set ?_ GE144.out) | exact HB.out)))) (fun _ e_ => by cases e_; exact GE144.out)); clear BK132; clear HO135; clear HO143; clear BK144; clear HB; have BK132 := n0_; have HO135 := n1_; have HO143 := n2_; have BK144 := n3_; have HB := n4_; clear n0_ n1_ n2_ n3_ n4_; clear hbk_ hg; obtain ⟨Ao29, co29, eo29⟩ := Kd.V_slice HO143.out; subst eo29) | ((with_reducible refine gate_dst (N := 31) rfl ?_); (try (refine gate_guard (by rfl) ?_; dsimp only)); refine Ar.gload_event rfl (T := 39) rfl Try.underlying39 rfl (D := (#[.int .i64 t136, .int .i64 t137, .int .u64 t138] ++ ((Ar.cells .u8 32 t139) ++ #[.int .i64 t140]))) (by first | (rw [Ar.cells_size]; kernel_rfl) | (simp only [Array.size_append, Ar.cells_size, List.size_toArray, List.length_cons, List.length_nil]; kernel_rfl)) (A := ⟨gb144, 0, none⟩) rfl (Ar.blk_part (by (with_reducible repeat (first | refine blk_drewN ?_ _ | refine blk_drew ?_ | refine blk_alloc ?_ _)); exact BK144.out) Ar.in_whole) ?_) | ((with_reducible refine gate_dst (N := 32) rfl ?_); (try (refine gate_guard (by rfl) ?_; dsimp only)); refine Ar.gload_event rfl (T := 39) rfl Try.underlying39 rfl (D := (#[.int .i64 a0_0, .int .i64 a0_1, .int .u64 a0_2] ++ ((Ar.cells .u8 32 a0_3) ++ #[.int .i64 a0_4]))) (by first | (rw [Ar.cells_size]; kernel_rfl) | (simp only [Array.size_append, Ar.cells_size, List.size_toArray, List.length_cons, List.length_nil]; kernel_rfl)) (A := ⟨gb132, 0, none⟩) rfl (Ar.blk_part (by (with_reducible repeat (first | refine blk_drewN ?_ _ | refine blk_drew ?_ | refine blk_alloc ?_ _)); exact BK132.out) Ar.in_whole) ?_) | ((with_reducible refine gate_dst (N := 33) rfl ?_); (try (refine gate_guard (by rfl) ?_; dsimp only)); refine Ar.geq_event rfl rfl (by kernel_rfl) (b := (eqS39 (⟨t136, t137, t138, t139, t140⟩ : S39) (⟨a0_0, a0_1, a0_2, a0_3, a0_4⟩ : S39))) (fun w_ => fatEq39 w_ t136 a0_0 t137 a0_1 t138 a0_2 t139 a0_3 t140 a0_4) rfl rfl ?_))
      go_ret
      exact ⟨by first | rfl | (simp [errW_none, errW_some] <;> rfl) | (simp [*, errW_none, errW_some] <;> rfl), by repeat (first | (with_reducible first | exact HB.out | apply below_alloc | apply pw_below_drewN | apply below_drew1 | refine below_set ?_ GE132.out | refine below_set ?_ GE144.out) | exact HB.out)⟩
    ·rw [if_neg c14] at H
     have c14b0 : (eqS39 (⟨t136, t137, t138, t139, t140⟩ : S39) (⟨a0_0, a0_1, a0_2, a0_3, a0_4⟩ : S39)) = false := by simpa using c14
     clear c14
     obtain rfl := Option.some.inj H
     go_wp2_with (first | ((with_reducible refine gate_dst (N := 24) rfl ?_); (try (refine gate_guard (by rfl) ?_; dsimp only)); refine Ar.gload_event rfl (T := 39) rfl Try.underlying39 rfl (D := (#[.int .i64 a0_0, .int .i64 a0_1, .int .u64 a0_2] ++ ((Ar.cells .u8 32 a0_3) ++ #[.int .i64 a0_4]))) (by first | (rw [Ar.cells_size]; kernel_rfl) | (simp only [Array.size_append, Ar.cells_size, List.size_toArray, List.length_cons, List.length_nil]; kernel_rfl)) (A := ⟨gb132, 0, none⟩) rfl (Ar.blk_part (by (with_reducible repeat (first | refine blk_drewN ?_ _ | refine blk_drew ?_ | refine blk_alloc ?_ _)); exact BK132.out) Ar.in_whole) ?_) | ((with_reducible refine gate_callee (f := 23) rfl ?_); refine goesL_ (some 25) rfl rfl Try.func23 (by kernel_rfl) rfl #[.agg (#[.int .i64 a0_0, .int .i64 a0_1, .int .u64 a0_2] ++ ((Ar.cells .u8 32 a0_3) ++ #[.int .i64 a0_4]))] rfl (by (try simp only [List.map_toArray, List.map_cons, List.map_nil]); first | done | rfl | (simp only [List.length_drop, List.length_take]; rfl)) ?_; (with_reducible refine (op_bytes.calls kj1 a0_0 a0_1 a0_2 a0_3 a0_4 t133 _ A12.out).mono ?_); rintro e w30 ⟨v134, rfl, ho0, hb⟩; refine ⟨_, rfl, ?_⟩; have n0_ := Aside0.mk (Kd.R_lower ho0 (below_size (by repeat (first | (with_reducible first | exact HB.out | apply below_alloc | apply pw_below_drewN | apply below_drew1 | refine below_set ?_ GE132.out) | exact HB.out)))); have n1_ := Aside0.mk (blk_below (g := gb132) (o := .cells (#[.int .i64 a0_0, .int .i64 a0_1, .int .u64 a0_2] ++ ((Ar.cells .u8 32 a0_3) ++ #[.int .i64 a0_4])) 39 (0, 0)) (by (with_reducible repeat (first | refine blk_drewN ?_ _ | refine blk_drew ?_ | refine blk_alloc ?_ _)); exact BK132.out) hb); have n2_ := Aside0.mk (below_step (by repeat (first | (with_reducible first | exact HB.out | apply below_alloc | apply pw_below_drewN | apply below_drew1 | refine below_set ?_ GE132.out) | exact HB.out)) hb); clear BK132; clear HB; have HO135 := n0_; have BK132 := n1_; have HB := n2_; clear n0_ n1_ n2_; (try clear hb); (try clear hb2); (try clear hk); (try clear hi); (try clear ho0); obtain ⟨Ao31, co31, eo31⟩ := Kd.R_slice HO135.out; subst eo31) | ((with_reducible refine gate_callee (f := 19) rfl ?_); refine goesL_ (some 28) rfl rfl Try.func19 (by kernel_rfl) rfl #[.slice Ao31 t133.length co31] rfl (by (try simp only [List.map_toArray, List.map_cons, List.map_nil]); first | done | rfl | (simp only [List.length_drop, List.length_take]; rfl)) ?_; (with_reducible refine (op_one.calls kj1 (fun k_ => some k_ = (.slice Ao31 t133.length co31 : Value).ownBlock) _ _ t133 t136 t137 t138 t139 t140 t141 _ ?side1 A13.out).mono ?_); (case side1 => exact Kd.R_V (Kd.R_tight rfl (Kd.R_types (HO135.out) BK132.out (by decide)))); rintro e w32 ⟨v142, rfl, ho0, hb⟩; refine ⟨_, rfl, ?_⟩; have n0_ := Aside0.mk (Kd.R_below (by (with_reducible repeat (first | apply Kd.R_alloc | apply Kd.R_drewN | apply Kd.R_drew)); exact HO135.out) hb); have n1_ := Aside0.mk (Kd.V_lower (Kd.V_mono (ok' := fun k_ => k_ ≠ gb132) ho0 (fun k_ hk_ => Or.elim hk_ (fun hs_ => ((Kd.R_types (HO135.out) BK132.out (by decide)).1 k_ hs_.symm).2) (fun hn_ => (Kd.freshB (g := gb132) (o := .cells (#[.int .i64 a0_0, .int .i64 a0_1, .int .u64 a0_2] ++ ((Ar.cells .u8 32 a0_3) ++ #[.int .i64 a0_4])) 39 (0, 0)) (by (with_reducible repeat (first | refine blk_drewN ?_ _ | refine blk_drew ?_ | refine blk_alloc ?_ _)); exact BK132.out) k_ hn_)))) (below_size (by repeat (first | (with_reducible first | exact HB.out | apply below_alloc | apply pw_below_drewN | apply below_drew1 | refine below_set ?_ GE132.out) | exact HB.out)))); have n2_ := Aside0.mk (blk_below (g := gb132) (o := .cells (#[.int .i64 a0_0, .int .i64 a0_1, .int .u64 a0_2] ++ ((Ar.cells .u8 32 a0_3) ++ #[.int .i64 a0_4])) 39 (0, 0)) (by (with_reducible repeat (first | refine blk_drewN ?_ _ | refine blk_drew ?_ | refine blk_alloc ?_ _)); exact BK132.out) hb); have n3_ := Aside0.mk (below_step (by repeat (first | (with_reducible first | exact HB.out | apply below_alloc | apply pw_below_drewN | apply below_drew1 | refine below_set ?_ GE132.out) | exact HB.out)) hb); clear HO135; clear BK132; clear HB; have HO135 := n0_; have HO143 := n1_; have BK132 := n2_; have HB := n3_; clear n0_ n1_ n2_ n3_; (try clear hb); (try clear hb2); (try clear hk); (try clear hi); (try clear ho0)) | ((with_reducible refine gate_dst (N := 4) rfl ?_); (try (refine gate_guard (by rfl) ?_; dsimp only)); refine box_event ?hg (N := 4) ?hd (cs := (#[.int .i64 0, .int .i64 0, .int .u64 0] ++ ((Ar.cells .u8 32 (List.replicate 32 0)) ++ #[.int .i64 0]))) (t := 39) ?hr ?_; (case hd => rfl); (case hg => rfl); (case hr => first | exact Ar.gbox_run rfl rfl | exact Ar.galloc_run rfl (by kernel_rfl) | (go_simp; done) | (go_simp; rfl)); intro gb144 hg w33 hbox hb; have n0_ := Aside0.mk (Kd.R_below (by (with_reducible repeat (first | apply Kd.R_alloc | apply Kd.R_drewN | apply Kd.R_drew)); exact HO135.out) hb); have n1_ := Aside0.mk (Kd.V_below (Kd.V_elderB (by (with_reducible repeat (first | apply Kd.V_alloc | apply Kd.V_drewN | apply Kd.V_drew)); exact HO143.out) gb144 (Nat.le_of_eq hg.symm)) hb); have n2_ := Aside0.mk (blk_below (g := gb132) (o := .cells (#[.int .i64 a0_0, .int .i64 a0_1, .int .u64 a0_2] ++ ((Ar.cells .u8 32 a0_3) ++ #[.int .i64 a0_4])) 39 (0, 0)) (by (with_reducible repeat (first | refine blk_drewN ?_ _ | refine blk_drew ?_ | refine blk_alloc ?_ _)); exact BK132.out) hb); have n3_ := Aside0.mk (below_step (by repeat (first | (with_reducible first | exact HB.out | apply below_alloc | apply pw_below_drewN | apply below_drew1 | refine below_set ?_ GE132.out) | exact HB.out)) hb); have n4_ := Aside0.mk (hbox); have n5_ := Aside0.mk ((by rw [hg]; exact (below_size (by repeat (first | (with_reducible first | exact HB.out | apply below_alloc | apply pw_below_drewN | apply below_drew1 | refine below_set ?_ GE132.out) | exact HB.out))) : w.heap.size ≤ gb144)); have n6_ := Aside0.mk ((by rw [hg]; exact (below_size (by repeat (first | (with_reducible first | exact HB.out | apply below_alloc | apply pw_below_drewN | apply below_drew1 | refine below_set ?_ GE132.out) | exact HB.out))) : w.heap.size ≤ gb144)); have n7_ := Aside0.mk ((by rw [hg]; exact Nat.ne_of_lt (blk_lt (g := gb132) (o := .cells (#[.int .i64 a0_0, .int .i64 a0_1, .int .u64 a0_2] ++ ((Ar.cells .u8 32 a0_3) ++ #[.int .i64 a0_4])) 39 (0, 0)) (by (with_reducible repeat (first | refine blk_drewN ?_ _ | refine blk_drew ?_ | refine blk_alloc ?_ _)); exact BK132.out)) : gb132 ≠ gb144)); have n8_ := Aside0.mk ((by rw [hg]; exact Nat.ne_of_gt (blk_lt (g := gb132) (o := .cells (#[.int .i64 a0_0, .int .i64 a0_1, .int .u64 a0_2] ++ ((Ar.cells .u8 32 a0_3) ++ #[.int .i64 a0_4])) 39 (0, 0)) (by (with_reducible repeat (first | refine blk_drewN ?_ _ | refine blk_drew ?_ | refine blk_alloc ?_ _)); exact BK132.out)) : gb144 ≠ gb132)); clear HO135; clear HO143; clear BK132; clear HB; have HO135 := n0_; have HO143 := n1_; have BK132 := n2_; have HB := n3_; have BK144 := n4_; have GW144 := n5_; have GE144 := n6_; have NB132_144 := n7_; have NB144_132 := n8_; clear n0_ n1_ n2_ n3_ n4_ n5_ n6_ n7_ n8_; clear hb hbox hg) | ((with_reducible refine gate_store (t := 39) (p := 4) rfl ?_); refine Ar.gstore_event rfl rfl rfl (D := (#[.int .i64 t136, .int .i64 t137, .int .u64 t138] ++ ((Ar.cells .u8 32 t139) ++ #[.int .i64 t140]))) (by first | (rw [Ar.cells_size]; kernel_rfl) | (simp only [Array.size_append, Ar.cells_size, List.size_toArray, List.length_cons, List.length_nil]; kernel_rfl)) (g := gb144) rfl (by first | rfl | (go_simp; done) | (go_simp; rfl)) (by (with_reducible repeat (first | refine blk_drewN ?_ _ | refine blk_drew ?_ | refine blk_alloc ?_ _)); exact BK144.out) (by simp [Ar.cells_size]) (by repeat (first | (with_reducible refine Ar.all_app ?_ ?_) | (with_reducible exact Ar.cells_one _ _ _) | (focus (simp [Value.oneCell']; done)) | rfl)) ?_; intro w34 hbk_ hg; have n0_ := Aside0.mk (blk_grown (g := gb132) (o := .cells (#[.int .i64 a0_0, .int .i64 a0_1, .int .u64 a0_2] ++ ((Ar.cells .u8 32 a0_3) ++ #[.int .i64 a0_4])) 39 (0, 0)) (by (with_reducible repeat (first | refine blk_drewN ?_ _ | refine blk_drew ?_ | refine blk_alloc ?_ _)); exact BK132.out) hg (fun e_ => NB132_144.out (Option.some.inj e_))); have n1_ := Aside0.mk (Kd.R_mono (Kd.R_grown (Kd.R_types (by (with_reducible repeat (first | apply Kd.R_alloc | apply Kd.R_drewN | apply Kd.R_drew)); exact HO135.out) BK144.out (by decide)) hg (fun k_ hk_ e_ => hk_.2 (Option.some.inj e_))) (fun _ h_ => h_.1)); have n2_ := Aside0.mk (Kd.V_grown (by (with_reducible repeat (first | apply Kd.V_alloc | apply Kd.V_drewN | apply Kd.V_drew)); exact HO143.out) hg (by intro k_ hk e_; exact (hk.2) (Option.some.inj e_))); have n3_ := Aside0.mk (hbk_); have n4_ := Aside0.mk (Below.grown (by repeat (first | (with_reducible first | exact HB.out | apply below_alloc | apply pw_below_drewN | apply below_drew1 | refine below_set ?_ GE132.out | refine below_set ?_ GE144.out) | exact HB.out)) hg ((below_size (by repeat (first | (with_reducible first | exact HB.out | apply below_alloc | apply pw_below_drewN | apply below_drew1 | refine below_set ?_ GE132.out | refine below_set ?_ GE144.out) | exact HB.out)))) (fun _ e_ => by cases e_; exact GE144.out)); clear BK132; clear HO135; clear HO143; clear BK144; clear HB; have BK132 := n0_; have HO135 := n1_; have HO143 := n2_; have BK144 := n3_; have HB := n4_; clear n0_ n1_ n2_ n3_ n4_; clear hbk_ hg) | ((with_reducible refine gate_dst (N := 31) rfl ?_); (try (refine gate_guard (by rfl) ?_; dsimp only)); refine Ar.gload_event rfl (T := 39) rfl Try.underlying39 rfl (D := (#[.int .i64 t136, .int .i64 t137, .int .u64 t138] ++ ((Ar.cells .u8 32 t139) ++ #[.int .i64 t140]))) (by first | (rw [Ar.cells_size]; kernel_rfl) | (simp only [Array.size_append, Ar.cells_size, List.size_toArray, List.length_cons, List.length_nil]; kernel_rfl)) (A := ⟨gb144, 0, none⟩) rfl (Ar.blk_part (by (with_reducible repeat (first | refine blk_drewN ?_ _ | refine blk_drew ?_ | refine blk_alloc ?_ _)); exact BK144.out) Ar.in_whole) ?_) | ((with_reducible refine gate_dst (N := 32) rfl ?_); (try (refine gate_guard (by rfl) ?_; dsimp only)); refine Ar.gload_event rfl (T := 39) rfl Try.underlying39 rfl (D := (#[.int .i64 a0_0, .int .i64 a0_1, .int .u64 a0_2] ++ ((Ar.cells .u8 32 a0_3) ++ #[.int .i64 a0_4]))) (by first | (rw [Ar.cells_size]; kernel_rfl) | (simp only [Array.size_append, Ar.cells_size, List.size_toArray, List.length_cons, List.length_nil]; kernel_rfl)) (A := ⟨gb132, 0, none⟩) rfl (Ar.blk_part (by (with_reducible repeat (first | refine blk_drewN ?_ _ | refine blk_drew ?_ | refine blk_alloc ?_ _)); exact BK132.out) Ar.in_whole) ?_) | ((with_reducible refine gate_dst (N := 33) rfl ?_); (try (refine gate_guard (by rfl) ?_; dsimp only)); refine Ar.geq_event rfl rfl (by kernel_rfl) (b := (eqS39 (⟨t136, t137, t138, t139, t140⟩ : S39) (⟨a0_0, a0_1, a0_2, a0_3, a0_4⟩ : S39))) (fun w_ => fatEq39 w_ t136 a0_0 t137 a0_1 t138 a0_2 t139 a0_3 t140 a0_4) rfl rfl ?_))
     go_ret
     exact ⟨by first | rfl | (simp [errW_none, errW_some] <;> rfl) | (simp [*, errW_none, errW_some] <;> rfl), by repeat (first | (with_reducible first | exact HB.out | apply below_alloc | apply pw_below_drewN | apply below_drew1 | refine below_set ?_ GE132.out | refine below_set ?_ GE144.out) | exact HB.out)⟩

end Go.Proofs.Ytkbpdnhbmceajaa.PQ
