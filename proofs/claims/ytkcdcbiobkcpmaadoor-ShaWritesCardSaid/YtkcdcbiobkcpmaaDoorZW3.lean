/- Proved here: LawShaWrites, the statement of the row that this text's last part names, and all that it rests on: words on walks, contracts of the program's functions, plain lemmas. Conditions: none but those of the given row. (part 4 of 7) -/
import Derived.Test.YtkcdcbiobkcpmaaDoorZW2
section
namespace Go.Proofs.YtkcdcbiobkcpmaaDoor.PA
open Go.RowKit Go.Proofs.YtkcdcbiobkcpmaaDoorW.PrintWords Go.Proofs.YtkcdcbiobkcpmaaDoorW.PrintLast Go.Proofs.YtkcdcbiobkcpmaaDoorW.PrintMore
attribute [local go_sem] max2_int min2_int max_two min_two max_three min_three max_four min_four
set_option linter.unusedVariables false
set_option linter.unusedSimpArgs false
def bt7_ (n x : Nat) : Array Bool := ((List.range n).map fun i => x.testBit i).toArray
theorem au7b {A B : Prop} (H : Aside0 A) (h : A → B := by intro z_; (with_reducible repeat (first | refine blk_drewN ?_ _ | refine blk_drew ?_ | refine blk_alloc ?_ _)); exact z_) : B := h H.out
theorem au7v {A B : Prop} (H : Aside0 A) (h : A → B := by intro z_; (with_reducible repeat (first | apply Kd.V_alloc | apply Kd.V_drewN | apply Kd.V_drew)); exact z_) : B := h H.out
theorem au7n {A B : Prop} (H : Aside0 A) (h : A → B := by intro z_; (with_reducible repeat (first | apply Kd.N_alloc | apply Kd.N_drewN | apply Kd.N_drew)); exact z_) : B := h H.out
theorem au7r {A B : Prop} (H : Aside0 A) (h : A → B := by intro z_; (with_reducible repeat (first | apply Kd.R_alloc | apply Kd.R_drewN | apply Kd.R_drew)); exact z_) : B := h H.out
theorem au7c {B : Prop} (h : B := by first | (simp [Array.getElem?_append, Ar.cells_size]; done) | (simp [Array.getElem?_append, Array.getElem_push, Ar.cells_size]; done)) : B := h
theorem au7s {A B : Prop} (H : Aside0 A) (h : A → B := by intro z_; repeat (first | (with_reducible first | exact z_ | apply below_alloc | apply pw_below_drewN | apply below_drew1 | refine below_set ?_ (Aside0.out (by assumption))) | exact z_)) : B := h H.out
theorem au7z {B : Prop} (h : B := by first | (simp only [putAll, Act.put, zA_, zB_, zC_]; done) | (simp only [putAll, Act.put, zA_, zB_, zC_]; rfl)) : B := h
theorem au7B {g : Nat} {o : Obj} {w0 w w1 : World} (H : Aside0 (w0.heap[g]? = some o)) (hb : Below w.heap.size w w1) (h : w0.heap[g]? = some o → w.heap[g]? = some o := by intro z_; (with_reducible repeat (first | refine blk_drewN ?_ _ | refine blk_drew ?_ | refine blk_alloc ?_ _)); exact z_) : w1.heap[g]? = some o := blk_below (h H.out) hb
theorem au7G {g : Nat} {o : Obj} {w0 w w1 : World} {row : Option Nat} (H : Aside0 (w0.heap[g]? = some o)) (hg : w.grownBy w1 row) (hne : some g ≠ row) (h : w0.heap[g]? = some o → w.heap[g]? = some o := by intro z_; (with_reducible repeat (first | refine blk_drewN ?_ _ | refine blk_drew ?_ | refine blk_alloc ?_ _)); exact z_) : w1.heap[g]? = some o := blk_grown (h H.out) hg hne
def drawlotlaw05_alive.q := fun (k : Nat) (p0_ : Int) (p1_ : Int) (p2_ : Int) (p3_ : Int) (p4_ : Int) (p5_ : Int) p6_ p7_ p8_ p9_ p10_ p11_ p12_ p13_ => ((if p0_ = 0 then (if p1_ = 0 then (if p2_ = 0 then (if p3_ = 0 then (if p4_ = 2 then (if p5_ = 1 then ((sha_Text.f k p6_).bind fun t232 => (if t232.toList = ([98, 97, 55, 56, 49, 54, 98, 102, 56, 102, 48, 49, 99, 102, 101, 97, 52, 49, 52, 49, 52, 48, 100, 101, 53, 100, 97, 101, 50, 50, 50, 51, 98, 48, 48, 51, 54, 49, 97, 51, 57, 54, 49, 55, 55, 97, 57, 99, 98, 52, 49, 48, 102, 102, 54, 49, 102, 50, 48, 48, 49, 53, 97, 100] : List UInt8) then (if (Ar.eqb 32 p6_ p7_) = true then ((sha_Sum.f k (([((([97, 98, 99] : List Int)))] : List (List Int)))).bind fun t242 => (if (Ar.eqb 32 t242 p6_) = true then ((sha_Sum.f k (([((([97, 98] : List Int))), ((([99] : List Int)))] : List (List Int)))).bind fun t258 => (if (Ar.eqb 32 t258 p6_) = true then ((sha_Sum.f k ([] : List (List Int))).bind fun t259 => ((sha_Text.f k t259).bind fun t260 => (if 0 ≤ 8 then (if 8 ≤ (t260.size : Int) then (if (t260.extract 0 8).toList = ([101, 51, 98, 48, 99, 52, 52, 50] : List UInt8) then ((sha_Right.f p8_ p9_ p10_).bind fun t261 => (if t261 = true then ((sha_Right.f (List.replicate 8 0) ([] : List Int) 1).bind fun t262 => (if t262 = true then (none) else ((sha_Same.f p8_ p9_ p10_ p8_ p9_ p10_).bind fun t263 => (if t263 = true then ((sha_Same.f p8_ p9_ p10_ p11_ p12_ p13_).bind fun t264 => (some (!t264))) else (none))))) else (none))) else (none)) else (none)) else (none)))) else (none))) else (none))) else (none)) else (none))) else (none)) else (none)) else (none)) else (none)) else (none)) else (none)) : Option Bool)
def drawlotlaw05_alive.f (k : Nat)  : Option (Bool) := (sha_New.f).bind fun bt177 => ((sha_Write.f k bt177.1 bt177.2.1 bt177.2.2 (([((([97] : List Int))), ((([98] : List Int)))] : List (List Int)))).bind fun bt197 => ((sha_Write.f k bt197.1 bt197.2.1 bt197.2.2.1 (([((([99] : List Int)))] : List (List Int)))).bind fun bt213 => ((sha_Finish.f k bt213.1 bt213.2.1 bt213.2.2.1).bind fun bt220 => ((sha_Parse.f k (⟨#[98, 97, 55, 56, 49, 54, 98, 102, 56, 102, 48, 49, 99, 102, 101, 97, 52, 49, 52, 49, 52, 48, 100, 101, 53, 100, 97, 101, 50, 50, 50, 51, 98, 48, 48, 51, 54, 49, 97, 51, 57, 54, 49, 55, 55, 97, 57, 99, 98, 52, 49, 48, 102, 102, 54, 49, 102, 50, 48, 48, 49, 53, 97, 100]⟩ : ByteArray)).bind fun bt223 => ((sha_Parse.f k (⟨#[122, 122]⟩ : ByteArray)).bind fun bt226 => ((sha_Finish.f k (List.replicate 8 0) ([] : List Int) 1).bind fun bt229 => (drawlotlaw05_alive.q k bt197.2.2.2 bt213.2.2.2 bt220.2 bt223.2 bt226.2 bt229.2 bt220.1 bt223.1 bt213.1 bt213.2.1 bt213.2.2.1 bt197.1 bt197.2.1 bt197.2.2.1)))))))
theorem drawlotlaw05_alive.mono : ∀ k, LeO (drawlotlaw05_alive.f k ) (drawlotlaw05_alive.f (k + 1) ) := by
 intro  k
 unfold drawlotlaw05_alive.f
 unfold drawlotlaw05_alive.q
 repeat' first
   | (with_reducible exact sha_Finish.mono _ _ _ _)
   | (with_reducible exact sha_Parse.mono _ _)
   | (with_reducible exact sha_Sum.mono _ _)
   | (with_reducible exact sha_Text.mono _ _)
   | (with_reducible exact sha_Write.mono _ _ _ _ _)
   | (with_reducible exact LeO.refl _)
   | (with_reducible exact LeO.none _)
   | (with_reducible refine LeO.ite ?_ ?_)
   | (with_reducible refine LeO.bind ?_ (fun _ => ?_))
   | exact sha_Finish.mono _ _ _ _
   | exact sha_Parse.mono _ _
   | exact sha_Sum.mono _ _
   | exact sha_Text.mono _ _
   | exact sha_Write.mono _ _ _ _ _
   | exact LeO.none _
   | refine LeO.ite ?_ ?_
   | refine LeO.bind ?_ (fun _ => ?_)
def drawlotlaw05_alive.T7 : Bool × List (List Nat × List Nat) := (true, [([], []), ([0], [0]), ([1], [1]), ([2], [2]), ([3, 2], [2, 3]), ([2, 4], [2, 4]), ([5, 2], [5]), ([6], [6]), ([7, 6], [6, 7]), ([6, 8], [6, 8]), ([9, 6], [9]), ([10], [10]), ([11, 10], [10, 11]), ([10, 12], [10, 12]), ([13, 10], [13]), ([14], [14]), ([15, 14], [14, 15]), ([14, 16], [14, 16]), ([17, 14], [17]), ([18], [18]), ([19, 18], [18, 19]), ([18, 20], [18, 20]), ([21, 18], [21]), ([22], [22]), ([23, 22, 22], [22, 23]), ([24, 22], [22, 24]), ([22, 25], [22, 25]), ([26, 24], [26]), ([27], [27]), ([27], [27]), ([28, 29, 27], [27, 28, 29]), ([27, 30], [27, 30]), ([31, 27], [31]), ([32], [32]), ([33, 32], [32, 33]), ([34, 32], [32, 34]), ([35, 32, 32], [32, 35]), ([32], [32]), ([36, 37, 32], [32, 36, 37]), ([32, 38], [32, 38]), ([39, 36], [39]), ([40], [40]), ([41, 40], [40, 41]), ([40], [40]), ([43, 40], [40, 43]), ([42, 44, 40], [40, 42, 44]), ([45, 40, 40], [40, 45]), ([40], [40]), ([46, 47, 40], [40, 46, 47]), ([40, 48], [40, 48]), ([49, 46], [49]), ([50, 50], [50]), ([51, 51, 50], [50, 51]), ([52, 50], [50, 52]), ([53, 50], [50, 53]), ([50, 54], [50, 54]), ([55, 52], [55]), ([56], [56]), ([57, 56, 56], [56, 57]), ([56, 58], [56, 58]), ([59, 58], [59]), ([60], [60]), ([61, 60, 60], [60, 61]), ([62, 60], [60, 62]), ([60, 63], [60, 63]), ([64, 62], [64]), ([65], [65]), ([65], [65]), ([66, 67, 65, 65], [65, 66, 67]), ([65, 68], [65, 68]), ([69, 68], [69]), ([70], [70]), ([70], [70]), ([71, 72, 70, 70], [70, 71, 72]), ([73, 70], [70, 73]), ([70, 74], [70, 74]), ([75, 73, 0, 1, 2, 3, 4, 5, 6, 7, 8, 9, 10, 11, 12, 13, 14, 15, 16, 17, 18, 19, 20, 21, 22, 23, 24, 25, 26, 27, 28, 29, 30, 31, 32, 33, 34, 35, 36, 37, 38, 39, 40, 41, 42, 43, 44, 45, 46, 47, 48, 49, 50, 51, 52, 53, 54, 55, 56, 57, 58, 59, 60, 61, 62, 63, 64, 65, 66, 67, 68, 69, 70, 71, 72, 73, 74, 75], [75])])
def drawlotlaw05_alive.B7 : List Nat := [0, 1, 3, 7, 15, 31, 63, 127, 255, 511, 1023, 2047, 4095, 8191, 16383, 32767, 65535, 131071, 262143, 524287, 1048575, 2097151, 4194303, 8388607, 16777215, 33554431, 67108863, 134217727, 268435455, 268435455, 1073741823, 2147483647, 4294967295, 8589934591, 17179869183, 34359738367, 68719476735, 8589934591, 274877906943, 549755813887, 1099511627775, 2199023255551, 4398046511103, 2199023255551, 10995116277759, 35184372088831, 70368744177663, 2199023255551, 281474976710655, 562949953421311, 1125899906842623, 2251799813685247, 4503599627370495, 9007199254740991, 18014398509481983, 36028797018963967, 72057594037927935, 144115188075855871, 288230376151711743, 576460752303423487, 1152921504606846975, 2305843009213693951, 4611686018427387903, 9223372036854775807, 18446744073709551615, 36893488147419103231, 73786976294838206463, 73786976294838206463, 295147905179352825855, 590295810358705651711, 1180591620717411303423, 2361183241434822606847, 2361183241434822606847, 9444732965739290427391, 18889465931478580854783, 37778931862957161709567, 75557863725914323419135]
theorem drawlotlaw05_alive.tab7 : rtab .any (opsOf Tryd.f7 7) = drawlotlaw05_alive.T7 := by kernel_rfl
theorem drawlotlaw05_alive.bits7 : waitsOk drawlotlaw05_alive.T7.2 drawlotlaw05_alive.B7 = true := by kernel_rfl
set_option maxHeartbeats 8000000 in
set_option maxRecDepth 100000 in
theorem drawlotlaw05_alive.calls (k : Nat)  (r : Bool) (w : World) (h : drawlotlaw05_alive.f k  = some r) :
  Calls Tryd.prog 7 #[] w fun e w' => e = .returned (.bool r) ∧ Below w.heap.size w w' := by
 have hu36 := Tryd.underlying36
 have HB := Aside0.mk (Below.refl w.heap.size w)
 have H : ((sha_New.f).bind fun bt177 => ((sha_Write.f k bt177.1 bt177.2.1 bt177.2.2 (([((([97] : List Int))), ((([98] : List Int)))] : List (List Int)))).bind fun bt197 => ((sha_Write.f k bt197.1 bt197.2.1 bt197.2.2.1 (([((([99] : List Int)))] : List (List Int)))).bind fun bt213 => ((sha_Finish.f k bt213.1 bt213.2.1 bt213.2.2.1).bind fun bt220 => ((sha_Parse.f k (⟨#[98, 97, 55, 56, 49, 54, 98, 102, 56, 102, 48, 49, 99, 102, 101, 97, 52, 49, 52, 49, 52, 48, 100, 101, 53, 100, 97, 101, 50, 50, 50, 51, 98, 48, 48, 51, 54, 49, 97, 51, 57, 54, 49, 55, 55, 97, 57, 99, 98, 52, 49, 48, 102, 102, 54, 49, 102, 50, 48, 48, 49, 53, 97, 100]⟩ : ByteArray)).bind fun bt223 => ((sha_Parse.f k (⟨#[122, 122]⟩ : ByteArray)).bind fun bt226 => ((sha_Finish.f k (List.replicate 8 0) ([] : List Int) 1).bind fun bt229 => (drawlotlaw05_alive.q k bt197.2.2.2 bt213.2.2.2 bt220.2 bt223.2 bt226.2 bt229.2 bt220.1 bt223.1 bt213.1 bt213.2.1 bt213.2.2.1 bt197.1 bt197.2.1 bt197.2.2.1)))))))) = some r := h
 clear h
 replace H := Option.bind_eq_some_iff.mp H
 obtain ⟨⟨t177, t178, t181⟩, A10, H⟩ := H
 replace H : ((sha_Write.f k t177 t178 t181 (([((([97] : List Int))), ((([98] : List Int)))] : List (List Int)))).bind fun bt197 => ((sha_Write.f k bt197.1 bt197.2.1 bt197.2.2.1 (([((([99] : List Int)))] : List (List Int)))).bind fun bt213 => ((sha_Finish.f k bt213.1 bt213.2.1 bt213.2.2.1).bind fun bt220 => ((sha_Parse.f k (⟨#[98, 97, 55, 56, 49, 54, 98, 102, 56, 102, 48, 49, 99, 102, 101, 97, 52, 49, 52, 49, 52, 48, 100, 101, 53, 100, 97, 101, 50, 50, 50, 51, 98, 48, 48, 51, 54, 49, 97, 51, 57, 54, 49, 55, 55, 97, 57, 99, 98, 52, 49, 48, 102, 102, 54, 49, 102, 50, 48, 48, 49, 53, 97, 100]⟩ : ByteArray)).bind fun bt223 => ((sha_Parse.f k (⟨#[122, 122]⟩ : ByteArray)).bind fun bt226 => ((sha_Finish.f k (List.replicate 8 0) ([] : List Int) 1).bind fun bt229 => (drawlotlaw05_alive.q k bt197.2.2.2 bt213.2.2.2 bt220.2 bt223.2 bt226.2 bt229.2 bt220.1 bt223.1 bt213.1 bt213.2.1 bt213.2.2.1 bt197.1 bt197.2.1 bt197.2.2.1))))))) = some r := H
 have A1 := Aside0.mk A10
 clear A10
 obtain ⟨y182, hy182⟩ : ∃ y_ : List Int, y_ = (([97] : List Int)) := ⟨_, rfl⟩
 replace H : ((sha_Write.f k t177 t178 t181 (([(y182), ((([98] : List Int)))] : List (List Int)))).bind fun bt197 => ((sha_Write.f k bt197.1 bt197.2.1 bt197.2.2.1 (([((([99] : List Int)))] : List (List Int)))).bind fun bt213 => ((sha_Finish.f k bt213.1 bt213.2.1 bt213.2.2.1).bind fun bt220 => ((sha_Parse.f k (⟨#[98, 97, 55, 56, 49, 54, 98, 102, 56, 102, 48, 49, 99, 102, 101, 97, 52, 49, 52, 49, 52, 48, 100, 101, 53, 100, 97, 101, 50, 50, 50, 51, 98, 48, 48, 51, 54, 49, 97, 51, 57, 54, 49, 55, 55, 97, 57, 99, 98, 52, 49, 48, 102, 102, 54, 49, 102, 50, 48, 48, 49, 53, 97, 100]⟩ : ByteArray)).bind fun bt223 => ((sha_Parse.f k (⟨#[122, 122]⟩ : ByteArray)).bind fun bt226 => ((sha_Finish.f k (List.replicate 8 0) ([] : List Int) 1).bind fun bt229 => (drawlotlaw05_alive.q k bt197.2.2.2 bt213.2.2.2 bt220.2 bt223.2 bt226.2 bt229.2 bt220.1 bt223.1 bt213.1 bt213.2.1 bt213.2.2.1 bt197.1 bt197.2.1 bt197.2.2.1))))))) = some r := by first | (rw [hy182]; with_reducible exact H) | (have H2_ := (Option.bind_some _ _).symm.trans H; rw [hy182]; with_reducible exact H2_) | (have H2_ := (Option.bind_some _ _).symm.trans H; with_reducible exact H2_) | with_reducible exact H | (rw [hy182]; exact H) | exact H
 have Ny182 := Aside0.mk hy182
 clear hy182
 obtain ⟨y185, hy185⟩ : ∃ y_ : List Int, y_ = (y182) := ⟨_, rfl⟩
 replace H : ((sha_Write.f k t177 t178 t181 (([y185, ((([98] : List Int)))] : List (List Int)))).bind fun bt197 => ((sha_Write.f k bt197.1 bt197.2.1 bt197.2.2.1 (([((([99] : List Int)))] : List (List Int)))).bind fun bt213 => ((sha_Finish.f k bt213.1 bt213.2.1 bt213.2.2.1).bind fun bt220 => ((sha_Parse.f k (⟨#[98, 97, 55, 56, 49, 54, 98, 102, 56, 102, 48, 49, 99, 102, 101, 97, 52, 49, 52, 49, 52, 48, 100, 101, 53, 100, 97, 101, 50, 50, 50, 51, 98, 48, 48, 51, 54, 49, 97, 51, 57, 54, 49, 55, 55, 97, 57, 99, 98, 52, 49, 48, 102, 102, 54, 49, 102, 50, 48, 48, 49, 53, 97, 100]⟩ : ByteArray)).bind fun bt223 => ((sha_Parse.f k (⟨#[122, 122]⟩ : ByteArray)).bind fun bt226 => ((sha_Finish.f k (List.replicate 8 0) ([] : List Int) 1).bind fun bt229 => (drawlotlaw05_alive.q k bt197.2.2.2 bt213.2.2.2 bt220.2 bt223.2 bt226.2 bt229.2 bt220.1 bt223.1 bt213.1 bt213.2.1 bt213.2.2.1 bt197.1 bt197.2.1 bt197.2.2.1))))))) = some r := by first | (rw [hy185]; with_reducible exact H) | (have H2_ := (Option.bind_some _ _).symm.trans H; rw [hy185]; with_reducible exact H2_) | (have H2_ := (Option.bind_some _ _).symm.trans H; with_reducible exact H2_) | with_reducible exact H | (rw [hy185]; exact H) | exact H
 have Ny185 := Aside0.mk hy185
 clear hy185
 obtain ⟨y188, hy188⟩ : ∃ y_ : List Int, y_ = (([98] : List Int)) := ⟨_, rfl⟩
 replace H : ((sha_Write.f k t177 t178 t181 (([y185, (y188)] : List (List Int)))).bind fun bt197 => ((sha_Write.f k bt197.1 bt197.2.1 bt197.2.2.1 (([((([99] : List Int)))] : List (List Int)))).bind fun bt213 => ((sha_Finish.f k bt213.1 bt213.2.1 bt213.2.2.1).bind fun bt220 => ((sha_Parse.f k (⟨#[98, 97, 55, 56, 49, 54, 98, 102, 56, 102, 48, 49, 99, 102, 101, 97, 52, 49, 52, 49, 52, 48, 100, 101, 53, 100, 97, 101, 50, 50, 50, 51, 98, 48, 48, 51, 54, 49, 97, 51, 57, 54, 49, 55, 55, 97, 57, 99, 98, 52, 49, 48, 102, 102, 54, 49, 102, 50, 48, 48, 49, 53, 97, 100]⟩ : ByteArray)).bind fun bt223 => ((sha_Parse.f k (⟨#[122, 122]⟩ : ByteArray)).bind fun bt226 => ((sha_Finish.f k (List.replicate 8 0) ([] : List Int) 1).bind fun bt229 => (drawlotlaw05_alive.q k bt197.2.2.2 bt213.2.2.2 bt220.2 bt223.2 bt226.2 bt229.2 bt220.1 bt223.1 bt213.1 bt213.2.1 bt213.2.2.1 bt197.1 bt197.2.1 bt197.2.2.1))))))) = some r := by first | (rw [hy188]; with_reducible exact H) | (have H2_ := (Option.bind_some _ _).symm.trans H; rw [hy188]; with_reducible exact H2_) | (have H2_ := (Option.bind_some _ _).symm.trans H; with_reducible exact H2_) | with_reducible exact H | (rw [hy188]; exact H) | exact H
 have Ny188 := Aside0.mk hy188
 clear hy188
 obtain ⟨y191, hy191⟩ : ∃ y_ : List Int, y_ = (y188) := ⟨_, rfl⟩
 replace H : ((sha_Write.f k t177 t178 t181 (([y185, y191] : List (List Int)))).bind fun bt197 => ((sha_Write.f k bt197.1 bt197.2.1 bt197.2.2.1 (([((([99] : List Int)))] : List (List Int)))).bind fun bt213 => ((sha_Finish.f k bt213.1 bt213.2.1 bt213.2.2.1).bind fun bt220 => ((sha_Parse.f k (⟨#[98, 97, 55, 56, 49, 54, 98, 102, 56, 102, 48, 49, 99, 102, 101, 97, 52, 49, 52, 49, 52, 48, 100, 101, 53, 100, 97, 101, 50, 50, 50, 51, 98, 48, 48, 51, 54, 49, 97, 51, 57, 54, 49, 55, 55, 97, 57, 99, 98, 52, 49, 48, 102, 102, 54, 49, 102, 50, 48, 48, 49, 53, 97, 100]⟩ : ByteArray)).bind fun bt223 => ((sha_Parse.f k (⟨#[122, 122]⟩ : ByteArray)).bind fun bt226 => ((sha_Finish.f k (List.replicate 8 0) ([] : List Int) 1).bind fun bt229 => (drawlotlaw05_alive.q k bt197.2.2.2 bt213.2.2.2 bt220.2 bt223.2 bt226.2 bt229.2 bt220.1 bt223.1 bt213.1 bt213.2.1 bt213.2.2.1 bt197.1 bt197.2.1 bt197.2.2.1))))))) = some r := by first | (rw [hy191]; with_reducible exact H) | (have H2_ := (Option.bind_some _ _).symm.trans H; rw [hy191]; with_reducible exact H2_) | (have H2_ := (Option.bind_some _ _).symm.trans H; with_reducible exact H2_) | with_reducible exact H | (rw [hy191]; exact H) | exact H
 have Ny191 := Aside0.mk hy191
 clear hy191
 obtain ⟨y194, hy194⟩ : ∃ y_ : List (List Int), y_ = (([y185, y191] : List (List Int))) := ⟨_, rfl⟩
 replace H : ((sha_Write.f k t177 t178 t181 y194).bind fun bt197 => ((sha_Write.f k bt197.1 bt197.2.1 bt197.2.2.1 (([((([99] : List Int)))] : List (List Int)))).bind fun bt213 => ((sha_Finish.f k bt213.1 bt213.2.1 bt213.2.2.1).bind fun bt220 => ((sha_Parse.f k (⟨#[98, 97, 55, 56, 49, 54, 98, 102, 56, 102, 48, 49, 99, 102, 101, 97, 52, 49, 52, 49, 52, 48, 100, 101, 53, 100, 97, 101, 50, 50, 50, 51, 98, 48, 48, 51, 54, 49, 97, 51, 57, 54, 49, 55, 55, 97, 57, 99, 98, 52, 49, 48, 102, 102, 54, 49, 102, 50, 48, 48, 49, 53, 97, 100]⟩ : ByteArray)).bind fun bt223 => ((sha_Parse.f k (⟨#[122, 122]⟩ : ByteArray)).bind fun bt226 => ((sha_Finish.f k (List.replicate 8 0) ([] : List Int) 1).bind fun bt229 => (drawlotlaw05_alive.q k bt197.2.2.2 bt213.2.2.2 bt220.2 bt223.2 bt226.2 bt229.2 bt220.1 bt223.1 bt213.1 bt213.2.1 bt213.2.2.1 bt197.1 bt197.2.1 bt197.2.2.1))))))) = some r := by first | (rw [hy194]; with_reducible exact H) | (have H2_ := (Option.bind_some _ _).symm.trans H; rw [hy194]; with_reducible exact H2_) | (have H2_ := (Option.bind_some _ _).symm.trans H; with_reducible exact H2_) | with_reducible exact H | (rw [hy194]; exact H) | exact H
 have Ny194 := Aside0.mk hy194
 clear hy194
 replace H := Option.bind_eq_some_iff.mp H
 obtain ⟨⟨t197, t198, t201, t202⟩, A20, H⟩ := H
 replace H : ((sha_Write.f k t197 t198 t201 (([((([99] : List Int)))] : List (List Int)))).bind fun bt213 => ((sha_Finish.f k bt213.1 bt213.2.1 bt213.2.2.1).bind fun bt220 => ((sha_Parse.f k (⟨#[98, 97, 55, 56, 49, 54, 98, 102, 56, 102, 48, 49, 99, 102, 101, 97, 52, 49, 52, 49, 52, 48, 100, 101, 53, 100, 97, 101, 50, 50, 50, 51, 98, 48, 48, 51, 54, 49, 97, 51, 57, 54, 49, 55, 55, 97, 57, 99, 98, 52, 49, 48, 102, 102, 54, 49, 102, 50, 48, 48, 49, 53, 97, 100]⟩ : ByteArray)).bind fun bt223 => ((sha_Parse.f k (⟨#[122, 122]⟩ : ByteArray)).bind fun bt226 => ((sha_Finish.f k (List.replicate 8 0) ([] : List Int) 1).bind fun bt229 => (drawlotlaw05_alive.q k t202 bt213.2.2.2 bt220.2 bt223.2 bt226.2 bt229.2 bt220.1 bt223.1 bt213.1 bt213.2.1 bt213.2.2.1 t197 t198 t201)))))) = some r := H
 have A2 := Aside0.mk A20
 clear A20
 obtain ⟨y204, hy204⟩ : ∃ y_ : List Int, y_ = (([99] : List Int)) := ⟨_, rfl⟩
 replace H : ((sha_Write.f k t197 t198 t201 (([(y204)] : List (List Int)))).bind fun bt213 => ((sha_Finish.f k bt213.1 bt213.2.1 bt213.2.2.1).bind fun bt220 => ((sha_Parse.f k (⟨#[98, 97, 55, 56, 49, 54, 98, 102, 56, 102, 48, 49, 99, 102, 101, 97, 52, 49, 52, 49, 52, 48, 100, 101, 53, 100, 97, 101, 50, 50, 50, 51, 98, 48, 48, 51, 54, 49, 97, 51, 57, 54, 49, 55, 55, 97, 57, 99, 98, 52, 49, 48, 102, 102, 54, 49, 102, 50, 48, 48, 49, 53, 97, 100]⟩ : ByteArray)).bind fun bt223 => ((sha_Parse.f k (⟨#[122, 122]⟩ : ByteArray)).bind fun bt226 => ((sha_Finish.f k (List.replicate 8 0) ([] : List Int) 1).bind fun bt229 => (drawlotlaw05_alive.q k t202 bt213.2.2.2 bt220.2 bt223.2 bt226.2 bt229.2 bt220.1 bt223.1 bt213.1 bt213.2.1 bt213.2.2.1 t197 t198 t201)))))) = some r := by first | (rw [hy204]; with_reducible exact H) | (have H2_ := (Option.bind_some _ _).symm.trans H; rw [hy204]; with_reducible exact H2_) | (have H2_ := (Option.bind_some _ _).symm.trans H; with_reducible exact H2_) | with_reducible exact H | (rw [hy204]; exact H) | exact H
 have Ny204 := Aside0.mk hy204
 clear hy204
 obtain ⟨y207, hy207⟩ : ∃ y_ : List Int, y_ = (y204) := ⟨_, rfl⟩
 replace H : ((sha_Write.f k t197 t198 t201 (([y207] : List (List Int)))).bind fun bt213 => ((sha_Finish.f k bt213.1 bt213.2.1 bt213.2.2.1).bind fun bt220 => ((sha_Parse.f k (⟨#[98, 97, 55, 56, 49, 54, 98, 102, 56, 102, 48, 49, 99, 102, 101, 97, 52, 49, 52, 49, 52, 48, 100, 101, 53, 100, 97, 101, 50, 50, 50, 51, 98, 48, 48, 51, 54, 49, 97, 51, 57, 54, 49, 55, 55, 97, 57, 99, 98, 52, 49, 48, 102, 102, 54, 49, 102, 50, 48, 48, 49, 53, 97, 100]⟩ : ByteArray)).bind fun bt223 => ((sha_Parse.f k (⟨#[122, 122]⟩ : ByteArray)).bind fun bt226 => ((sha_Finish.f k (List.replicate 8 0) ([] : List Int) 1).bind fun bt229 => (drawlotlaw05_alive.q k t202 bt213.2.2.2 bt220.2 bt223.2 bt226.2 bt229.2 bt220.1 bt223.1 bt213.1 bt213.2.1 bt213.2.2.1 t197 t198 t201)))))) = some r := by first | (rw [hy207]; with_reducible exact H) | (have H2_ := (Option.bind_some _ _).symm.trans H; rw [hy207]; with_reducible exact H2_) | (have H2_ := (Option.bind_some _ _).symm.trans H; with_reducible exact H2_) | with_reducible exact H | (rw [hy207]; exact H) | exact H
 have Ny207 := Aside0.mk hy207
 clear hy207
 obtain ⟨y210, hy210⟩ : ∃ y_ : List (List Int), y_ = (([y207] : List (List Int))) := ⟨_, rfl⟩
 replace H : ((sha_Write.f k t197 t198 t201 y210).bind fun bt213 => ((sha_Finish.f k bt213.1 bt213.2.1 bt213.2.2.1).bind fun bt220 => ((sha_Parse.f k (⟨#[98, 97, 55, 56, 49, 54, 98, 102, 56, 102, 48, 49, 99, 102, 101, 97, 52, 49, 52, 49, 52, 48, 100, 101, 53, 100, 97, 101, 50, 50, 50, 51, 98, 48, 48, 51, 54, 49, 97, 51, 57, 54, 49, 55, 55, 97, 57, 99, 98, 52, 49, 48, 102, 102, 54, 49, 102, 50, 48, 48, 49, 53, 97, 100]⟩ : ByteArray)).bind fun bt223 => ((sha_Parse.f k (⟨#[122, 122]⟩ : ByteArray)).bind fun bt226 => ((sha_Finish.f k (List.replicate 8 0) ([] : List Int) 1).bind fun bt229 => (drawlotlaw05_alive.q k t202 bt213.2.2.2 bt220.2 bt223.2 bt226.2 bt229.2 bt220.1 bt223.1 bt213.1 bt213.2.1 bt213.2.2.1 t197 t198 t201)))))) = some r := by first | (rw [hy210]; with_reducible exact H) | (have H2_ := (Option.bind_some _ _).symm.trans H; rw [hy210]; with_reducible exact H2_) | (have H2_ := (Option.bind_some _ _).symm.trans H; with_reducible exact H2_) | with_reducible exact H | (rw [hy210]; exact H) | exact H
 have Ny210 := Aside0.mk hy210
 clear hy210
 replace H := Option.bind_eq_some_iff.mp H
 obtain ⟨⟨t213, t214, t217, t218⟩, A30, H⟩ := H
 replace H : ((sha_Finish.f k t213 t214 t217).bind fun bt220 => ((sha_Parse.f k (⟨#[98, 97, 55, 56, 49, 54, 98, 102, 56, 102, 48, 49, 99, 102, 101, 97, 52, 49, 52, 49, 52, 48, 100, 101, 53, 100, 97, 101, 50, 50, 50, 51, 98, 48, 48, 51, 54, 49, 97, 51, 57, 54, 49, 55, 55, 97, 57, 99, 98, 52, 49, 48, 102, 102, 54, 49, 102, 50, 48, 48, 49, 53, 97, 100]⟩ : ByteArray)).bind fun bt223 => ((sha_Parse.f k (⟨#[122, 122]⟩ : ByteArray)).bind fun bt226 => ((sha_Finish.f k (List.replicate 8 0) ([] : List Int) 1).bind fun bt229 => (drawlotlaw05_alive.q k t202 t218 bt220.2 bt223.2 bt226.2 bt229.2 bt220.1 bt223.1 t213 t214 t217 t197 t198 t201))))) = some r := H
 have A3 := Aside0.mk A30
 clear A30
 replace H := Option.bind_eq_some_iff.mp H
 obtain ⟨⟨t220, t221⟩, A40, H⟩ := H
 replace H : ((sha_Parse.f k (⟨#[98, 97, 55, 56, 49, 54, 98, 102, 56, 102, 48, 49, 99, 102, 101, 97, 52, 49, 52, 49, 52, 48, 100, 101, 53, 100, 97, 101, 50, 50, 50, 51, 98, 48, 48, 51, 54, 49, 97, 51, 57, 54, 49, 55, 55, 97, 57, 99, 98, 52, 49, 48, 102, 102, 54, 49, 102, 50, 48, 48, 49, 53, 97, 100]⟩ : ByteArray)).bind fun bt223 => ((sha_Parse.f k (⟨#[122, 122]⟩ : ByteArray)).bind fun bt226 => ((sha_Finish.f k (List.replicate 8 0) ([] : List Int) 1).bind fun bt229 => (drawlotlaw05_alive.q k t202 t218 t221 bt223.2 bt226.2 bt229.2 t220 bt223.1 t213 t214 t217 t197 t198 t201)))) = some r := H
 have A4 := Aside0.mk A40
 clear A40
 replace H := Option.bind_eq_some_iff.mp H
 obtain ⟨⟨t223, t224⟩, A50, H⟩ := H
 replace H : ((sha_Parse.f k (⟨#[122, 122]⟩ : ByteArray)).bind fun bt226 => ((sha_Finish.f k (List.replicate 8 0) ([] : List Int) 1).bind fun bt229 => (drawlotlaw05_alive.q k t202 t218 t221 t224 bt226.2 bt229.2 t220 t223 t213 t214 t217 t197 t198 t201))) = some r := H
 have A5 := Aside0.mk A50
 clear A50
 replace H := Option.bind_eq_some_iff.mp H
 obtain ⟨⟨t226, t227⟩, A60, H⟩ := H
 replace H : ((sha_Finish.f k (List.replicate 8 0) ([] : List Int) 1).bind fun bt229 => (drawlotlaw05_alive.q k t202 t218 t221 t224 t227 bt229.2 t220 t223 t213 t214 t217 t197 t198 t201)) = some r := H
 have A6 := Aside0.mk A60
 clear A60
 replace H := Option.bind_eq_some_iff.mp H
 obtain ⟨⟨t229, t230⟩, A70, H⟩ := H
 replace H : (if t202 = 0 then (if t218 = 0 then (if t221 = 0 then (if t224 = 0 then (if t227 = 2 then (if t230 = 1 then ((sha_Text.f k t220).bind fun t232 => (if t232.toList = ([98, 97, 55, 56, 49, 54, 98, 102, 56, 102, 48, 49, 99, 102, 101, 97, 52, 49, 52, 49, 52, 48, 100, 101, 53, 100, 97, 101, 50, 50, 50, 51, 98, 48, 48, 51, 54, 49, 97, 51, 57, 54, 49, 55, 55, 97, 57, 99, 98, 52, 49, 48, 102, 102, 54, 49, 102, 50, 48, 48, 49, 53, 97, 100] : List UInt8) then (if (Ar.eqb 32 t220 t223) = true then ((sha_Sum.f k (([((([97, 98, 99] : List Int)))] : List (List Int)))).bind fun t242 => (if (Ar.eqb 32 t242 t220) = true then ((sha_Sum.f k (([((([97, 98] : List Int))), ((([99] : List Int)))] : List (List Int)))).bind fun t258 => (if (Ar.eqb 32 t258 t220) = true then ((sha_Sum.f k ([] : List (List Int))).bind fun t259 => ((sha_Text.f k t259).bind fun t260 => (if 0 ≤ 8 then (if 8 ≤ (t260.size : Int) then (if (t260.extract 0 8).toList = ([101, 51, 98, 48, 99, 52, 52, 50] : List UInt8) then ((sha_Right.f t213 t214 t217).bind fun t261 => (if t261 = true then ((sha_Right.f (List.replicate 8 0) ([] : List Int) 1).bind fun t262 => (if t262 = true then (none) else ((sha_Same.f t213 t214 t217 t213 t214 t217).bind fun t263 => (if t263 = true then ((sha_Same.f t213 t214 t217 t197 t198 t201).bind fun t264 => (some (!t264))) else (none))))) else (none))) else (none)) else (none)) else (none)))) else (none))) else (none))) else (none)) else (none))) else (none)) else (none)) else (none)) else (none)) else (none)) else (none)) = some r := H
 have A7 := Aside0.mk A70
 clear A70
 by_cases c8 : t202 = 0
 rotate_left
 ·rw [if_neg c8] at H; exact absurd H (by simp)
 rw [if_pos c8] at H
 have c8b0 : (t202 == 0) = true := beq_iff_eq.mpr c8
 have c8b1 : (t202 != 0) = false := bne_eq_false_iff_eq.mpr c8
 clear c8
 by_cases c9 : t218 = 0
 rotate_left
 ·rw [if_neg c9] at H; exact absurd H (by simp)
 rw [if_pos c9] at H
 have c9b0 : (t218 == 0) = true := beq_iff_eq.mpr c9
 have c9b1 : (t218 != 0) = false := bne_eq_false_iff_eq.mpr c9
 clear c9
 by_cases c10 : t221 = 0
 rotate_left
 ·rw [if_neg c10] at H; exact absurd H (by simp)
 rw [if_pos c10] at H
 have c10b0 : (t221 == 0) = true := beq_iff_eq.mpr c10
 have c10b1 : (t221 != 0) = false := bne_eq_false_iff_eq.mpr c10
 clear c10
 by_cases c11 : t224 = 0
 rotate_left
 ·rw [if_neg c11] at H; exact absurd H (by simp)
 rw [if_pos c11] at H
 have c11b0 : (t224 == 0) = true := beq_iff_eq.mpr c11
 have c11b1 : (t224 != 0) = false := bne_eq_false_iff_eq.mpr c11
 clear c11
 by_cases c12 : t227 = 2
 rotate_left
 ·rw [if_neg c12] at H; exact absurd H (by simp)
 rw [if_pos c12] at H
 have c12b0 : (t227 == 2) = true := beq_iff_eq.mpr c12
 have c12b1 : (t227 != 2) = false := bne_eq_false_iff_eq.mpr c12
 clear c12
 by_cases c13 : t230 = 1
 rotate_left
 ·rw [if_neg c13] at H; exact absurd H (by simp)
 rw [if_pos c13] at H
 have c13b0 : (t230 == 1) = true := beq_iff_eq.mpr c13
 have c13b1 : (t230 != 1) = false := bne_eq_false_iff_eq.mpr c13
 clear c13
 replace H := Option.bind_eq_some_iff.mp H
 obtain ⟨t232, A140, H⟩ := H
 replace H : (if t232.toList = ([98, 97, 55, 56, 49, 54, 98, 102, 56, 102, 48, 49, 99, 102, 101, 97, 52, 49, 52, 49, 52, 48, 100, 101, 53, 100, 97, 101, 50, 50, 50, 51, 98, 48, 48, 51, 54, 49, 97, 51, 57, 54, 49, 55, 55, 97, 57, 99, 98, 52, 49, 48, 102, 102, 54, 49, 102, 50, 48, 48, 49, 53, 97, 100] : List UInt8) then (if (Ar.eqb 32 t220 t223) = true then ((sha_Sum.f k (([((([97, 98, 99] : List Int)))] : List (List Int)))).bind fun t242 => (if (Ar.eqb 32 t242 t220) = true then ((sha_Sum.f k (([((([97, 98] : List Int))), ((([99] : List Int)))] : List (List Int)))).bind fun t258 => (if (Ar.eqb 32 t258 t220) = true then ((sha_Sum.f k ([] : List (List Int))).bind fun t259 => ((sha_Text.f k t259).bind fun t260 => (if 0 ≤ 8 then (if 8 ≤ (t260.size : Int) then (if (t260.extract 0 8).toList = ([101, 51, 98, 48, 99, 52, 52, 50] : List UInt8) then ((sha_Right.f t213 t214 t217).bind fun t261 => (if t261 = true then ((sha_Right.f (List.replicate 8 0) ([] : List Int) 1).bind fun t262 => (if t262 = true then (none) else ((sha_Same.f t213 t214 t217 t213 t214 t217).bind fun t263 => (if t263 = true then ((sha_Same.f t213 t214 t217 t197 t198 t201).bind fun t264 => (some (!t264))) else (none))))) else (none))) else (none)) else (none)) else (none)))) else (none))) else (none))) else (none)) else (none)) = some r := H
 have A14 := Aside0.mk A140
 clear A140
 by_cases c15 : t232.toList = ([98, 97, 55, 56, 49, 54, 98, 102, 56, 102, 48, 49, 99, 102, 101, 97, 52, 49, 52, 49, 52, 48, 100, 101, 53, 100, 97, 101, 50, 50, 50, 51, 98, 48, 48, 51, 54, 49, 97, 51, 57, 54, 49, 55, 55, 97, 57, 99, 98, 52, 49, 48, 102, 102, 54, 49, 102, 50, 48, 48, 49, 53, 97, 100] : List UInt8)
 rotate_left
 ·rw [if_neg c15] at H; exact absurd H (by simp)
 rw [if_pos c15] at H
 have c15b0 : (t232.toList == ([98, 97, 55, 56, 49, 54, 98, 102, 56, 102, 48, 49, 99, 102, 101, 97, 52, 49, 52, 49, 52, 48, 100, 101, 53, 100, 97, 101, 50, 50, 50, 51, 98, 48, 48, 51, 54, 49, 97, 51, 57, 54, 49, 55, 55, 97, 57, 99, 98, 52, 49, 48, 102, 102, 54, 49, 102, 50, 48, 48, 49, 53, 97, 100] : List UInt8)) = true := beq_iff_eq.mpr c15
 have c15b1 : (t232.toList != ([98, 97, 55, 56, 49, 54, 98, 102, 56, 102, 48, 49, 99, 102, 101, 97, 52, 49, 52, 49, 52, 48, 100, 101, 53, 100, 97, 101, 50, 50, 50, 51, 98, 48, 48, 51, 54, 49, 97, 51, 57, 54, 49, 55, 55, 97, 57, 99, 98, 52, 49, 48, 102, 102, 54, 49, 102, 50, 48, 48, 49, 53, 97, 100] : List UInt8)) = false := bne_eq_false_iff_eq.mpr c15
 clear c15
 by_cases c16 : (Ar.eqb 32 t220 t223) = true
 rotate_left
 ·rw [if_neg c16] at H; exact absurd H (by simp)
 rw [if_pos c16] at H
 have c16b0 : (Ar.eqb 32 t220 t223) = true := c16
 clear c16
 obtain ⟨y233, hy233⟩ : ∃ y_ : List Int, y_ = (([97, 98, 99] : List Int)) := ⟨_, rfl⟩
 replace H : ((sha_Sum.f k (([(y233)] : List (List Int)))).bind fun t242 => (if (Ar.eqb 32 t242 t220) = true then ((sha_Sum.f k (([((([97, 98] : List Int))), ((([99] : List Int)))] : List (List Int)))).bind fun t258 => (if (Ar.eqb 32 t258 t220) = true then ((sha_Sum.f k ([] : List (List Int))).bind fun t259 => ((sha_Text.f k t259).bind fun t260 => (if 0 ≤ 8 then (if 8 ≤ (t260.size : Int) then (if (t260.extract 0 8).toList = ([101, 51, 98, 48, 99, 52, 52, 50] : List UInt8) then ((sha_Right.f t213 t214 t217).bind fun t261 => (if t261 = true then ((sha_Right.f (List.replicate 8 0) ([] : List Int) 1).bind fun t262 => (if t262 = true then (none) else ((sha_Same.f t213 t214 t217 t213 t214 t217).bind fun t263 => (if t263 = true then ((sha_Same.f t213 t214 t217 t197 t198 t201).bind fun t264 => (some (!t264))) else (none))))) else (none))) else (none)) else (none)) else (none)))) else (none))) else (none))) = some r := by first | (rw [hy233]; with_reducible exact H) | (have H2_ := (Option.bind_some _ _).symm.trans H; rw [hy233]; with_reducible exact H2_) | (have H2_ := (Option.bind_some _ _).symm.trans H; with_reducible exact H2_) | with_reducible exact H | (rw [hy233]; exact H) | exact H
 have Ny233 := Aside0.mk hy233
 clear hy233
 obtain ⟨y236, hy236⟩ : ∃ y_ : List Int, y_ = (y233) := ⟨_, rfl⟩
 replace H : ((sha_Sum.f k (([y236] : List (List Int)))).bind fun t242 => (if (Ar.eqb 32 t242 t220) = true then ((sha_Sum.f k (([((([97, 98] : List Int))), ((([99] : List Int)))] : List (List Int)))).bind fun t258 => (if (Ar.eqb 32 t258 t220) = true then ((sha_Sum.f k ([] : List (List Int))).bind fun t259 => ((sha_Text.f k t259).bind fun t260 => (if 0 ≤ 8 then (if 8 ≤ (t260.size : Int) then (if (t260.extract 0 8).toList = ([101, 51, 98, 48, 99, 52, 52, 50] : List UInt8) then ((sha_Right.f t213 t214 t217).bind fun t261 => (if t261 = true then ((sha_Right.f (List.replicate 8 0) ([] : List Int) 1).bind fun t262 => (if t262 = true then (none) else ((sha_Same.f t213 t214 t217 t213 t214 t217).bind fun t263 => (if t263 = true then ((sha_Same.f t213 t214 t217 t197 t198 t201).bind fun t264 => (some (!t264))) else (none))))) else (none))) else (none)) else (none)) else (none)))) else (none))) else (none))) = some r := by first | (rw [hy236]; with_reducible exact H) | (have H2_ := (Option.bind_some _ _).symm.trans H; rw [hy236]; with_reducible exact H2_) | (have H2_ := (Option.bind_some _ _).symm.trans H; with_reducible exact H2_) | with_reducible exact H | (rw [hy236]; exact H) | exact H
 have Ny236 := Aside0.mk hy236
 clear hy236
 obtain ⟨y239, hy239⟩ : ∃ y_ : List (List Int), y_ = (([y236] : List (List Int))) := ⟨_, rfl⟩
 replace H : ((sha_Sum.f k y239).bind fun t242 => (if (Ar.eqb 32 t242 t220) = true then ((sha_Sum.f k (([((([97, 98] : List Int))), ((([99] : List Int)))] : List (List Int)))).bind fun t258 => (if (Ar.eqb 32 t258 t220) = true then ((sha_Sum.f k ([] : List (List Int))).bind fun t259 => ((sha_Text.f k t259).bind fun t260 => (if 0 ≤ 8 then (if 8 ≤ (t260.size : Int) then (if (t260.extract 0 8).toList = ([101, 51, 98, 48, 99, 52, 52, 50] : List UInt8) then ((sha_Right.f t213 t214 t217).bind fun t261 => (if t261 = true then ((sha_Right.f (List.replicate 8 0) ([] : List Int) 1).bind fun t262 => (if t262 = true then (none) else ((sha_Same.f t213 t214 t217 t213 t214 t217).bind fun t263 => (if t263 = true then ((sha_Same.f t213 t214 t217 t197 t198 t201).bind fun t264 => (some (!t264))) else (none))))) else (none))) else (none)) else (none)) else (none)))) else (none))) else (none))) = some r := by first | (rw [hy239]; with_reducible exact H) | (have H2_ := (Option.bind_some _ _).symm.trans H; rw [hy239]; with_reducible exact H2_) | (have H2_ := (Option.bind_some _ _).symm.trans H; with_reducible exact H2_) | with_reducible exact H | (rw [hy239]; exact H) | exact H
 have Ny239 := Aside0.mk hy239
 clear hy239
 replace H := Option.bind_eq_some_iff.mp H
 obtain ⟨t242, A170, H⟩ := H
 replace H : (if (Ar.eqb 32 t242 t220) = true then ((sha_Sum.f k (([((([97, 98] : List Int))), ((([99] : List Int)))] : List (List Int)))).bind fun t258 => (if (Ar.eqb 32 t258 t220) = true then ((sha_Sum.f k ([] : List (List Int))).bind fun t259 => ((sha_Text.f k t259).bind fun t260 => (if 0 ≤ 8 then (if 8 ≤ (t260.size : Int) then (if (t260.extract 0 8).toList = ([101, 51, 98, 48, 99, 52, 52, 50] : List UInt8) then ((sha_Right.f t213 t214 t217).bind fun t261 => (if t261 = true then ((sha_Right.f (List.replicate 8 0) ([] : List Int) 1).bind fun t262 => (if t262 = true then (none) else ((sha_Same.f t213 t214 t217 t213 t214 t217).bind fun t263 => (if t263 = true then ((sha_Same.f t213 t214 t217 t197 t198 t201).bind fun t264 => (some (!t264))) else (none))))) else (none))) else (none)) else (none)) else (none)))) else (none))) else (none)) = some r := H
 have A17 := Aside0.mk A170
 clear A170
 by_cases c18 : (Ar.eqb 32 t242 t220) = true
 rotate_left
 ·rw [if_neg c18] at H; exact absurd H (by simp)
 rw [if_pos c18] at H
 have c18b0 : (Ar.eqb 32 t242 t220) = true := c18
 clear c18
 obtain ⟨y243, hy243⟩ : ∃ y_ : List Int, y_ = (([97, 98] : List Int)) := ⟨_, rfl⟩
 replace H : ((sha_Sum.f k (([(y243), ((([99] : List Int)))] : List (List Int)))).bind fun t258 => (if (Ar.eqb 32 t258 t220) = true then ((sha_Sum.f k ([] : List (List Int))).bind fun t259 => ((sha_Text.f k t259).bind fun t260 => (if 0 ≤ 8 then (if 8 ≤ (t260.size : Int) then (if (t260.extract 0 8).toList = ([101, 51, 98, 48, 99, 52, 52, 50] : List UInt8) then ((sha_Right.f t213 t214 t217).bind fun t261 => (if t261 = true then ((sha_Right.f (List.replicate 8 0) ([] : List Int) 1).bind fun t262 => (if t262 = true then (none) else ((sha_Same.f t213 t214 t217 t213 t214 t217).bind fun t263 => (if t263 = true then ((sha_Same.f t213 t214 t217 t197 t198 t201).bind fun t264 => (some (!t264))) else (none))))) else (none))) else (none)) else (none)) else (none)))) else (none))) = some r := by first | (rw [hy243]; with_reducible exact H) | (have H2_ := (Option.bind_some _ _).symm.trans H; rw [hy243]; with_reducible exact H2_) | (have H2_ := (Option.bind_some _ _).symm.trans H; with_reducible exact H2_) | with_reducible exact H | (rw [hy243]; exact H) | exact H
 have Ny243 := Aside0.mk hy243
 clear hy243
 obtain ⟨y246, hy246⟩ : ∃ y_ : List Int, y_ = (y243) := ⟨_, rfl⟩
 replace H : ((sha_Sum.f k (([y246, ((([99] : List Int)))] : List (List Int)))).bind fun t258 => (if (Ar.eqb 32 t258 t220) = true then ((sha_Sum.f k ([] : List (List Int))).bind fun t259 => ((sha_Text.f k t259).bind fun t260 => (if 0 ≤ 8 then (if 8 ≤ (t260.size : Int) then (if (t260.extract 0 8).toList = ([101, 51, 98, 48, 99, 52, 52, 50] : List UInt8) then ((sha_Right.f t213 t214 t217).bind fun t261 => (if t261 = true then ((sha_Right.f (List.replicate 8 0) ([] : List Int) 1).bind fun t262 => (if t262 = true then (none) else ((sha_Same.f t213 t214 t217 t213 t214 t217).bind fun t263 => (if t263 = true then ((sha_Same.f t213 t214 t217 t197 t198 t201).bind fun t264 => (some (!t264))) else (none))))) else (none))) else (none)) else (none)) else (none)))) else (none))) = some r := by first | (rw [hy246]; with_reducible exact H) | (have H2_ := (Option.bind_some _ _).symm.trans H; rw [hy246]; with_reducible exact H2_) | (have H2_ := (Option.bind_some _ _).symm.trans H; with_reducible exact H2_) | with_reducible exact H | (rw [hy246]; exact H) | exact H
 have Ny246 := Aside0.mk hy246
 clear hy246
 obtain ⟨y249, hy249⟩ : ∃ y_ : List Int, y_ = (([99] : List Int)) := ⟨_, rfl⟩
 replace H : ((sha_Sum.f k (([y246, (y249)] : List (List Int)))).bind fun t258 => (if (Ar.eqb 32 t258 t220) = true then ((sha_Sum.f k ([] : List (List Int))).bind fun t259 => ((sha_Text.f k t259).bind fun t260 => (if 0 ≤ 8 then (if 8 ≤ (t260.size : Int) then (if (t260.extract 0 8).toList = ([101, 51, 98, 48, 99, 52, 52, 50] : List UInt8) then ((sha_Right.f t213 t214 t217).bind fun t261 => (if t261 = true then ((sha_Right.f (List.replicate 8 0) ([] : List Int) 1).bind fun t262 => (if t262 = true then (none) else ((sha_Same.f t213 t214 t217 t213 t214 t217).bind fun t263 => (if t263 = true then ((sha_Same.f t213 t214 t217 t197 t198 t201).bind fun t264 => (some (!t264))) else (none))))) else (none))) else (none)) else (none)) else (none)))) else (none))) = some r := by first | (rw [hy249]; with_reducible exact H) | (have H2_ := (Option.bind_some _ _).symm.trans H; rw [hy249]; with_reducible exact H2_) | (have H2_ := (Option.bind_some _ _).symm.trans H; with_reducible exact H2_) | with_reducible exact H | (rw [hy249]; exact H) | exact H
 have Ny249 := Aside0.mk hy249
 clear hy249
 obtain ⟨y252, hy252⟩ : ∃ y_ : List Int, y_ = (y249) := ⟨_, rfl⟩
 replace H : ((sha_Sum.f k (([y246, y252] : List (List Int)))).bind fun t258 => (if (Ar.eqb 32 t258 t220) = true then ((sha_Sum.f k ([] : List (List Int))).bind fun t259 => ((sha_Text.f k t259).bind fun t260 => (if 0 ≤ 8 then (if 8 ≤ (t260.size : Int) then (if (t260.extract 0 8).toList = ([101, 51, 98, 48, 99, 52, 52, 50] : List UInt8) then ((sha_Right.f t213 t214 t217).bind fun t261 => (if t261 = true then ((sha_Right.f (List.replicate 8 0) ([] : List Int) 1).bind fun t262 => (if t262 = true then (none) else ((sha_Same.f t213 t214 t217 t213 t214 t217).bind fun t263 => (if t263 = true then ((sha_Same.f t213 t214 t217 t197 t198 t201).bind fun t264 => (some (!t264))) else (none))))) else (none))) else (none)) else (none)) else (none)))) else (none))) = some r := by first | (rw [hy252]; with_reducible exact H) | (have H2_ := (Option.bind_some _ _).symm.trans H; rw [hy252]; with_reducible exact H2_) | (have H2_ := (Option.bind_some _ _).symm.trans H; with_reducible exact H2_) | with_reducible exact H | (rw [hy252]; exact H) | exact H
 have Ny252 := Aside0.mk hy252
 clear hy252
 obtain ⟨y255, hy255⟩ : ∃ y_ : List (List Int), y_ = (([y246, y252] : List (List Int))) := ⟨_, rfl⟩
 replace H : ((sha_Sum.f k y255).bind fun t258 => (if (Ar.eqb 32 t258 t220) = true then ((sha_Sum.f k ([] : List (List Int))).bind fun t259 => ((sha_Text.f k t259).bind fun t260 => (if 0 ≤ 8 then (if 8 ≤ (t260.size : Int) then (if (t260.extract 0 8).toList = ([101, 51, 98, 48, 99, 52, 52, 50] : List UInt8) then ((sha_Right.f t213 t214 t217).bind fun t261 => (if t261 = true then ((sha_Right.f (List.replicate 8 0) ([] : List Int) 1).bind fun t262 => (if t262 = true then (none) else ((sha_Same.f t213 t214 t217 t213 t214 t217).bind fun t263 => (if t263 = true then ((sha_Same.f t213 t214 t217 t197 t198 t201).bind fun t264 => (some (!t264))) else (none))))) else (none))) else (none)) else (none)) else (none)))) else (none))) = some r := by first | (rw [hy255]; with_reducible exact H) | (have H2_ := (Option.bind_some _ _).symm.trans H; rw [hy255]; with_reducible exact H2_) | (have H2_ := (Option.bind_some _ _).symm.trans H; with_reducible exact H2_) | with_reducible exact H | (rw [hy255]; exact H) | exact H
 have Ny255 := Aside0.mk hy255
 clear hy255
 replace H := Option.bind_eq_some_iff.mp H
 obtain ⟨t258, A190, H⟩ := H
 replace H : (if (Ar.eqb 32 t258 t220) = true then ((sha_Sum.f k ([] : List (List Int))).bind fun t259 => ((sha_Text.f k t259).bind fun t260 => (if 0 ≤ 8 then (if 8 ≤ (t260.size : Int) then (if (t260.extract 0 8).toList = ([101, 51, 98, 48, 99, 52, 52, 50] : List UInt8) then ((sha_Right.f t213 t214 t217).bind fun t261 => (if t261 = true then ((sha_Right.f (List.replicate 8 0) ([] : List Int) 1).bind fun t262 => (if t262 = true then (none) else ((sha_Same.f t213 t214 t217 t213 t214 t217).bind fun t263 => (if t263 = true then ((sha_Same.f t213 t214 t217 t197 t198 t201).bind fun t264 => (some (!t264))) else (none))))) else (none))) else (none)) else (none)) else (none)))) else (none)) = some r := H
 have A19 := Aside0.mk A190
 clear A190
 by_cases c20 : (Ar.eqb 32 t258 t220) = true
 rotate_left
 ·rw [if_neg c20] at H; exact absurd H (by simp)
 rw [if_pos c20] at H
 have c20b0 : (Ar.eqb 32 t258 t220) = true := c20
 clear c20
 replace H := Option.bind_eq_some_iff.mp H
 obtain ⟨t259, A210, H⟩ := H
 replace H : ((sha_Text.f k t259).bind fun t260 => (if 0 ≤ 8 then (if 8 ≤ (t260.size : Int) then (if (t260.extract 0 8).toList = ([101, 51, 98, 48, 99, 52, 52, 50] : List UInt8) then ((sha_Right.f t213 t214 t217).bind fun t261 => (if t261 = true then ((sha_Right.f (List.replicate 8 0) ([] : List Int) 1).bind fun t262 => (if t262 = true then (none) else ((sha_Same.f t213 t214 t217 t213 t214 t217).bind fun t263 => (if t263 = true then ((sha_Same.f t213 t214 t217 t197 t198 t201).bind fun t264 => (some (!t264))) else (none))))) else (none))) else (none)) else (none)) else (none))) = some r := H
 have A21 := Aside0.mk A210
 clear A210
 replace H := Option.bind_eq_some_iff.mp H
 obtain ⟨t260, A220, H⟩ := H
 replace H : (if 0 ≤ 8 then (if 8 ≤ (t260.size : Int) then (if (t260.extract 0 8).toList = ([101, 51, 98, 48, 99, 52, 52, 50] : List UInt8) then ((sha_Right.f t213 t214 t217).bind fun t261 => (if t261 = true then ((sha_Right.f (List.replicate 8 0) ([] : List Int) 1).bind fun t262 => (if t262 = true then (none) else ((sha_Same.f t213 t214 t217 t213 t214 t217).bind fun t263 => (if t263 = true then ((sha_Same.f t213 t214 t217 t197 t198 t201).bind fun t264 => (some (!t264))) else (none))))) else (none))) else (none)) else (none)) else (none)) = some r := H
 have A22 := Aside0.mk A220
 clear A220
 by_cases c23 : 0 ≤ 8
 rotate_left
 ·rw [if_neg c23] at H; exact absurd H (by simp)
 rw [if_pos c23] at H
 have c23b0 := eq_true c23
 have c23b1 : decide (0 ≤ 8) = true := decide_eq_true c23
 clear c23
 by_cases c24 : 8 ≤ (t260.size : Int)
 rotate_left
 ·rw [if_neg c24] at H; exact absurd H (by simp)
 rw [if_pos c24] at H
 have c24b0 := eq_true c24
 have c24b1 : decide (8 ≤ (t260.size : Int)) = true := decide_eq_true c24
 clear c24
 by_cases c25 : (t260.extract 0 8).toList = ([101, 51, 98, 48, 99, 52, 52, 50] : List UInt8)
 rotate_left
 ·rw [if_neg c25] at H; exact absurd H (by simp)
 rw [if_pos c25] at H
 have c25b0 : ((t260.extract 0 8).toList == ([101, 51, 98, 48, 99, 52, 52, 50] : List UInt8)) = true := beq_iff_eq.mpr c25
 have c25b1 : ((t260.extract 0 8).toList != ([101, 51, 98, 48, 99, 52, 52, 50] : List UInt8)) = false := bne_eq_false_iff_eq.mpr c25
 clear c25
 replace H := Option.bind_eq_some_iff.mp H
 obtain ⟨t261, A260, H⟩ := H
 replace H : (if t261 = true then ((sha_Right.f (List.replicate 8 0) ([] : List Int) 1).bind fun t262 => (if t262 = true then (none) else ((sha_Same.f t213 t214 t217 t213 t214 t217).bind fun t263 => (if t263 = true then ((sha_Same.f t213 t214 t217 t197 t198 t201).bind fun t264 => (some (!t264))) else (none))))) else (none)) = some r := H
 have A26 := Aside0.mk A260
 clear A260
 by_cases c27 : t261 = true
 ·subst c27
  have H1 : ((sha_Right.f (List.replicate 8 0) ([] : List Int) 1).bind fun t262 => (if t262 = true then (none) else ((sha_Same.f t213 t214 t217 t213 t214 t217).bind fun t263 => (if t263 = true then ((sha_Same.f t213 t214 t217 t197 t198 t201).bind fun t264 => (some (!t264))) else (none))))) = some r := by rw [if_pos rfl] at H; exact H
  clear H
  have H := H1
  clear H1
  replace H := Option.bind_eq_some_iff.mp H
  obtain ⟨t262, A280, H⟩ := H
  replace H : (if t262 = true then (none) else ((sha_Same.f t213 t214 t217 t213 t214 t217).bind fun t263 => (if t263 = true then ((sha_Same.f t213 t214 t217 t197 t198 t201).bind fun t264 => (some (!t264))) else (none)))) = some r := H
  have A28 := Aside0.mk A280
  clear A280
  by_cases c29 : t262 = true
  ·subst c29
   have H1 : (none) = some r := by rw [if_pos rfl] at H; exact H
   clear H
   have H := H1
   clear H1
   exact absurd H (by simp)
  ·replace c29 := Bool.eq_false_iff.mpr c29
   subst c29
   have H1 : ((sha_Same.f t213 t214 t217 t213 t214 t217).bind fun t263 => (if t263 = true then ((sha_Same.f t213 t214 t217 t197 t198 t201).bind fun t264 => (some (!t264))) else (none))) = some r := by rw [if_neg (show ¬ (false = true) by decide)] at H; exact H
   clear H
   have H := H1
   clear H1
   replace H := Option.bind_eq_some_iff.mp H
   obtain ⟨t263, A300, H⟩ := H
   replace H : (if t263 = true then ((sha_Same.f t213 t214 t217 t197 t198 t201).bind fun t264 => (some (!t264))) else (none)) = some r := H
   have A30 := Aside0.mk A300
   clear A300
   by_cases c31 : t263 = true
   ·subst c31
    have H1 : ((sha_Same.f t213 t214 t217 t197 t198 t201).bind fun t264 => (some (!t264))) = some r := by rw [if_pos rfl] at H; exact H
    clear H
    have H := H1
    clear H1
    replace H := Option.bind_eq_some_iff.mp H
    obtain ⟨t264, A320, H⟩ := H
    replace H : (some (!t264)) = some r := H
    have A32 := Aside0.mk A320
    clear A320
    obtain rfl := Option.some.inj H
    go_enter Tryd.func7, Tryd.ntmps7
    try simp only [List.append]
    try go_wp2_with (first | ((with_reducible refine gate_callee (f := 20) rfl ?_); refine goesL_ (some 14) rfl rfl Tryd.func20 (by kernel_rfl) rfl #[] rfl ql ?_; (with_reducible refine (sha_New.calls  t177 t178 t181 _ A1.out).mono ?_); rintro e w33 ⟨v179, rfl, ho0, hb⟩; refine ⟨_, rfl, ?_⟩; have HO180 := Aside0.mk (Kd.R_lower ho0 (below_size (au7s HB))); replace HB := Aside0.mk (below_step (au7s HB) hb); (try clear hb); (try clear hb2); (try clear hk); (try clear hi); (try clear ho0)) | ((with_reducible refine gate_dst (N := 15) rfl ?_); (try (refine gate_guard (by rfl) ?_; dsimp only)); refine Kd.R_lit (Kd.int .u8) _ 5 ?hg (N := 15) ?hd (xs := ([97] : List Int)) (inner := [.int .u8 97]) (ok := fun _ => True) (okp := fun _ => True) ?hr ?hp (fun _ hk => hk) trivial (Below.refl _ _) (Nat.le_refl _) (by simp) ?_; (case hd => rfl); (case hg => rfl); (case hr => first | (go_simp; done) | (go_simp; rfl)); (case hp => exact (Reps.one (show Kd.M (Kd.int .u8) _ _ _ 97 [.int .u8 97] from rfl) (Reps.none _ _))); intro v183 w34 ho35 hb hg_ hnew_; clear hg_ hnew_; (first | rw [← Ny182.out] at ho35 | (simp only [Int.reduceToNat] at ho35; rw [← Ny182.out] at ho35)); have HO184 := Aside0.mk (Kd.R_lower (Kd.R_new' ho35 (Kd.R_lt (au7r HO180))) (below_size (au7s HB))); replace HO180 := Aside0.mk (Kd.R_elder' (au7r HO180) (Kd.R_base ho35) hb); replace HB := Aside0.mk (below_step (au7s HB) hb); clear hb ho35) | ((with_reducible refine gate_dst (N := 16) rfl ?_); (try (refine gate_guard (by rfl) ?_; dsimp only)); refine Ar.mark_event (w0 := w) rfl (D := 16) rfl (T := 29) rfl Tryd.underlying29 Tryd.underlying5 (v := v183) rfl (k := .u8) (e := 5) (xs := y182) (base := w.heap.size) (ok := (fun k_ => some k_ ≠ (v179 : Value).ownBlock)) ?aO ?aP ?aB ?_; (case aB => exact (au7s HB)); (case aO => exact (by (with_reducible repeat (first | apply Kd.R_alloc | apply Kd.R_drewN | apply Kd.R_drew)); exact Kd.R_mono HO184.out (fun _ hk => hk.2))); (case aP => first | (rw [Ny182.out]; simp; done) | (simp; done) | omega); intro v186 w36 ho hb hg hat; rw [← Ny185.out] at ho; replace HO180 := Aside0.mk (Kd.R_mono (Kd.R_after (ok := (fun _ => True)) (au7r HO180) hg hat) (fun _ h_ => h_.1)); replace HB := Aside0.mk (hb); have HO187 := Aside0.mk (ho); clear HO184 ho hb hg hat) | ((with_reducible refine gate_dst (N := 17) rfl ?_); (try (refine gate_guard (by rfl) ?_; dsimp only)); refine Kd.R_lit (Kd.int .u8) _ 5 ?hg (N := 17) ?hd (xs := ([98] : List Int)) (inner := [.int .u8 98]) (ok := fun _ => True) (okp := fun _ => True) ?hr ?hp (fun _ hk => hk) trivial (Below.refl _ _) (Nat.le_refl _) (by simp) ?_; (case hd => rfl); (case hg => rfl); (case hr => first | (go_simp; done) | (go_simp; rfl)); (case hp => exact (Reps.one (show Kd.M (Kd.int .u8) _ _ _ 98 [.int .u8 98] from rfl) (Reps.none _ _))); intro v189 w37 ho38 hb hg_ hnew_; clear hg_ hnew_; (first | rw [← Ny188.out] at ho38 | (simp only [Int.reduceToNat] at ho38; rw [← Ny188.out] at ho38)); replace HO187 := Aside0.mk (Kd.V_elder' (au7v HO187) (Kd.R_base ho38) hb); have HO190 := Aside0.mk (Kd.R_lower (Kd.R_new' ho38 (Kd.R_lt (au7r HO180))) (below_size (au7s HB))); replace HO180 := Aside0.mk (Kd.R_elder' (au7r HO180) (Kd.R_base ho38) hb); replace HB := Aside0.mk (below_step (au7s HB) hb); clear hb ho38) | ((with_reducible refine gate_dst (N := 18) rfl ?_); (try (refine gate_guard (by rfl) ?_; dsimp only)); refine Ar.mark_event (w0 := w) rfl (D := 18) rfl (T := 29) rfl Tryd.underlying29 Tryd.underlying5 (v := v189) rfl (k := .u8) (e := 5) (xs := y188) (base := w.heap.size) (ok := (fun k_ => some k_ ≠ (v179 : Value).ownBlock)) ?aO ?aP ?aB ?_; (case aB => exact (au7s HB)); (case aO => exact (by (with_reducible repeat (first | apply Kd.R_alloc | apply Kd.R_drewN | apply Kd.R_drew)); exact Kd.R_mono HO190.out (fun _ hk => hk.2))); (case aP => first | (rw [Ny188.out]; simp; done) | (simp; done) | omega); intro v192 w39 ho hb hg hat; rw [← Ny191.out] at ho; replace HO180 := Aside0.mk (Kd.R_mono (Kd.R_after (ok := (fun _ => True)) (au7r HO180) hg hat) (fun _ h_ => h_.1)); replace HO187 := Aside0.mk (Kd.V_mono (Kd.V_afterv (ok := (fun k_ => some k_ ≠ (v179 : Value).ownBlock)) (au7v HO187) hg hat) (fun _ h_ => h_.1)); replace HB := Aside0.mk (hb); have HO193 := Aside0.mk (ho); clear HO190 ho hb hg hat; obtain ⟨Ao40, co40, eo40⟩ := Kd.V_slice HO187.out; subst eo40; obtain ⟨Ao41, co41, eo41⟩ := Kd.V_slice HO193.out; subst eo41) | ((with_reducible refine gate_dst (N := 19) rfl ?_); (try (refine gate_guard (by rfl) ?_; dsimp only)); refine Kd.N_lit (Kd.slice 5 (Kd.int .u8)) _ 29 ?hg (N' := 19) ?hd (xs := ([y185, y191] : List (List Int))) (inner := [.slice Ao40 y185.length co40, .slice Ao41 y191.length co41]) (ok := (fun k_ => some k_ ≠ (v179 : Value).ownBlock)) (okp := (fun k_ => some k_ ≠ (v179 : Value).ownBlock)) ?hr ?hp (fun _ hk => hk) ((show ∀ k_, w39.heap.size ≤ k_ → (fun k_ => some k_ ≠ (v179 : Value).ownBlock) k_ from fun k_ hk => Kd.fresh' (Kd.R_lt (au7r HO180)) k_ hk) _ (Nat.le_refl _)) (Below.refl _ _) (Nat.le_refl _) (by simp) ?_; (case hd => rfl); (case hg => rfl); (case hr => first | (go_simp; done) | (go_simp; rfl)); (case hp => exact (Reps.one ((Kd.FK_slice_mk (Kd.V_reads' (Kd.V_mono (ok' := (fun k_ => some k_ ≠ (v179 : Value).ownBlock)) (HO187.out) (fun k_ hk => hk))).2.1 (Kd.V_F (e := 5) (base := w.heap.size) (Kd.V_mono (ok := (fun k_ => some k_ ≠ (v179 : Value).ownBlock)) (ok' := (fun k_ => some k_ ≠ (v179 : Value).ownBlock)) (by repeat (first | exact HO187.out | apply Kd.V_drewN | apply Kd.V_alloc | apply Kd.V_drew)) (fun k_ hk => hk)))) : Kd.FK (Kd.slice 5 (Kd.int .u8)) _ _ y185 [.slice Ao40 y185.length co40]) (Reps.one ((Kd.FK_slice_mk (Kd.V_reads' (Kd.V_mono (ok' := (fun k_ => some k_ ≠ (v179 : Value).ownBlock)) (HO193.out) (fun k_ hk => hk))).2.1 (Kd.V_F (e := 5) (base := w.heap.size) (Kd.V_mono (ok := (fun k_ => some k_ ≠ (v179 : Value).ownBlock)) (ok' := (fun k_ => some k_ ≠ (v179 : Value).ownBlock)) (by repeat (first | exact HO193.out | apply Kd.V_drewN | apply Kd.V_alloc | apply Kd.V_drew)) (fun k_ hk => hk)))) : Kd.FK (Kd.slice 5 (Kd.int .u8)) _ _ y191 [.slice Ao41 y191.length co41]) (Reps.none _ _)))); intro v195 w42 ho43 hb hg_ hnew_; clear hg_ hnew_; (first | rw [← Ny194.out] at ho43 | (simp only [Int.reduceToNat] at ho43; rw [← Ny194.out] at ho43)); replace HO180 := Aside0.mk (Kd.R_below (au7r HO180) hb); replace HO187 := Aside0.mk (Kd.V_elder' (au7v HO187) (Kd.N_base ho43) hb); replace HO193 := Aside0.mk (Kd.V_elder' (au7v HO193) (Kd.N_base ho43) hb); have HO196 := Aside0.mk (Kd.N_lower ho43 (below_size (au7s HB))); replace HB := Aside0.mk (below_step (au7s HB) hb); clear hb ho43; obtain ⟨Ao44, co44, eo44⟩ := Kd.R_slice HO180.out; subst eo44; obtain ⟨Ao45, co45, eo45⟩ := Kd.N_slice HO196.out; subst eo45) | ((with_reducible refine gate_callee (f := 12) rfl ?_); refine goesL_ (some 20) rfl rfl Tryd.func12 (by kernel_rfl) rfl #[.agg ((Ar.cells .u32 8 t177) ++ #[.slice Ao44 t178.length co44, .int .u64 t181]), .slice Ao45 y194.length co45] rfl ql ?_; (with_reducible refine (sha_Write.calls k t177 (fun k_ => some k_ = (.slice Ao44 t178.length co44 : Value).ownBlock) _ _ t178 t181 _ _ y194 t197 t198 t201 t202 _ ?side1 ?side2 ?side3 A2.out).mono ?_); (case side1 => exact Kd.R_V (Kd.R_tight rfl (Kd.R_apart' (HO180.out) (Kd.N_typed HO196.out) (by decide)))); (case side2 => repeat (first | exact (Kd.N_reads' HO196.out).2.2 | (with_reducible refine Kd.C_alloc ?_ _) | (with_reducible refine Kd.C_drewN ?_ _) | (with_reducible refine Kd.C_drew ?_))); (case side3 => exact (Kd.N_reads' HO196.out).2.1); rintro e w46 ⟨v199, rfl, ho0, hb⟩; refine ⟨_, rfl, ?_⟩; replace HO187 := Aside0.mk (Kd.V_below (au7v HO187) hb); replace HO193 := Aside0.mk (Kd.V_below (au7v HO193) hb); have HO200 := Aside0.mk (Kd.V_lower (Kd.V_mono (ok' := fun k_ => some k_ ≠ (.slice Ao45 y194.length co45 : Value).ownBlock) ho0 (fun k_ hk_ => Or.elim hk_ (fun hs_ => ((Kd.R_apart' (HO180.out) (Kd.N_typed HO196.out) (by decide)).1 k_ hs_.symm).2) (fun hn_ => (Kd.fresh' (Kd.N_lt (au7n HO196)) k_ hn_)))) (below_size (au7s HB))); replace HO180 := Aside0.mk (Kd.R_below (au7r HO180) hb); replace HO196 := Aside0.mk (Kd.N_below (au7n HO196) hb); replace HB := Aside0.mk (below_step (au7s HB) hb); (try clear hb); (try clear hb2); (try clear hk); (try clear hi); (try clear ho0)) | ((with_reducible refine gate_dst (N := 1) rfl ?_); (try (refine gate_guard (by rfl) ?_; dsimp only)); refine qF (N := 1) (cs := ((Ar.cells .u32 8 (List.replicate 8 0)) ++ #[.slice none 0 0, .int .u64 0])) (t := 36) ?_; intro gb203 hg w47 hbox hb; replace HO180 := Aside0.mk (Kd.R_below (au7r HO180) hb); replace HO187 := Aside0.mk (Kd.V_below (Kd.V_elderB (au7v HO187) gb203 (Nat.le_of_eq hg.symm)) hb); replace HO193 := Aside0.mk (Kd.V_below (Kd.V_elderB (au7v HO193) gb203 (Nat.le_of_eq hg.symm)) hb); replace HO196 := Aside0.mk (Kd.N_below (Kd.N_elderB (au7n HO196) gb203 (Nat.le_of_eq hg.symm)) hb); replace HO200 := Aside0.mk (Kd.V_below (Kd.V_elderB (au7v HO200) gb203 (Nat.le_of_eq hg.symm)) hb); have BK203 := Aside0.mk (hbox); have GW203 := Aside0.mk ((by rw [hg]; exact (below_size (au7s HB)) : w.heap.size ≤ gb203)); have GE203 := Aside0.mk ((by rw [hg]; exact (below_size (au7s HB)) : w.heap.size ≤ gb203)); replace HB := Aside0.mk (below_step (au7s HB) hb); clear hb hbox hg) | ((with_reducible refine gate_store (t := 36) (p := 1) rfl ?_); refine Ar.gstore_event rfl rfl rfl (D := ((Ar.cells .u32 8 t197) ++ #[v199, .int .u64 t201])) qz (g := gb203) rfl qg (au7b BK203) (by simp [Ar.cells_size]) (by repeat (first | (with_reducible refine Ar.all_app ?_ ?_) | (with_reducible exact Ar.cells_one _ _ _) | (focus (simp [Value.oneCell']; done)) | (focus (simp [(show (v199 : Value).oneCell' = true from by (have e_ := Kd.V_slice HO200.out; obtain ⟨_, _, e_⟩ := e_; rw [e_]; rfl))]; first | done | rfl | (repeat' constructor))) | rfl)) ?_; intro w48 hbk_ hg; replace HO180 := Aside0.mk (Kd.R_mono (Kd.R_grown (Kd.R_types (au7r HO180) BK203.out (by decide)) hg (fun k_ hk_ e_ => hk_.2 (Option.some.inj e_))) (fun _ h_ => h_.1)); replace HO187 := Aside0.mk (Kd.V_grown (au7v HO187) hg (by intro k_ hk e_; exact (hk.2) (Option.some.inj e_))); replace HO193 := Aside0.mk (Kd.V_grown (au7v HO193) hg (by intro k_ hk e_; exact (hk.2) (Option.some.inj e_))); replace HO196 := Aside0.mk (Kd.N_grown (au7n HO196) hg (by intro k_ hk e_; exact (hk.2) (Option.some.inj e_))); replace HO200 := Aside0.mk (Kd.V_grown (au7v HO200) hg (by intro k_ hk e_; exact (hk.2) (Option.some.inj e_))); replace BK203 := Aside0.mk (hbk_); replace HB := Aside0.mk (Below.grown (au7s HB) hg ((below_size (au7s HB))) (fun _ e_ => by cases e_; exact GE203.out)); clear hbk_ hg; obtain ⟨Ao49, co49, eo49⟩ := Kd.V_slice HO200.out; subst eo49) | ((with_reducible refine gate_dst (N := 24) rfl ?_); (try (refine gate_guard (by rfl) ?_; dsimp only)); refine Ar.gload_event rfl (T := 36) rfl Tryd.underlying36 rfl (D := ((Ar.cells .u32 8 t197) ++ #[.slice Ao49 t198.length co49, .int .u64 t201])) qz (A := ⟨gb203, 0, none⟩) rfl (Ar.blk_part (au7b BK203) Ar.in_whole) ?_) | ((with_reducible refine gate_dst (N := 25) rfl ?_); (try (refine gate_guard (by rfl) ?_; dsimp only)); refine Kd.R_lit (Kd.int .u8) _ 5 ?hg (N := 25) ?hd (xs := ([99] : List Int)) (inner := [.int .u8 99]) (ok := fun _ => True) (okp := fun _ => True) ?hr ?hp (fun _ hk => hk) trivial (Below.refl _ _) (Nat.le_refl _) (by simp) ?_; (case hd => rfl); (case hg => rfl); (case hr => first | (go_simp; done) | (go_simp; rfl)); (case hp => exact (Reps.one (show Kd.M (Kd.int .u8) _ _ _ 99 [.int .u8 99] from rfl) (Reps.none _ _))); intro v205 w50 ho51 hb hg_ hnew_; clear hg_ hnew_; (first | rw [← Ny204.out] at ho51 | (simp only [Int.reduceToNat] at ho51; rw [← Ny204.out] at ho51)); replace HO187 := Aside0.mk (Kd.V_elder' (au7v HO187) (Kd.R_base ho51) hb); replace HO193 := Aside0.mk (Kd.V_elder' (au7v HO193) (Kd.R_base ho51) hb); replace HO196 := Aside0.mk (Kd.N_elder' (au7n HO196) (Kd.R_base ho51) hb); replace HO200 := Aside0.mk (Kd.V_elder' (au7v HO200) (Kd.R_base ho51) hb); have HO206 := Aside0.mk (Kd.R_lower (Kd.R_new' ho51 (Kd.R_lt (au7r HO180))) (below_size (au7s HB))); replace HO180 := Aside0.mk (Kd.R_elder' (au7r HO180) (Kd.R_base ho51) hb); replace BK203 := Aside0.mk (au7B BK203 hb); replace HB := Aside0.mk (below_step (au7s HB) hb); clear hb ho51) | ((with_reducible refine gate_dst (N := 26) rfl ?_); (try (refine gate_guard (by rfl) ?_; dsimp only)); refine Ar.mark_event (w0 := w) rfl (D := 26) rfl (T := 29) rfl Tryd.underlying29 Tryd.underlying5 (v := v205) rfl (k := .u8) (e := 5) (xs := y204) (base := w.heap.size) (ok := (fun k_ => some k_ ≠ (.slice Ao44 t178.length co44 : Value).ownBlock ∧ k_ ≠ gb203)) ?aO ?aP ?aB ?_; (case aB => exact (au7s HB)); (case aO => exact (by (with_reducible repeat (first | apply Kd.R_alloc | apply Kd.R_drewN | apply Kd.R_drew)); exact Kd.R_mono (Kd.R_types HO206.out BK203.out (by decide)) (fun _ hk => ⟨hk.1.2, hk.2⟩))); (case aP => first | (rw [Ny204.out]; simp; done) | (simp; done) | omega); intro v208 w52 ho hb hg hat; rw [← Ny207.out] at ho; replace HO180 := Aside0.mk (Kd.R_mono (Kd.R_after (ok := (fun _ => True)) (au7r HO180) hg hat) (fun _ h_ => h_.1)); replace HO187 := Aside0.mk (Kd.V_mono (Kd.V_afterv (ok := (fun k_ => some k_ ≠ (.slice Ao44 t178.length co44 : Value).ownBlock ∧ some k_ ≠ (.slice Ao45 y194.length co45 : Value).ownBlock ∧ k_ ≠ gb203)) (by (with_reducible repeat (first | apply Kd.V_alloc | apply Kd.V_drewN | apply Kd.V_drew)); exact Kd.V_mono HO187.out (fun _ hk => ⟨⟨hk.1.1.1, ⟨hk.1.1.2, hk.1.2⟩⟩, hk.2⟩)) hg hat) (fun _ h_ => h_.1)); replace HO193 := Aside0.mk (Kd.V_mono (Kd.V_afterv (ok := (fun k_ => some k_ ≠ (.slice Ao44 t178.length co44 : Value).ownBlock ∧ some k_ ≠ (.slice Ao45 y194.length co45 : Value).ownBlock ∧ k_ ≠ gb203)) (by (with_reducible repeat (first | apply Kd.V_alloc | apply Kd.V_drewN | apply Kd.V_drew)); exact Kd.V_mono HO193.out (fun _ hk => ⟨⟨hk.1.1.1, ⟨hk.1.1.2, hk.1.2⟩⟩, hk.2⟩)) hg hat) (fun _ h_ => h_.1)); replace HO196 := Aside0.mk (Kd.N_mono (Kd.N_afterv (ok := (fun k_ => some k_ ≠ (.slice Ao44 t178.length co44 : Value).ownBlock ∧ k_ ≠ gb203)) (au7n HO196) hg hat) (fun _ h_ => h_.1)); replace HO200 := Aside0.mk (Kd.V_mono (Kd.V_afterv (ok := (fun k_ => some k_ ≠ (.slice Ao45 y194.length co45 : Value).ownBlock ∧ k_ ≠ gb203)) (au7v HO200) hg hat) (fun _ h_ => h_.1)); replace BK203 := Aside0.mk (au7G BK203 hg (Kd.R_ne HO206.out BK203.out (by decide))); replace HB := Aside0.mk (hb); have HO209 := Aside0.mk (ho); clear HO206 ho hb hg hat; obtain ⟨Ao53, co53, eo53⟩ := Kd.V_slice HO209.out; subst eo53) | ((with_reducible refine gate_dst (N := 27) rfl ?_); (try (refine gate_guard (by rfl) ?_; dsimp only)); refine Kd.N_lit (Kd.slice 5 (Kd.int .u8)) _ 29 ?hg (N' := 27) ?hd (xs := ([y207] : List (List Int))) (inner := [.slice Ao53 y207.length co53]) (ok := (fun k_ => some k_ ≠ (.slice Ao44 t178.length co44 : Value).ownBlock ∧ k_ ≠ gb203)) (okp := (fun k_ => some k_ ≠ (.slice Ao44 t178.length co44 : Value).ownBlock ∧ k_ ≠ gb203)) ?hr ?hp (fun _ hk => hk) ((show ∀ k_, w52.heap.size ≤ k_ → (fun k_ => some k_ ≠ (.slice Ao44 t178.length co44 : Value).ownBlock ∧ k_ ≠ gb203) k_ from fun k_ hk => ⟨Kd.fresh' (Kd.R_lt (au7r HO180)) k_ hk, Kd.freshB (g := gb203) (o := .cells ((Ar.cells .u32 8 t197) ++ #[.slice Ao49 t198.length co49, .int .u64 t201]) 36 (0, 0)) (au7b BK203) k_ hk⟩) _ (Nat.le_refl _)) (Below.refl _ _) (Nat.le_refl _) (by simp) ?_; (case hd => rfl); (case hg => rfl); (case hr => first | (go_simp; done) | (go_simp; rfl)); (case hp => exact (Reps.one ((Kd.FK_slice_mk (Kd.V_reads' (Kd.V_mono (ok' := (fun k_ => some k_ ≠ (.slice Ao44 t178.length co44 : Value).ownBlock ∧ k_ ≠ gb203)) (HO209.out) (fun k_ hk => ⟨hk.1, hk.2⟩))).2.1 (Kd.V_F (e := 5) (base := w.heap.size) (Kd.V_mono (ok := (fun k_ => (some k_ ≠ (.slice Ao44 t178.length co44 : Value).ownBlock ∧ k_ ≠ gb203))) (ok' := (fun k_ => some k_ ≠ (.slice Ao44 t178.length co44 : Value).ownBlock ∧ k_ ≠ gb203)) (by repeat (first | exact HO209.out | apply Kd.V_drewN | apply Kd.V_alloc | apply Kd.V_drew)) (fun k_ hk => ⟨hk.1, hk.2⟩)))) : Kd.FK (Kd.slice 5 (Kd.int .u8)) _ _ y207 [.slice Ao53 y207.length co53]) (Reps.none _ _))); intro v211 w54 ho55 hb hg_ hnew_; clear hg_ hnew_; (first | rw [← Ny210.out] at ho55 | (simp only [Int.reduceToNat] at ho55; rw [← Ny210.out] at ho55)); replace HO180 := Aside0.mk (Kd.R_below (au7r HO180) hb); replace HO187 := Aside0.mk (Kd.V_elder' (au7v HO187) (Kd.N_base ho55) hb); replace HO193 := Aside0.mk (Kd.V_elder' (au7v HO193) (Kd.N_base ho55) hb); replace HO196 := Aside0.mk (Kd.N_elder' (au7n HO196) (Kd.N_base ho55) hb); replace HO200 := Aside0.mk (Kd.V_elder' (au7v HO200) (Kd.N_base ho55) hb); replace HO209 := Aside0.mk (Kd.V_elder' (au7v HO209) (Kd.N_base ho55) hb); have HO212 := Aside0.mk (Kd.N_lower ho55 (below_size (au7s HB))); replace BK203 := Aside0.mk (au7B BK203 hb); replace HB := Aside0.mk (below_step (au7s HB) hb); clear hb ho55; obtain ⟨Ao56, co56, eo56⟩ := Kd.N_slice HO212.out; subst eo56) | ((with_reducible refine gate_callee (f := 12) rfl ?_); refine goesL_ (some 28) rfl rfl Tryd.func12 (by kernel_rfl) rfl #[.agg ((Ar.cells .u32 8 t197) ++ #[.slice Ao49 t198.length co49, .int .u64 t201]), .slice Ao56 y210.length co56] rfl ql ?_; (with_reducible refine (sha_Write.calls k t197 (fun k_ => ((some k_ ≠ (.slice Ao45 y194.length co45 : Value).ownBlock ∧ k_ ≠ gb203) ∧ some k_ ≠ (.slice Ao56 y210.length co56 : Value).ownBlock)) _ _ t198 t201 _ _ y210 t213 t214 t217 t218 _ ?side1 ?side2 ?side3 A3.out).mono ?_); (case side1 => exact HO200.out); (case side2 => repeat (first | exact (Kd.N_reads' HO212.out).2.2 | (with_reducible refine Kd.C_alloc ?_ _) | (with_reducible refine Kd.C_drewN ?_ _) | (with_reducible refine Kd.C_drew ?_))); (case side3 => exact (Kd.N_reads' HO212.out).2.1); rintro e w57 ⟨v215, rfl, ho0, hb⟩; refine ⟨_, rfl, ?_⟩; replace HO180 := Aside0.mk (Kd.R_below (au7r HO180) hb); replace HO187 := Aside0.mk (Kd.V_below (au7v HO187) hb); replace HO193 := Aside0.mk (Kd.V_below (au7v HO193) hb); replace HO200 := Aside0.mk (Kd.V_below (au7v HO200) hb); replace HO209 := Aside0.mk (Kd.V_below (au7v HO209) hb); have HO216 := Aside0.mk (Kd.V_lower (Kd.V_mono (ok' := fun k_ => some k_ ≠ (.slice Ao45 y194.length co45 : Value).ownBlock ∧ some k_ ≠ (.slice Ao56 y210.length co56 : Value).ownBlock ∧ k_ ≠ gb203) ho0 (fun k_ hk_ => ⟨Or.elim hk_ (fun hs_ => hs_.1.1) (fun hn_ => (Kd.fresh' (Kd.N_lt (au7n HO196)) k_ hn_)), Or.elim hk_ (fun hs_ => hs_.2) (fun hn_ => (Kd.fresh' (Kd.N_lt (au7n HO212)) k_ hn_)), Or.elim hk_ (fun hs_ => hs_.1.2) (fun hn_ => (Kd.freshB (g := gb203) (o := .cells ((Ar.cells .u32 8 t197) ++ #[.slice Ao49 t198.length co49, .int .u64 t201]) 36 (0, 0)) (au7b BK203) k_ hn_))⟩)) (below_size (au7s HB))); replace HO196 := Aside0.mk (Kd.N_below (au7n HO196) hb); replace HO212 := Aside0.mk (Kd.N_below (au7n HO212) hb); replace BK203 := Aside0.mk (au7B BK203 hb); replace HB := Aside0.mk (below_step (au7s HB) hb); (try clear hb); (try clear hb2); (try clear hk); (try clear hi); (try clear ho0)) | ((with_reducible refine gate_dst (N := 3) rfl ?_); (try (refine gate_guard (by rfl) ?_; dsimp only)); refine qF (N := 3) (cs := ((Ar.cells .u32 8 (List.replicate 8 0)) ++ #[.slice none 0 0, .int .u64 0])) (t := 36) ?_; intro gb219 hg w58 hbox hb; replace HO180 := Aside0.mk (Kd.R_below (au7r HO180) hb); replace HO187 := Aside0.mk (Kd.V_below (Kd.V_elderB (au7v HO187) gb219 (Nat.le_of_eq hg.symm)) hb); replace HO193 := Aside0.mk (Kd.V_below (Kd.V_elderB (au7v HO193) gb219 (Nat.le_of_eq hg.symm)) hb); replace HO196 := Aside0.mk (Kd.N_below (Kd.N_elderB (au7n HO196) gb219 (Nat.le_of_eq hg.symm)) hb); replace HO200 := Aside0.mk (Kd.V_below (Kd.V_elderB (au7v HO200) gb219 (Nat.le_of_eq hg.symm)) hb); replace HO209 := Aside0.mk (Kd.V_below (Kd.V_elderB (au7v HO209) gb219 (Nat.le_of_eq hg.symm)) hb); replace HO212 := Aside0.mk (Kd.N_below (Kd.N_elderB (au7n HO212) gb219 (Nat.le_of_eq hg.symm)) hb); replace HO216 := Aside0.mk (Kd.V_below (Kd.V_elderB (au7v HO216) gb219 (Nat.le_of_eq hg.symm)) hb); have BK219 := Aside0.mk (hbox); have GW219 := Aside0.mk ((by rw [hg]; exact (below_size (au7s HB)) : w.heap.size ≤ gb219)); have GE219 := Aside0.mk ((by rw [hg]; exact (below_size (au7s HB)) : w.heap.size ≤ gb219)); replace HB := Aside0.mk (below_step (au7s HB) hb); have NB203_219 := Aside0.mk ((by rw [hg]; exact Nat.ne_of_lt (blk_lt (g := gb203) (o := .cells ((Ar.cells .u32 8 t197) ++ #[.slice Ao49 t198.length co49, .int .u64 t201]) 36 (0, 0)) (au7b BK203)) : gb203 ≠ gb219)); have NB219_203 := Aside0.mk ((by rw [hg]; exact Nat.ne_of_gt (blk_lt (g := gb203) (o := .cells ((Ar.cells .u32 8 t197) ++ #[.slice Ao49 t198.length co49, .int .u64 t201]) 36 (0, 0)) (au7b BK203)) : gb219 ≠ gb203)); replace BK203 := Aside0.mk (au7B BK203 hb); clear hb hbox hg) | ((with_reducible refine gate_store (t := 36) (p := 3) rfl ?_); refine Ar.gstore_event rfl rfl rfl (D := ((Ar.cells .u32 8 t213) ++ #[v215, .int .u64 t217])) qz (g := gb219) rfl qg (au7b BK219) (by simp [Ar.cells_size]) (by repeat (first | (with_reducible refine Ar.all_app ?_ ?_) | (with_reducible exact Ar.cells_one _ _ _) | (focus (simp [Value.oneCell']; done)) | (focus (simp [(show (v215 : Value).oneCell' = true from by (have e_ := Kd.V_slice HO216.out; obtain ⟨_, _, e_⟩ := e_; rw [e_]; rfl))]; first | done | rfl | (repeat' constructor))) | rfl)) ?_; intro w59 hbk_ hg; replace HO180 := Aside0.mk (Kd.R_mono (Kd.R_grown (Kd.R_types (au7r HO180) BK219.out (by decide)) hg (fun k_ hk_ e_ => hk_.2 (Option.some.inj e_))) (fun _ h_ => h_.1)); replace HO187 := Aside0.mk (Kd.V_grown (au7v HO187) hg (by intro k_ hk e_; exact (hk.2) (Option.some.inj e_))); replace HO193 := Aside0.mk (Kd.V_grown (au7v HO193) hg (by intro k_ hk e_; exact (hk.2) (Option.some.inj e_))); replace HO196 := Aside0.mk (Kd.N_grown (au7n HO196) hg (by intro k_ hk e_; exact (hk.2) (Option.some.inj e_))); replace HO200 := Aside0.mk (Kd.V_grown (au7v HO200) hg (by intro k_ hk e_; exact (hk.2) (Option.some.inj e_))); replace BK203 := Aside0.mk (au7G BK203 hg (fun e_ => NB203_219.out (Option.some.inj e_))); replace HO209 := Aside0.mk (Kd.V_grown (au7v HO209) hg (by intro k_ hk e_; exact (hk.2) (Option.some.inj e_))); replace HO212 := Aside0.mk (Kd.N_grown (au7n HO212) hg (by intro k_ hk e_; exact (hk.2) (Option.some.inj e_))); replace HO216 := Aside0.mk (Kd.V_grown (au7v HO216) hg (by intro k_ hk e_; exact (hk.2) (Option.some.inj e_))); replace BK219 := Aside0.mk (hbk_); replace HB := Aside0.mk (Below.grown (au7s HB) hg ((below_size (au7s HB))) (fun _ e_ => by cases e_; exact GE219.out)); clear hbk_ hg; obtain ⟨Ao60, co60, eo60⟩ := Kd.V_slice HO216.out; subst eo60) | ((with_reducible refine gate_dst (N := 32) rfl ?_); (try (refine gate_guard (by rfl) ?_; dsimp only)); refine Ar.gload_event rfl (T := 36) rfl Tryd.underlying36 rfl (D := ((Ar.cells .u32 8 t213) ++ #[.slice Ao60 t214.length co60, .int .u64 t217])) qz (A := ⟨gb219, 0, none⟩) rfl (Ar.blk_part (au7b BK219) Ar.in_whole) ?_) | ((with_reducible refine gate_callee (f := 14) rfl ?_); refine goesL_ (some 33) rfl rfl Tryd.func14 (by kernel_rfl) rfl #[.agg ((Ar.cells .u32 8 t213) ++ #[.slice Ao60 t214.length co60, .int .u64 t217])] rfl ql ?_; (with_reducible refine (sha_Finish.calls k t213 _ _ t214 t217 t220 t221 _ ?side1 ?side2 A4.out).mono ?_); (case side1 => repeat (first | exact (Kd.V_reads' HO216.out).2.2 | (with_reducible refine Kd.C_alloc ?_ _) | (with_reducible refine Kd.C_drewN ?_ _) | (with_reducible refine Kd.C_drew ?_))); (case side2 => exact (Kd.V_reads' HO216.out).2.1); rintro e w61 ⟨rfl, hb⟩; refine ⟨_, rfl, ?_⟩; replace HO180 := Aside0.mk (Kd.R_below (au7r HO180) hb); replace HO187 := Aside0.mk (Kd.V_below (au7v HO187) hb); replace HO193 := Aside0.mk (Kd.V_below (au7v HO193) hb); replace HO196 := Aside0.mk (Kd.N_below (au7n HO196) hb); replace HO200 := Aside0.mk (Kd.V_below (au7v HO200) hb); replace HO209 := Aside0.mk (Kd.V_below (au7v HO209) hb); replace HO212 := Aside0.mk (Kd.N_below (au7n HO212) hb); replace HO216 := Aside0.mk (Kd.V_below (au7v HO216) hb); replace BK203 := Aside0.mk (au7B BK203 hb); replace BK219 := Aside0.mk (au7B BK219 hb); replace HB := Aside0.mk (below_step (au7s HB) hb); (try clear hb); (try clear hb2); (try clear hk); (try clear hi)) | ((with_reducible refine gate_dst (N := 5) rfl ?_); (try (refine gate_guard (by rfl) ?_; dsimp only)); refine qE (N := 5) (cs := (Ar.cells .u8 32 (List.replicate 32 0))) (t := 26) ?_; intro gb222 hg w62 hbox hb; replace HO180 := Aside0.mk (Kd.R_below (au7r HO180) hb); replace HO187 := Aside0.mk (Kd.V_below (Kd.V_elderB (au7v HO187) gb222 (Nat.le_of_eq hg.symm)) hb); replace HO193 := Aside0.mk (Kd.V_below (Kd.V_elderB (au7v HO193) gb222 (Nat.le_of_eq hg.symm)) hb); replace HO196 := Aside0.mk (Kd.N_below (Kd.N_elderB (au7n HO196) gb222 (Nat.le_of_eq hg.symm)) hb); replace HO200 := Aside0.mk (Kd.V_below (Kd.V_elderB (au7v HO200) gb222 (Nat.le_of_eq hg.symm)) hb); replace HO209 := Aside0.mk (Kd.V_below (Kd.V_elderB (au7v HO209) gb222 (Nat.le_of_eq hg.symm)) hb); replace HO212 := Aside0.mk (Kd.N_below (Kd.N_elderB (au7n HO212) gb222 (Nat.le_of_eq hg.symm)) hb); replace HO216 := Aside0.mk (Kd.V_below (Kd.V_elderB (au7v HO216) gb222 (Nat.le_of_eq hg.symm)) hb); have BK222 := Aside0.mk (hbox); have GW222 := Aside0.mk ((by rw [hg]; exact (below_size (au7s HB)) : w.heap.size ≤ gb222)); have GE222 := Aside0.mk ((by rw [hg]; exact (below_size (au7s HB)) : w.heap.size ≤ gb222)); replace HB := Aside0.mk (below_step (au7s HB) hb); have NB203_222 := Aside0.mk ((by rw [hg]; exact Nat.ne_of_lt (blk_lt (g := gb203) (o := .cells ((Ar.cells .u32 8 t197) ++ #[.slice Ao49 t198.length co49, .int .u64 t201]) 36 (0, 0)) (au7b BK203)) : gb203 ≠ gb222)); have NB222_203 := Aside0.mk ((by rw [hg]; exact Nat.ne_of_gt (blk_lt (g := gb203) (o := .cells ((Ar.cells .u32 8 t197) ++ #[.slice Ao49 t198.length co49, .int .u64 t201]) 36 (0, 0)) (au7b BK203)) : gb222 ≠ gb203)); replace BK203 := Aside0.mk (au7B BK203 hb); have NB219_222 := Aside0.mk ((by rw [hg]; exact Nat.ne_of_lt (blk_lt (g := gb219) (o := .cells ((Ar.cells .u32 8 t213) ++ #[.slice Ao60 t214.length co60, .int .u64 t217]) 36 (0, 0)) (au7b BK219)) : gb219 ≠ gb222)); have NB222_219 := Aside0.mk ((by rw [hg]; exact Nat.ne_of_gt (blk_lt (g := gb219) (o := .cells ((Ar.cells .u32 8 t213) ++ #[.slice Ao60 t214.length co60, .int .u64 t217]) 36 (0, 0)) (au7b BK219)) : gb222 ≠ gb219)); replace BK219 := Aside0.mk (au7B BK219 hb); clear hb hbox hg) | ((with_reducible refine gate_store (t := 26) (p := 5) rfl ?_); refine Ar.store_all_event rfl rfl rfl Tryd.underlying26 (by kernel_rfl) (g := gb222) rfl (z := t220) qg (au7b BK222) ?_; intro w63 hbk_ hg; replace HO180 := Aside0.mk (Kd.R_mono (Kd.R_grown (Kd.R_types (au7r HO180) BK222.out (by decide)) hg (fun k_ hk_ e_ => hk_.2 (Option.some.inj e_))) (fun _ h_ => h_.1)); replace HO187 := Aside0.mk (Kd.V_grown (au7v HO187) hg (by intro k_ hk e_; exact (hk.2) (Option.some.inj e_))); replace HO193 := Aside0.mk (Kd.V_grown (au7v HO193) hg (by intro k_ hk e_; exact (hk.2) (Option.some.inj e_))); replace HO196 := Aside0.mk (Kd.N_grown (au7n HO196) hg (by intro k_ hk e_; exact (hk.2) (Option.some.inj e_))); replace HO200 := Aside0.mk (Kd.V_grown (au7v HO200) hg (by intro k_ hk e_; exact (hk.2) (Option.some.inj e_))); replace BK203 := Aside0.mk (au7G BK203 hg (fun e_ => NB203_222.out (Option.some.inj e_))); replace HO209 := Aside0.mk (Kd.V_grown (au7v HO209) hg (by intro k_ hk e_; exact (hk.2) (Option.some.inj e_))); replace HO212 := Aside0.mk (Kd.N_grown (au7n HO212) hg (by intro k_ hk e_; exact (hk.2) (Option.some.inj e_))); replace HO216 := Aside0.mk (Kd.V_grown (au7v HO216) hg (by intro k_ hk e_; exact (hk.2) (Option.some.inj e_))); replace BK219 := Aside0.mk (au7G BK219 hg (fun e_ => NB219_222.out (Option.some.inj e_))); replace BK222 := Aside0.mk (hbk_); replace HB := Aside0.mk (Below.grown (au7s HB) hg ((below_size (au7s HB))) (fun _ e_ => by cases e_; exact GE222.out)); clear hbk_ hg) | ((with_reducible refine gate_callee (f := 22) rfl ?_); refine goesL_ (some 37) rfl rfl Tryd.func22 (by kernel_rfl) rfl #[.string (⟨#[98, 97, 55, 56, 49, 54, 98, 102, 56, 102, 48, 49, 99, 102, 101, 97, 52, 49, 52, 49, 52, 48, 100, 101, 53, 100, 97, 101, 50, 50, 50, 51, 98, 48, 48, 51, 54, 49, 97, 51, 57, 54, 49, 55, 55, 97, 57, 99, 98, 52, 49, 48, 102, 102, 54, 49, 102, 50, 48, 48, 49, 53, 97, 100]⟩ : ByteArray)] rfl ql ?_; (with_reducible refine (sha_Parse.calls k (⟨#[98, 97, 55, 56, 49, 54, 98, 102, 56, 102, 48, 49, 99, 102, 101, 97, 52, 49, 52, 49, 52, 48, 100, 101, 53, 100, 97, 101, 50, 50, 50, 51, 98, 48, 48, 51, 54, 49, 97, 51, 57, 54, 49, 55, 55, 97, 57, 99, 98, 52, 49, 48, 102, 102, 54, 49, 102, 50, 48, 48, 49, 53, 97, 100]⟩ : ByteArray) t223 t224 _ A5.out).mono ?_); rintro e w64 ⟨rfl, hb⟩; refine ⟨_, rfl, ?_⟩; replace HO180 := Aside0.mk (Kd.R_below (au7r HO180) hb); replace HO187 := Aside0.mk (Kd.V_below (au7v HO187) hb); replace HO193 := Aside0.mk (Kd.V_below (au7v HO193) hb); replace HO196 := Aside0.mk (Kd.N_below (au7n HO196) hb); replace HO200 := Aside0.mk (Kd.V_below (au7v HO200) hb); replace HO209 := Aside0.mk (Kd.V_below (au7v HO209) hb); replace HO212 := Aside0.mk (Kd.N_below (au7n HO212) hb); replace HO216 := Aside0.mk (Kd.V_below (au7v HO216) hb); replace BK203 := Aside0.mk (au7B BK203 hb); replace BK219 := Aside0.mk (au7B BK219 hb); replace BK222 := Aside0.mk (au7B BK222 hb); replace HB := Aside0.mk (below_step (au7s HB) hb); (try clear hb); (try clear hb2); (try clear hk); (try clear hi)) | ((with_reducible refine gate_dst (N := 7) rfl ?_); (try (refine gate_guard (by rfl) ?_; dsimp only)); refine qE (N := 7) (cs := (Ar.cells .u8 32 (List.replicate 32 0))) (t := 26) ?_; intro gb225 hg w65 hbox hb; replace HO180 := Aside0.mk (Kd.R_below (au7r HO180) hb); replace HO187 := Aside0.mk (Kd.V_below (Kd.V_elderB (au7v HO187) gb225 (Nat.le_of_eq hg.symm)) hb); replace HO193 := Aside0.mk (Kd.V_below (Kd.V_elderB (au7v HO193) gb225 (Nat.le_of_eq hg.symm)) hb); replace HO196 := Aside0.mk (Kd.N_below (Kd.N_elderB (au7n HO196) gb225 (Nat.le_of_eq hg.symm)) hb); replace HO200 := Aside0.mk (Kd.V_below (Kd.V_elderB (au7v HO200) gb225 (Nat.le_of_eq hg.symm)) hb); replace HO209 := Aside0.mk (Kd.V_below (Kd.V_elderB (au7v HO209) gb225 (Nat.le_of_eq hg.symm)) hb); replace HO212 := Aside0.mk (Kd.N_below (Kd.N_elderB (au7n HO212) gb225 (Nat.le_of_eq hg.symm)) hb); replace HO216 := Aside0.mk (Kd.V_below (Kd.V_elderB (au7v HO216) gb225 (Nat.le_of_eq hg.symm)) hb); have BK225 := Aside0.mk (hbox); have GW225 := Aside0.mk ((by rw [hg]; exact (below_size (au7s HB)) : w.heap.size ≤ gb225)); have GE225 := Aside0.mk ((by rw [hg]; exact (below_size (au7s HB)) : w.heap.size ≤ gb225)); replace HB := Aside0.mk (below_step (au7s HB) hb); have NB203_225 := Aside0.mk ((by rw [hg]; exact Nat.ne_of_lt (blk_lt (g := gb203) (o := .cells ((Ar.cells .u32 8 t197) ++ #[.slice Ao49 t198.length co49, .int .u64 t201]) 36 (0, 0)) (au7b BK203)) : gb203 ≠ gb225)); have NB225_203 := Aside0.mk ((by rw [hg]; exact Nat.ne_of_gt (blk_lt (g := gb203) (o := .cells ((Ar.cells .u32 8 t197) ++ #[.slice Ao49 t198.length co49, .int .u64 t201]) 36 (0, 0)) (au7b BK203)) : gb225 ≠ gb203)); replace BK203 := Aside0.mk (au7B BK203 hb); have NB219_225 := Aside0.mk ((by rw [hg]; exact Nat.ne_of_lt (blk_lt (g := gb219) (o := .cells ((Ar.cells .u32 8 t213) ++ #[.slice Ao60 t214.length co60, .int .u64 t217]) 36 (0, 0)) (au7b BK219)) : gb219 ≠ gb225)); have NB225_219 := Aside0.mk ((by rw [hg]; exact Nat.ne_of_gt (blk_lt (g := gb219) (o := .cells ((Ar.cells .u32 8 t213) ++ #[.slice Ao60 t214.length co60, .int .u64 t217]) 36 (0, 0)) (au7b BK219)) : gb225 ≠ gb219)); replace BK219 := Aside0.mk (au7B BK219 hb); have NB222_225 := Aside0.mk ((by rw [hg]; exact Nat.ne_of_lt (blk_lt (g := gb222) (o := .cells (Ar.cells .u8 32 t220) 26 (0, 0)) (au7b BK222)) : gb222 ≠ gb225)); have NB225_222 := Aside0.mk ((by rw [hg]; exact Nat.ne_of_gt (blk_lt (g := gb222) (o := .cells (Ar.cells .u8 32 t220) 26 (0, 0)) (au7b BK222)) : gb225 ≠ gb222)); replace BK222 := Aside0.mk (au7B BK222 hb); clear hb hbox hg) | ((with_reducible refine gate_store (t := 26) (p := 7) rfl ?_); refine Ar.store_all_event rfl rfl rfl Tryd.underlying26 (by kernel_rfl) (g := gb225) rfl (z := t223) qg (au7b BK225) ?_; intro w66 hbk_ hg; replace HO180 := Aside0.mk (Kd.R_mono (Kd.R_grown (Kd.R_types (au7r HO180) BK225.out (by decide)) hg (fun k_ hk_ e_ => hk_.2 (Option.some.inj e_))) (fun _ h_ => h_.1)); replace HO187 := Aside0.mk (Kd.V_grown (au7v HO187) hg (by intro k_ hk e_; exact (hk.2) (Option.some.inj e_))); replace HO193 := Aside0.mk (Kd.V_grown (au7v HO193) hg (by intro k_ hk e_; exact (hk.2) (Option.some.inj e_))); replace HO196 := Aside0.mk (Kd.N_grown (au7n HO196) hg (by intro k_ hk e_; exact (hk.2) (Option.some.inj e_))); replace HO200 := Aside0.mk (Kd.V_grown (au7v HO200) hg (by intro k_ hk e_; exact (hk.2) (Option.some.inj e_))); replace BK203 := Aside0.mk (au7G BK203 hg (fun e_ => NB203_225.out (Option.some.inj e_))); replace HO209 := Aside0.mk (Kd.V_grown (au7v HO209) hg (by intro k_ hk e_; exact (hk.2) (Option.some.inj e_))); replace HO212 := Aside0.mk (Kd.N_grown (au7n HO212) hg (by intro k_ hk e_; exact (hk.2) (Option.some.inj e_))); replace HO216 := Aside0.mk (Kd.V_grown (au7v HO216) hg (by intro k_ hk e_; exact (hk.2) (Option.some.inj e_))); replace BK219 := Aside0.mk (au7G BK219 hg (fun e_ => NB219_225.out (Option.some.inj e_))); replace BK222 := Aside0.mk (au7G BK222 hg (fun e_ => NB222_225.out (Option.some.inj e_))); replace BK225 := Aside0.mk (hbk_); replace HB := Aside0.mk (Below.grown (au7s HB) hg ((below_size (au7s HB))) (fun _ e_ => by cases e_; exact GE225.out)); clear hbk_ hg) | ((with_reducible refine gate_callee (f := 22) rfl ?_); refine goesL_ (some 41) rfl rfl Tryd.func22 (by kernel_rfl) rfl #[.string (⟨#[122, 122]⟩ : ByteArray)] rfl ql ?_; (with_reducible refine (sha_Parse.calls k (⟨#[122, 122]⟩ : ByteArray) t226 t227 _ A6.out).mono ?_); rintro e w67 ⟨rfl, hb⟩; refine ⟨_, rfl, ?_⟩; replace HO180 := Aside0.mk (Kd.R_below (au7r HO180) hb); replace HO187 := Aside0.mk (Kd.V_below (au7v HO187) hb); replace HO193 := Aside0.mk (Kd.V_below (au7v HO193) hb); replace HO196 := Aside0.mk (Kd.N_below (au7n HO196) hb); replace HO200 := Aside0.mk (Kd.V_below (au7v HO200) hb); replace HO209 := Aside0.mk (Kd.V_below (au7v HO209) hb); replace HO212 := Aside0.mk (Kd.N_below (au7n HO212) hb); replace HO216 := Aside0.mk (Kd.V_below (au7v HO216) hb); replace BK203 := Aside0.mk (au7B BK203 hb); replace BK219 := Aside0.mk (au7B BK219 hb); replace BK222 := Aside0.mk (au7B BK222 hb); replace BK225 := Aside0.mk (au7B BK225 hb); replace HB := Aside0.mk (below_step (au7s HB) hb); (try clear hb); (try clear hb2); (try clear hk); (try clear hi)) | ((with_reducible refine gate_dst (N := 9) rfl ?_); (try (refine gate_guard (by rfl) ?_; dsimp only)); refine qE (N := 9) (cs := (Ar.cells .u8 32 (List.replicate 32 0))) (t := 26) ?_; intro gb228 hg w68 hbox hb; replace HO180 := Aside0.mk (Kd.R_below (au7r HO180) hb); replace HO187 := Aside0.mk (Kd.V_below (Kd.V_elderB (au7v HO187) gb228 (Nat.le_of_eq hg.symm)) hb); replace HO193 := Aside0.mk (Kd.V_below (Kd.V_elderB (au7v HO193) gb228 (Nat.le_of_eq hg.symm)) hb); replace HO196 := Aside0.mk (Kd.N_below (Kd.N_elderB (au7n HO196) gb228 (Nat.le_of_eq hg.symm)) hb); replace HO200 := Aside0.mk (Kd.V_below (Kd.V_elderB (au7v HO200) gb228 (Nat.le_of_eq hg.symm)) hb); replace HO209 := Aside0.mk (Kd.V_below (Kd.V_elderB (au7v HO209) gb228 (Nat.le_of_eq hg.symm)) hb); replace HO212 := Aside0.mk (Kd.N_below (Kd.N_elderB (au7n HO212) gb228 (Nat.le_of_eq hg.symm)) hb); replace HO216 := Aside0.mk (Kd.V_below (Kd.V_elderB (au7v HO216) gb228 (Nat.le_of_eq hg.symm)) hb); have BK228 := Aside0.mk (hbox); have GW228 := Aside0.mk ((by rw [hg]; exact (below_size (au7s HB)) : w.heap.size ≤ gb228)); have GE228 := Aside0.mk ((by rw [hg]; exact (below_size (au7s HB)) : w.heap.size ≤ gb228)); replace HB := Aside0.mk (below_step (au7s HB) hb); have NB203_228 := Aside0.mk ((by rw [hg]; exact Nat.ne_of_lt (blk_lt (g := gb203) (o := .cells ((Ar.cells .u32 8 t197) ++ #[.slice Ao49 t198.length co49, .int .u64 t201]) 36 (0, 0)) (au7b BK203)) : gb203 ≠ gb228)); have NB228_203 := Aside0.mk ((by rw [hg]; exact Nat.ne_of_gt (blk_lt (g := gb203) (o := .cells ((Ar.cells .u32 8 t197) ++ #[.slice Ao49 t198.length co49, .int .u64 t201]) 36 (0, 0)) (au7b BK203)) : gb228 ≠ gb203)); replace BK203 := Aside0.mk (au7B BK203 hb); have NB219_228 := Aside0.mk ((by rw [hg]; exact Nat.ne_of_lt (blk_lt (g := gb219) (o := .cells ((Ar.cells .u32 8 t213) ++ #[.slice Ao60 t214.length co60, .int .u64 t217]) 36 (0, 0)) (au7b BK219)) : gb219 ≠ gb228)); have NB228_219 := Aside0.mk ((by rw [hg]; exact Nat.ne_of_gt (blk_lt (g := gb219) (o := .cells ((Ar.cells .u32 8 t213) ++ #[.slice Ao60 t214.length co60, .int .u64 t217]) 36 (0, 0)) (au7b BK219)) : gb228 ≠ gb219)); replace BK219 := Aside0.mk (au7B BK219 hb); have NB222_228 := Aside0.mk ((by rw [hg]; exact Nat.ne_of_lt (blk_lt (g := gb222) (o := .cells (Ar.cells .u8 32 t220) 26 (0, 0)) (au7b BK222)) : gb222 ≠ gb228)); have NB228_222 := Aside0.mk ((by rw [hg]; exact Nat.ne_of_gt (blk_lt (g := gb222) (o := .cells (Ar.cells .u8 32 t220) 26 (0, 0)) (au7b BK222)) : gb228 ≠ gb222)); replace BK222 := Aside0.mk (au7B BK222 hb); have NB225_228 := Aside0.mk ((by rw [hg]; exact Nat.ne_of_lt (blk_lt (g := gb225) (o := .cells (Ar.cells .u8 32 t223) 26 (0, 0)) (au7b BK225)) : gb225 ≠ gb228)); have NB228_225 := Aside0.mk ((by rw [hg]; exact Nat.ne_of_gt (blk_lt (g := gb225) (o := .cells (Ar.cells .u8 32 t223) 26 (0, 0)) (au7b BK225)) : gb228 ≠ gb225)); replace BK225 := Aside0.mk (au7B BK225 hb); clear hb hbox hg) | ((with_reducible refine gate_store (t := 26) (p := 9) rfl ?_); refine Ar.store_all_event rfl rfl rfl Tryd.underlying26 (by kernel_rfl) (g := gb228) rfl (z := t226) qg (au7b BK228) ?_; intro w69 hbk_ hg; replace HO180 := Aside0.mk (Kd.R_mono (Kd.R_grown (Kd.R_types (au7r HO180) BK228.out (by decide)) hg (fun k_ hk_ e_ => hk_.2 (Option.some.inj e_))) (fun _ h_ => h_.1)); replace HO187 := Aside0.mk (Kd.V_grown (au7v HO187) hg (by intro k_ hk e_; exact (hk.2) (Option.some.inj e_))); replace HO193 := Aside0.mk (Kd.V_grown (au7v HO193) hg (by intro k_ hk e_; exact (hk.2) (Option.some.inj e_))); replace HO196 := Aside0.mk (Kd.N_grown (au7n HO196) hg (by intro k_ hk e_; exact (hk.2) (Option.some.inj e_))); replace HO200 := Aside0.mk (Kd.V_grown (au7v HO200) hg (by intro k_ hk e_; exact (hk.2) (Option.some.inj e_))); replace BK203 := Aside0.mk (au7G BK203 hg (fun e_ => NB203_228.out (Option.some.inj e_))); replace HO209 := Aside0.mk (Kd.V_grown (au7v HO209) hg (by intro k_ hk e_; exact (hk.2) (Option.some.inj e_))); replace HO212 := Aside0.mk (Kd.N_grown (au7n HO212) hg (by intro k_ hk e_; exact (hk.2) (Option.some.inj e_))); replace HO216 := Aside0.mk (Kd.V_grown (au7v HO216) hg (by intro k_ hk e_; exact (hk.2) (Option.some.inj e_))); replace BK219 := Aside0.mk (au7G BK219 hg (fun e_ => NB219_228.out (Option.some.inj e_))); replace BK222 := Aside0.mk (au7G BK222 hg (fun e_ => NB222_228.out (Option.some.inj e_))); replace BK225 := Aside0.mk (au7G BK225 hg (fun e_ => NB225_228.out (Option.some.inj e_))); replace BK228 := Aside0.mk (hbk_); replace HB := Aside0.mk (Below.grown (au7s HB) hg ((below_size (au7s HB))) (fun _ e_ => by cases e_; exact GE228.out)); clear hbk_ hg) | ((with_reducible refine gate_dst (N := 45) rfl ?_); (try (refine gate_guard (by rfl) ?_; dsimp only)); refine Ar.gbuild_event rfl (T := 36) rfl (D := ((Ar.cells .u32 8 (List.replicate 8 0)) ++ #[.slice none 0 0, .int .u64 1])) (by simp only [List.map_toArray, List.map_cons, List.map_nil]; exact fatBuild36_2 _ 1) ?_) | ((with_reducible refine gate_callee (f := 14) rfl ?_); refine goesL_ (some 46) rfl rfl Tryd.func14 (by kernel_rfl) rfl #[.agg ((Ar.cells .u32 8 (List.replicate 8 0)) ++ #[.slice none 0 0, .int .u64 1])] rfl ql ?_; (refine (sha_Finish.calls k (List.replicate 8 0) _ _ ([] : List Int) 1 t229 t230 _ ?side1 ?side2 A7.out).mono ?_); (case side1 => exact Kd.C_nil _ _); (case side2 => exact Nat.le_refl _); rintro e w70 ⟨rfl, hb⟩; refine ⟨_, rfl, ?_⟩; replace HO180 := Aside0.mk (Kd.R_below (au7r HO180) hb); replace HO187 := Aside0.mk (Kd.V_below (au7v HO187) hb); replace HO193 := Aside0.mk (Kd.V_below (au7v HO193) hb); replace HO196 := Aside0.mk (Kd.N_below (au7n HO196) hb); replace HO200 := Aside0.mk (Kd.V_below (au7v HO200) hb); replace HO209 := Aside0.mk (Kd.V_below (au7v HO209) hb); replace HO212 := Aside0.mk (Kd.N_below (au7n HO212) hb); replace HO216 := Aside0.mk (Kd.V_below (au7v HO216) hb); replace BK203 := Aside0.mk (au7B BK203 hb); replace BK219 := Aside0.mk (au7B BK219 hb); replace BK222 := Aside0.mk (au7B BK222 hb); replace BK225 := Aside0.mk (au7B BK225 hb); replace BK228 := Aside0.mk (au7B BK228 hb); replace HB := Aside0.mk (below_step (au7s HB) hb); (try clear hb); (try clear hb2); (try clear hk); (try clear hi)) | ((with_reducible refine gate_dst (N := 11) rfl ?_); (try (refine gate_guard (by rfl) ?_; dsimp only)); refine qE (N := 11) (cs := (Ar.cells .u8 32 (List.replicate 32 0))) (t := 26) ?_; intro gb231 hg w71 hbox hb; replace HO180 := Aside0.mk (Kd.R_below (au7r HO180) hb); replace HO187 := Aside0.mk (Kd.V_below (Kd.V_elderB (au7v HO187) gb231 (Nat.le_of_eq hg.symm)) hb); replace HO193 := Aside0.mk (Kd.V_below (Kd.V_elderB (au7v HO193) gb231 (Nat.le_of_eq hg.symm)) hb); replace HO196 := Aside0.mk (Kd.N_below (Kd.N_elderB (au7n HO196) gb231 (Nat.le_of_eq hg.symm)) hb); replace HO200 := Aside0.mk (Kd.V_below (Kd.V_elderB (au7v HO200) gb231 (Nat.le_of_eq hg.symm)) hb); replace HO209 := Aside0.mk (Kd.V_below (Kd.V_elderB (au7v HO209) gb231 (Nat.le_of_eq hg.symm)) hb); replace HO212 := Aside0.mk (Kd.N_below (Kd.N_elderB (au7n HO212) gb231 (Nat.le_of_eq hg.symm)) hb); replace HO216 := Aside0.mk (Kd.V_below (Kd.V_elderB (au7v HO216) gb231 (Nat.le_of_eq hg.symm)) hb); have BK231 := Aside0.mk (hbox); have GW231 := Aside0.mk ((by rw [hg]; exact (below_size (au7s HB)) : w.heap.size ≤ gb231)); have GE231 := Aside0.mk ((by rw [hg]; exact (below_size (au7s HB)) : w.heap.size ≤ gb231)); replace HB := Aside0.mk (below_step (au7s HB) hb); have NB203_231 := Aside0.mk ((by rw [hg]; exact Nat.ne_of_lt (blk_lt (g := gb203) (o := .cells ((Ar.cells .u32 8 t197) ++ #[.slice Ao49 t198.length co49, .int .u64 t201]) 36 (0, 0)) (au7b BK203)) : gb203 ≠ gb231)); have NB231_203 := Aside0.mk ((by rw [hg]; exact Nat.ne_of_gt (blk_lt (g := gb203) (o := .cells ((Ar.cells .u32 8 t197) ++ #[.slice Ao49 t198.length co49, .int .u64 t201]) 36 (0, 0)) (au7b BK203)) : gb231 ≠ gb203)); replace BK203 := Aside0.mk (au7B BK203 hb); have NB219_231 := Aside0.mk ((by rw [hg]; exact Nat.ne_of_lt (blk_lt (g := gb219) (o := .cells ((Ar.cells .u32 8 t213) ++ #[.slice Ao60 t214.length co60, .int .u64 t217]) 36 (0, 0)) (au7b BK219)) : gb219 ≠ gb231)); have NB231_219 := Aside0.mk ((by rw [hg]; exact Nat.ne_of_gt (blk_lt (g := gb219) (o := .cells ((Ar.cells .u32 8 t213) ++ #[.slice Ao60 t214.length co60, .int .u64 t217]) 36 (0, 0)) (au7b BK219)) : gb231 ≠ gb219)); replace BK219 := Aside0.mk (au7B BK219 hb); have NB222_231 := Aside0.mk ((by rw [hg]; exact Nat.ne_of_lt (blk_lt (g := gb222) (o := .cells (Ar.cells .u8 32 t220) 26 (0, 0)) (au7b BK222)) : gb222 ≠ gb231)); have NB231_222 := Aside0.mk ((by rw [hg]; exact Nat.ne_of_gt (blk_lt (g := gb222) (o := .cells (Ar.cells .u8 32 t220) 26 (0, 0)) (au7b BK222)) : gb231 ≠ gb222)); replace BK222 := Aside0.mk (au7B BK222 hb); have NB225_231 := Aside0.mk ((by rw [hg]; exact Nat.ne_of_lt (blk_lt (g := gb225) (o := .cells (Ar.cells .u8 32 t223) 26 (0, 0)) (au7b BK225)) : gb225 ≠ gb231)); have NB231_225 := Aside0.mk ((by rw [hg]; exact Nat.ne_of_gt (blk_lt (g := gb225) (o := .cells (Ar.cells .u8 32 t223) 26 (0, 0)) (au7b BK225)) : gb231 ≠ gb225)); replace BK225 := Aside0.mk (au7B BK225 hb); have NB228_231 := Aside0.mk ((by rw [hg]; exact Nat.ne_of_lt (blk_lt (g := gb228) (o := .cells (Ar.cells .u8 32 t226) 26 (0, 0)) (au7b BK228)) : gb228 ≠ gb231)); have NB231_228 := Aside0.mk ((by rw [hg]; exact Nat.ne_of_gt (blk_lt (g := gb228) (o := .cells (Ar.cells .u8 32 t226) 26 (0, 0)) (au7b BK228)) : gb231 ≠ gb228)); replace BK228 := Aside0.mk (au7B BK228 hb); clear hb hbox hg) | ((with_reducible refine gate_store (t := 26) (p := 11) rfl ?_); refine Ar.store_all_event rfl rfl rfl Tryd.underlying26 (by kernel_rfl) (g := gb231) rfl (z := t229) qg (au7b BK231) ?_; intro w72 hbk_ hg; replace HO180 := Aside0.mk (Kd.R_mono (Kd.R_grown (Kd.R_types (au7r HO180) BK231.out (by decide)) hg (fun k_ hk_ e_ => hk_.2 (Option.some.inj e_))) (fun _ h_ => h_.1)); replace HO187 := Aside0.mk (Kd.V_grown (au7v HO187) hg (by intro k_ hk e_; exact (hk.2) (Option.some.inj e_))); replace HO193 := Aside0.mk (Kd.V_grown (au7v HO193) hg (by intro k_ hk e_; exact (hk.2) (Option.some.inj e_))); replace HO196 := Aside0.mk (Kd.N_grown (au7n HO196) hg (by intro k_ hk e_; exact (hk.2) (Option.some.inj e_))); replace HO200 := Aside0.mk (Kd.V_grown (au7v HO200) hg (by intro k_ hk e_; exact (hk.2) (Option.some.inj e_))); replace BK203 := Aside0.mk (au7G BK203 hg (fun e_ => NB203_231.out (Option.some.inj e_))); replace HO209 := Aside0.mk (Kd.V_grown (au7v HO209) hg (by intro k_ hk e_; exact (hk.2) (Option.some.inj e_))); replace HO212 := Aside0.mk (Kd.N_grown (au7n HO212) hg (by intro k_ hk e_; exact (hk.2) (Option.some.inj e_))); replace HO216 := Aside0.mk (Kd.V_grown (au7v HO216) hg (by intro k_ hk e_; exact (hk.2) (Option.some.inj e_))); replace BK219 := Aside0.mk (au7G BK219 hg (fun e_ => NB219_231.out (Option.some.inj e_))); replace BK222 := Aside0.mk (au7G BK222 hg (fun e_ => NB222_231.out (Option.some.inj e_))); replace BK225 := Aside0.mk (au7G BK225 hg (fun e_ => NB225_231.out (Option.some.inj e_))); replace BK228 := Aside0.mk (au7G BK228 hg (fun e_ => NB228_231.out (Option.some.inj e_))); replace BK231 := Aside0.mk (hbk_); replace HB := Aside0.mk (Below.grown (au7s HB) hg ((below_size (au7s HB))) (fun _ e_ => by cases e_; exact GE231.out)); clear hbk_ hg))
    replace HO200 := Aside0.mk (Kd.V_drew HO200.out)
    replace HO216 := Aside0.mk (Kd.V_drew HO216.out)
    replace BK203 := Aside0.mk (blk_drew BK203.out)
    replace BK219 := Aside0.mk (blk_drew BK219.out)
    replace BK222 := Aside0.mk (blk_drew BK222.out)
    replace BK225 := Aside0.mk (blk_drew BK225.out)
    replace HB := Aside0.mk (below_drew1 HB.out)
    refine start_ (n := 77) (S := fun w' => w'.heap[gb222]? = some (.cells (Ar.cells .u8 32 t220) 26 (0, 0)) ∧ w'.heap[gb225]? = some (.cells (Ar.cells .u8 32 t223) 26 (0, 0)) ∧ w'.heap[gb219]? = some (.cells ((Ar.cells .u32 8 t213) ++ #[.slice Ao60 t214.length co60, .int .u64 t217]) 36 (0, 0)) ∧ w'.cell? ⟨gb219, 8, none⟩ = some (.slice Ao60 t214.length co60) ∧ w'.cell? ⟨gb219, 9, none⟩ = some (.int .u64 t217) ∧ w'.heap[gb203]? = some (.cells ((Ar.cells .u32 8 t197) ++ #[.slice Ao49 t198.length co49, .int .u64 t201]) 36 (0, 0)) ∧ w'.cell? ⟨gb203, 8, none⟩ = some (.slice Ao49 t198.length co49) ∧ w'.cell? ⟨gb203, 9, none⟩ = some (.int .u64 t201)) (ds := []) #[false, false, false, false, false, false, false, false, false, false, false, false, false, false, false, false, false, false, false, false, false, false, false, false, false, false, false, false, false, false, false, false, false, false, false, false, false, false, false, false, false, false, false, false, false, false, false, false, false, false, false, false, false, false, false, false, false, false, false, false, false, false, false, false, false, false, false, false, false, false, false, false, false, false, false, false, false] (by kernel_rfl) rfl rfl ⟨BK222.out, BK225.out, BK219.out, (blk_cell BK219.out 8).trans au7c, (blk_cell BK219.out 9).trans au7c, BK203.out, (blk_cell BK203.out 8).trans au7c, (blk_cell BK203.out 9).trans au7c⟩ (fun hHeld => ?_); refine with_tabW drawlotlaw05_alive.tab7 drawlotlaw05_alive.bits7 (fun HT_ HW_ => ?_)
    generalize w72.drew = w73 at HO200 HO216 BK203 BK219 BK222 BK225 HB hHeld ⊢
    refine pure_ (i := 0) (N := some 49) (v := ?_) (a' := ?_) (bt7_ 77 1) rfl rfl (any_of HT_.out (by kernel_rfl)) (fun _ _ _ h => h) (Or.inl ⟨by rfl, ?_⟩) ?_ ?_
    rotate_left
    ·intro w'
     go_simp
     with_reducible rfl
    rotate_left
    ·simp only [Act.put, zA_, zB_, zC_, i64_w, i32_w]
     rfl
    refine pure_ (i := 1) (N := some 50) (v := ?_) (a' := ?_) (bt7_ 77 3) rfl rfl (any_of HT_.out (by kernel_rfl)) (fun _ _ _ h => h) (Or.inl ⟨by rfl, ?_⟩) ?_ ?_
    rotate_left
    ·intro w'
     go_simp
     with_reducible rfl
    rotate_left
    ·simp only [Act.put, zA_, zB_, zC_, i64_w, i32_w]
     rfl
    refine pure_ (i := 2) (N := some 51) (v := ?_) (a' := ?_) (bt7_ 77 7) rfl rfl (any_of HT_.out (by kernel_rfl)) (fun _ _ _ h => h) (Or.inl ⟨by rfl, ?_⟩) ?_ ?_
    rotate_left
    ·intro w'
     go_simp
     with_reducible rfl
    rotate_left
    ·simp only [Act.put, zA_, zB_, zC_, i64_w, i32_w]
     rfl
    refine pure_ (i := 3) (N := some 52) (v := ?_) (a' := ?_) (bt7_ 77 15) rfl rfl (any_of HT_.out (by kernel_rfl)) (fun _ _ _ h => h) (Or.inl ⟨by rfl, ?_⟩) ?_ ?_
    rotate_left
    ·intro w'
     go_simp
     with_reducible rfl
    rotate_left
    ·simp only [Act.put, zA_, zB_, zC_, i64_w, i32_w]
     rfl
    refine pure_ (i := 4) (N := some 53) (v := ?_) (a' := ?_) (bt7_ 77 31) rfl rfl (any_of HT_.out (by kernel_rfl)) (fun _ _ _ h => h) (Or.inl ⟨by rfl, ?_⟩) ?_ ?_
    rotate_left
    ·intro w'
     go_simp
     with_reducible rfl
    rotate_left
    ·simp only [Act.put, zA_, zB_, zC_, i64_w, i32_w]
     rfl
    refine pure_ (i := 5) (N := some 54) (v := ?_) (a' := ?_) (bt7_ 77 63) rfl rfl (any_of HT_.out (by kernel_rfl)) (fun _ _ _ h => h) (Or.inl ⟨by rfl, ?_⟩) ?_ ?_
    rotate_left
    ·intro w'
     go_simp
     with_reducible rfl
    rotate_left
    ·simp only [Act.put, zA_, zB_, zC_, i64_w, i32_w]
     rfl
    refine pure_ (i := 6) (N := some 55) (v := ?_) (a' := ?_) (bt7_ 77 127) rfl rfl (any_of HT_.out (by kernel_rfl)) (fun _ _ _ h => h) (Or.inl ⟨by rfl, ?_⟩) ?_ ?_
    rotate_left
    ·intro w'
     go_simp
     with_reducible rfl
    rotate_left
    ·simp only [Act.put, zA_, zB_, zC_, i64_w, i32_w]
     rfl
    refine pure_ (i := 7) (N := some 56) (v := ?_) (a' := ?_) (bt7_ 77 255) rfl rfl (any_of HT_.out (by kernel_rfl)) (fun _ _ _ h => h) (Or.inl ⟨by rfl, ?_⟩) ?_ ?_
    rotate_left
    ·intro w'
     go_simp
     with_reducible rfl
    rotate_left
    ·simp only [Act.put, zA_, zB_, zC_, i64_w, i32_w]
     rfl
    refine pure_ (i := 8) (N := some 57) (v := ?_) (a' := ?_) (bt7_ 77 511) rfl rfl (any_of HT_.out (by kernel_rfl)) (fun _ _ _ h => h) (Or.inl ⟨by rfl, ?_⟩) ?_ ?_
    rotate_left
    ·intro w'
     go_simp
     with_reducible rfl
    rotate_left
    ·simp only [Act.put, zA_, zB_, zC_, i64_w, i32_w]
     rfl
    refine pure_ (i := 9) (N := some 58) (v := ?_) (a' := ?_) (bt7_ 77 1023) rfl rfl (any_of HT_.out (by kernel_rfl)) (fun _ _ _ h => h) (Or.inl ⟨by rfl, ?_⟩) ?_ ?_
    rotate_left
    ·intro w'
     go_simp
     with_reducible rfl
    rotate_left
    ·simp only [Act.put, zA_, zB_, zC_, i64_w, i32_w]
     rfl
    refine pure_ (i := 10) (N := some 59) (v := ?_) (a' := ?_) (bt7_ 77 2047) rfl rfl (any_of HT_.out (by kernel_rfl)) (fun _ _ _ h => h) (Or.inl ⟨by rfl, ?_⟩) ?_ ?_
    rotate_left
    ·intro w'
     go_simp
     with_reducible rfl
    rotate_left
    ·simp only [Act.put, zA_, zB_, zC_, i64_w, i32_w]
     rfl
    refine pure_ (i := 11) (N := some 60) (v := ?_) (a' := ?_) (bt7_ 77 4095) rfl rfl (any_of HT_.out (by kernel_rfl)) (fun _ _ _ h => h) (Or.inl ⟨by rfl, ?_⟩) ?_ ?_
    rotate_left
    ·intro w'
     go_simp
     with_reducible rfl
    rotate_left
    ·simp only [Act.put, zA_, zB_, zC_, i64_w, i32_w]
     rfl
    refine pure_ (i := 12) (N := some 61) (v := ?_) (a' := ?_) (bt7_ 77 8191) rfl rfl (any_of HT_.out (by kernel_rfl)) (fun _ _ _ h => h) (Or.inl ⟨by rfl, ?_⟩) ?_ ?_
    rotate_left
    ·intro w'
     go_simp
     with_reducible rfl
    rotate_left
    ·simp only [Act.put, zA_, zB_, zC_, i64_w, i32_w]
     rfl
    refine pure_ (i := 13) (N := some 62) (v := ?_) (a' := ?_) (bt7_ 77 16383) rfl rfl (any_of HT_.out (by kernel_rfl)) (fun _ _ _ h => h) (Or.inl ⟨by rfl, ?_⟩) ?_ ?_
    rotate_left
    ·intro w'
     go_simp
     with_reducible rfl
    rotate_left
    ·simp only [Act.put, zA_, zB_, zC_, i64_w, i32_w]
     rfl
    refine pure_ (i := 14) (N := some 63) (v := ?_) (a' := ?_) (bt7_ 77 32767) rfl rfl (any_of HT_.out (by kernel_rfl)) (fun _ _ _ h => h) (Or.inl ⟨by rfl, ?_⟩) ?_ ?_
    rotate_left
    ·intro w'
     go_simp
     with_reducible rfl
    rotate_left
    ·simp only [Act.put, zA_, zB_, zC_, i64_w, i32_w]
     rfl
    refine pure_ (i := 15) (N := some 64) (v := ?_) (a' := ?_) (bt7_ 77 65535) rfl rfl (any_of HT_.out (by kernel_rfl)) (fun _ _ _ h => h) (Or.inl ⟨by rfl, ?_⟩) ?_ ?_
    rotate_left
    ·intro w'
     go_simp
     with_reducible rfl
    rotate_left
    ·simp only [Act.put, zA_, zB_, zC_, i64_w, i32_w]
     rfl
    refine pure_ (i := 16) (N := some 65) (v := ?_) (a' := ?_) (bt7_ 77 131071) rfl rfl (any_of HT_.out (by kernel_rfl)) (fun _ _ _ h => h) (Or.inl ⟨by rfl, ?_⟩) ?_ ?_
    rotate_left
    ·intro w'
     go_simp
     with_reducible rfl
    rotate_left
    ·simp only [Act.put, zA_, zB_, zC_, i64_w, i32_w]
     rfl
    refine pure_ (i := 17) (N := some 66) (v := ?_) (a' := ?_) (bt7_ 77 262143) rfl rfl (any_of HT_.out (by kernel_rfl)) (fun _ _ _ h => h) (Or.inl ⟨by rfl, ?_⟩) ?_ ?_
    rotate_left
    ·intro w'
     go_simp
     with_reducible rfl
    rotate_left
    ·simp only [Act.put, zA_, zB_, zC_, i64_w, i32_w]
     rfl
    refine pure_ (i := 18) (N := some 67) (v := ?_) (a' := ?_) (bt7_ 77 524287) rfl rfl (any_of HT_.out (by kernel_rfl)) (fun _ _ _ h => h) (Or.inl ⟨by rfl, ?_⟩) ?_ ?_
    rotate_left
    ·intro w'
     go_simp
     with_reducible rfl
    rotate_left
    ·simp only [Act.put, zA_, zB_, zC_, i64_w, i32_w]
     rfl
    refine pure_ (i := 19) (N := some 68) (v := ?_) (a' := ?_) (bt7_ 77 1048575) rfl rfl (any_of HT_.out (by kernel_rfl)) (fun _ _ _ h => h) (Or.inl ⟨by rfl, ?_⟩) ?_ ?_
    rotate_left
    ·intro w'
     go_simp
     with_reducible rfl
    rotate_left
    ·simp only [Act.put, zA_, zB_, zC_, i64_w, i32_w]
     rfl
    refine pure_ (i := 20) (N := some 69) (v := ?_) (a' := ?_) (bt7_ 77 2097151) rfl rfl (any_of HT_.out (by kernel_rfl)) (fun _ _ _ h => h) (Or.inl ⟨by rfl, ?_⟩) ?_ ?_
    rotate_left
    ·intro w'
     go_simp
     with_reducible rfl
    rotate_left
    ·simp only [Act.put, zA_, zB_, zC_, i64_w, i32_w]
     rfl
    refine pure_ (i := 21) (N := some 70) (v := ?_) (a' := ?_) (bt7_ 77 4194303) rfl rfl (any_of HT_.out (by kernel_rfl)) (fun _ _ _ h => h) (Or.inl ⟨by rfl, ?_⟩) ?_ ?_
    rotate_left
    ·intro w'
     go_simp
     with_reducible rfl
    rotate_left
    ·simp only [Act.put, zA_, zB_, zC_, i64_w, i32_w]
     rfl
    refine pure_ (i := 22) (N := some 71) (v := ?_) (a' := ?_) (bt7_ 77 8388607) rfl rfl (any_of HT_.out (by kernel_rfl)) (fun _ _ _ h => h) (Or.inl ⟨by rfl, ?_⟩) ?_ ?_
    rotate_left
    ·intro w'
     go_simp
     with_reducible rfl
    rotate_left
    ·simp only [Act.put, zA_, zB_, zC_, i64_w, i32_w]
     rfl
    refine take_ (i := 23) (N := some 72) (v := ?_) (a' := ?_) (bt7_ 77 16777215) rfl rfl (take_ofW HT_.out HW_.out (by kernel_rfl)) (fun _ _ _ h => h) (Or.inl ⟨by rfl, ?_⟩) hHeld ?_ ?_
    rotate_left
    ·rintro w' ⟨s0, s1, s2, s3, s4, s5, s6, s7⟩
     first | (refine (Ar.load_run rfl Tryd.underlying26 (by kernel_rfl) rfl (by assumption)).trans ?_; with_reducible rfl) | (go_simp; with_reducible rfl)
    rotate_left
    ·simp only [Act.put, zA_, zB_, zC_, i64_w, i32_w]
     rfl
    refine one_ (i := 24) (N := some 73) (bt7_ 77 33554431) rfl rfl (one_of HT_.out (by kernel_rfl)) (by decide) (fun K hK => ?_)
    refine goes_ Tryd.func24 (by kernel_rfl) rfl #[.agg (Ar.cells .u8 32 t220)] (by rfl) rfl rfl ql ?_
    with_reducible refine (sha_Text.calls k t220 t232 _ A14.out).mono ?_
    rintro e w74 ⟨rfl, hb⟩
    refine ⟨_, rfl, ?_⟩
    replace HO200 := Aside0.mk (Kd.V_below (au7v HO200) hb)
    replace HO216 := Aside0.mk (Kd.V_below (au7v HO216) hb)
    replace BK203 := Aside0.mk (au7B BK203 hb)
    replace BK219 := Aside0.mk (au7B BK219 hb)
    replace BK222 := Aside0.mk (au7B BK222 hb)
    replace BK225 := Aside0.mk (au7B BK225 hb)
    replace HB := Aside0.mk (below_step (au7s HB) hb)
    (try clear hb)
    (try clear hb2)
    (try clear hk)
    (try clear hi)
    refine hK.out _ _ ⟨BK222.out, BK225.out, BK219.out, (blk_cell BK219.out 8).trans au7c, (blk_cell BK219.out 9).trans au7c, BK203.out, (blk_cell BK203.out 8).trans au7c, (blk_cell BK203.out 9).trans au7c⟩ (fun hHeld => ?_)
    clear hK K
    refine norm_ (a' := ?_) ?_ ?_
    rotate_left
    ·show Act.put _ (some 73) _ = _
     simp only [Act.put, zA_, zB_, zC_, i64_w, i32_w]
     rfl
    refine pure_ (i := 25) (N := some 74) (v := ?_) (a' := ?_) (bt7_ 77 67108863) rfl rfl (any_of HT_.out (by kernel_rfl)) (fun _ _ _ h => h) (Or.inl ⟨by rfl, ?_⟩) ?_ ?_
    rotate_left
    ·intro w'
     go_simp
     with_reducible rfl
    rotate_left
    ·simp only [Act.put, zA_, zB_, zC_, i64_w, i32_w]
     rfl
    refine pure_ (i := 26) (N := some 75) (v := ?_) (a' := ?_) (bt7_ 77 134217727) rfl rfl (any_of HT_.out (by kernel_rfl)) (fun _ _ _ h => h) (Or.inl ⟨by rfl, ?_⟩) ?_ ?_
    rotate_left
    ·intro w'
     go_simp
     with_reducible rfl
    rotate_left
    ·simp only [Act.put, zA_, zB_, zC_, i64_w, i32_w]
     rfl
    refine pure_ (i := 27) (N := some 76) (v := ?_) (a' := ?_) (bt7_ 77 268435455) rfl rfl (any_of HT_.out (by kernel_rfl)) (fun _ _ _ h => h) (Or.inl ⟨by rfl, ?_⟩) ?_ ?_
    rotate_left
    ·intro w'
     go_simp
     with_reducible rfl
    rotate_left
    ·simp only [Act.put, zA_, zB_, zC_, i64_w, i32_w]
     rfl
    refine take_ (i := 28) (N := some 77) (v := ?_) (a' := ?_) (bt7_ 77 536870911) rfl rfl (take_ofW HT_.out HW_.out (by kernel_rfl)) (fun _ _ _ h => h) (Or.inl ⟨by rfl, ?_⟩) hHeld ?_ ?_
    rotate_left
    ·rintro w' ⟨s0, s1, s2, s3, s4, s5, s6, s7⟩
     first | (refine (Ar.load_run rfl Tryd.underlying26 (by kernel_rfl) rfl (by assumption)).trans ?_; with_reducible rfl) | (go_simp; with_reducible rfl)
    rotate_left
    ·simp only [Act.put, zA_, zB_, zC_, i64_w, i32_w]
     rfl
    refine take_ (i := 29) (N := some 78) (v := ?_) (a' := ?_) (bt7_ 77 1073741823) rfl rfl (take_ofW HT_.out HW_.out (by kernel_rfl)) (fun _ _ _ h => h) (Or.inl ⟨by rfl, ?_⟩) hHeld ?_ ?_
    rotate_left
    ·rintro w' ⟨s0, s1, s2, s3, s4, s5, s6, s7⟩
     first | (refine (Ar.load_run rfl Tryd.underlying26 (by kernel_rfl) rfl (by assumption)).trans ?_; with_reducible rfl) | (go_simp; with_reducible rfl)
    rotate_left
    ·simp only [Act.put, zA_, zB_, zC_, i64_w, i32_w]
     rfl
    refine pure_ (i := 30) (N := some 79) (v := ?_) (a' := ?_) (bt7_ 77 2147483647) rfl rfl (any_of HT_.out (by kernel_rfl)) (fun _ _ _ h => h) (Or.inl ⟨by rfl, ?_⟩) ?_ ?_
    rotate_left
    ·intro w'
     go_simp
     with_reducible rfl
    rotate_left
    ·simp only [Act.put, zA_, zB_, zC_, i64_w, i32_w]
     rfl
    refine pure_ (i := 31) (N := some 80) (v := ?_) (a' := ?_) (bt7_ 77 4294967295) rfl rfl (any_of HT_.out (by kernel_rfl)) (fun _ _ _ h => h) (Or.inl ⟨by rfl, ?_⟩) ?_ ?_
    rotate_left
    ·intro w'
     go_simp
     with_reducible rfl
    rotate_left
    ·simp only [Act.put, zA_, zB_, zC_, i64_w, i32_w]
     rfl
    refine pure_ (i := 32) (N := some 81) (v := ?_) (a' := ?_) (bt7_ 77 8589934591) rfl rfl (any_of HT_.out (by kernel_rfl)) (fun _ _ _ h => h) (Or.inl ⟨by rfl, ?_⟩) ?_ ?_
    rotate_left
    ·intro w'
     go_simp
     with_reducible rfl
    rotate_left
    ·simp only [Act.put, zA_, zB_, zC_, i64_w, i32_w]
     rfl
    refine take_ (i := 37) (N := some 86) (v := ?_) (a' := ?_) (bt7_ 77 146028888063) rfl rfl (take_ofW HT_.out HW_.out (by kernel_rfl)) (fun _ _ _ h => h) (Or.inl ⟨by rfl, ?_⟩) hHeld ?_ ?_
    rotate_left
    ·rintro w' ⟨s0, s1, s2, s3, s4, s5, s6, s7⟩
     first | (refine (Ar.load_run rfl Tryd.underlying26 (by kernel_rfl) rfl (by assumption)).trans ?_; with_reducible rfl) | (go_simp; with_reducible rfl)
    rotate_left
    ·simp only [Act.put, zA_, zB_, zC_, i64_w, i32_w]
     rfl
    refine one_ (i := 33) (N := some 82) (bt7_ 77 154618822655) rfl rfl (one_of HT_.out (by kernel_rfl)) (by decide) (fun K hK => ?_)
    refine Kd.R_lit_step (Kd.int .u8) _ 5 ?hg (N := 82) ?hd (xs := ([97, 98, 99] : List Int)) (inner := [.int .u8 97, .int .u8 98, .int .u8 99]) (ok := fun _ => True) (okp := fun _ => True) ?hr ?hp (fun _ hk => hk) trivial (Below.refl _ _) (Nat.le_refl _) (by simp) ?_; (case hd => rfl); (case hg => rfl); (case hr => first | (go_simp; done) | (go_simp; rfl)); (case hp => exact (Reps.one (show Kd.M (Kd.int .u8) _ _ _ 97 [.int .u8 97] from rfl) (Reps.one (show Kd.M (Kd.int .u8) _ _ _ 98 [.int .u8 98] from rfl) (Reps.one (show Kd.M (Kd.int .u8) _ _ _ 99 [.int .u8 99] from rfl) (Reps.none _ _)))))
    intro v234 w75 ho76 hb hg_ hnew_
    clear hg_ hnew_
    (first | rw [← Ny233.out] at ho76 | (simp only [Int.reduceToNat] at ho76; rw [← Ny233.out] at ho76))
    replace HO200 := Aside0.mk (Kd.V_elder' (au7v HO200) (Kd.R_base ho76) hb)
    replace HO216 := Aside0.mk (Kd.V_elder' (au7v HO216) (Kd.R_base ho76) hb)
    have HO235 := Aside0.mk (Kd.R_lower ho76 (below_size (au7s HB)))
    replace BK203 := Aside0.mk (au7B BK203 hb)
    replace BK219 := Aside0.mk (au7B BK219 hb)
    replace BK222 := Aside0.mk (au7B BK222 hb)
    replace BK225 := Aside0.mk (au7B BK225 hb)
    replace HB := Aside0.mk (below_step (au7s HB) hb)
    clear hb ho76
    refine hK.out _ _ ⟨BK222.out, BK225.out, BK219.out, (blk_cell BK219.out 8).trans au7c, (blk_cell BK219.out 9).trans au7c, BK203.out, (blk_cell BK203.out 8).trans au7c, (blk_cell BK203.out 9).trans au7c⟩ (fun hHeld => ?_)
    clear hK K
    refine norm_ (a' := ?_) ?_ ?_
    rotate_left
    ·show Act.put _ (some 82) _ = _
     simp only [Act.put, zA_, zB_, zC_, i64_w, i32_w]
     rfl
    refine one_ (i := 34) (N := some 83) (bt7_ 77 171798691839) rfl rfl (one_of HT_.out (by kernel_rfl)) (by decide) (fun K hK => ?_)
    refine Ar.mark_step (w0 := w) (by rfl) (D := 83) rfl (T := 29) rfl Tryd.underlying29 Tryd.underlying5 (v := v234) rfl (k := .u8) (e := 5) (xs := y233) (base := w.heap.size) (ok := (fun k_ => k_ ≠ gb203 ∧ k_ ≠ gb219 ∧ k_ ≠ gb222 ∧ k_ ≠ gb225)) ?aO ?aP ?aB ?_
    (case aB => exact (au7s HB))
    (case aO => exact (by (with_reducible repeat (first | apply Kd.R_alloc | apply Kd.R_drewN | apply Kd.R_drew)); exact Kd.R_mono (Kd.R_types (Kd.R_types (Kd.R_types (Kd.R_types HO235.out BK203.out (by decide)) BK219.out (by decide)) BK222.out (by decide)) BK225.out (by decide)) (fun _ hk => ⟨hk.1.1.1.2, ⟨hk.1.1.2, ⟨hk.1.2, hk.2⟩⟩⟩)))
    (case aP => first | (rw [Ny233.out]; simp; done) | (simp; done) | omega)
    intro v237 w77 ho hb hg hat
    rw [← Ny236.out] at ho
    replace HO200 := Aside0.mk (Kd.V_mono (Kd.V_afterv (ok := (fun k_ => k_ ≠ gb203 ∧ k_ ≠ gb219 ∧ k_ ≠ gb222 ∧ k_ ≠ gb225)) (by (with_reducible repeat (first | apply Kd.V_alloc | apply Kd.V_drewN | apply Kd.V_drew)); exact Kd.V_mono HO200.out (fun _ hk => ⟨⟨hk.1.1.1.1.1.1.1.2, ⟨hk.1.1.1.1.1.2, ⟨hk.1.1.1.1.2, hk.1.1.1.2⟩⟩⟩, hk.2⟩)) hg hat) (fun _ h_ => h_.1))
    replace BK203 := Aside0.mk (au7G BK203 hg (Kd.R_ne HO235.out BK203.out (by decide)))
    replace HO216 := Aside0.mk (Kd.V_mono (Kd.V_afterv (ok := (fun k_ => k_ ≠ gb203 ∧ k_ ≠ gb219 ∧ k_ ≠ gb222 ∧ k_ ≠ gb225)) (by (with_reducible repeat (first | apply Kd.V_alloc | apply Kd.V_drewN | apply Kd.V_drew)); exact Kd.V_mono HO216.out (fun _ hk => ⟨⟨hk.1.1.1.1.1.1.2.2, ⟨hk.1.1.1.1.1.2, ⟨hk.1.1.1.1.2, hk.1.1.1.2⟩⟩⟩, hk.2⟩)) hg hat) (fun _ h_ => h_.1))
    replace BK219 := Aside0.mk (au7G BK219 hg (Kd.R_ne HO235.out BK219.out (by decide)))
    replace BK222 := Aside0.mk (au7G BK222 hg (Kd.R_ne HO235.out BK222.out (by decide)))
    replace BK225 := Aside0.mk (au7G BK225 hg (Kd.R_ne HO235.out BK225.out (by decide)))
    replace HB := Aside0.mk (hb)
    have HO238 := Aside0.mk (ho)
    clear HO235 ho hb hg hat
    obtain ⟨Ao78, co78, eo78⟩ := Kd.V_slice HO238.out
    (first | subst eo78 | (injection eo78 with f1_ f2_ f3_; have f4_ := f1_.symm; have f5_ := f3_.symm; clear f1_ f2_ f3_; subst f4_; subst f5_))
    refine hK.out _ _ ⟨BK222.out, BK225.out, BK219.out, (blk_cell BK219.out 8).trans au7c, (blk_cell BK219.out 9).trans au7c, BK203.out, (blk_cell BK203.out 8).trans au7c, (blk_cell BK203.out 9).trans au7c⟩ (fun hHeld => ?_)
    clear hK K
    refine norm_ (a' := ?_) ?_ ?_
    rotate_left
    ·show Act.put _ (some 83) _ = _
     simp only [Act.put, zA_, zB_, zC_, i64_w, i32_w]
     rfl
    refine one_ (i := 35) (N := some 84) (bt7_ 77 206158430207) rfl rfl (one_of HT_.out (by kernel_rfl)) (by decide) (fun K hK => ?_)
    refine Kd.N_lit_step (Kd.slice 5 (Kd.int .u8)) _ 29 ?hg (N' := 84) ?hd (xs := ([y236] : List (List Int))) (inner := [.slice Ao78 y236.length co78]) (ok := (fun k_ => k_ ≠ gb203 ∧ k_ ≠ gb219 ∧ k_ ≠ gb222 ∧ k_ ≠ gb225)) (okp := (fun k_ => k_ ≠ gb203 ∧ k_ ≠ gb219 ∧ k_ ≠ gb222 ∧ k_ ≠ gb225)) ?hr ?hp (fun _ hk => hk) ((show ∀ k_, w77.heap.size ≤ k_ → (fun k_ => k_ ≠ gb203 ∧ k_ ≠ gb219 ∧ k_ ≠ gb222 ∧ k_ ≠ gb225) k_ from fun k_ hk => ⟨Kd.freshB (g := gb203) (o := .cells ((Ar.cells .u32 8 t197) ++ #[.slice Ao49 t198.length co49, .int .u64 t201]) 36 (0, 0)) (au7b BK203) k_ hk, Kd.freshB (g := gb219) (o := .cells ((Ar.cells .u32 8 t213) ++ #[.slice Ao60 t214.length co60, .int .u64 t217]) 36 (0, 0)) (au7b BK219) k_ hk, Kd.freshB (g := gb222) (o := .cells (Ar.cells .u8 32 t220) 26 (0, 0)) (au7b BK222) k_ hk, Kd.freshB (g := gb225) (o := .cells (Ar.cells .u8 32 t223) 26 (0, 0)) (au7b BK225) k_ hk⟩) _ (Nat.le_refl _)) (Below.refl _ _) (Nat.le_refl _) (by simp) ?_; (case hd => rfl); (case hg => rfl); (case hr => first | (go_simp; done) | (go_simp; rfl)); (case hp => exact (Reps.one ((Kd.FK_slice_mk (Kd.V_reads' (Kd.V_mono (ok' := (fun k_ => k_ ≠ gb203 ∧ k_ ≠ gb219 ∧ k_ ≠ gb222 ∧ k_ ≠ gb225)) (HO238.out) (fun k_ hk => ⟨hk.1, ⟨hk.2.1, ⟨hk.2.2.1, hk.2.2.2⟩⟩⟩))).2.1 (Kd.V_F (e := 5) (base := w.heap.size) (Kd.V_mono (ok := (fun k_ => (k_ ≠ gb203 ∧ (k_ ≠ gb219 ∧ (k_ ≠ gb222 ∧ k_ ≠ gb225))))) (ok' := (fun k_ => k_ ≠ gb203 ∧ k_ ≠ gb219 ∧ k_ ≠ gb222 ∧ k_ ≠ gb225)) (by repeat (first | exact HO238.out | apply Kd.V_drewN | apply Kd.V_alloc | apply Kd.V_drew)) (fun k_ hk => ⟨hk.1, ⟨hk.2.1, ⟨hk.2.2.1, hk.2.2.2⟩⟩⟩)))) : Kd.FK (Kd.slice 5 (Kd.int .u8)) _ _ y236 [.slice Ao78 y236.length co78]) (Reps.none _ _)))
    intro v240 w79 ho80 hb hg_ hnew_
    clear hg_ hnew_
    (first | rw [← Ny239.out] at ho80 | (simp only [Int.reduceToNat] at ho80; rw [← Ny239.out] at ho80))
    replace HO200 := Aside0.mk (Kd.V_elder' (au7v HO200) (Kd.N_base ho80) hb)
    replace HO216 := Aside0.mk (Kd.V_elder' (au7v HO216) (Kd.N_base ho80) hb)
    replace HO238 := Aside0.mk (Kd.V_elder' (au7v HO238) (Kd.N_base ho80) hb)
    have HO241 := Aside0.mk (Kd.N_lower ho80 (below_size (au7s HB)))
    replace BK203 := Aside0.mk (au7B BK203 hb)
    replace BK219 := Aside0.mk (au7B BK219 hb)
    replace BK222 := Aside0.mk (au7B BK222 hb)
    replace BK225 := Aside0.mk (au7B BK225 hb)
    replace HB := Aside0.mk (below_step (au7s HB) hb)
    clear hb ho80
    obtain ⟨Ao81, co81, eo81⟩ := Kd.N_slice HO241.out
    (first | subst eo81 | (injection eo81 with f1_ f2_ f3_; have f4_ := f1_.symm; have f5_ := f3_.symm; clear f1_ f2_ f3_; subst f4_; subst f5_))
    refine hK.out _ _ ⟨BK222.out, BK225.out, BK219.out, (blk_cell BK219.out 8).trans au7c, (blk_cell BK219.out 9).trans au7c, BK203.out, (blk_cell BK203.out 8).trans au7c, (blk_cell BK203.out 9).trans au7c⟩ (fun hHeld => ?_)
    clear hK K
    refine norm_ (a' := ?_) ?_ ?_
    rotate_left
    ·show Act.put _ (some 84) _ = _
     simp only [Act.put, zA_, zB_, zC_, i64_w, i32_w]
     rfl
    refine one_ (i := 36) (N := some 85) (bt7_ 77 274877906943) rfl rfl (one_of HT_.out (by kernel_rfl)) (by decide) (fun K hK => ?_)
    refine goes_ Tryd.func9 (by kernel_rfl) rfl #[.slice Ao81 y239.length co81] (by rfl) rfl rfl ql ?_
    with_reducible refine (sha_Sum.calls k _ _ y239 t242 _ ?side1 ?side2 A17.out).mono ?_
    (case side1 => repeat (first | exact (Kd.N_reads' HO241.out).2.2 | (with_reducible refine Kd.C_alloc ?_ _) | (with_reducible refine Kd.C_drewN ?_ _) | (with_reducible refine Kd.C_drew ?_)))
    (case side2 => exact (Kd.N_reads' HO241.out).2.1)
    rintro e w82 ⟨rfl, hb⟩
    refine ⟨_, rfl, ?_⟩
    replace HO200 := Aside0.mk (Kd.V_below (au7v HO200) hb)
    replace HO216 := Aside0.mk (Kd.V_below (au7v HO216) hb)
    replace HO238 := Aside0.mk (Kd.V_below (au7v HO238) hb)
    replace HO241 := Aside0.mk (Kd.N_below (au7n HO241) hb)
    replace BK203 := Aside0.mk (au7B BK203 hb)
    replace BK219 := Aside0.mk (au7B BK219 hb)
    replace BK222 := Aside0.mk (au7B BK222 hb)
    replace BK225 := Aside0.mk (au7B BK225 hb)
    replace HB := Aside0.mk (below_step (au7s HB) hb)
    (try clear hb)
    (try clear hb2)
    (try clear hk)
    (try clear hi)
    refine hK.out _ _ ⟨BK222.out, BK225.out, BK219.out, (blk_cell BK219.out 8).trans au7c, (blk_cell BK219.out 9).trans au7c, BK203.out, (blk_cell BK203.out 8).trans au7c, (blk_cell BK203.out 9).trans au7c⟩ (fun hHeld => ?_)
    clear hK K
    refine norm_ (a' := ?_) ?_ ?_
    rotate_left
    ·show Act.put _ (some 85) _ = _
     simp only [Act.put, zA_, zB_, zC_, i64_w, i32_w]
     rfl
    refine pure_ (i := 38) (N := some 87) (v := ?_) (a' := ?_) (bt7_ 77 549755813887) rfl rfl (any_of HT_.out (by kernel_rfl)) (fun _ _ _ h => h) (Or.inl ⟨by rfl, ?_⟩) ?_ ?_
    rotate_left
    ·intro w'
     go_simp
     with_reducible rfl
    rotate_left
    ·simp only [Act.put, zA_, zB_, zC_, i64_w, i32_w]
     rfl
    refine pure_ (i := 39) (N := some 88) (v := ?_) (a' := ?_) (bt7_ 77 1099511627775) rfl rfl (any_of HT_.out (by kernel_rfl)) (fun _ _ _ h => h) (Or.inl ⟨by rfl, ?_⟩) ?_ ?_
    rotate_left
    ·intro w'
     go_simp
     with_reducible rfl
    rotate_left
    ·simp only [Act.put, zA_, zB_, zC_, i64_w, i32_w]
     rfl
    refine pure_ (i := 40) (N := some 89) (v := ?_) (a' := ?_) (bt7_ 77 2199023255551) rfl rfl (any_of HT_.out (by kernel_rfl)) (fun _ _ _ h => h) (Or.inl ⟨by rfl, ?_⟩) ?_ ?_
    rotate_left
    ·intro w'
     go_simp
     with_reducible rfl
    rotate_left
    ·simp only [Act.put, zA_, zB_, zC_, i64_w, i32_w]
     rfl
    refine take_ (i := 47) (N := some 96) (v := ?_) (a' := ?_) (bt7_ 77 142936511610879) rfl rfl (take_ofW HT_.out HW_.out (by kernel_rfl)) (fun _ _ _ h => h) (Or.inl ⟨by rfl, ?_⟩) hHeld ?_ ?_
    rotate_left
    ·rintro w' ⟨s0, s1, s2, s3, s4, s5, s6, s7⟩
     first | (refine (Ar.load_run rfl Tryd.underlying26 (by kernel_rfl) rfl (by assumption)).trans ?_; with_reducible rfl) | (go_simp; with_reducible rfl)
    rotate_left
    ·simp only [Act.put, zA_, zB_, zC_, i64_w, i32_w]
     rfl
    refine join_ (σ := Value × Value × Value × Value) 31 (bt7_ 77 175921860444159) (fun s_ => [(90, s_.1), (91, s_.2.1), (92, s_.2.2.1), (93, s_.2.2.2)]) (fun s_ w' => (w'.heap[gb222]? = some (.cells (Ar.cells .u8 32 t220) 26 (0, 0)) ∧ w'.heap[gb225]? = some (.cells (Ar.cells .u8 32 t223) 26 (0, 0)) ∧ w'.heap[gb219]? = some (.cells ((Ar.cells .u32 8 t213) ++ #[.slice Ao60 t214.length co60, .int .u64 t217]) 36 (0, 0)) ∧ w'.cell? ⟨gb219, 8, none⟩ = some (.slice Ao60 t214.length co60) ∧ w'.cell? ⟨gb219, 9, none⟩ = some (.int .u64 t217) ∧ w'.heap[gb203]? = some (.cells ((Ar.cells .u32 8 t197) ++ #[.slice Ao49 t198.length co49, .int .u64 t201]) 36 (0, 0)) ∧ w'.cell? ⟨gb203, 8, none⟩ = some (.slice Ao49 t198.length co49) ∧ w'.cell? ⟨gb203, 9, none⟩ = some (.int .u64 t201)) ∧ (Kd.V (Kd.int .u8) 5 w' w.heap.size (fun k_ => some k_ ≠ (.slice Ao81 y239.length co81 : Value).ownBlock ∧ k_ ≠ gb203 ∧ k_ ≠ gb219 ∧ k_ ≠ gb222 ∧ k_ ≠ gb225) (.slice Ao49 t198.length co49) t198) ∧ (Kd.V (Kd.int .u8) 5 w' w.heap.size (fun k_ => some k_ ≠ (.slice Ao81 y239.length co81 : Value).ownBlock ∧ k_ ≠ gb203 ∧ k_ ≠ gb219 ∧ k_ ≠ gb222 ∧ k_ ≠ gb225) (.slice Ao60 t214.length co60) t214) ∧ (Kd.V (Kd.int .u8) 5 w' w.heap.size (fun k_ => some k_ ≠ (.slice Ao81 y239.length co81 : Value).ownBlock ∧ k_ ≠ gb203 ∧ k_ ≠ gb219 ∧ k_ ≠ gb222 ∧ k_ ≠ gb225) (.slice Ao78 y236.length co78) y236) ∧ (Kd.N (Kd.slice 5 (Kd.int .u8)) 29 w' w.heap.size (fun k_ => k_ ≠ gb203 ∧ k_ ≠ gb219 ∧ k_ ≠ gb222 ∧ k_ ≠ gb225) (.slice Ao81 y239.length co81) y239) ∧ (Kd.V (Kd.int .u8) 5 w' w.heap.size (fun k_ => k_ ≠ gb203 ∧ k_ ≠ gb219 ∧ k_ ≠ gb222 ∧ k_ ≠ gb225) s_.2.1 y246) ∧ (Kd.V (Kd.int .u8) 5 w' w.heap.size (fun k_ => k_ ≠ gb203 ∧ k_ ≠ gb219 ∧ k_ ≠ gb222 ∧ k_ ≠ gb225) s_.2.2.2 y252) ∧ (w'.heap[gb203]? = some (.cells ((Ar.cells .u32 8 t197) ++ #[.slice Ao49 t198.length co49, .int .u64 t201]) 36 (0, 0))) ∧ (w'.heap[gb219]? = some (.cells ((Ar.cells .u32 8 t213) ++ #[.slice Ao60 t214.length co60, .int .u64 t217]) 36 (0, 0))) ∧ (w'.heap[gb222]? = some (.cells (Ar.cells .u8 32 t220) 26 (0, 0))) ∧ (w'.heap[gb225]? = some (.cells (Ar.cells .u8 32 t223) 26 (0, 0))) ∧ (Below w.heap.size w w')) ?_ ?_
    rotate_left
    ·intro hJ41_42_43_44
     refine join_ (σ := Value × Value × Value) 32 (bt7_ 77 158329674399743) (fun s_ => [(90, s_.1), (91, s_.2.1), (92, s_.2.2)]) (fun s_ w' => (w'.heap[gb222]? = some (.cells (Ar.cells .u8 32 t220) 26 (0, 0)) ∧ w'.heap[gb225]? = some (.cells (Ar.cells .u8 32 t223) 26 (0, 0)) ∧ w'.heap[gb219]? = some (.cells ((Ar.cells .u32 8 t213) ++ #[.slice Ao60 t214.length co60, .int .u64 t217]) 36 (0, 0)) ∧ w'.cell? ⟨gb219, 8, none⟩ = some (.slice Ao60 t214.length co60) ∧ w'.cell? ⟨gb219, 9, none⟩ = some (.int .u64 t217) ∧ w'.heap[gb203]? = some (.cells ((Ar.cells .u32 8 t197) ++ #[.slice Ao49 t198.length co49, .int .u64 t201]) 36 (0, 0)) ∧ w'.cell? ⟨gb203, 8, none⟩ = some (.slice Ao49 t198.length co49) ∧ w'.cell? ⟨gb203, 9, none⟩ = some (.int .u64 t201)) ∧ (Kd.V (Kd.int .u8) 5 w' w.heap.size (fun k_ => some k_ ≠ (.slice Ao81 y239.length co81 : Value).ownBlock ∧ some k_ ≠ (s_.2.2 : Value).ownBlock ∧ k_ ≠ gb203 ∧ k_ ≠ gb219 ∧ k_ ≠ gb222 ∧ k_ ≠ gb225) (.slice Ao49 t198.length co49) t198) ∧ (Kd.V (Kd.int .u8) 5 w' w.heap.size (fun k_ => some k_ ≠ (.slice Ao81 y239.length co81 : Value).ownBlock ∧ some k_ ≠ (s_.2.2 : Value).ownBlock ∧ k_ ≠ gb203 ∧ k_ ≠ gb219 ∧ k_ ≠ gb222 ∧ k_ ≠ gb225) (.slice Ao60 t214.length co60) t214) ∧ (Kd.V (Kd.int .u8) 5 w' w.heap.size (fun k_ => some k_ ≠ (.slice Ao81 y239.length co81 : Value).ownBlock ∧ some k_ ≠ (s_.2.2 : Value).ownBlock ∧ k_ ≠ gb203 ∧ k_ ≠ gb219 ∧ k_ ≠ gb222 ∧ k_ ≠ gb225) (.slice Ao78 y236.length co78) y236) ∧ (Kd.N (Kd.slice 5 (Kd.int .u8)) 29 w' w.heap.size (fun k_ => some k_ ≠ (s_.2.2 : Value).ownBlock ∧ k_ ≠ gb203 ∧ k_ ≠ gb219 ∧ k_ ≠ gb222 ∧ k_ ≠ gb225) (.slice Ao81 y239.length co81) y239) ∧ (Kd.V (Kd.int .u8) 5 w' w.heap.size (fun k_ => some k_ ≠ (s_.2.2 : Value).ownBlock ∧ k_ ≠ gb203 ∧ k_ ≠ gb219 ∧ k_ ≠ gb222 ∧ k_ ≠ gb225) s_.2.1 y246) ∧ (Kd.R (Kd.int .u8) 5 w' w.heap.size (fun _ => True) s_.2.2 y249) ∧ (w'.heap[gb203]? = some (.cells ((Ar.cells .u32 8 t197) ++ #[.slice Ao49 t198.length co49, .int .u64 t201]) 36 (0, 0))) ∧ (w'.heap[gb219]? = some (.cells ((Ar.cells .u32 8 t213) ++ #[.slice Ao60 t214.length co60, .int .u64 t217]) 36 (0, 0))) ∧ (w'.heap[gb222]? = some (.cells (Ar.cells .u8 32 t220) 26 (0, 0))) ∧ (w'.heap[gb225]? = some (.cells (Ar.cells .u8 32 t223) 26 (0, 0))) ∧ (Below w.heap.size w w')) ?_ ?_
     rotate_left
     ·intro hJ41_42_43
      refine join_ (σ := Value × Value × Value) 32 (bt7_ 77 171523813933055) (fun s_ => [(90, s_.1), (92, s_.2.1), (93, s_.2.2)]) (fun s_ w' => (w'.heap[gb222]? = some (.cells (Ar.cells .u8 32 t220) 26 (0, 0)) ∧ w'.heap[gb225]? = some (.cells (Ar.cells .u8 32 t223) 26 (0, 0)) ∧ w'.heap[gb219]? = some (.cells ((Ar.cells .u32 8 t213) ++ #[.slice Ao60 t214.length co60, .int .u64 t217]) 36 (0, 0)) ∧ w'.cell? ⟨gb219, 8, none⟩ = some (.slice Ao60 t214.length co60) ∧ w'.cell? ⟨gb219, 9, none⟩ = some (.int .u64 t217) ∧ w'.heap[gb203]? = some (.cells ((Ar.cells .u32 8 t197) ++ #[.slice Ao49 t198.length co49, .int .u64 t201]) 36 (0, 0)) ∧ w'.cell? ⟨gb203, 8, none⟩ = some (.slice Ao49 t198.length co49) ∧ w'.cell? ⟨gb203, 9, none⟩ = some (.int .u64 t201)) ∧ (Kd.V (Kd.int .u8) 5 w' w.heap.size (fun k_ => some k_ ≠ (.slice Ao81 y239.length co81 : Value).ownBlock ∧ some k_ ≠ (s_.1 : Value).ownBlock ∧ k_ ≠ gb203 ∧ k_ ≠ gb219 ∧ k_ ≠ gb222 ∧ k_ ≠ gb225) (.slice Ao49 t198.length co49) t198) ∧ (Kd.V (Kd.int .u8) 5 w' w.heap.size (fun k_ => some k_ ≠ (.slice Ao81 y239.length co81 : Value).ownBlock ∧ some k_ ≠ (s_.1 : Value).ownBlock ∧ k_ ≠ gb203 ∧ k_ ≠ gb219 ∧ k_ ≠ gb222 ∧ k_ ≠ gb225) (.slice Ao60 t214.length co60) t214) ∧ (Kd.V (Kd.int .u8) 5 w' w.heap.size (fun k_ => some k_ ≠ (.slice Ao81 y239.length co81 : Value).ownBlock ∧ some k_ ≠ (s_.1 : Value).ownBlock ∧ k_ ≠ gb203 ∧ k_ ≠ gb219 ∧ k_ ≠ gb222 ∧ k_ ≠ gb225) (.slice Ao78 y236.length co78) y236) ∧ (Kd.N (Kd.slice 5 (Kd.int .u8)) 29 w' w.heap.size (fun k_ => some k_ ≠ (s_.1 : Value).ownBlock ∧ k_ ≠ gb203 ∧ k_ ≠ gb219 ∧ k_ ≠ gb222 ∧ k_ ≠ gb225) (.slice Ao81 y239.length co81) y239) ∧ (Kd.R (Kd.int .u8) 5 w' w.heap.size (fun _ => True) s_.1 y243) ∧ (Kd.V (Kd.int .u8) 5 w' w.heap.size (fun k_ => some k_ ≠ (s_.1 : Value).ownBlock ∧ k_ ≠ gb203 ∧ k_ ≠ gb219 ∧ k_ ≠ gb222 ∧ k_ ≠ gb225) s_.2.2 y252) ∧ (w'.heap[gb203]? = some (.cells ((Ar.cells .u32 8 t197) ++ #[.slice Ao49 t198.length co49, .int .u64 t201]) 36 (0, 0))) ∧ (w'.heap[gb219]? = some (.cells ((Ar.cells .u32 8 t213) ++ #[.slice Ao60 t214.length co60, .int .u64 t217]) 36 (0, 0))) ∧ (w'.heap[gb222]? = some (.cells (Ar.cells .u8 32 t220) 26 (0, 0))) ∧ (w'.heap[gb225]? = some (.cells (Ar.cells .u8 32 t223) 26 (0, 0))) ∧ (Below w.heap.size w w')) ?_ ?_
      rotate_left
      ·intro hJ41_43_44
       refine join_ (σ := Value × Value) 33 (bt7_ 77 149533581377535) (fun s_ => [(90, s_.1), (91, s_.2)]) (fun s_ w' => (w'.heap[gb222]? = some (.cells (Ar.cells .u8 32 t220) 26 (0, 0)) ∧ w'.heap[gb225]? = some (.cells (Ar.cells .u8 32 t223) 26 (0, 0)) ∧ w'.heap[gb219]? = some (.cells ((Ar.cells .u32 8 t213) ++ #[.slice Ao60 t214.length co60, .int .u64 t217]) 36 (0, 0)) ∧ w'.cell? ⟨gb219, 8, none⟩ = some (.slice Ao60 t214.length co60) ∧ w'.cell? ⟨gb219, 9, none⟩ = some (.int .u64 t217) ∧ w'.heap[gb203]? = some (.cells ((Ar.cells .u32 8 t197) ++ #[.slice Ao49 t198.length co49, .int .u64 t201]) 36 (0, 0)) ∧ w'.cell? ⟨gb203, 8, none⟩ = some (.slice Ao49 t198.length co49) ∧ w'.cell? ⟨gb203, 9, none⟩ = some (.int .u64 t201)) ∧ (Kd.V (Kd.int .u8) 5 w' w.heap.size (fun k_ => some k_ ≠ (.slice Ao81 y239.length co81 : Value).ownBlock ∧ k_ ≠ gb203 ∧ k_ ≠ gb219 ∧ k_ ≠ gb222 ∧ k_ ≠ gb225) (.slice Ao49 t198.length co49) t198) ∧ (Kd.V (Kd.int .u8) 5 w' w.heap.size (fun k_ => some k_ ≠ (.slice Ao81 y239.length co81 : Value).ownBlock ∧ k_ ≠ gb203 ∧ k_ ≠ gb219 ∧ k_ ≠ gb222 ∧ k_ ≠ gb225) (.slice Ao60 t214.length co60) t214) ∧ (Kd.V (Kd.int .u8) 5 w' w.heap.size (fun k_ => some k_ ≠ (.slice Ao81 y239.length co81 : Value).ownBlock ∧ k_ ≠ gb203 ∧ k_ ≠ gb219 ∧ k_ ≠ gb222 ∧ k_ ≠ gb225) (.slice Ao78 y236.length co78) y236) ∧ (Kd.N (Kd.slice 5 (Kd.int .u8)) 29 w' w.heap.size (fun k_ => k_ ≠ gb203 ∧ k_ ≠ gb219 ∧ k_ ≠ gb222 ∧ k_ ≠ gb225) (.slice Ao81 y239.length co81) y239) ∧ (Kd.V (Kd.int .u8) 5 w' w.heap.size (fun k_ => k_ ≠ gb203 ∧ k_ ≠ gb219 ∧ k_ ≠ gb222 ∧ k_ ≠ gb225) s_.2 y246) ∧ (w'.heap[gb203]? = some (.cells ((Ar.cells .u32 8 t197) ++ #[.slice Ao49 t198.length co49, .int .u64 t201]) 36 (0, 0))) ∧ (w'.heap[gb219]? = some (.cells ((Ar.cells .u32 8 t213) ++ #[.slice Ao60 t214.length co60, .int .u64 t217]) 36 (0, 0))) ∧ (w'.heap[gb222]? = some (.cells (Ar.cells .u8 32 t220) 26 (0, 0))) ∧ (w'.heap[gb225]? = some (.cells (Ar.cells .u8 32 t223) 26 (0, 0))) ∧ (Below w.heap.size w w')) ?_ ?_
       rotate_left
       ·intro hJ41_42
        refine join_ (σ := Value × Value) 33 (bt7_ 77 153931627888639) (fun s_ => [(90, s_.1), (92, s_.2)]) (fun s_ w' => (w'.heap[gb222]? = some (.cells (Ar.cells .u8 32 t220) 26 (0, 0)) ∧ w'.heap[gb225]? = some (.cells (Ar.cells .u8 32 t223) 26 (0, 0)) ∧ w'.heap[gb219]? = some (.cells ((Ar.cells .u32 8 t213) ++ #[.slice Ao60 t214.length co60, .int .u64 t217]) 36 (0, 0)) ∧ w'.cell? ⟨gb219, 8, none⟩ = some (.slice Ao60 t214.length co60) ∧ w'.cell? ⟨gb219, 9, none⟩ = some (.int .u64 t217) ∧ w'.heap[gb203]? = some (.cells ((Ar.cells .u32 8 t197) ++ #[.slice Ao49 t198.length co49, .int .u64 t201]) 36 (0, 0)) ∧ w'.cell? ⟨gb203, 8, none⟩ = some (.slice Ao49 t198.length co49) ∧ w'.cell? ⟨gb203, 9, none⟩ = some (.int .u64 t201)) ∧ (Kd.V (Kd.int .u8) 5 w' w.heap.size (fun k_ => some k_ ≠ (.slice Ao81 y239.length co81 : Value).ownBlock ∧ some k_ ≠ (s_.1 : Value).ownBlock ∧ some k_ ≠ (s_.2 : Value).ownBlock ∧ k_ ≠ gb203 ∧ k_ ≠ gb219 ∧ k_ ≠ gb222 ∧ k_ ≠ gb225) (.slice Ao49 t198.length co49) t198) ∧ (Kd.V (Kd.int .u8) 5 w' w.heap.size (fun k_ => some k_ ≠ (.slice Ao81 y239.length co81 : Value).ownBlock ∧ some k_ ≠ (s_.1 : Value).ownBlock ∧ some k_ ≠ (s_.2 : Value).ownBlock ∧ k_ ≠ gb203 ∧ k_ ≠ gb219 ∧ k_ ≠ gb222 ∧ k_ ≠ gb225) (.slice Ao60 t214.length co60) t214) ∧ (Kd.V (Kd.int .u8) 5 w' w.heap.size (fun k_ => some k_ ≠ (.slice Ao81 y239.length co81 : Value).ownBlock ∧ some k_ ≠ (s_.1 : Value).ownBlock ∧ some k_ ≠ (s_.2 : Value).ownBlock ∧ k_ ≠ gb203 ∧ k_ ≠ gb219 ∧ k_ ≠ gb222 ∧ k_ ≠ gb225) (.slice Ao78 y236.length co78) y236) ∧ (Kd.N (Kd.slice 5 (Kd.int .u8)) 29 w' w.heap.size (fun k_ => some k_ ≠ (s_.1 : Value).ownBlock ∧ some k_ ≠ (s_.2 : Value).ownBlock ∧ k_ ≠ gb203 ∧ k_ ≠ gb219 ∧ k_ ≠ gb222 ∧ k_ ≠ gb225) (.slice Ao81 y239.length co81) y239) ∧ (Kd.R (Kd.int .u8) 5 w' w.heap.size (fun k_ => some k_ ≠ (s_.2 : Value).ownBlock) s_.1 y243) ∧ (Kd.R (Kd.int .u8) 5 w' w.heap.size (fun k_ => some k_ ≠ (s_.1 : Value).ownBlock) s_.2 y249) ∧ (w'.heap[gb203]? = some (.cells ((Ar.cells .u32 8 t197) ++ #[.slice Ao49 t198.length co49, .int .u64 t201]) 36 (0, 0))) ∧ (w'.heap[gb219]? = some (.cells ((Ar.cells .u32 8 t213) ++ #[.slice Ao60 t214.length co60, .int .u64 t217]) 36 (0, 0))) ∧ (w'.heap[gb222]? = some (.cells (Ar.cells .u8 32 t220) 26 (0, 0))) ∧ (w'.heap[gb225]? = some (.cells (Ar.cells .u8 32 t223) 26 (0, 0))) ∧ (Below w.heap.size w w')) ?_ ?_
        rotate_left
        ·intro hJ41_43
         refine join_ (σ := Value × Value) 33 (bt7_ 77 169324790677503) (fun s_ => [(92, s_.1), (93, s_.2)]) (fun s_ w' => (w'.heap[gb222]? = some (.cells (Ar.cells .u8 32 t220) 26 (0, 0)) ∧ w'.heap[gb225]? = some (.cells (Ar.cells .u8 32 t223) 26 (0, 0)) ∧ w'.heap[gb219]? = some (.cells ((Ar.cells .u32 8 t213) ++ #[.slice Ao60 t214.length co60, .int .u64 t217]) 36 (0, 0)) ∧ w'.cell? ⟨gb219, 8, none⟩ = some (.slice Ao60 t214.length co60) ∧ w'.cell? ⟨gb219, 9, none⟩ = some (.int .u64 t217) ∧ w'.heap[gb203]? = some (.cells ((Ar.cells .u32 8 t197) ++ #[.slice Ao49 t198.length co49, .int .u64 t201]) 36 (0, 0)) ∧ w'.cell? ⟨gb203, 8, none⟩ = some (.slice Ao49 t198.length co49) ∧ w'.cell? ⟨gb203, 9, none⟩ = some (.int .u64 t201)) ∧ (Kd.V (Kd.int .u8) 5 w' w.heap.size (fun k_ => some k_ ≠ (.slice Ao81 y239.length co81 : Value).ownBlock ∧ k_ ≠ gb203 ∧ k_ ≠ gb219 ∧ k_ ≠ gb222 ∧ k_ ≠ gb225) (.slice Ao49 t198.length co49) t198) ∧ (Kd.V (Kd.int .u8) 5 w' w.heap.size (fun k_ => some k_ ≠ (.slice Ao81 y239.length co81 : Value).ownBlock ∧ k_ ≠ gb203 ∧ k_ ≠ gb219 ∧ k_ ≠ gb222 ∧ k_ ≠ gb225) (.slice Ao60 t214.length co60) t214) ∧ (Kd.V (Kd.int .u8) 5 w' w.heap.size (fun k_ => some k_ ≠ (.slice Ao81 y239.length co81 : Value).ownBlock ∧ k_ ≠ gb203 ∧ k_ ≠ gb219 ∧ k_ ≠ gb222 ∧ k_ ≠ gb225) (.slice Ao78 y236.length co78) y236) ∧ (Kd.N (Kd.slice 5 (Kd.int .u8)) 29 w' w.heap.size (fun k_ => k_ ≠ gb203 ∧ k_ ≠ gb219 ∧ k_ ≠ gb222 ∧ k_ ≠ gb225) (.slice Ao81 y239.length co81) y239) ∧ (Kd.V (Kd.int .u8) 5 w' w.heap.size (fun k_ => k_ ≠ gb203 ∧ k_ ≠ gb219 ∧ k_ ≠ gb222 ∧ k_ ≠ gb225) s_.2 y252) ∧ (w'.heap[gb203]? = some (.cells ((Ar.cells .u32 8 t197) ++ #[.slice Ao49 t198.length co49, .int .u64 t201]) 36 (0, 0))) ∧ (w'.heap[gb219]? = some (.cells ((Ar.cells .u32 8 t213) ++ #[.slice Ao60 t214.length co60, .int .u64 t217]) 36 (0, 0))) ∧ (w'.heap[gb222]? = some (.cells (Ar.cells .u8 32 t220) 26 (0, 0))) ∧ (w'.heap[gb225]? = some (.cells (Ar.cells .u8 32 t223) 26 (0, 0))) ∧ (Below w.heap.size w w')) ?_ ?_
         rotate_left
         ·intro hJ43_44
          refine join_ (σ := Value) 34 (bt7_ 77 145135534866431) (fun s_ => [(90, s_)]) (fun s_ w' => (w'.heap[gb222]? = some (.cells (Ar.cells .u8 32 t220) 26 (0, 0)) ∧ w'.heap[gb225]? = some (.cells (Ar.cells .u8 32 t223) 26 (0, 0)) ∧ w'.heap[gb219]? = some (.cells ((Ar.cells .u32 8 t213) ++ #[.slice Ao60 t214.length co60, .int .u64 t217]) 36 (0, 0)) ∧ w'.cell? ⟨gb219, 8, none⟩ = some (.slice Ao60 t214.length co60) ∧ w'.cell? ⟨gb219, 9, none⟩ = some (.int .u64 t217) ∧ w'.heap[gb203]? = some (.cells ((Ar.cells .u32 8 t197) ++ #[.slice Ao49 t198.length co49, .int .u64 t201]) 36 (0, 0)) ∧ w'.cell? ⟨gb203, 8, none⟩ = some (.slice Ao49 t198.length co49) ∧ w'.cell? ⟨gb203, 9, none⟩ = some (.int .u64 t201)) ∧ (Kd.V (Kd.int .u8) 5 w' w.heap.size (fun k_ => some k_ ≠ (.slice Ao81 y239.length co81 : Value).ownBlock ∧ some k_ ≠ (s_ : Value).ownBlock ∧ k_ ≠ gb203 ∧ k_ ≠ gb219 ∧ k_ ≠ gb222 ∧ k_ ≠ gb225) (.slice Ao49 t198.length co49) t198) ∧ (Kd.V (Kd.int .u8) 5 w' w.heap.size (fun k_ => some k_ ≠ (.slice Ao81 y239.length co81 : Value).ownBlock ∧ some k_ ≠ (s_ : Value).ownBlock ∧ k_ ≠ gb203 ∧ k_ ≠ gb219 ∧ k_ ≠ gb222 ∧ k_ ≠ gb225) (.slice Ao60 t214.length co60) t214) ∧ (Kd.V (Kd.int .u8) 5 w' w.heap.size (fun k_ => some k_ ≠ (.slice Ao81 y239.length co81 : Value).ownBlock ∧ some k_ ≠ (s_ : Value).ownBlock ∧ k_ ≠ gb203 ∧ k_ ≠ gb219 ∧ k_ ≠ gb222 ∧ k_ ≠ gb225) (.slice Ao78 y236.length co78) y236) ∧ (Kd.N (Kd.slice 5 (Kd.int .u8)) 29 w' w.heap.size (fun k_ => some k_ ≠ (s_ : Value).ownBlock ∧ k_ ≠ gb203 ∧ k_ ≠ gb219 ∧ k_ ≠ gb222 ∧ k_ ≠ gb225) (.slice Ao81 y239.length co81) y239) ∧ (Kd.R (Kd.int .u8) 5 w' w.heap.size (fun _ => True) s_ y243) ∧ (w'.heap[gb203]? = some (.cells ((Ar.cells .u32 8 t197) ++ #[.slice Ao49 t198.length co49, .int .u64 t201]) 36 (0, 0))) ∧ (w'.heap[gb219]? = some (.cells ((Ar.cells .u32 8 t213) ++ #[.slice Ao60 t214.length co60, .int .u64 t217]) 36 (0, 0))) ∧ (w'.heap[gb222]? = some (.cells (Ar.cells .u8 32 t220) 26 (0, 0))) ∧ (w'.heap[gb225]? = some (.cells (Ar.cells .u8 32 t223) 26 (0, 0))) ∧ (Below w.heap.size w w')) ?_ ?_
          rotate_left
          ·intro hJ41
           refine join_ (σ := Value) 34 (bt7_ 77 151732604633087) (fun s_ => [(92, s_)]) (fun s_ w' => (w'.heap[gb222]? = some (.cells (Ar.cells .u8 32 t220) 26 (0, 0)) ∧ w'.heap[gb225]? = some (.cells (Ar.cells .u8 32 t223) 26 (0, 0)) ∧ w'.heap[gb219]? = some (.cells ((Ar.cells .u32 8 t213) ++ #[.slice Ao60 t214.length co60, .int .u64 t217]) 36 (0, 0)) ∧ w'.cell? ⟨gb219, 8, none⟩ = some (.slice Ao60 t214.length co60) ∧ w'.cell? ⟨gb219, 9, none⟩ = some (.int .u64 t217) ∧ w'.heap[gb203]? = some (.cells ((Ar.cells .u32 8 t197) ++ #[.slice Ao49 t198.length co49, .int .u64 t201]) 36 (0, 0)) ∧ w'.cell? ⟨gb203, 8, none⟩ = some (.slice Ao49 t198.length co49) ∧ w'.cell? ⟨gb203, 9, none⟩ = some (.int .u64 t201)) ∧ (Kd.V (Kd.int .u8) 5 w' w.heap.size (fun k_ => some k_ ≠ (.slice Ao81 y239.length co81 : Value).ownBlock ∧ some k_ ≠ (s_ : Value).ownBlock ∧ k_ ≠ gb203 ∧ k_ ≠ gb219 ∧ k_ ≠ gb222 ∧ k_ ≠ gb225) (.slice Ao49 t198.length co49) t198) ∧ (Kd.V (Kd.int .u8) 5 w' w.heap.size (fun k_ => some k_ ≠ (.slice Ao81 y239.length co81 : Value).ownBlock ∧ some k_ ≠ (s_ : Value).ownBlock ∧ k_ ≠ gb203 ∧ k_ ≠ gb219 ∧ k_ ≠ gb222 ∧ k_ ≠ gb225) (.slice Ao60 t214.length co60) t214) ∧ (Kd.V (Kd.int .u8) 5 w' w.heap.size (fun k_ => some k_ ≠ (.slice Ao81 y239.length co81 : Value).ownBlock ∧ some k_ ≠ (s_ : Value).ownBlock ∧ k_ ≠ gb203 ∧ k_ ≠ gb219 ∧ k_ ≠ gb222 ∧ k_ ≠ gb225) (.slice Ao78 y236.length co78) y236) ∧ (Kd.N (Kd.slice 5 (Kd.int .u8)) 29 w' w.heap.size (fun k_ => some k_ ≠ (s_ : Value).ownBlock ∧ k_ ≠ gb203 ∧ k_ ≠ gb219 ∧ k_ ≠ gb222 ∧ k_ ≠ gb225) (.slice Ao81 y239.length co81) y239) ∧ (Kd.R (Kd.int .u8) 5 w' w.heap.size (fun _ => True) s_ y249) ∧ (w'.heap[gb203]? = some (.cells ((Ar.cells .u32 8 t197) ++ #[.slice Ao49 t198.length co49, .int .u64 t201]) 36 (0, 0))) ∧ (w'.heap[gb219]? = some (.cells ((Ar.cells .u32 8 t213) ++ #[.slice Ao60 t214.length co60, .int .u64 t217]) 36 (0, 0))) ∧ (w'.heap[gb222]? = some (.cells (Ar.cells .u8 32 t220) 26 (0, 0))) ∧ (w'.heap[gb225]? = some (.cells (Ar.cells .u8 32 t223) 26 (0, 0))) ∧ (Below w.heap.size w w')) ?_ ?_
           rotate_left
           ·intro hJ43
            refine two_ (i := 41) (j := 43) (Ni := some 90) (Nj := some 92) (bt7_ 77 145135534866431) #[true, true, true, true, true, true, true, true, true, true, true, true, true, true, true, true, true, true, true, true, true, true, true, true, true, true, true, true, true, true, true, true, true, true, true, true, true, true, true, true, true, false, false, true, false, false, false, true, false, false, false, false, false, false, false, false, false, false, false, false, false, false, false, false, false, false, false, false, false, false, false, false, false, false, false, false, false] rfl rfl rfl rfl (two_of HT_.out (by kernel_rfl)) (by decide) (by decide) (fun K hK => ?_) (fun K hK => ?_)
            ·skip
             refine Kd.R_lit_step (Kd.int .u8) _ 5 ?hg (N := 90) ?hd (xs := ([97, 98] : List Int)) (inner := [.int .u8 97, .int .u8 98]) (ok := fun _ => True) (okp := fun _ => True) ?hr ?hp (fun _ hk => hk) trivial (Below.refl _ _) (Nat.le_refl _) (by simp) ?_; (case hd => rfl); (case hg => rfl); (case hr => first | (go_simp; done) | (go_simp; rfl)); (case hp => exact (Reps.one (show Kd.M (Kd.int .u8) _ _ _ 97 [.int .u8 97] from rfl) (Reps.one (show Kd.M (Kd.int .u8) _ _ _ 98 [.int .u8 98] from rfl) (Reps.none _ _))))
             intro v244 w83 ho84 hb hg_ hnew_
             clear hg_ hnew_
             (first | rw [← Ny243.out] at ho84 | (simp only [Int.reduceToNat] at ho84; rw [← Ny243.out] at ho84))
             replace HO200 := Aside0.mk (Kd.V_elder' (au7v HO200) (Kd.R_base ho84) hb)
             replace HO216 := Aside0.mk (Kd.V_elder' (au7v HO216) (Kd.R_base ho84) hb)
             replace HO238 := Aside0.mk (Kd.V_elder' (au7v HO238) (Kd.R_base ho84) hb)
             replace HO241 := Aside0.mk (Kd.N_elder' (au7n HO241) (Kd.R_base ho84) hb)
             have HO245 := Aside0.mk (Kd.R_lower ho84 (below_size (au7s HB)))
             replace BK203 := Aside0.mk (au7B BK203 hb)
             replace BK219 := Aside0.mk (au7B BK219 hb)
             replace BK222 := Aside0.mk (au7B BK222 hb)
             replace BK225 := Aside0.mk (au7B BK225 hb)
             replace HB := Aside0.mk (below_step (au7s HB) hb)
             clear hb ho84
             refine hK.out _ _ ⟨BK222.out, BK225.out, BK219.out, (blk_cell BK219.out 8).trans au7c, (blk_cell BK219.out 9).trans au7c, BK203.out, (blk_cell BK203.out 8).trans au7c, (blk_cell BK203.out 9).trans au7c⟩ (fun hHeld => ?_)
             clear hK K
             refine norm_ (a' := ?_) ?_ ?_
             rotate_left
             ·show Act.put _ (some 90) _ = _
              simp only [Act.put, zA_, zB_, zC_, i64_w, i32_w]
              rfl
             exact norm_ au7z (hJ41 (v244) _ ⟨hHeld, (by (with_reducible repeat (first | apply Kd.V_alloc | apply Kd.V_drewN | apply Kd.V_drew)); exact Kd.V_mono HO200.out (fun _ hk => ⟨hk.1.2, ⟨hk.2, ⟨hk.1.1.1, ⟨hk.1.1.2.1, ⟨hk.1.1.2.2.1, hk.1.1.2.2.2⟩⟩⟩⟩⟩)), (by (with_reducible repeat (first | apply Kd.V_alloc | apply Kd.V_drewN | apply Kd.V_drew)); exact Kd.V_mono HO216.out (fun _ hk => ⟨hk.1.2, ⟨hk.2, ⟨hk.1.1.1, ⟨hk.1.1.2.1, ⟨hk.1.1.2.2.1, hk.1.1.2.2.2⟩⟩⟩⟩⟩)), (by (with_reducible repeat (first | apply Kd.V_alloc | apply Kd.V_drewN | apply Kd.V_drew)); exact Kd.V_mono HO238.out (fun _ hk => ⟨hk.1.2, ⟨hk.2, ⟨hk.1.1.1, ⟨hk.1.1.2.1, ⟨hk.1.1.2.2.1, hk.1.1.2.2.2⟩⟩⟩⟩⟩)), (by (with_reducible repeat (first | apply Kd.N_alloc | apply Kd.N_drewN | apply Kd.N_drew)); exact Kd.N_mono HO241.out (fun _ hk => ⟨hk.2, ⟨hk.1.1, ⟨hk.1.2.1, ⟨hk.1.2.2.1, hk.1.2.2.2⟩⟩⟩⟩)), (au7r HO245), (au7b BK203), (au7b BK219), (au7b BK222), (au7b BK225), (au7s HB)⟩)
            ·skip
             refine Kd.R_lit_step (Kd.int .u8) _ 5 ?hg (N := 92) ?hd (xs := ([99] : List Int)) (inner := [.int .u8 99]) (ok := fun _ => True) (okp := fun _ => True) ?hr ?hp (fun _ hk => hk) trivial (Below.refl _ _) (Nat.le_refl _) (by simp) ?_; (case hd => rfl); (case hg => rfl); (case hr => first | (go_simp; done) | (go_simp; rfl)); (case hp => exact (Reps.one (show Kd.M (Kd.int .u8) _ _ _ 99 [.int .u8 99] from rfl) (Reps.none _ _)))
             intro v250 w83 ho84 hb hg_ hnew_
             clear hg_ hnew_
             (first | rw [← Ny249.out] at ho84 | (simp only [Int.reduceToNat] at ho84; rw [← Ny249.out] at ho84))
             replace HO200 := Aside0.mk (Kd.V_elder' (au7v HO200) (Kd.R_base ho84) hb)
             replace HO216 := Aside0.mk (Kd.V_elder' (au7v HO216) (Kd.R_base ho84) hb)
             replace HO238 := Aside0.mk (Kd.V_elder' (au7v HO238) (Kd.R_base ho84) hb)
             replace HO241 := Aside0.mk (Kd.N_elder' (au7n HO241) (Kd.R_base ho84) hb)
             have HO251 := Aside0.mk (Kd.R_lower ho84 (below_size (au7s HB)))
             replace BK203 := Aside0.mk (au7B BK203 hb)
             replace BK219 := Aside0.mk (au7B BK219 hb)
             replace BK222 := Aside0.mk (au7B BK222 hb)
             replace BK225 := Aside0.mk (au7B BK225 hb)
             replace HB := Aside0.mk (below_step (au7s HB) hb)
             clear hb ho84
             refine hK.out _ _ ⟨BK222.out, BK225.out, BK219.out, (blk_cell BK219.out 8).trans au7c, (blk_cell BK219.out 9).trans au7c, BK203.out, (blk_cell BK203.out 8).trans au7c, (blk_cell BK203.out 9).trans au7c⟩ (fun hHeld => ?_)
             clear hK K
             refine norm_ (a' := ?_) ?_ ?_
             rotate_left
             ·show Act.put _ (some 92) _ = _
              simp only [Act.put, zA_, zB_, zC_, i64_w, i32_w]
              rfl
             exact norm_ au7z (hJ43 (v250) _ ⟨hHeld, (by (with_reducible repeat (first | apply Kd.V_alloc | apply Kd.V_drewN | apply Kd.V_drew)); exact Kd.V_mono HO200.out (fun _ hk => ⟨hk.1.2, ⟨hk.2, ⟨hk.1.1.1, ⟨hk.1.1.2.1, ⟨hk.1.1.2.2.1, hk.1.1.2.2.2⟩⟩⟩⟩⟩)), (by (with_reducible repeat (first | apply Kd.V_alloc | apply Kd.V_drewN | apply Kd.V_drew)); exact Kd.V_mono HO216.out (fun _ hk => ⟨hk.1.2, ⟨hk.2, ⟨hk.1.1.1, ⟨hk.1.1.2.1, ⟨hk.1.1.2.2.1, hk.1.1.2.2.2⟩⟩⟩⟩⟩)), (by (with_reducible repeat (first | apply Kd.V_alloc | apply Kd.V_drewN | apply Kd.V_drew)); exact Kd.V_mono HO238.out (fun _ hk => ⟨hk.1.2, ⟨hk.2, ⟨hk.1.1.1, ⟨hk.1.1.2.1, ⟨hk.1.1.2.2.1, hk.1.1.2.2.2⟩⟩⟩⟩⟩)), (by (with_reducible repeat (first | apply Kd.N_alloc | apply Kd.N_drewN | apply Kd.N_drew)); exact Kd.N_mono HO241.out (fun _ hk => ⟨hk.2, ⟨hk.1.1, ⟨hk.1.2.1, ⟨hk.1.2.2.1, hk.1.2.2.2⟩⟩⟩⟩)), (au7r HO251), (au7b BK203), (au7b BK219), (au7b BK222), (au7b BK225), (au7s HB)⟩)
           ·skip
            rintro v250 w85 ⟨hS_, h0_, h1_, h2_, h3_, h4_, h5_, h6_, h7_, h8_, h9_⟩
            have n0_ : Aside0 (Kd.V (Kd.int .u8) 5 w85 w.heap.size (fun k_ => some k_ ≠ (.slice Ao81 y239.length co81 : Value).ownBlock ∧ some k_ ≠ (v250 : Value).ownBlock ∧ k_ ≠ gb203 ∧ k_ ≠ gb219 ∧ k_ ≠ gb222 ∧ k_ ≠ gb225) (.slice Ao49 t198.length co49) t198) := ⟨h0_⟩
            have n1_ : Aside0 (Kd.V (Kd.int .u8) 5 w85 w.heap.size (fun k_ => some k_ ≠ (.slice Ao81 y239.length co81 : Value).ownBlock ∧ some k_ ≠ (v250 : Value).ownBlock ∧ k_ ≠ gb203 ∧ k_ ≠ gb219 ∧ k_ ≠ gb222 ∧ k_ ≠ gb225) (.slice Ao60 t214.length co60) t214) := ⟨h1_⟩
            have n2_ : Aside0 (Kd.V (Kd.int .u8) 5 w85 w.heap.size (fun k_ => some k_ ≠ (.slice Ao81 y239.length co81 : Value).ownBlock ∧ some k_ ≠ (v250 : Value).ownBlock ∧ k_ ≠ gb203 ∧ k_ ≠ gb219 ∧ k_ ≠ gb222 ∧ k_ ≠ gb225) (.slice Ao78 y236.length co78) y236) := ⟨h2_⟩
            have n3_ : Aside0 (Kd.N (Kd.slice 5 (Kd.int .u8)) 29 w85 w.heap.size (fun k_ => some k_ ≠ (v250 : Value).ownBlock ∧ k_ ≠ gb203 ∧ k_ ≠ gb219 ∧ k_ ≠ gb222 ∧ k_ ≠ gb225) (.slice Ao81 y239.length co81) y239) := ⟨h3_⟩
            have n4_ : Aside0 (Kd.R (Kd.int .u8) 5 w85 w.heap.size (fun _ => True) v250 y249) := ⟨h4_⟩
            have n5_ : Aside0 (w85.heap[gb203]? = some (.cells ((Ar.cells .u32 8 t197) ++ #[.slice Ao49 t198.length co49, .int .u64 t201]) 36 (0, 0))) := ⟨h5_⟩
            have n6_ : Aside0 (w85.heap[gb219]? = some (.cells ((Ar.cells .u32 8 t213) ++ #[.slice Ao60 t214.length co60, .int .u64 t217]) 36 (0, 0))) := ⟨h6_⟩
            have n7_ : Aside0 (w85.heap[gb222]? = some (.cells (Ar.cells .u8 32 t220) 26 (0, 0))) := ⟨h7_⟩
            have n8_ : Aside0 (w85.heap[gb225]? = some (.cells (Ar.cells .u8 32 t223) 26 (0, 0))) := ⟨h8_⟩
            have n9_ : Aside0 (Below w.heap.size w w85) := ⟨h9_⟩
            clear HO200 HO216 BK203 BK219 BK222 BK225 HB h0_ h1_ h2_ h3_ h4_ h5_ h6_ h7_ h8_ h9_
            have HO200 := n0_
            have HO216 := n1_
            have HO238 := n2_
            have HO241 := n3_
            have HO251 := n4_
            have BK203 := n5_
            have BK219 := n6_
            have BK222 := n7_
            have BK225 := n8_
            have HB := n9_
            clear n0_ n1_ n2_ n3_ n4_ n5_ n6_ n7_ n8_ n9_
            have hHeld : w85.heap[gb222]? = some (.cells (Ar.cells .u8 32 t220) 26 (0, 0)) ∧ w85.heap[gb225]? = some (.cells (Ar.cells .u8 32 t223) 26 (0, 0)) ∧ w85.heap[gb219]? = some (.cells ((Ar.cells .u32 8 t213) ++ #[.slice Ao60 t214.length co60, .int .u64 t217]) 36 (0, 0)) ∧ w85.cell? ⟨gb219, 8, none⟩ = some (.slice Ao60 t214.length co60) ∧ w85.cell? ⟨gb219, 9, none⟩ = some (.int .u64 t217) ∧ w85.heap[gb203]? = some (.cells ((Ar.cells .u32 8 t197) ++ #[.slice Ao49 t198.length co49, .int .u64 t201]) 36 (0, 0)) ∧ w85.cell? ⟨gb203, 8, none⟩ = some (.slice Ao49 t198.length co49) ∧ w85.cell? ⟨gb203, 9, none⟩ = some (.int .u64 t201) := hS_
            refine norm_ (a' := ?_) ?_ ?_
            rotate_left
            ·simp only [putAll, Act.put, zA_, zB_, zC_]
             rfl
            refine two_ (i := 41) (j := 44) (Ni := some 90) (Nj := some 93) (bt7_ 77 153931627888639) #[true, true, true, true, true, true, true, true, true, true, true, true, true, true, true, true, true, true, true, true, true, true, true, true, true, true, true, true, true, true, true, true, true, true, true, true, true, true, true, true, true, false, false, true, true, false, false, true, false, false, false, false, false, false, false, false, false, false, false, false, false, false, false, false, false, false, false, false, false, false, false, false, false, false, false, false, false] rfl rfl rfl rfl (two_of HT_.out (by kernel_rfl)) (by decide) (by decide) (fun K hK => ?_) (fun K hK => ?_)
            ·skip
             refine Kd.R_lit_step (Kd.int .u8) _ 5 ?hg (N := 90) ?hd (xs := ([97, 98] : List Int)) (inner := [.int .u8 97, .int .u8 98]) (ok := fun _ => True) (okp := fun _ => True) ?hr ?hp (fun _ hk => hk) trivial (Below.refl _ _) (Nat.le_refl _) (by simp) ?_; (case hd => rfl); (case hg => rfl); (case hr => first | (go_simp; done) | (go_simp; rfl)); (case hp => exact (Reps.one (show Kd.M (Kd.int .u8) _ _ _ 97 [.int .u8 97] from rfl) (Reps.one (show Kd.M (Kd.int .u8) _ _ _ 98 [.int .u8 98] from rfl) (Reps.none _ _))))
             intro v244 w86 ho87 hb hg_ hnew_
             clear hg_ hnew_
             (first | rw [← Ny243.out] at ho87 | (simp only [Int.reduceToNat] at ho87; rw [← Ny243.out] at ho87))
             replace HO200 := Aside0.mk (Kd.V_elder' (au7v HO200) (Kd.R_base ho87) hb)
             replace HO216 := Aside0.mk (Kd.V_elder' (au7v HO216) (Kd.R_base ho87) hb)
             replace HO238 := Aside0.mk (Kd.V_elder' (au7v HO238) (Kd.R_base ho87) hb)
             replace HO241 := Aside0.mk (Kd.N_elder' (au7n HO241) (Kd.R_base ho87) hb)
             have HO245 := Aside0.mk (Kd.R_lower (Kd.R_new' ho87 (Kd.R_lt (au7r HO251))) (below_size (au7s HB)))
             replace HO251 := Aside0.mk (Kd.R_elder' (au7r HO251) (Kd.R_base ho87) hb)
             replace BK203 := Aside0.mk (au7B BK203 hb)
             replace BK219 := Aside0.mk (au7B BK219 hb)
             replace BK222 := Aside0.mk (au7B BK222 hb)
             replace BK225 := Aside0.mk (au7B BK225 hb)
             replace HB := Aside0.mk (below_step (au7s HB) hb)
             clear hb ho87
             refine hK.out _ _ ⟨BK222.out, BK225.out, BK219.out, (blk_cell BK219.out 8).trans au7c, (blk_cell BK219.out 9).trans au7c, BK203.out, (blk_cell BK203.out 8).trans au7c, (blk_cell BK203.out 9).trans au7c⟩ (fun hHeld => ?_)
             clear hK K
             refine norm_ (a' := ?_) ?_ ?_
             rotate_left
             ·show Act.put _ (some 90) _ = _
              simp only [Act.put, zA_, zB_, zC_, i64_w, i32_w]
              rfl
             exact norm_ au7z (hJ41_43 (v244, v250) _ ⟨hHeld, (by (with_reducible repeat (first | apply Kd.V_alloc | apply Kd.V_drewN | apply Kd.V_drew)); exact Kd.V_mono HO200.out (fun _ hk => ⟨hk.1.1, ⟨hk.2, ⟨hk.1.2.1, ⟨hk.1.2.2.1, ⟨hk.1.2.2.2.1, ⟨hk.1.2.2.2.2.1, hk.1.2.2.2.2.2⟩⟩⟩⟩⟩⟩)), (by (with_reducible repeat (first | apply Kd.V_alloc | apply Kd.V_drewN | apply Kd.V_drew)); exact Kd.V_mono HO216.out (fun _ hk => ⟨hk.1.1, ⟨hk.2, ⟨hk.1.2.1, ⟨hk.1.2.2.1, ⟨hk.1.2.2.2.1, ⟨hk.1.2.2.2.2.1, hk.1.2.2.2.2.2⟩⟩⟩⟩⟩⟩)), (by (with_reducible repeat (first | apply Kd.V_alloc | apply Kd.V_drewN | apply Kd.V_drew)); exact Kd.V_mono HO238.out (fun _ hk => ⟨hk.1.1, ⟨hk.2, ⟨hk.1.2.1, ⟨hk.1.2.2.1, ⟨hk.1.2.2.2.1, ⟨hk.1.2.2.2.2.1, hk.1.2.2.2.2.2⟩⟩⟩⟩⟩⟩)), (by (with_reducible repeat (first | apply Kd.N_alloc | apply Kd.N_drewN | apply Kd.N_drew)); exact Kd.N_mono HO241.out (fun _ hk => ⟨hk.2, ⟨hk.1.1, ⟨hk.1.2.1, ⟨hk.1.2.2.1, ⟨hk.1.2.2.2.1, hk.1.2.2.2.2⟩⟩⟩⟩⟩)), (by (with_reducible repeat (first | apply Kd.R_alloc | apply Kd.R_drewN | apply Kd.R_drew)); exact Kd.R_mono HO245.out (fun _ hk => hk.2)), (by (with_reducible repeat (first | apply Kd.R_alloc | apply Kd.R_drewN | apply Kd.R_drew)); exact Kd.R_mono HO251.out (fun _ hk => hk.2)), (au7b BK203), (au7b BK219), (au7b BK222), (au7b BK225), (au7s HB)⟩)
            ·skip
             refine Ar.mark_step (w0 := w) (by rfl) (D := 93) rfl (T := 29) rfl Tryd.underlying29 Tryd.underlying5 (v := v250) rfl (k := .u8) (e := 5) (xs := y249) (base := w.heap.size) (ok := (fun k_ => k_ ≠ gb203 ∧ k_ ≠ gb219 ∧ k_ ≠ gb222 ∧ k_ ≠ gb225)) ?aO ?aP ?aB ?_
             (case aB => exact (au7s HB))
             (case aO => exact (by (with_reducible repeat (first | apply Kd.R_alloc | apply Kd.R_drewN | apply Kd.R_drew)); exact Kd.R_mono (Kd.R_types (Kd.R_types (Kd.R_types (Kd.R_types HO251.out BK203.out (by decide)) BK219.out (by decide)) BK222.out (by decide)) BK225.out (by decide)) (fun _ hk => ⟨hk.1.1.1.2, ⟨hk.1.1.2, ⟨hk.1.2, hk.2⟩⟩⟩)))
             (case aP => first | (rw [Ny249.out]; simp; done) | (simp; done) | omega)
             intro v253 w86 ho hb hg hat
             rw [← Ny252.out] at ho
             replace HO200 := Aside0.mk (Kd.V_mono (Kd.V_afterv (ok := (fun k_ => some k_ ≠ (.slice Ao81 y239.length co81 : Value).ownBlock ∧ k_ ≠ gb203 ∧ k_ ≠ gb219 ∧ k_ ≠ gb222 ∧ k_ ≠ gb225)) (by (with_reducible repeat (first | apply Kd.V_alloc | apply Kd.V_drewN | apply Kd.V_drew)); exact Kd.V_mono HO200.out (fun _ hk => ⟨⟨hk.1, ⟨hk.2.2.1, ⟨hk.2.2.2.1, ⟨hk.2.2.2.2.1, hk.2.2.2.2.2⟩⟩⟩⟩, hk.2.1⟩)) hg hat) (fun _ h_ => h_.1))
             replace BK203 := Aside0.mk (au7G BK203 hg (Kd.R_ne HO251.out BK203.out (by decide)))
             replace HO216 := Aside0.mk (Kd.V_mono (Kd.V_afterv (ok := (fun k_ => some k_ ≠ (.slice Ao81 y239.length co81 : Value).ownBlock ∧ k_ ≠ gb203 ∧ k_ ≠ gb219 ∧ k_ ≠ gb222 ∧ k_ ≠ gb225)) (by (with_reducible repeat (first | apply Kd.V_alloc | apply Kd.V_drewN | apply Kd.V_drew)); exact Kd.V_mono HO216.out (fun _ hk => ⟨⟨hk.1, ⟨hk.2.2.1, ⟨hk.2.2.2.1, ⟨hk.2.2.2.2.1, hk.2.2.2.2.2⟩⟩⟩⟩, hk.2.1⟩)) hg hat) (fun _ h_ => h_.1))
             replace BK219 := Aside0.mk (au7G BK219 hg (Kd.R_ne HO251.out BK219.out (by decide)))
             replace BK222 := Aside0.mk (au7G BK222 hg (Kd.R_ne HO251.out BK222.out (by decide)))
             replace BK225 := Aside0.mk (au7G BK225 hg (Kd.R_ne HO251.out BK225.out (by decide)))
             replace HO238 := Aside0.mk (Kd.V_mono (Kd.V_afterv (ok := (fun k_ => some k_ ≠ (.slice Ao81 y239.length co81 : Value).ownBlock ∧ k_ ≠ gb203 ∧ k_ ≠ gb219 ∧ k_ ≠ gb222 ∧ k_ ≠ gb225)) (by (with_reducible repeat (first | apply Kd.V_alloc | apply Kd.V_drewN | apply Kd.V_drew)); exact Kd.V_mono HO238.out (fun _ hk => ⟨⟨hk.1, ⟨hk.2.2.1, ⟨hk.2.2.2.1, ⟨hk.2.2.2.2.1, hk.2.2.2.2.2⟩⟩⟩⟩, hk.2.1⟩)) hg hat) (fun _ h_ => h_.1))
             replace HO241 := Aside0.mk (Kd.N_mono (Kd.N_afterv (ok := (fun k_ => k_ ≠ gb203 ∧ k_ ≠ gb219 ∧ k_ ≠ gb222 ∧ k_ ≠ gb225)) (by (with_reducible repeat (first | apply Kd.N_alloc | apply Kd.N_drewN | apply Kd.N_drew)); exact Kd.N_mono HO241.out (fun _ hk => ⟨⟨hk.2.1, ⟨hk.2.2.1, ⟨hk.2.2.2.1, hk.2.2.2.2⟩⟩⟩, hk.1⟩)) hg hat) (fun _ h_ => h_.1))
             replace HB := Aside0.mk (hb)
             have HO254 := Aside0.mk (ho)
             clear HO251 ho hb hg hat
             refine hK.out _ _ ⟨BK222.out, BK225.out, BK219.out, (blk_cell BK219.out 8).trans au7c, (blk_cell BK219.out 9).trans au7c, BK203.out, (blk_cell BK203.out 8).trans au7c, (blk_cell BK203.out 9).trans au7c⟩ (fun hHeld => ?_)
             clear hK K
             refine norm_ (a' := ?_) ?_ ?_
             rotate_left
             ·show Act.put _ (some 93) _ = _
              simp only [Act.put, zA_, zB_, zC_, i64_w, i32_w]
              rfl
             exact norm_ au7z (hJ43_44 (v250, v253) _ ⟨hHeld, (au7v HO200), (au7v HO216), (au7v HO238), (au7n HO241), (au7v HO254), (au7b BK203), (au7b BK219), (au7b BK222), (au7b BK225), (au7s HB)⟩)
          ·skip
           rintro v244 w85 ⟨hS_, h0_, h1_, h2_, h3_, h4_, h5_, h6_, h7_, h8_, h9_⟩
           have n0_ : Aside0 (Kd.V (Kd.int .u8) 5 w85 w.heap.size (fun k_ => some k_ ≠ (.slice Ao81 y239.length co81 : Value).ownBlock ∧ some k_ ≠ (v244 : Value).ownBlock ∧ k_ ≠ gb203 ∧ k_ ≠ gb219 ∧ k_ ≠ gb222 ∧ k_ ≠ gb225) (.slice Ao49 t198.length co49) t198) := ⟨h0_⟩
           have n1_ : Aside0 (Kd.V (Kd.int .u8) 5 w85 w.heap.size (fun k_ => some k_ ≠ (.slice Ao81 y239.length co81 : Value).ownBlock ∧ some k_ ≠ (v244 : Value).ownBlock ∧ k_ ≠ gb203 ∧ k_ ≠ gb219 ∧ k_ ≠ gb222 ∧ k_ ≠ gb225) (.slice Ao60 t214.length co60) t214) := ⟨h1_⟩
           have n2_ : Aside0 (Kd.V (Kd.int .u8) 5 w85 w.heap.size (fun k_ => some k_ ≠ (.slice Ao81 y239.length co81 : Value).ownBlock ∧ some k_ ≠ (v244 : Value).ownBlock ∧ k_ ≠ gb203 ∧ k_ ≠ gb219 ∧ k_ ≠ gb222 ∧ k_ ≠ gb225) (.slice Ao78 y236.length co78) y236) := ⟨h2_⟩
           have n3_ : Aside0 (Kd.N (Kd.slice 5 (Kd.int .u8)) 29 w85 w.heap.size (fun k_ => some k_ ≠ (v244 : Value).ownBlock ∧ k_ ≠ gb203 ∧ k_ ≠ gb219 ∧ k_ ≠ gb222 ∧ k_ ≠ gb225) (.slice Ao81 y239.length co81) y239) := ⟨h3_⟩
           have n4_ : Aside0 (Kd.R (Kd.int .u8) 5 w85 w.heap.size (fun _ => True) v244 y243) := ⟨h4_⟩
           have n5_ : Aside0 (w85.heap[gb203]? = some (.cells ((Ar.cells .u32 8 t197) ++ #[.slice Ao49 t198.length co49, .int .u64 t201]) 36 (0, 0))) := ⟨h5_⟩
           have n6_ : Aside0 (w85.heap[gb219]? = some (.cells ((Ar.cells .u32 8 t213) ++ #[.slice Ao60 t214.length co60, .int .u64 t217]) 36 (0, 0))) := ⟨h6_⟩
           have n7_ : Aside0 (w85.heap[gb222]? = some (.cells (Ar.cells .u8 32 t220) 26 (0, 0))) := ⟨h7_⟩
           have n8_ : Aside0 (w85.heap[gb225]? = some (.cells (Ar.cells .u8 32 t223) 26 (0, 0))) := ⟨h8_⟩
           have n9_ : Aside0 (Below w.heap.size w w85) := ⟨h9_⟩
           clear HO200 HO216 BK203 BK219 BK222 BK225 HB h0_ h1_ h2_ h3_ h4_ h5_ h6_ h7_ h8_ h9_
           have HO200 := n0_
           have HO216 := n1_
           have HO238 := n2_
           have HO241 := n3_
           have HO245 := n4_
           have BK203 := n5_
           have BK219 := n6_
           have BK222 := n7_
           have BK225 := n8_
           have HB := n9_
           clear n0_ n1_ n2_ n3_ n4_ n5_ n6_ n7_ n8_ n9_
           have hHeld : w85.heap[gb222]? = some (.cells (Ar.cells .u8 32 t220) 26 (0, 0)) ∧ w85.heap[gb225]? = some (.cells (Ar.cells .u8 32 t223) 26 (0, 0)) ∧ w85.heap[gb219]? = some (.cells ((Ar.cells .u32 8 t213) ++ #[.slice Ao60 t214.length co60, .int .u64 t217]) 36 (0, 0)) ∧ w85.cell? ⟨gb219, 8, none⟩ = some (.slice Ao60 t214.length co60) ∧ w85.cell? ⟨gb219, 9, none⟩ = some (.int .u64 t217) ∧ w85.heap[gb203]? = some (.cells ((Ar.cells .u32 8 t197) ++ #[.slice Ao49 t198.length co49, .int .u64 t201]) 36 (0, 0)) ∧ w85.cell? ⟨gb203, 8, none⟩ = some (.slice Ao49 t198.length co49) ∧ w85.cell? ⟨gb203, 9, none⟩ = some (.int .u64 t201) := hS_
           refine norm_ (a' := ?_) ?_ ?_
           rotate_left
           ·simp only [putAll, Act.put, zA_, zB_, zC_]
            rfl
           refine two_ (i := 42) (j := 43) (Ni := some 91) (Nj := some 92) (bt7_ 77 149533581377535) #[true, true, true, true, true, true, true, true, true, true, true, true, true, true, true, true, true, true, true, true, true, true, true, true, true, true, true, true, true, true, true, true, true, true, true, true, true, true, true, true, true, true, false, true, false, false, false, true, false, false, false, false, false, false, false, false, false, false, false, false, false, false, false, false, false, false, false, false, false, false, false, false, false, false, false, false, false] rfl rfl rfl rfl (two_of HT_.out (by kernel_rfl)) (by decide) (by decide) (fun K hK => ?_) (fun K hK => ?_)
           ·skip
            refine Ar.mark_step (w0 := w) (by rfl) (D := 91) rfl (T := 29) rfl Tryd.underlying29 Tryd.underlying5 (v := v244) rfl (k := .u8) (e := 5) (xs := y243) (base := w.heap.size) (ok := (fun k_ => k_ ≠ gb203 ∧ k_ ≠ gb219 ∧ k_ ≠ gb222 ∧ k_ ≠ gb225)) ?aO ?aP ?aB ?_
            (case aB => exact (au7s HB))
            (case aO => exact (by (with_reducible repeat (first | apply Kd.R_alloc | apply Kd.R_drewN | apply Kd.R_drew)); exact Kd.R_mono (Kd.R_types (Kd.R_types (Kd.R_types (Kd.R_types HO245.out BK203.out (by decide)) BK219.out (by decide)) BK222.out (by decide)) BK225.out (by decide)) (fun _ hk => ⟨hk.1.1.1.2, ⟨hk.1.1.2, ⟨hk.1.2, hk.2⟩⟩⟩)))
            (case aP => first | (rw [Ny243.out]; simp; done) | (simp; done) | omega)
            intro v247 w86 ho hb hg hat
            rw [← Ny246.out] at ho
            replace HO200 := Aside0.mk (Kd.V_mono (Kd.V_afterv (ok := (fun k_ => some k_ ≠ (.slice Ao81 y239.length co81 : Value).ownBlock ∧ k_ ≠ gb203 ∧ k_ ≠ gb219 ∧ k_ ≠ gb222 ∧ k_ ≠ gb225)) (by (with_reducible repeat (first | apply Kd.V_alloc | apply Kd.V_drewN | apply Kd.V_drew)); exact Kd.V_mono HO200.out (fun _ hk => ⟨⟨hk.1, ⟨hk.2.2.1, ⟨hk.2.2.2.1, ⟨hk.2.2.2.2.1, hk.2.2.2.2.2⟩⟩⟩⟩, hk.2.1⟩)) hg hat) (fun _ h_ => h_.1))
            replace BK203 := Aside0.mk (au7G BK203 hg (Kd.R_ne HO245.out BK203.out (by decide)))
            replace HO216 := Aside0.mk (Kd.V_mono (Kd.V_afterv (ok := (fun k_ => some k_ ≠ (.slice Ao81 y239.length co81 : Value).ownBlock ∧ k_ ≠ gb203 ∧ k_ ≠ gb219 ∧ k_ ≠ gb222 ∧ k_ ≠ gb225)) (by (with_reducible repeat (first | apply Kd.V_alloc | apply Kd.V_drewN | apply Kd.V_drew)); exact Kd.V_mono HO216.out (fun _ hk => ⟨⟨hk.1, ⟨hk.2.2.1, ⟨hk.2.2.2.1, ⟨hk.2.2.2.2.1, hk.2.2.2.2.2⟩⟩⟩⟩, hk.2.1⟩)) hg hat) (fun _ h_ => h_.1))
            replace BK219 := Aside0.mk (au7G BK219 hg (Kd.R_ne HO245.out BK219.out (by decide)))
            replace BK222 := Aside0.mk (au7G BK222 hg (Kd.R_ne HO245.out BK222.out (by decide)))
            replace BK225 := Aside0.mk (au7G BK225 hg (Kd.R_ne HO245.out BK225.out (by decide)))
            replace HO238 := Aside0.mk (Kd.V_mono (Kd.V_afterv (ok := (fun k_ => some k_ ≠ (.slice Ao81 y239.length co81 : Value).ownBlock ∧ k_ ≠ gb203 ∧ k_ ≠ gb219 ∧ k_ ≠ gb222 ∧ k_ ≠ gb225)) (by (with_reducible repeat (first | apply Kd.V_alloc | apply Kd.V_drewN | apply Kd.V_drew)); exact Kd.V_mono HO238.out (fun _ hk => ⟨⟨hk.1, ⟨hk.2.2.1, ⟨hk.2.2.2.1, ⟨hk.2.2.2.2.1, hk.2.2.2.2.2⟩⟩⟩⟩, hk.2.1⟩)) hg hat) (fun _ h_ => h_.1))
            replace HO241 := Aside0.mk (Kd.N_mono (Kd.N_afterv (ok := (fun k_ => k_ ≠ gb203 ∧ k_ ≠ gb219 ∧ k_ ≠ gb222 ∧ k_ ≠ gb225)) (by (with_reducible repeat (first | apply Kd.N_alloc | apply Kd.N_drewN | apply Kd.N_drew)); exact Kd.N_mono HO241.out (fun _ hk => ⟨⟨hk.2.1, ⟨hk.2.2.1, ⟨hk.2.2.2.1, hk.2.2.2.2⟩⟩⟩, hk.1⟩)) hg hat) (fun _ h_ => h_.1))
            replace HB := Aside0.mk (hb)
            have HO248 := Aside0.mk (ho)
            clear HO245 ho hb hg hat
            refine hK.out _ _ ⟨BK222.out, BK225.out, BK219.out, (blk_cell BK219.out 8).trans au7c, (blk_cell BK219.out 9).trans au7c, BK203.out, (blk_cell BK203.out 8).trans au7c, (blk_cell BK203.out 9).trans au7c⟩ (fun hHeld => ?_)
            clear hK K
            refine norm_ (a' := ?_) ?_ ?_
            rotate_left
            ·show Act.put _ (some 91) _ = _
             simp only [Act.put, zA_, zB_, zC_, i64_w, i32_w]
             rfl
            exact norm_ au7z (hJ41_42 (v244, v247) _ ⟨hHeld, (au7v HO200), (au7v HO216), (au7v HO238), (au7n HO241), (au7v HO248), (au7b BK203), (au7b BK219), (au7b BK222), (au7b BK225), (au7s HB)⟩)
           ·skip
            refine Kd.R_lit_step (Kd.int .u8) _ 5 ?hg (N := 92) ?hd (xs := ([99] : List Int)) (inner := [.int .u8 99]) (ok := fun _ => True) (okp := fun _ => True) ?hr ?hp (fun _ hk => hk) trivial (Below.refl _ _) (Nat.le_refl _) (by simp) ?_; (case hd => rfl); (case hg => rfl); (case hr => first | (go_simp; done) | (go_simp; rfl)); (case hp => exact (Reps.one (show Kd.M (Kd.int .u8) _ _ _ 99 [.int .u8 99] from rfl) (Reps.none _ _)))
            intro v250 w86 ho87 hb hg_ hnew_
            clear hg_ hnew_
            (first | rw [← Ny249.out] at ho87 | (simp only [Int.reduceToNat] at ho87; rw [← Ny249.out] at ho87))
            replace HO200 := Aside0.mk (Kd.V_elder' (au7v HO200) (Kd.R_base ho87) hb)
            replace HO216 := Aside0.mk (Kd.V_elder' (au7v HO216) (Kd.R_base ho87) hb)
            replace HO238 := Aside0.mk (Kd.V_elder' (au7v HO238) (Kd.R_base ho87) hb)
            replace HO241 := Aside0.mk (Kd.N_elder' (au7n HO241) (Kd.R_base ho87) hb)
            have HO251 := Aside0.mk (Kd.R_lower (Kd.R_new' ho87 (Kd.R_lt (au7r HO245))) (below_size (au7s HB)))
            replace HO245 := Aside0.mk (Kd.R_elder' (au7r HO245) (Kd.R_base ho87) hb)
            replace BK203 := Aside0.mk (au7B BK203 hb)
            replace BK219 := Aside0.mk (au7B BK219 hb)
            replace BK222 := Aside0.mk (au7B BK222 hb)
            replace BK225 := Aside0.mk (au7B BK225 hb)
            replace HB := Aside0.mk (below_step (au7s HB) hb)
            clear hb ho87
            refine hK.out _ _ ⟨BK222.out, BK225.out, BK219.out, (blk_cell BK219.out 8).trans au7c, (blk_cell BK219.out 9).trans au7c, BK203.out, (blk_cell BK203.out 8).trans au7c, (blk_cell BK203.out 9).trans au7c⟩ (fun hHeld => ?_)
            clear hK K
            refine norm_ (a' := ?_) ?_ ?_
            rotate_left
            ·show Act.put _ (some 92) _ = _
             simp only [Act.put, zA_, zB_, zC_, i64_w, i32_w]
             rfl
            exact norm_ au7z (hJ41_43 (v244, v250) _ ⟨hHeld, (by (with_reducible repeat (first | apply Kd.V_alloc | apply Kd.V_drewN | apply Kd.V_drew)); exact Kd.V_mono HO200.out (fun _ hk => ⟨hk.1.1, ⟨hk.1.2.1, ⟨hk.2, ⟨hk.1.2.2.1, ⟨hk.1.2.2.2.1, ⟨hk.1.2.2.2.2.1, hk.1.2.2.2.2.2⟩⟩⟩⟩⟩⟩)), (by (with_reducible repeat (first | apply Kd.V_alloc | apply Kd.V_drewN | apply Kd.V_drew)); exact Kd.V_mono HO216.out (fun _ hk => ⟨hk.1.1, ⟨hk.1.2.1, ⟨hk.2, ⟨hk.1.2.2.1, ⟨hk.1.2.2.2.1, ⟨hk.1.2.2.2.2.1, hk.1.2.2.2.2.2⟩⟩⟩⟩⟩⟩)), (by (with_reducible repeat (first | apply Kd.V_alloc | apply Kd.V_drewN | apply Kd.V_drew)); exact Kd.V_mono HO238.out (fun _ hk => ⟨hk.1.1, ⟨hk.1.2.1, ⟨hk.2, ⟨hk.1.2.2.1, ⟨hk.1.2.2.2.1, ⟨hk.1.2.2.2.2.1, hk.1.2.2.2.2.2⟩⟩⟩⟩⟩⟩)), (by (with_reducible repeat (first | apply Kd.N_alloc | apply Kd.N_drewN | apply Kd.N_drew)); exact Kd.N_mono HO241.out (fun _ hk => ⟨hk.1.1, ⟨hk.2, ⟨hk.1.2.1, ⟨hk.1.2.2.1, ⟨hk.1.2.2.2.1, hk.1.2.2.2.2⟩⟩⟩⟩⟩)), (by (with_reducible repeat (first | apply Kd.R_alloc | apply Kd.R_drewN | apply Kd.R_drew)); exact Kd.R_mono HO245.out (fun _ hk => hk.2)), (by (with_reducible repeat (first | apply Kd.R_alloc | apply Kd.R_drewN | apply Kd.R_drew)); exact Kd.R_mono HO251.out (fun _ hk => hk.2)), (au7b BK203), (au7b BK219), (au7b BK222), (au7b BK225), (au7s HB)⟩)
         ·skip
          rintro ⟨v250, v253⟩ w86 ⟨hS_, h0_, h1_, h2_, h3_, h4_, h5_, h6_, h7_, h8_, h9_⟩
          have n0_ : Aside0 (Kd.V (Kd.int .u8) 5 w86 w.heap.size (fun k_ => some k_ ≠ (.slice Ao81 y239.length co81 : Value).ownBlock ∧ k_ ≠ gb203 ∧ k_ ≠ gb219 ∧ k_ ≠ gb222 ∧ k_ ≠ gb225) (.slice Ao49 t198.length co49) t198) := ⟨h0_⟩
          have n1_ : Aside0 (Kd.V (Kd.int .u8) 5 w86 w.heap.size (fun k_ => some k_ ≠ (.slice Ao81 y239.length co81 : Value).ownBlock ∧ k_ ≠ gb203 ∧ k_ ≠ gb219 ∧ k_ ≠ gb222 ∧ k_ ≠ gb225) (.slice Ao60 t214.length co60) t214) := ⟨h1_⟩
          have n2_ : Aside0 (Kd.V (Kd.int .u8) 5 w86 w.heap.size (fun k_ => some k_ ≠ (.slice Ao81 y239.length co81 : Value).ownBlock ∧ k_ ≠ gb203 ∧ k_ ≠ gb219 ∧ k_ ≠ gb222 ∧ k_ ≠ gb225) (.slice Ao78 y236.length co78) y236) := ⟨h2_⟩
          have n3_ : Aside0 (Kd.N (Kd.slice 5 (Kd.int .u8)) 29 w86 w.heap.size (fun k_ => k_ ≠ gb203 ∧ k_ ≠ gb219 ∧ k_ ≠ gb222 ∧ k_ ≠ gb225) (.slice Ao81 y239.length co81) y239) := ⟨h3_⟩
          have n4_ : Aside0 (Kd.V (Kd.int .u8) 5 w86 w.heap.size (fun k_ => k_ ≠ gb203 ∧ k_ ≠ gb219 ∧ k_ ≠ gb222 ∧ k_ ≠ gb225) v253 y252) := ⟨h4_⟩
          have n5_ : Aside0 (w86.heap[gb203]? = some (.cells ((Ar.cells .u32 8 t197) ++ #[.slice Ao49 t198.length co49, .int .u64 t201]) 36 (0, 0))) := ⟨h5_⟩
          have n6_ : Aside0 (w86.heap[gb219]? = some (.cells ((Ar.cells .u32 8 t213) ++ #[.slice Ao60 t214.length co60, .int .u64 t217]) 36 (0, 0))) := ⟨h6_⟩
          have n7_ : Aside0 (w86.heap[gb222]? = some (.cells (Ar.cells .u8 32 t220) 26 (0, 0))) := ⟨h7_⟩
          have n8_ : Aside0 (w86.heap[gb225]? = some (.cells (Ar.cells .u8 32 t223) 26 (0, 0))) := ⟨h8_⟩
          have n9_ : Aside0 (Below w.heap.size w w86) := ⟨h9_⟩
          clear HO200 HO216 BK203 BK219 BK222 BK225 HB h0_ h1_ h2_ h3_ h4_ h5_ h6_ h7_ h8_ h9_
          have HO200 := n0_
          have HO216 := n1_
          have HO238 := n2_
          have HO241 := n3_
          have HO254 := n4_
          have BK203 := n5_
          have BK219 := n6_
          have BK222 := n7_
          have BK225 := n8_
          have HB := n9_
          clear n0_ n1_ n2_ n3_ n4_ n5_ n6_ n7_ n8_ n9_
          have hHeld : w86.heap[gb222]? = some (.cells (Ar.cells .u8 32 t220) 26 (0, 0)) ∧ w86.heap[gb225]? = some (.cells (Ar.cells .u8 32 t223) 26 (0, 0)) ∧ w86.heap[gb219]? = some (.cells ((Ar.cells .u32 8 t213) ++ #[.slice Ao60 t214.length co60, .int .u64 t217]) 36 (0, 0)) ∧ w86.cell? ⟨gb219, 8, none⟩ = some (.slice Ao60 t214.length co60) ∧ w86.cell? ⟨gb219, 9, none⟩ = some (.int .u64 t217) ∧ w86.heap[gb203]? = some (.cells ((Ar.cells .u32 8 t197) ++ #[.slice Ao49 t198.length co49, .int .u64 t201]) 36 (0, 0)) ∧ w86.cell? ⟨gb203, 8, none⟩ = some (.slice Ao49 t198.length co49) ∧ w86.cell? ⟨gb203, 9, none⟩ = some (.int .u64 t201) := hS_
          refine norm_ (a' := ?_) ?_ ?_
          rotate_left
          ·simp only [putAll, Act.put, zA_, zB_, zC_]
           rfl
          refine one_ (i := 41) (N := some 90) (bt7_ 77 171523813933055) rfl rfl (one_of HT_.out (by kernel_rfl)) (by decide) (fun K hK => ?_)
          refine Kd.R_lit_step (Kd.int .u8) _ 5 ?hg (N := 90) ?hd (xs := ([97, 98] : List Int)) (inner := [.int .u8 97, .int .u8 98]) (ok := fun _ => True) (okp := fun _ => True) ?hr ?hp (fun _ hk => hk) trivial (Below.refl _ _) (Nat.le_refl _) (by simp) ?_; (case hd => rfl); (case hg => rfl); (case hr => first | (go_simp; done) | (go_simp; rfl)); (case hp => exact (Reps.one (show Kd.M (Kd.int .u8) _ _ _ 97 [.int .u8 97] from rfl) (Reps.one (show Kd.M (Kd.int .u8) _ _ _ 98 [.int .u8 98] from rfl) (Reps.none _ _))))
          intro v244 w87 ho88 hb hg_ hnew_
          clear hg_ hnew_
          (first | rw [← Ny243.out] at ho88 | (simp only [Int.reduceToNat] at ho88; rw [← Ny243.out] at ho88))
          replace HO200 := Aside0.mk (Kd.V_elder' (au7v HO200) (Kd.R_base ho88) hb)
          replace HO216 := Aside0.mk (Kd.V_elder' (au7v HO216) (Kd.R_base ho88) hb)
          replace HO238 := Aside0.mk (Kd.V_elder' (au7v HO238) (Kd.R_base ho88) hb)
          replace HO241 := Aside0.mk (Kd.N_elder' (au7n HO241) (Kd.R_base ho88) hb)
          replace HO254 := Aside0.mk (Kd.V_elder' (au7v HO254) (Kd.R_base ho88) hb)
          have HO245 := Aside0.mk (Kd.R_lower ho88 (below_size (au7s HB)))
          replace BK203 := Aside0.mk (au7B BK203 hb)
          replace BK219 := Aside0.mk (au7B BK219 hb)
          replace BK222 := Aside0.mk (au7B BK222 hb)
          replace BK225 := Aside0.mk (au7B BK225 hb)
          replace HB := Aside0.mk (below_step (au7s HB) hb)
          clear hb ho88
          refine hK.out _ _ ⟨BK222.out, BK225.out, BK219.out, (blk_cell BK219.out 8).trans au7c, (blk_cell BK219.out 9).trans au7c, BK203.out, (blk_cell BK203.out 8).trans au7c, (blk_cell BK203.out 9).trans au7c⟩ (fun hHeld => ?_)
          clear hK K
          refine norm_ (a' := ?_) ?_ ?_
          rotate_left
          ·show Act.put _ (some 90) _ = _
           simp only [Act.put, zA_, zB_, zC_, i64_w, i32_w]
           rfl
          exact norm_ au7z (hJ41_43_44 (v244, v250, v253) _ ⟨hHeld, (by (with_reducible repeat (first | apply Kd.V_alloc | apply Kd.V_drewN | apply Kd.V_drew)); exact Kd.V_mono HO200.out (fun _ hk => ⟨hk.1.1, ⟨hk.2, ⟨hk.1.2.1, ⟨hk.1.2.2.1, ⟨hk.1.2.2.2.1, hk.1.2.2.2.2⟩⟩⟩⟩⟩)), (by (with_reducible repeat (first | apply Kd.V_alloc | apply Kd.V_drewN | apply Kd.V_drew)); exact Kd.V_mono HO216.out (fun _ hk => ⟨hk.1.1, ⟨hk.2, ⟨hk.1.2.1, ⟨hk.1.2.2.1, ⟨hk.1.2.2.2.1, hk.1.2.2.2.2⟩⟩⟩⟩⟩)), (by (with_reducible repeat (first | apply Kd.V_alloc | apply Kd.V_drewN | apply Kd.V_drew)); exact Kd.V_mono HO238.out (fun _ hk => ⟨hk.1.1, ⟨hk.2, ⟨hk.1.2.1, ⟨hk.1.2.2.1, ⟨hk.1.2.2.2.1, hk.1.2.2.2.2⟩⟩⟩⟩⟩)), (by (with_reducible repeat (first | apply Kd.N_alloc | apply Kd.N_drewN | apply Kd.N_drew)); exact Kd.N_mono HO241.out (fun _ hk => ⟨hk.2, ⟨hk.1.1, ⟨hk.1.2.1, ⟨hk.1.2.2.1, hk.1.2.2.2⟩⟩⟩⟩)), (au7r HO245), (by (with_reducible repeat (first | apply Kd.V_alloc | apply Kd.V_drewN | apply Kd.V_drew)); exact Kd.V_mono HO254.out (fun _ hk => ⟨hk.2, ⟨hk.1.1, ⟨hk.1.2.1, ⟨hk.1.2.2.1, hk.1.2.2.2⟩⟩⟩⟩)), (au7b BK203), (au7b BK219), (au7b BK222), (au7b BK225), (au7s HB)⟩)
        ·skip
         rintro ⟨v244, v250⟩ w87 ⟨hS_, h0_, h1_, h2_, h3_, h4_, h5_, h6_, h7_, h8_, h9_, h10_⟩
         have n0_ : Aside0 (Kd.V (Kd.int .u8) 5 w87 w.heap.size (fun k_ => some k_ ≠ (.slice Ao81 y239.length co81 : Value).ownBlock ∧ some k_ ≠ (v244 : Value).ownBlock ∧ some k_ ≠ (v250 : Value).ownBlock ∧ k_ ≠ gb203 ∧ k_ ≠ gb219 ∧ k_ ≠ gb222 ∧ k_ ≠ gb225) (.slice Ao49 t198.length co49) t198) := ⟨h0_⟩
         have n1_ : Aside0 (Kd.V (Kd.int .u8) 5 w87 w.heap.size (fun k_ => some k_ ≠ (.slice Ao81 y239.length co81 : Value).ownBlock ∧ some k_ ≠ (v244 : Value).ownBlock ∧ some k_ ≠ (v250 : Value).ownBlock ∧ k_ ≠ gb203 ∧ k_ ≠ gb219 ∧ k_ ≠ gb222 ∧ k_ ≠ gb225) (.slice Ao60 t214.length co60) t214) := ⟨h1_⟩
         have n2_ : Aside0 (Kd.V (Kd.int .u8) 5 w87 w.heap.size (fun k_ => some k_ ≠ (.slice Ao81 y239.length co81 : Value).ownBlock ∧ some k_ ≠ (v244 : Value).ownBlock ∧ some k_ ≠ (v250 : Value).ownBlock ∧ k_ ≠ gb203 ∧ k_ ≠ gb219 ∧ k_ ≠ gb222 ∧ k_ ≠ gb225) (.slice Ao78 y236.length co78) y236) := ⟨h2_⟩
         have n3_ : Aside0 (Kd.N (Kd.slice 5 (Kd.int .u8)) 29 w87 w.heap.size (fun k_ => some k_ ≠ (v244 : Value).ownBlock ∧ some k_ ≠ (v250 : Value).ownBlock ∧ k_ ≠ gb203 ∧ k_ ≠ gb219 ∧ k_ ≠ gb222 ∧ k_ ≠ gb225) (.slice Ao81 y239.length co81) y239) := ⟨h3_⟩
         have n4_ : Aside0 (Kd.R (Kd.int .u8) 5 w87 w.heap.size (fun k_ => some k_ ≠ (v250 : Value).ownBlock) v244 y243) := ⟨h4_⟩
         have n5_ : Aside0 (Kd.R (Kd.int .u8) 5 w87 w.heap.size (fun k_ => some k_ ≠ (v244 : Value).ownBlock) v250 y249) := ⟨h5_⟩
         have n6_ : Aside0 (w87.heap[gb203]? = some (.cells ((Ar.cells .u32 8 t197) ++ #[.slice Ao49 t198.length co49, .int .u64 t201]) 36 (0, 0))) := ⟨h6_⟩
         have n7_ : Aside0 (w87.heap[gb219]? = some (.cells ((Ar.cells .u32 8 t213) ++ #[.slice Ao60 t214.length co60, .int .u64 t217]) 36 (0, 0))) := ⟨h7_⟩
         have n8_ : Aside0 (w87.heap[gb222]? = some (.cells (Ar.cells .u8 32 t220) 26 (0, 0))) := ⟨h8_⟩
         have n9_ : Aside0 (w87.heap[gb225]? = some (.cells (Ar.cells .u8 32 t223) 26 (0, 0))) := ⟨h9_⟩
         have n10_ : Aside0 (Below w.heap.size w w87) := ⟨h10_⟩
         clear HO200 HO216 BK203 BK219 BK222 BK225 HB h0_ h1_ h2_ h3_ h4_ h5_ h6_ h7_ h8_ h9_ h10_
         have HO200 := n0_
         have HO216 := n1_
         have HO238 := n2_
         have HO241 := n3_
         have HO245 := n4_
         have HO251 := n5_
         have BK203 := n6_
         have BK219 := n7_
         have BK222 := n8_
         have BK225 := n9_
         have HB := n10_
         clear n0_ n1_ n2_ n3_ n4_ n5_ n6_ n7_ n8_ n9_ n10_
         have hHeld : w87.heap[gb222]? = some (.cells (Ar.cells .u8 32 t220) 26 (0, 0)) ∧ w87.heap[gb225]? = some (.cells (Ar.cells .u8 32 t223) 26 (0, 0)) ∧ w87.heap[gb219]? = some (.cells ((Ar.cells .u32 8 t213) ++ #[.slice Ao60 t214.length co60, .int .u64 t217]) 36 (0, 0)) ∧ w87.cell? ⟨gb219, 8, none⟩ = some (.slice Ao60 t214.length co60) ∧ w87.cell? ⟨gb219, 9, none⟩ = some (.int .u64 t217) ∧ w87.heap[gb203]? = some (.cells ((Ar.cells .u32 8 t197) ++ #[.slice Ao49 t198.length co49, .int .u64 t201]) 36 (0, 0)) ∧ w87.cell? ⟨gb203, 8, none⟩ = some (.slice Ao49 t198.length co49) ∧ w87.cell? ⟨gb203, 9, none⟩ = some (.int .u64 t201) := hS_
         refine norm_ (a' := ?_) ?_ ?_
         rotate_left
         ·simp only [putAll, Act.put, zA_, zB_, zC_]
          rfl
         refine two_ (i := 42) (j := 44) (Ni := some 91) (Nj := some 93) (bt7_ 77 158329674399743) #[true, true, true, true, true, true, true, true, true, true, true, true, true, true, true, true, true, true, true, true, true, true, true, true, true, true, true, true, true, true, true, true, true, true, true, true, true, true, true, true, true, true, false, true, true, false, false, true, false, false, false, false, false, false, false, false, false, false, false, false, false, false, false, false, false, false, false, false, false, false, false, false, false, false, false, false, false] rfl rfl rfl rfl (two_of HT_.out (by kernel_rfl)) (by decide) (by decide) (fun K hK => ?_) (fun K hK => ?_)
         ·skip
          refine Ar.mark_step (w0 := w) (by rfl) (D := 91) rfl (T := 29) rfl Tryd.underlying29 Tryd.underlying5 (v := v244) rfl (k := .u8) (e := 5) (xs := y243) (base := w.heap.size) (ok := (fun k_ => some k_ ≠ (v250 : Value).ownBlock ∧ k_ ≠ gb203 ∧ k_ ≠ gb219 ∧ k_ ≠ gb222 ∧ k_ ≠ gb225)) ?aO ?aP ?aB ?_
          (case aB => exact (au7s HB))
          (case aO => exact (by (with_reducible repeat (first | apply Kd.R_alloc | apply Kd.R_drewN | apply Kd.R_drew)); exact Kd.R_mono (Kd.R_types (Kd.R_types (Kd.R_types (Kd.R_types HO245.out BK203.out (by decide)) BK219.out (by decide)) BK222.out (by decide)) BK225.out (by decide)) (fun _ hk => ⟨hk.1.1.1.1, ⟨hk.1.1.1.2, ⟨hk.1.1.2, ⟨hk.1.2, hk.2⟩⟩⟩⟩)))
          (case aP => first | (rw [Ny243.out]; simp; done) | (simp; done) | omega)
          intro v247 w88 ho hb hg hat
          rw [← Ny246.out] at ho
          replace HO200 := Aside0.mk (Kd.V_mono (Kd.V_afterv (ok := (fun k_ => some k_ ≠ (.slice Ao81 y239.length co81 : Value).ownBlock ∧ some k_ ≠ (v250 : Value).ownBlock ∧ k_ ≠ gb203 ∧ k_ ≠ gb219 ∧ k_ ≠ gb222 ∧ k_ ≠ gb225)) (by (with_reducible repeat (first | apply Kd.V_alloc | apply Kd.V_drewN | apply Kd.V_drew)); exact Kd.V_mono HO200.out (fun _ hk => ⟨⟨hk.1, ⟨hk.2.2.1, ⟨hk.2.2.2.1, ⟨hk.2.2.2.2.1, ⟨hk.2.2.2.2.2.1, hk.2.2.2.2.2.2⟩⟩⟩⟩⟩, hk.2.1⟩)) hg hat) (fun _ h_ => h_.1))
          replace BK203 := Aside0.mk (au7G BK203 hg (Kd.R_ne HO245.out BK203.out (by decide)))
          replace HO216 := Aside0.mk (Kd.V_mono (Kd.V_afterv (ok := (fun k_ => some k_ ≠ (.slice Ao81 y239.length co81 : Value).ownBlock ∧ some k_ ≠ (v250 : Value).ownBlock ∧ k_ ≠ gb203 ∧ k_ ≠ gb219 ∧ k_ ≠ gb222 ∧ k_ ≠ gb225)) (by (with_reducible repeat (first | apply Kd.V_alloc | apply Kd.V_drewN | apply Kd.V_drew)); exact Kd.V_mono HO216.out (fun _ hk => ⟨⟨hk.1, ⟨hk.2.2.1, ⟨hk.2.2.2.1, ⟨hk.2.2.2.2.1, ⟨hk.2.2.2.2.2.1, hk.2.2.2.2.2.2⟩⟩⟩⟩⟩, hk.2.1⟩)) hg hat) (fun _ h_ => h_.1))
          replace BK219 := Aside0.mk (au7G BK219 hg (Kd.R_ne HO245.out BK219.out (by decide)))
          replace BK222 := Aside0.mk (au7G BK222 hg (Kd.R_ne HO245.out BK222.out (by decide)))
          replace BK225 := Aside0.mk (au7G BK225 hg (Kd.R_ne HO245.out BK225.out (by decide)))
          replace HO238 := Aside0.mk (Kd.V_mono (Kd.V_afterv (ok := (fun k_ => some k_ ≠ (.slice Ao81 y239.length co81 : Value).ownBlock ∧ some k_ ≠ (v250 : Value).ownBlock ∧ k_ ≠ gb203 ∧ k_ ≠ gb219 ∧ k_ ≠ gb222 ∧ k_ ≠ gb225)) (by (with_reducible repeat (first | apply Kd.V_alloc | apply Kd.V_drewN | apply Kd.V_drew)); exact Kd.V_mono HO238.out (fun _ hk => ⟨⟨hk.1, ⟨hk.2.2.1, ⟨hk.2.2.2.1, ⟨hk.2.2.2.2.1, ⟨hk.2.2.2.2.2.1, hk.2.2.2.2.2.2⟩⟩⟩⟩⟩, hk.2.1⟩)) hg hat) (fun _ h_ => h_.1))
          replace HO241 := Aside0.mk (Kd.N_mono (Kd.N_afterv (ok := (fun k_ => some k_ ≠ (v250 : Value).ownBlock ∧ k_ ≠ gb203 ∧ k_ ≠ gb219 ∧ k_ ≠ gb222 ∧ k_ ≠ gb225)) (by (with_reducible repeat (first | apply Kd.N_alloc | apply Kd.N_drewN | apply Kd.N_drew)); exact Kd.N_mono HO241.out (fun _ hk => ⟨⟨hk.2.1, ⟨hk.2.2.1, ⟨hk.2.2.2.1, ⟨hk.2.2.2.2.1, hk.2.2.2.2.2⟩⟩⟩⟩, hk.1⟩)) hg hat) (fun _ h_ => h_.1))
          replace HO251 := Aside0.mk (Kd.R_mono (Kd.R_after (ok := (fun _ => True)) (by (with_reducible repeat (first | apply Kd.R_alloc | apply Kd.R_drewN | apply Kd.R_drew)); exact Kd.R_mono HO251.out (fun _ hk => ⟨trivial, hk⟩)) hg hat) (fun _ h_ => h_.1))
          replace HB := Aside0.mk (hb)
          have HO248 := Aside0.mk (ho)
          clear HO245 ho hb hg hat
          refine hK.out _ _ ⟨BK222.out, BK225.out, BK219.out, (blk_cell BK219.out 8).trans au7c, (blk_cell BK219.out 9).trans au7c, BK203.out, (blk_cell BK203.out 8).trans au7c, (blk_cell BK203.out 9).trans au7c⟩ (fun hHeld => ?_)
          clear hK K
          refine norm_ (a' := ?_) ?_ ?_
          rotate_left
          ·show Act.put _ (some 91) _ = _
           simp only [Act.put, zA_, zB_, zC_, i64_w, i32_w]
           rfl
          exact norm_ au7z (hJ41_42_43 (v244, v247, v250) _ ⟨hHeld, (au7v HO200), (au7v HO216), (au7v HO238), (au7n HO241), (au7v HO248), (au7r HO251), (au7b BK203), (au7b BK219), (au7b BK222), (au7b BK225), (au7s HB)⟩)
         ·skip
          refine Ar.mark_step (w0 := w) (by rfl) (D := 93) rfl (T := 29) rfl Tryd.underlying29 Tryd.underlying5 (v := v250) rfl (k := .u8) (e := 5) (xs := y249) (base := w.heap.size) (ok := (fun k_ => some k_ ≠ (v244 : Value).ownBlock ∧ k_ ≠ gb203 ∧ k_ ≠ gb219 ∧ k_ ≠ gb222 ∧ k_ ≠ gb225)) ?aO ?aP ?aB ?_
          (case aB => exact (au7s HB))
          (case aO => exact (by (with_reducible repeat (first | apply Kd.R_alloc | apply Kd.R_drewN | apply Kd.R_drew)); exact Kd.R_mono (Kd.R_types (Kd.R_types (Kd.R_types (Kd.R_types HO251.out BK203.out (by decide)) BK219.out (by decide)) BK222.out (by decide)) BK225.out (by decide)) (fun _ hk => ⟨hk.1.1.1.1, ⟨hk.1.1.1.2, ⟨hk.1.1.2, ⟨hk.1.2, hk.2⟩⟩⟩⟩)))
          (case aP => first | (rw [Ny249.out]; simp; done) | (simp; done) | omega)
          intro v253 w88 ho hb hg hat
          rw [← Ny252.out] at ho
          replace HO200 := Aside0.mk (Kd.V_mono (Kd.V_afterv (ok := (fun k_ => some k_ ≠ (.slice Ao81 y239.length co81 : Value).ownBlock ∧ some k_ ≠ (v244 : Value).ownBlock ∧ k_ ≠ gb203 ∧ k_ ≠ gb219 ∧ k_ ≠ gb222 ∧ k_ ≠ gb225)) (by (with_reducible repeat (first | apply Kd.V_alloc | apply Kd.V_drewN | apply Kd.V_drew)); exact Kd.V_mono HO200.out (fun _ hk => ⟨⟨hk.1, ⟨hk.2.1, ⟨hk.2.2.2.1, ⟨hk.2.2.2.2.1, ⟨hk.2.2.2.2.2.1, hk.2.2.2.2.2.2⟩⟩⟩⟩⟩, hk.2.2.1⟩)) hg hat) (fun _ h_ => h_.1))
          replace BK203 := Aside0.mk (au7G BK203 hg (Kd.R_ne HO251.out BK203.out (by decide)))
          replace HO216 := Aside0.mk (Kd.V_mono (Kd.V_afterv (ok := (fun k_ => some k_ ≠ (.slice Ao81 y239.length co81 : Value).ownBlock ∧ some k_ ≠ (v244 : Value).ownBlock ∧ k_ ≠ gb203 ∧ k_ ≠ gb219 ∧ k_ ≠ gb222 ∧ k_ ≠ gb225)) (by (with_reducible repeat (first | apply Kd.V_alloc | apply Kd.V_drewN | apply Kd.V_drew)); exact Kd.V_mono HO216.out (fun _ hk => ⟨⟨hk.1, ⟨hk.2.1, ⟨hk.2.2.2.1, ⟨hk.2.2.2.2.1, ⟨hk.2.2.2.2.2.1, hk.2.2.2.2.2.2⟩⟩⟩⟩⟩, hk.2.2.1⟩)) hg hat) (fun _ h_ => h_.1))
          replace BK219 := Aside0.mk (au7G BK219 hg (Kd.R_ne HO251.out BK219.out (by decide)))
          replace BK222 := Aside0.mk (au7G BK222 hg (Kd.R_ne HO251.out BK222.out (by decide)))
          replace BK225 := Aside0.mk (au7G BK225 hg (Kd.R_ne HO251.out BK225.out (by decide)))
          replace HO238 := Aside0.mk (Kd.V_mono (Kd.V_afterv (ok := (fun k_ => some k_ ≠ (.slice Ao81 y239.length co81 : Value).ownBlock ∧ some k_ ≠ (v244 : Value).ownBlock ∧ k_ ≠ gb203 ∧ k_ ≠ gb219 ∧ k_ ≠ gb222 ∧ k_ ≠ gb225)) (by (with_reducible repeat (first | apply Kd.V_alloc | apply Kd.V_drewN | apply Kd.V_drew)); exact Kd.V_mono HO238.out (fun _ hk => ⟨⟨hk.1, ⟨hk.2.1, ⟨hk.2.2.2.1, ⟨hk.2.2.2.2.1, ⟨hk.2.2.2.2.2.1, hk.2.2.2.2.2.2⟩⟩⟩⟩⟩, hk.2.2.1⟩)) hg hat) (fun _ h_ => h_.1))
          replace HO241 := Aside0.mk (Kd.N_mono (Kd.N_afterv (ok := (fun k_ => some k_ ≠ (v244 : Value).ownBlock ∧ k_ ≠ gb203 ∧ k_ ≠ gb219 ∧ k_ ≠ gb222 ∧ k_ ≠ gb225)) (by (with_reducible repeat (first | apply Kd.N_alloc | apply Kd.N_drewN | apply Kd.N_drew)); exact Kd.N_mono HO241.out (fun _ hk => ⟨⟨hk.1, ⟨hk.2.2.1, ⟨hk.2.2.2.1, ⟨hk.2.2.2.2.1, hk.2.2.2.2.2⟩⟩⟩⟩, hk.2.1⟩)) hg hat) (fun _ h_ => h_.1))
          replace HO245 := Aside0.mk (Kd.R_mono (Kd.R_after (ok := (fun _ => True)) (by (with_reducible repeat (first | apply Kd.R_alloc | apply Kd.R_drewN | apply Kd.R_drew)); exact Kd.R_mono HO245.out (fun _ hk => ⟨trivial, hk⟩)) hg hat) (fun _ h_ => h_.1))
          replace HB := Aside0.mk (hb)
          have HO254 := Aside0.mk (ho)
          clear HO251 ho hb hg hat
          refine hK.out _ _ ⟨BK222.out, BK225.out, BK219.out, (blk_cell BK219.out 8).trans au7c, (blk_cell BK219.out 9).trans au7c, BK203.out, (blk_cell BK203.out 8).trans au7c, (blk_cell BK203.out 9).trans au7c⟩ (fun hHeld => ?_)
          clear hK K
          refine norm_ (a' := ?_) ?_ ?_
          rotate_left
          ·show Act.put _ (some 93) _ = _
           simp only [Act.put, zA_, zB_, zC_, i64_w, i32_w]
           rfl
          exact norm_ au7z (hJ41_43_44 (v244, v250, v253) _ ⟨hHeld, (au7v HO200), (au7v HO216), (au7v HO238), (au7n HO241), (au7r HO245), (au7v HO254), (au7b BK203), (au7b BK219), (au7b BK222), (au7b BK225), (au7s HB)⟩)
       ·skip
        rintro ⟨v244, v247⟩ w86 ⟨hS_, h0_, h1_, h2_, h3_, h4_, h5_, h6_, h7_, h8_, h9_⟩
        have n0_ : Aside0 (Kd.V (Kd.int .u8) 5 w86 w.heap.size (fun k_ => some k_ ≠ (.slice Ao81 y239.length co81 : Value).ownBlock ∧ k_ ≠ gb203 ∧ k_ ≠ gb219 ∧ k_ ≠ gb222 ∧ k_ ≠ gb225) (.slice Ao49 t198.length co49) t198) := ⟨h0_⟩
        have n1_ : Aside0 (Kd.V (Kd.int .u8) 5 w86 w.heap.size (fun k_ => some k_ ≠ (.slice Ao81 y239.length co81 : Value).ownBlock ∧ k_ ≠ gb203 ∧ k_ ≠ gb219 ∧ k_ ≠ gb222 ∧ k_ ≠ gb225) (.slice Ao60 t214.length co60) t214) := ⟨h1_⟩
        have n2_ : Aside0 (Kd.V (Kd.int .u8) 5 w86 w.heap.size (fun k_ => some k_ ≠ (.slice Ao81 y239.length co81 : Value).ownBlock ∧ k_ ≠ gb203 ∧ k_ ≠ gb219 ∧ k_ ≠ gb222 ∧ k_ ≠ gb225) (.slice Ao78 y236.length co78) y236) := ⟨h2_⟩
        have n3_ : Aside0 (Kd.N (Kd.slice 5 (Kd.int .u8)) 29 w86 w.heap.size (fun k_ => k_ ≠ gb203 ∧ k_ ≠ gb219 ∧ k_ ≠ gb222 ∧ k_ ≠ gb225) (.slice Ao81 y239.length co81) y239) := ⟨h3_⟩
        have n4_ : Aside0 (Kd.V (Kd.int .u8) 5 w86 w.heap.size (fun k_ => k_ ≠ gb203 ∧ k_ ≠ gb219 ∧ k_ ≠ gb222 ∧ k_ ≠ gb225) v247 y246) := ⟨h4_⟩
        have n5_ : Aside0 (w86.heap[gb203]? = some (.cells ((Ar.cells .u32 8 t197) ++ #[.slice Ao49 t198.length co49, .int .u64 t201]) 36 (0, 0))) := ⟨h5_⟩
        have n6_ : Aside0 (w86.heap[gb219]? = some (.cells ((Ar.cells .u32 8 t213) ++ #[.slice Ao60 t214.length co60, .int .u64 t217]) 36 (0, 0))) := ⟨h6_⟩
        have n7_ : Aside0 (w86.heap[gb222]? = some (.cells (Ar.cells .u8 32 t220) 26 (0, 0))) := ⟨h7_⟩
        have n8_ : Aside0 (w86.heap[gb225]? = some (.cells (Ar.cells .u8 32 t223) 26 (0, 0))) := ⟨h8_⟩
        have n9_ : Aside0 (Below w.heap.size w w86) := ⟨h9_⟩
        clear HO200 HO216 BK203 BK219 BK222 BK225 HB h0_ h1_ h2_ h3_ h4_ h5_ h6_ h7_ h8_ h9_
        have HO200 := n0_
        have HO216 := n1_
        have HO238 := n2_
        have HO241 := n3_
        have HO248 := n4_
        have BK203 := n5_
        have BK219 := n6_
        have BK222 := n7_
        have BK225 := n8_
        have HB := n9_
        clear n0_ n1_ n2_ n3_ n4_ n5_ n6_ n7_ n8_ n9_
        have hHeld : w86.heap[gb222]? = some (.cells (Ar.cells .u8 32 t220) 26 (0, 0)) ∧ w86.heap[gb225]? = some (.cells (Ar.cells .u8 32 t223) 26 (0, 0)) ∧ w86.heap[gb219]? = some (.cells ((Ar.cells .u32 8 t213) ++ #[.slice Ao60 t214.length co60, .int .u64 t217]) 36 (0, 0)) ∧ w86.cell? ⟨gb219, 8, none⟩ = some (.slice Ao60 t214.length co60) ∧ w86.cell? ⟨gb219, 9, none⟩ = some (.int .u64 t217) ∧ w86.heap[gb203]? = some (.cells ((Ar.cells .u32 8 t197) ++ #[.slice Ao49 t198.length co49, .int .u64 t201]) 36 (0, 0)) ∧ w86.cell? ⟨gb203, 8, none⟩ = some (.slice Ao49 t198.length co49) ∧ w86.cell? ⟨gb203, 9, none⟩ = some (.int .u64 t201) := hS_
        refine norm_ (a' := ?_) ?_ ?_
        rotate_left
        ·simp only [putAll, Act.put, zA_, zB_, zC_]
         rfl
        refine one_ (i := 43) (N := some 92) (bt7_ 77 158329674399743) rfl rfl (one_of HT_.out (by kernel_rfl)) (by decide) (fun K hK => ?_)
        refine Kd.R_lit_step (Kd.int .u8) _ 5 ?hg (N := 92) ?hd (xs := ([99] : List Int)) (inner := [.int .u8 99]) (ok := fun _ => True) (okp := fun _ => True) ?hr ?hp (fun _ hk => hk) trivial (Below.refl _ _) (Nat.le_refl _) (by simp) ?_; (case hd => rfl); (case hg => rfl); (case hr => first | (go_simp; done) | (go_simp; rfl)); (case hp => exact (Reps.one (show Kd.M (Kd.int .u8) _ _ _ 99 [.int .u8 99] from rfl) (Reps.none _ _)))
        intro v250 w87 ho88 hb hg_ hnew_
        clear hg_ hnew_
        (first | rw [← Ny249.out] at ho88 | (simp only [Int.reduceToNat] at ho88; rw [← Ny249.out] at ho88))
        replace HO200 := Aside0.mk (Kd.V_elder' (au7v HO200) (Kd.R_base ho88) hb)
        replace HO216 := Aside0.mk (Kd.V_elder' (au7v HO216) (Kd.R_base ho88) hb)
        replace HO238 := Aside0.mk (Kd.V_elder' (au7v HO238) (Kd.R_base ho88) hb)
        replace HO241 := Aside0.mk (Kd.N_elder' (au7n HO241) (Kd.R_base ho88) hb)
        replace HO248 := Aside0.mk (Kd.V_elder' (au7v HO248) (Kd.R_base ho88) hb)
        have HO251 := Aside0.mk (Kd.R_lower ho88 (below_size (au7s HB)))
        replace BK203 := Aside0.mk (au7B BK203 hb)
        replace BK219 := Aside0.mk (au7B BK219 hb)
        replace BK222 := Aside0.mk (au7B BK222 hb)
        replace BK225 := Aside0.mk (au7B BK225 hb)
        replace HB := Aside0.mk (below_step (au7s HB) hb)
        clear hb ho88
        refine hK.out _ _ ⟨BK222.out, BK225.out, BK219.out, (blk_cell BK219.out 8).trans au7c, (blk_cell BK219.out 9).trans au7c, BK203.out, (blk_cell BK203.out 8).trans au7c, (blk_cell BK203.out 9).trans au7c⟩ (fun hHeld => ?_)
        clear hK K
        refine norm_ (a' := ?_) ?_ ?_
        rotate_left
        ·show Act.put _ (some 92) _ = _
         simp only [Act.put, zA_, zB_, zC_, i64_w, i32_w]
         rfl
        exact norm_ au7z (hJ41_42_43 (v244, v247, v250) _ ⟨hHeld, (by (with_reducible repeat (first | apply Kd.V_alloc | apply Kd.V_drewN | apply Kd.V_drew)); exact Kd.V_mono HO200.out (fun _ hk => ⟨hk.1.1, ⟨hk.2, ⟨hk.1.2.1, ⟨hk.1.2.2.1, ⟨hk.1.2.2.2.1, hk.1.2.2.2.2⟩⟩⟩⟩⟩)), (by (with_reducible repeat (first | apply Kd.V_alloc | apply Kd.V_drewN | apply Kd.V_drew)); exact Kd.V_mono HO216.out (fun _ hk => ⟨hk.1.1, ⟨hk.2, ⟨hk.1.2.1, ⟨hk.1.2.2.1, ⟨hk.1.2.2.2.1, hk.1.2.2.2.2⟩⟩⟩⟩⟩)), (by (with_reducible repeat (first | apply Kd.V_alloc | apply Kd.V_drewN | apply Kd.V_drew)); exact Kd.V_mono HO238.out (fun _ hk => ⟨hk.1.1, ⟨hk.2, ⟨hk.1.2.1, ⟨hk.1.2.2.1, ⟨hk.1.2.2.2.1, hk.1.2.2.2.2⟩⟩⟩⟩⟩)), (by (with_reducible repeat (first | apply Kd.N_alloc | apply Kd.N_drewN | apply Kd.N_drew)); exact Kd.N_mono HO241.out (fun _ hk => ⟨hk.2, ⟨hk.1.1, ⟨hk.1.2.1, ⟨hk.1.2.2.1, hk.1.2.2.2⟩⟩⟩⟩)), (by (with_reducible repeat (first | apply Kd.V_alloc | apply Kd.V_drewN | apply Kd.V_drew)); exact Kd.V_mono HO248.out (fun _ hk => ⟨hk.2, ⟨hk.1.1, ⟨hk.1.2.1, ⟨hk.1.2.2.1, hk.1.2.2.2⟩⟩⟩⟩)), (au7r HO251), (au7b BK203), (au7b BK219), (au7b BK222), (au7b BK225), (au7s HB)⟩)
      ·skip
       rintro ⟨v244, v250, v253⟩ w88 ⟨hS_, h0_, h1_, h2_, h3_, h4_, h5_, h6_, h7_, h8_, h9_, h10_⟩
       have n0_ : Aside0 (Kd.V (Kd.int .u8) 5 w88 w.heap.size (fun k_ => some k_ ≠ (.slice Ao81 y239.length co81 : Value).ownBlock ∧ some k_ ≠ (v244 : Value).ownBlock ∧ k_ ≠ gb203 ∧ k_ ≠ gb219 ∧ k_ ≠ gb222 ∧ k_ ≠ gb225) (.slice Ao49 t198.length co49) t198) := ⟨h0_⟩
       have n1_ : Aside0 (Kd.V (Kd.int .u8) 5 w88 w.heap.size (fun k_ => some k_ ≠ (.slice Ao81 y239.length co81 : Value).ownBlock ∧ some k_ ≠ (v244 : Value).ownBlock ∧ k_ ≠ gb203 ∧ k_ ≠ gb219 ∧ k_ ≠ gb222 ∧ k_ ≠ gb225) (.slice Ao60 t214.length co60) t214) := ⟨h1_⟩
       have n2_ : Aside0 (Kd.V (Kd.int .u8) 5 w88 w.heap.size (fun k_ => some k_ ≠ (.slice Ao81 y239.length co81 : Value).ownBlock ∧ some k_ ≠ (v244 : Value).ownBlock ∧ k_ ≠ gb203 ∧ k_ ≠ gb219 ∧ k_ ≠ gb222 ∧ k_ ≠ gb225) (.slice Ao78 y236.length co78) y236) := ⟨h2_⟩
       have n3_ : Aside0 (Kd.N (Kd.slice 5 (Kd.int .u8)) 29 w88 w.heap.size (fun k_ => some k_ ≠ (v244 : Value).ownBlock ∧ k_ ≠ gb203 ∧ k_ ≠ gb219 ∧ k_ ≠ gb222 ∧ k_ ≠ gb225) (.slice Ao81 y239.length co81) y239) := ⟨h3_⟩
       have n4_ : Aside0 (Kd.R (Kd.int .u8) 5 w88 w.heap.size (fun _ => True) v244 y243) := ⟨h4_⟩
       have n5_ : Aside0 (Kd.V (Kd.int .u8) 5 w88 w.heap.size (fun k_ => some k_ ≠ (v244 : Value).ownBlock ∧ k_ ≠ gb203 ∧ k_ ≠ gb219 ∧ k_ ≠ gb222 ∧ k_ ≠ gb225) v253 y252) := ⟨h5_⟩
       have n6_ : Aside0 (w88.heap[gb203]? = some (.cells ((Ar.cells .u32 8 t197) ++ #[.slice Ao49 t198.length co49, .int .u64 t201]) 36 (0, 0))) := ⟨h6_⟩
       have n7_ : Aside0 (w88.heap[gb219]? = some (.cells ((Ar.cells .u32 8 t213) ++ #[.slice Ao60 t214.length co60, .int .u64 t217]) 36 (0, 0))) := ⟨h7_⟩
       have n8_ : Aside0 (w88.heap[gb222]? = some (.cells (Ar.cells .u8 32 t220) 26 (0, 0))) := ⟨h8_⟩
       have n9_ : Aside0 (w88.heap[gb225]? = some (.cells (Ar.cells .u8 32 t223) 26 (0, 0))) := ⟨h9_⟩
       have n10_ : Aside0 (Below w.heap.size w w88) := ⟨h10_⟩
       clear HO200 HO216 BK203 BK219 BK222 BK225 HB h0_ h1_ h2_ h3_ h4_ h5_ h6_ h7_ h8_ h9_ h10_
       have HO200 := n0_
       have HO216 := n1_
       have HO238 := n2_
       have HO241 := n3_
       have HO245 := n4_
       have HO254 := n5_
       have BK203 := n6_
       have BK219 := n7_
       have BK222 := n8_
       have BK225 := n9_
       have HB := n10_
       clear n0_ n1_ n2_ n3_ n4_ n5_ n6_ n7_ n8_ n9_ n10_
       have hHeld : w88.heap[gb222]? = some (.cells (Ar.cells .u8 32 t220) 26 (0, 0)) ∧ w88.heap[gb225]? = some (.cells (Ar.cells .u8 32 t223) 26 (0, 0)) ∧ w88.heap[gb219]? = some (.cells ((Ar.cells .u32 8 t213) ++ #[.slice Ao60 t214.length co60, .int .u64 t217]) 36 (0, 0)) ∧ w88.cell? ⟨gb219, 8, none⟩ = some (.slice Ao60 t214.length co60) ∧ w88.cell? ⟨gb219, 9, none⟩ = some (.int .u64 t217) ∧ w88.heap[gb203]? = some (.cells ((Ar.cells .u32 8 t197) ++ #[.slice Ao49 t198.length co49, .int .u64 t201]) 36 (0, 0)) ∧ w88.cell? ⟨gb203, 8, none⟩ = some (.slice Ao49 t198.length co49) ∧ w88.cell? ⟨gb203, 9, none⟩ = some (.int .u64 t201) := hS_
       refine norm_ (a' := ?_) ?_ ?_
       rotate_left
       ·simp only [putAll, Act.put, zA_, zB_, zC_]
        rfl
       refine one_ (i := 42) (N := some 91) (bt7_ 77 175921860444159) rfl rfl (one_of HT_.out (by kernel_rfl)) (by decide) (fun K hK => ?_)
       refine Ar.mark_step (w0 := w) (by rfl) (D := 91) rfl (T := 29) rfl Tryd.underlying29 Tryd.underlying5 (v := v244) rfl (k := .u8) (e := 5) (xs := y243) (base := w.heap.size) (ok := (fun k_ => k_ ≠ gb203 ∧ k_ ≠ gb219 ∧ k_ ≠ gb222 ∧ k_ ≠ gb225)) ?aO ?aP ?aB ?_
       (case aB => exact (au7s HB))
       (case aO => exact (by (with_reducible repeat (first | apply Kd.R_alloc | apply Kd.R_drewN | apply Kd.R_drew)); exact Kd.R_mono (Kd.R_types (Kd.R_types (Kd.R_types (Kd.R_types HO245.out BK203.out (by decide)) BK219.out (by decide)) BK222.out (by decide)) BK225.out (by decide)) (fun _ hk => ⟨hk.1.1.1.2, ⟨hk.1.1.2, ⟨hk.1.2, hk.2⟩⟩⟩)))
       (case aP => first | (rw [Ny243.out]; simp; done) | (simp; done) | omega)
       intro v247 w89 ho hb hg hat
       rw [← Ny246.out] at ho
       replace HO200 := Aside0.mk (Kd.V_mono (Kd.V_afterv (ok := (fun k_ => some k_ ≠ (.slice Ao81 y239.length co81 : Value).ownBlock ∧ k_ ≠ gb203 ∧ k_ ≠ gb219 ∧ k_ ≠ gb222 ∧ k_ ≠ gb225)) (by (with_reducible repeat (first | apply Kd.V_alloc | apply Kd.V_drewN | apply Kd.V_drew)); exact Kd.V_mono HO200.out (fun _ hk => ⟨⟨hk.1, ⟨hk.2.2.1, ⟨hk.2.2.2.1, ⟨hk.2.2.2.2.1, hk.2.2.2.2.2⟩⟩⟩⟩, hk.2.1⟩)) hg hat) (fun _ h_ => h_.1))
       replace BK203 := Aside0.mk (au7G BK203 hg (Kd.R_ne HO245.out BK203.out (by decide)))
       replace HO216 := Aside0.mk (Kd.V_mono (Kd.V_afterv (ok := (fun k_ => some k_ ≠ (.slice Ao81 y239.length co81 : Value).ownBlock ∧ k_ ≠ gb203 ∧ k_ ≠ gb219 ∧ k_ ≠ gb222 ∧ k_ ≠ gb225)) (by (with_reducible repeat (first | apply Kd.V_alloc | apply Kd.V_drewN | apply Kd.V_drew)); exact Kd.V_mono HO216.out (fun _ hk => ⟨⟨hk.1, ⟨hk.2.2.1, ⟨hk.2.2.2.1, ⟨hk.2.2.2.2.1, hk.2.2.2.2.2⟩⟩⟩⟩, hk.2.1⟩)) hg hat) (fun _ h_ => h_.1))
       replace BK219 := Aside0.mk (au7G BK219 hg (Kd.R_ne HO245.out BK219.out (by decide)))
       replace BK222 := Aside0.mk (au7G BK222 hg (Kd.R_ne HO245.out BK222.out (by decide)))
       replace BK225 := Aside0.mk (au7G BK225 hg (Kd.R_ne HO245.out BK225.out (by decide)))
       replace HO238 := Aside0.mk (Kd.V_mono (Kd.V_afterv (ok := (fun k_ => some k_ ≠ (.slice Ao81 y239.length co81 : Value).ownBlock ∧ k_ ≠ gb203 ∧ k_ ≠ gb219 ∧ k_ ≠ gb222 ∧ k_ ≠ gb225)) (by (with_reducible repeat (first | apply Kd.V_alloc | apply Kd.V_drewN | apply Kd.V_drew)); exact Kd.V_mono HO238.out (fun _ hk => ⟨⟨hk.1, ⟨hk.2.2.1, ⟨hk.2.2.2.1, ⟨hk.2.2.2.2.1, hk.2.2.2.2.2⟩⟩⟩⟩, hk.2.1⟩)) hg hat) (fun _ h_ => h_.1))
       replace HO241 := Aside0.mk (Kd.N_mono (Kd.N_afterv (ok := (fun k_ => k_ ≠ gb203 ∧ k_ ≠ gb219 ∧ k_ ≠ gb222 ∧ k_ ≠ gb225)) (by (with_reducible repeat (first | apply Kd.N_alloc | apply Kd.N_drewN | apply Kd.N_drew)); exact Kd.N_mono HO241.out (fun _ hk => ⟨⟨hk.2.1, ⟨hk.2.2.1, ⟨hk.2.2.2.1, hk.2.2.2.2⟩⟩⟩, hk.1⟩)) hg hat) (fun _ h_ => h_.1))
       replace HO254 := Aside0.mk (Kd.V_mono (Kd.V_afterv (ok := (fun k_ => k_ ≠ gb203 ∧ k_ ≠ gb219 ∧ k_ ≠ gb222 ∧ k_ ≠ gb225)) (by (with_reducible repeat (first | apply Kd.V_alloc | apply Kd.V_drewN | apply Kd.V_drew)); exact Kd.V_mono HO254.out (fun _ hk => ⟨⟨hk.2.1, ⟨hk.2.2.1, ⟨hk.2.2.2.1, hk.2.2.2.2⟩⟩⟩, hk.1⟩)) hg hat) (fun _ h_ => h_.1))
       replace HB := Aside0.mk (hb)
       have HO248 := Aside0.mk (ho)
       clear HO245 ho hb hg hat
       refine hK.out _ _ ⟨BK222.out, BK225.out, BK219.out, (blk_cell BK219.out 8).trans au7c, (blk_cell BK219.out 9).trans au7c, BK203.out, (blk_cell BK203.out 8).trans au7c, (blk_cell BK203.out 9).trans au7c⟩ (fun hHeld => ?_)
       clear hK K
       refine norm_ (a' := ?_) ?_ ?_
       rotate_left
       ·show Act.put _ (some 91) _ = _
        simp only [Act.put, zA_, zB_, zC_, i64_w, i32_w]
        rfl
       exact norm_ au7z (hJ41_42_43_44 (v244, v247, v250, v253) _ ⟨hHeld, (au7v HO200), (au7v HO216), (au7v HO238), (au7n HO241), (au7v HO248), (au7v HO254), (au7b BK203), (au7b BK219), (au7b BK222), (au7b BK225), (au7s HB)⟩)
     ·skip
      rintro ⟨v244, v247, v250⟩ w88 ⟨hS_, h0_, h1_, h2_, h3_, h4_, h5_, h6_, h7_, h8_, h9_, h10_⟩
      have n0_ : Aside0 (Kd.V (Kd.int .u8) 5 w88 w.heap.size (fun k_ => some k_ ≠ (.slice Ao81 y239.length co81 : Value).ownBlock ∧ some k_ ≠ (v250 : Value).ownBlock ∧ k_ ≠ gb203 ∧ k_ ≠ gb219 ∧ k_ ≠ gb222 ∧ k_ ≠ gb225) (.slice Ao49 t198.length co49) t198) := ⟨h0_⟩
      have n1_ : Aside0 (Kd.V (Kd.int .u8) 5 w88 w.heap.size (fun k_ => some k_ ≠ (.slice Ao81 y239.length co81 : Value).ownBlock ∧ some k_ ≠ (v250 : Value).ownBlock ∧ k_ ≠ gb203 ∧ k_ ≠ gb219 ∧ k_ ≠ gb222 ∧ k_ ≠ gb225) (.slice Ao60 t214.length co60) t214) := ⟨h1_⟩
      have n2_ : Aside0 (Kd.V (Kd.int .u8) 5 w88 w.heap.size (fun k_ => some k_ ≠ (.slice Ao81 y239.length co81 : Value).ownBlock ∧ some k_ ≠ (v250 : Value).ownBlock ∧ k_ ≠ gb203 ∧ k_ ≠ gb219 ∧ k_ ≠ gb222 ∧ k_ ≠ gb225) (.slice Ao78 y236.length co78) y236) := ⟨h2_⟩
      have n3_ : Aside0 (Kd.N (Kd.slice 5 (Kd.int .u8)) 29 w88 w.heap.size (fun k_ => some k_ ≠ (v250 : Value).ownBlock ∧ k_ ≠ gb203 ∧ k_ ≠ gb219 ∧ k_ ≠ gb222 ∧ k_ ≠ gb225) (.slice Ao81 y239.length co81) y239) := ⟨h3_⟩
      have n4_ : Aside0 (Kd.V (Kd.int .u8) 5 w88 w.heap.size (fun k_ => some k_ ≠ (v250 : Value).ownBlock ∧ k_ ≠ gb203 ∧ k_ ≠ gb219 ∧ k_ ≠ gb222 ∧ k_ ≠ gb225) v247 y246) := ⟨h4_⟩
      have n5_ : Aside0 (Kd.R (Kd.int .u8) 5 w88 w.heap.size (fun _ => True) v250 y249) := ⟨h5_⟩
      have n6_ : Aside0 (w88.heap[gb203]? = some (.cells ((Ar.cells .u32 8 t197) ++ #[.slice Ao49 t198.length co49, .int .u64 t201]) 36 (0, 0))) := ⟨h6_⟩
      have n7_ : Aside0 (w88.heap[gb219]? = some (.cells ((Ar.cells .u32 8 t213) ++ #[.slice Ao60 t214.length co60, .int .u64 t217]) 36 (0, 0))) := ⟨h7_⟩
      have n8_ : Aside0 (w88.heap[gb222]? = some (.cells (Ar.cells .u8 32 t220) 26 (0, 0))) := ⟨h8_⟩
      have n9_ : Aside0 (w88.heap[gb225]? = some (.cells (Ar.cells .u8 32 t223) 26 (0, 0))) := ⟨h9_⟩
      have n10_ : Aside0 (Below w.heap.size w w88) := ⟨h10_⟩
      clear HO200 HO216 BK203 BK219 BK222 BK225 HB h0_ h1_ h2_ h3_ h4_ h5_ h6_ h7_ h8_ h9_ h10_
      have HO200 := n0_
      have HO216 := n1_
      have HO238 := n2_
      have HO241 := n3_
      have HO248 := n4_
      have HO251 := n5_
      have BK203 := n6_
      have BK219 := n7_
      have BK222 := n8_
      have BK225 := n9_
      have HB := n10_
      clear n0_ n1_ n2_ n3_ n4_ n5_ n6_ n7_ n8_ n9_ n10_
      have hHeld : w88.heap[gb222]? = some (.cells (Ar.cells .u8 32 t220) 26 (0, 0)) ∧ w88.heap[gb225]? = some (.cells (Ar.cells .u8 32 t223) 26 (0, 0)) ∧ w88.heap[gb219]? = some (.cells ((Ar.cells .u32 8 t213) ++ #[.slice Ao60 t214.length co60, .int .u64 t217]) 36 (0, 0)) ∧ w88.cell? ⟨gb219, 8, none⟩ = some (.slice Ao60 t214.length co60) ∧ w88.cell? ⟨gb219, 9, none⟩ = some (.int .u64 t217) ∧ w88.heap[gb203]? = some (.cells ((Ar.cells .u32 8 t197) ++ #[.slice Ao49 t198.length co49, .int .u64 t201]) 36 (0, 0)) ∧ w88.cell? ⟨gb203, 8, none⟩ = some (.slice Ao49 t198.length co49) ∧ w88.cell? ⟨gb203, 9, none⟩ = some (.int .u64 t201) := hS_
      refine norm_ (a' := ?_) ?_ ?_
      rotate_left
      ·simp only [putAll, Act.put, zA_, zB_, zC_]
       rfl
      refine one_ (i := 44) (N := some 93) (bt7_ 77 175921860444159) rfl rfl (one_of HT_.out (by kernel_rfl)) (by decide) (fun K hK => ?_)
      refine Ar.mark_step (w0 := w) (by rfl) (D := 93) rfl (T := 29) rfl Tryd.underlying29 Tryd.underlying5 (v := v250) rfl (k := .u8) (e := 5) (xs := y249) (base := w.heap.size) (ok := (fun k_ => k_ ≠ gb203 ∧ k_ ≠ gb219 ∧ k_ ≠ gb222 ∧ k_ ≠ gb225)) ?aO ?aP ?aB ?_
      (case aB => exact (au7s HB))
      (case aO => exact (by (with_reducible repeat (first | apply Kd.R_alloc | apply Kd.R_drewN | apply Kd.R_drew)); exact Kd.R_mono (Kd.R_types (Kd.R_types (Kd.R_types (Kd.R_types HO251.out BK203.out (by decide)) BK219.out (by decide)) BK222.out (by decide)) BK225.out (by decide)) (fun _ hk => ⟨hk.1.1.1.2, ⟨hk.1.1.2, ⟨hk.1.2, hk.2⟩⟩⟩)))
      (case aP => first | (rw [Ny249.out]; simp; done) | (simp; done) | omega)
      intro v253 w89 ho hb hg hat
      rw [← Ny252.out] at ho
      replace HO200 := Aside0.mk (Kd.V_mono (Kd.V_afterv (ok := (fun k_ => some k_ ≠ (.slice Ao81 y239.length co81 : Value).ownBlock ∧ k_ ≠ gb203 ∧ k_ ≠ gb219 ∧ k_ ≠ gb222 ∧ k_ ≠ gb225)) (by (with_reducible repeat (first | apply Kd.V_alloc | apply Kd.V_drewN | apply Kd.V_drew)); exact Kd.V_mono HO200.out (fun _ hk => ⟨⟨hk.1, ⟨hk.2.2.1, ⟨hk.2.2.2.1, ⟨hk.2.2.2.2.1, hk.2.2.2.2.2⟩⟩⟩⟩, hk.2.1⟩)) hg hat) (fun _ h_ => h_.1))
      replace BK203 := Aside0.mk (au7G BK203 hg (Kd.R_ne HO251.out BK203.out (by decide)))
      replace HO216 := Aside0.mk (Kd.V_mono (Kd.V_afterv (ok := (fun k_ => some k_ ≠ (.slice Ao81 y239.length co81 : Value).ownBlock ∧ k_ ≠ gb203 ∧ k_ ≠ gb219 ∧ k_ ≠ gb222 ∧ k_ ≠ gb225)) (by (with_reducible repeat (first | apply Kd.V_alloc | apply Kd.V_drewN | apply Kd.V_drew)); exact Kd.V_mono HO216.out (fun _ hk => ⟨⟨hk.1, ⟨hk.2.2.1, ⟨hk.2.2.2.1, ⟨hk.2.2.2.2.1, hk.2.2.2.2.2⟩⟩⟩⟩, hk.2.1⟩)) hg hat) (fun _ h_ => h_.1))
      replace BK219 := Aside0.mk (au7G BK219 hg (Kd.R_ne HO251.out BK219.out (by decide)))
      replace BK222 := Aside0.mk (au7G BK222 hg (Kd.R_ne HO251.out BK222.out (by decide)))
      replace BK225 := Aside0.mk (au7G BK225 hg (Kd.R_ne HO251.out BK225.out (by decide)))
      replace HO238 := Aside0.mk (Kd.V_mono (Kd.V_afterv (ok := (fun k_ => some k_ ≠ (.slice Ao81 y239.length co81 : Value).ownBlock ∧ k_ ≠ gb203 ∧ k_ ≠ gb219 ∧ k_ ≠ gb222 ∧ k_ ≠ gb225)) (by (with_reducible repeat (first | apply Kd.V_alloc | apply Kd.V_drewN | apply Kd.V_drew)); exact Kd.V_mono HO238.out (fun _ hk => ⟨⟨hk.1, ⟨hk.2.2.1, ⟨hk.2.2.2.1, ⟨hk.2.2.2.2.1, hk.2.2.2.2.2⟩⟩⟩⟩, hk.2.1⟩)) hg hat) (fun _ h_ => h_.1))
      replace HO241 := Aside0.mk (Kd.N_mono (Kd.N_afterv (ok := (fun k_ => k_ ≠ gb203 ∧ k_ ≠ gb219 ∧ k_ ≠ gb222 ∧ k_ ≠ gb225)) (by (with_reducible repeat (first | apply Kd.N_alloc | apply Kd.N_drewN | apply Kd.N_drew)); exact Kd.N_mono HO241.out (fun _ hk => ⟨⟨hk.2.1, ⟨hk.2.2.1, ⟨hk.2.2.2.1, hk.2.2.2.2⟩⟩⟩, hk.1⟩)) hg hat) (fun _ h_ => h_.1))
      replace HO248 := Aside0.mk (Kd.V_mono (Kd.V_afterv (ok := (fun k_ => k_ ≠ gb203 ∧ k_ ≠ gb219 ∧ k_ ≠ gb222 ∧ k_ ≠ gb225)) (by (with_reducible repeat (first | apply Kd.V_alloc | apply Kd.V_drewN | apply Kd.V_drew)); exact Kd.V_mono HO248.out (fun _ hk => ⟨⟨hk.2.1, ⟨hk.2.2.1, ⟨hk.2.2.2.1, hk.2.2.2.2⟩⟩⟩, hk.1⟩)) hg hat) (fun _ h_ => h_.1))
      replace HB := Aside0.mk (hb)
      have HO254 := Aside0.mk (ho)
      clear HO251 ho hb hg hat
      refine hK.out _ _ ⟨BK222.out, BK225.out, BK219.out, (blk_cell BK219.out 8).trans au7c, (blk_cell BK219.out 9).trans au7c, BK203.out, (blk_cell BK203.out 8).trans au7c, (blk_cell BK203.out 9).trans au7c⟩ (fun hHeld => ?_)
      clear hK K
      refine norm_ (a' := ?_) ?_ ?_
      rotate_left
      ·show Act.put _ (some 93) _ = _
       simp only [Act.put, zA_, zB_, zC_, i64_w, i32_w]
       rfl
      exact norm_ au7z (hJ41_42_43_44 (v244, v247, v250, v253) _ ⟨hHeld, (au7v HO200), (au7v HO216), (au7v HO238), (au7n HO241), (au7v HO248), (au7v HO254), (au7b BK203), (au7b BK219), (au7b BK222), (au7b BK225), (au7s HB)⟩)
    rintro ⟨v244, v247, v250, v253⟩ w89 ⟨hS_, h0_, h1_, h2_, h3_, h4_, h5_, h6_, h7_, h8_, h9_, h10_⟩
    have n0_ : Aside0 (Kd.V (Kd.int .u8) 5 w89 w.heap.size (fun k_ => some k_ ≠ (.slice Ao81 y239.length co81 : Value).ownBlock ∧ k_ ≠ gb203 ∧ k_ ≠ gb219 ∧ k_ ≠ gb222 ∧ k_ ≠ gb225) (.slice Ao49 t198.length co49) t198) := ⟨h0_⟩
    have n1_ : Aside0 (Kd.V (Kd.int .u8) 5 w89 w.heap.size (fun k_ => some k_ ≠ (.slice Ao81 y239.length co81 : Value).ownBlock ∧ k_ ≠ gb203 ∧ k_ ≠ gb219 ∧ k_ ≠ gb222 ∧ k_ ≠ gb225) (.slice Ao60 t214.length co60) t214) := ⟨h1_⟩
    have n2_ : Aside0 (Kd.V (Kd.int .u8) 5 w89 w.heap.size (fun k_ => some k_ ≠ (.slice Ao81 y239.length co81 : Value).ownBlock ∧ k_ ≠ gb203 ∧ k_ ≠ gb219 ∧ k_ ≠ gb222 ∧ k_ ≠ gb225) (.slice Ao78 y236.length co78) y236) := ⟨h2_⟩
    have n3_ : Aside0 (Kd.N (Kd.slice 5 (Kd.int .u8)) 29 w89 w.heap.size (fun k_ => k_ ≠ gb203 ∧ k_ ≠ gb219 ∧ k_ ≠ gb222 ∧ k_ ≠ gb225) (.slice Ao81 y239.length co81) y239) := ⟨h3_⟩
    have n4_ : Aside0 (Kd.V (Kd.int .u8) 5 w89 w.heap.size (fun k_ => k_ ≠ gb203 ∧ k_ ≠ gb219 ∧ k_ ≠ gb222 ∧ k_ ≠ gb225) v247 y246) := ⟨h4_⟩
    have n5_ : Aside0 (Kd.V (Kd.int .u8) 5 w89 w.heap.size (fun k_ => k_ ≠ gb203 ∧ k_ ≠ gb219 ∧ k_ ≠ gb222 ∧ k_ ≠ gb225) v253 y252) := ⟨h5_⟩
    have n6_ : Aside0 (w89.heap[gb203]? = some (.cells ((Ar.cells .u32 8 t197) ++ #[.slice Ao49 t198.length co49, .int .u64 t201]) 36 (0, 0))) := ⟨h6_⟩
    have n7_ : Aside0 (w89.heap[gb219]? = some (.cells ((Ar.cells .u32 8 t213) ++ #[.slice Ao60 t214.length co60, .int .u64 t217]) 36 (0, 0))) := ⟨h7_⟩
    have n8_ : Aside0 (w89.heap[gb222]? = some (.cells (Ar.cells .u8 32 t220) 26 (0, 0))) := ⟨h8_⟩
    have n9_ : Aside0 (w89.heap[gb225]? = some (.cells (Ar.cells .u8 32 t223) 26 (0, 0))) := ⟨h9_⟩
    have n10_ : Aside0 (Below w.heap.size w w89) := ⟨h10_⟩
    clear HO200 HO216 BK203 BK219 BK222 BK225 HB h0_ h1_ h2_ h3_ h4_ h5_ h6_ h7_ h8_ h9_ h10_
    have HO200 := n0_
    have HO216 := n1_
    have HO238 := n2_
    have HO241 := n3_
    have HO248 := n4_
    have HO254 := n5_
    have BK203 := n6_
    have BK219 := n7_
    have BK222 := n8_
    have BK225 := n9_
    have HB := n10_
    clear n0_ n1_ n2_ n3_ n4_ n5_ n6_ n7_ n8_ n9_ n10_
    have hHeld : w89.heap[gb222]? = some (.cells (Ar.cells .u8 32 t220) 26 (0, 0)) ∧ w89.heap[gb225]? = some (.cells (Ar.cells .u8 32 t223) 26 (0, 0)) ∧ w89.heap[gb219]? = some (.cells ((Ar.cells .u32 8 t213) ++ #[.slice Ao60 t214.length co60, .int .u64 t217]) 36 (0, 0)) ∧ w89.cell? ⟨gb219, 8, none⟩ = some (.slice Ao60 t214.length co60) ∧ w89.cell? ⟨gb219, 9, none⟩ = some (.int .u64 t217) ∧ w89.heap[gb203]? = some (.cells ((Ar.cells .u32 8 t197) ++ #[.slice Ao49 t198.length co49, .int .u64 t201]) 36 (0, 0)) ∧ w89.cell? ⟨gb203, 8, none⟩ = some (.slice Ao49 t198.length co49) ∧ w89.cell? ⟨gb203, 9, none⟩ = some (.int .u64 t201) := hS_
    obtain ⟨Ao90, co90, eo90⟩ := Kd.V_slice HO248.out
    (first | subst eo90 | (injection eo90 with f1_ f2_ f3_; have f4_ := f1_.symm; have f5_ := f3_.symm; clear f1_ f2_ f3_; subst f4_; subst f5_))
    obtain ⟨Ao91, co91, eo91⟩ := Kd.V_slice HO254.out
    (first | subst eo91 | (injection eo91 with f1_ f2_ f3_; have f4_ := f1_.symm; have f5_ := f3_.symm; clear f1_ f2_ f3_; subst f4_; subst f5_))
    refine norm_ (a' := ?_) ?_ ?_
    rotate_left
    ·simp only [putAll, Act.put, zA_, zB_, zC_]
     rfl
    refine one_ (i := 45) (N := some 94) (bt7_ 77 211106232532991) rfl rfl (one_of HT_.out (by kernel_rfl)) (by decide) (fun K hK => ?_)
    refine Kd.N_lit_step (Kd.slice 5 (Kd.int .u8)) _ 29 ?hg (N' := 94) ?hd (xs := ([y246, y252] : List (List Int))) (inner := [.slice Ao90 y246.length co90, .slice Ao91 y252.length co91]) (ok := (fun k_ => k_ ≠ gb203 ∧ k_ ≠ gb219 ∧ k_ ≠ gb222 ∧ k_ ≠ gb225)) (okp := (fun k_ => k_ ≠ gb203 ∧ k_ ≠ gb219 ∧ k_ ≠ gb222 ∧ k_ ≠ gb225)) ?hr ?hp (fun _ hk => hk) ((show ∀ k_, w89.heap.size ≤ k_ → (fun k_ => k_ ≠ gb203 ∧ k_ ≠ gb219 ∧ k_ ≠ gb222 ∧ k_ ≠ gb225) k_ from fun k_ hk => ⟨Kd.freshB (g := gb203) (o := .cells ((Ar.cells .u32 8 t197) ++ #[.slice Ao49 t198.length co49, .int .u64 t201]) 36 (0, 0)) (au7b BK203) k_ hk, Kd.freshB (g := gb219) (o := .cells ((Ar.cells .u32 8 t213) ++ #[.slice Ao60 t214.length co60, .int .u64 t217]) 36 (0, 0)) (au7b BK219) k_ hk, Kd.freshB (g := gb222) (o := .cells (Ar.cells .u8 32 t220) 26 (0, 0)) (au7b BK222) k_ hk, Kd.freshB (g := gb225) (o := .cells (Ar.cells .u8 32 t223) 26 (0, 0)) (au7b BK225) k_ hk⟩) _ (Nat.le_refl _)) (Below.refl _ _) (Nat.le_refl _) (by simp) ?_; (case hd => rfl); (case hg => rfl); (case hr => first | (go_simp; done) | (go_simp; rfl)); (case hp => exact (Reps.one ((Kd.FK_slice_mk (Kd.V_reads' (Kd.V_mono (ok' := (fun k_ => k_ ≠ gb203 ∧ k_ ≠ gb219 ∧ k_ ≠ gb222 ∧ k_ ≠ gb225)) (HO248.out) (fun k_ hk => ⟨hk.1, ⟨hk.2.1, ⟨hk.2.2.1, hk.2.2.2⟩⟩⟩))).2.1 (Kd.V_F (e := 5) (base := w.heap.size) (Kd.V_mono (ok := (fun k_ => (k_ ≠ gb203 ∧ (k_ ≠ gb219 ∧ (k_ ≠ gb222 ∧ k_ ≠ gb225))))) (ok' := (fun k_ => k_ ≠ gb203 ∧ k_ ≠ gb219 ∧ k_ ≠ gb222 ∧ k_ ≠ gb225)) (by repeat (first | exact HO248.out | apply Kd.V_drewN | apply Kd.V_alloc | apply Kd.V_drew)) (fun k_ hk => ⟨hk.1, ⟨hk.2.1, ⟨hk.2.2.1, hk.2.2.2⟩⟩⟩)))) : Kd.FK (Kd.slice 5 (Kd.int .u8)) _ _ y246 [.slice Ao90 y246.length co90]) (Reps.one ((Kd.FK_slice_mk (Kd.V_reads' (Kd.V_mono (ok' := (fun k_ => k_ ≠ gb203 ∧ k_ ≠ gb219 ∧ k_ ≠ gb222 ∧ k_ ≠ gb225)) (HO254.out) (fun k_ hk => ⟨hk.1, ⟨hk.2.1, ⟨hk.2.2.1, hk.2.2.2⟩⟩⟩))).2.1 (Kd.V_F (e := 5) (base := w.heap.size) (Kd.V_mono (ok := (fun k_ => (k_ ≠ gb203 ∧ (k_ ≠ gb219 ∧ (k_ ≠ gb222 ∧ k_ ≠ gb225))))) (ok' := (fun k_ => k_ ≠ gb203 ∧ k_ ≠ gb219 ∧ k_ ≠ gb222 ∧ k_ ≠ gb225)) (by repeat (first | exact HO254.out | apply Kd.V_drewN | apply Kd.V_alloc | apply Kd.V_drew)) (fun k_ hk => ⟨hk.1, ⟨hk.2.1, ⟨hk.2.2.1, hk.2.2.2⟩⟩⟩)))) : Kd.FK (Kd.slice 5 (Kd.int .u8)) _ _ y252 [.slice Ao91 y252.length co91]) (Reps.none _ _))))
    intro v256 w92 ho93 hb hg_ hnew_
    clear hg_ hnew_
    (first | rw [← Ny255.out] at ho93 | (simp only [Int.reduceToNat] at ho93; rw [← Ny255.out] at ho93))
    replace HO200 := Aside0.mk (Kd.V_elder' (au7v HO200) (Kd.N_base ho93) hb)
    replace HO216 := Aside0.mk (Kd.V_elder' (au7v HO216) (Kd.N_base ho93) hb)
    replace HO238 := Aside0.mk (Kd.V_elder' (au7v HO238) (Kd.N_base ho93) hb)
    replace HO241 := Aside0.mk (Kd.N_elder' (au7n HO241) (Kd.N_base ho93) hb)
    replace HO248 := Aside0.mk (Kd.V_elder' (au7v HO248) (Kd.N_base ho93) hb)
    replace HO254 := Aside0.mk (Kd.V_elder' (au7v HO254) (Kd.N_base ho93) hb)
    have HO257 := Aside0.mk (Kd.N_lower ho93 (below_size (au7s HB)))
    replace BK203 := Aside0.mk (au7B BK203 hb)
    replace BK219 := Aside0.mk (au7B BK219 hb)
    replace BK222 := Aside0.mk (au7B BK222 hb)
    replace BK225 := Aside0.mk (au7B BK225 hb)
    replace HB := Aside0.mk (below_step (au7s HB) hb)
    clear hb ho93
    obtain ⟨Ao94, co94, eo94⟩ := Kd.N_slice HO257.out
    (first | subst eo94 | (injection eo94 with f1_ f2_ f3_; have f4_ := f1_.symm; have f5_ := f3_.symm; clear f1_ f2_ f3_; subst f4_; subst f5_))
    refine hK.out _ _ ⟨BK222.out, BK225.out, BK219.out, (blk_cell BK219.out 8).trans au7c, (blk_cell BK219.out 9).trans au7c, BK203.out, (blk_cell BK203.out 8).trans au7c, (blk_cell BK203.out 9).trans au7c⟩ (fun hHeld => ?_)
    clear hK K
    refine norm_ (a' := ?_) ?_ ?_
    rotate_left
    ·show Act.put _ (some 94) _ = _
     simp only [Act.put, zA_, zB_, zC_, i64_w, i32_w]
     rfl
    refine one_ (i := 46) (N := some 95) (bt7_ 77 281474976710655) rfl rfl (one_of HT_.out (by kernel_rfl)) (by decide) (fun K hK => ?_)
    refine goes_ Tryd.func9 (by kernel_rfl) rfl #[.slice Ao94 y255.length co94] (by rfl) rfl rfl ql ?_
    with_reducible refine (sha_Sum.calls k _ _ y255 t258 _ ?side1 ?side2 A19.out).mono ?_
    (case side1 => repeat (first | exact (Kd.N_reads' HO257.out).2.2 | (with_reducible refine Kd.C_alloc ?_ _) | (with_reducible refine Kd.C_drewN ?_ _) | (with_reducible refine Kd.C_drew ?_)))
    (case side2 => exact (Kd.N_reads' HO257.out).2.1)
    rintro e w95 ⟨rfl, hb⟩
    refine ⟨_, rfl, ?_⟩
    replace HO200 := Aside0.mk (Kd.V_below (au7v HO200) hb)
    replace HO216 := Aside0.mk (Kd.V_below (au7v HO216) hb)
    replace HO238 := Aside0.mk (Kd.V_below (au7v HO238) hb)
    replace HO241 := Aside0.mk (Kd.N_below (au7n HO241) hb)
    replace HO248 := Aside0.mk (Kd.V_below (au7v HO248) hb)
    replace HO254 := Aside0.mk (Kd.V_below (au7v HO254) hb)
    replace HO257 := Aside0.mk (Kd.N_below (au7n HO257) hb)
    replace BK203 := Aside0.mk (au7B BK203 hb)
    replace BK219 := Aside0.mk (au7B BK219 hb)
    replace BK222 := Aside0.mk (au7B BK222 hb)
    replace BK225 := Aside0.mk (au7B BK225 hb)
    replace HB := Aside0.mk (below_step (au7s HB) hb)
    (try clear hb)
    (try clear hb2)
    (try clear hk)
    (try clear hi)
    refine hK.out _ _ ⟨BK222.out, BK225.out, BK219.out, (blk_cell BK219.out 8).trans au7c, (blk_cell BK219.out 9).trans au7c, BK203.out, (blk_cell BK203.out 8).trans au7c, (blk_cell BK203.out 9).trans au7c⟩ (fun hHeld => ?_)
    clear hK K
    refine norm_ (a' := ?_) ?_ ?_
    rotate_left
    ·show Act.put _ (some 95) _ = _
     simp only [Act.put, zA_, zB_, zC_, i64_w, i32_w]
     rfl
    refine pure_ (i := 48) (N := some 97) (v := ?_) (a' := ?_) (bt7_ 77 562949953421311) rfl rfl (any_of HT_.out (by kernel_rfl)) (fun _ _ _ h => h) (Or.inl ⟨by rfl, ?_⟩) ?_ ?_
    rotate_left
    ·intro w'
     go_simp
     with_reducible rfl
    rotate_left
    ·simp only [Act.put, zA_, zB_, zC_, i64_w, i32_w]
     rfl
    refine pure_ (i := 49) (N := some 98) (v := ?_) (a' := ?_) (bt7_ 77 1125899906842623) rfl rfl (any_of HT_.out (by kernel_rfl)) (fun _ _ _ h => h) (Or.inl ⟨by rfl, ?_⟩) ?_ ?_
    rotate_left
    ·intro w'
     go_simp
     with_reducible rfl
    rotate_left
    ·simp only [Act.put, zA_, zB_, zC_, i64_w, i32_w]
     rfl
    refine pure_ (i := 50) (N := some 99) (v := ?_) (a' := ?_) (bt7_ 77 2251799813685247) rfl rfl (any_of HT_.out (by kernel_rfl)) (fun _ _ _ h => h) (Or.inl ⟨by rfl, ?_⟩) ?_ ?_
    rotate_left
    ·intro w'
     go_simp
     with_reducible rfl
    rotate_left
    ·simp only [Act.put, zA_, zB_, zC_, i64_w, i32_w]
     rfl
    refine one_ (i := 51) (N := some 100) (bt7_ 77 4503599627370495) rfl rfl (one_of HT_.out (by kernel_rfl)) (by decide) (fun K hK => ?_)
    refine goes_ Tryd.func9 (by kernel_rfl) rfl #[.slice none 0 0] (by rfl) rfl rfl ql ?_
    refine (sha_Sum.calls k _ _ ([] : List (List Int)) t259 _ ?side1 ?side2 A21.out).mono ?_
    (case side1 => exact Kd.C_nil _ _)
    (case side2 => exact Nat.le_refl _)
    rintro e w96 ⟨rfl, hb⟩
    refine ⟨_, rfl, ?_⟩
    replace HO200 := Aside0.mk (Kd.V_below (au7v HO200) hb)
    replace HO216 := Aside0.mk (Kd.V_below (au7v HO216) hb)
    replace HO238 := Aside0.mk (Kd.V_below (au7v HO238) hb)
    replace HO241 := Aside0.mk (Kd.N_below (au7n HO241) hb)
    replace HO248 := Aside0.mk (Kd.V_below (au7v HO248) hb)
    replace HO254 := Aside0.mk (Kd.V_below (au7v HO254) hb)
    replace HO257 := Aside0.mk (Kd.N_below (au7n HO257) hb)
    replace BK203 := Aside0.mk (au7B BK203 hb)
    replace BK219 := Aside0.mk (au7B BK219 hb)
    replace BK222 := Aside0.mk (au7B BK222 hb)
    replace BK225 := Aside0.mk (au7B BK225 hb)
    replace HB := Aside0.mk (below_step (au7s HB) hb)
    (try clear hb)
    (try clear hb2)
    (try clear hk)
    (try clear hi)
    refine hK.out _ _ ⟨BK222.out, BK225.out, BK219.out, (blk_cell BK219.out 8).trans au7c, (blk_cell BK219.out 9).trans au7c, BK203.out, (blk_cell BK203.out 8).trans au7c, (blk_cell BK203.out 9).trans au7c⟩ (fun hHeld => ?_)
    clear hK K
    refine norm_ (a' := ?_) ?_ ?_
    rotate_left
    ·show Act.put _ (some 100) _ = _
     simp only [Act.put, zA_, zB_, zC_, i64_w, i32_w]
     rfl
    refine one_ (i := 52) (N := some 101) (bt7_ 77 9007199254740991) rfl rfl (one_of HT_.out (by kernel_rfl)) (by decide) (fun K hK => ?_)
    refine goes_ Tryd.func24 (by kernel_rfl) rfl #[.agg (Ar.cells .u8 32 t259)] (by rfl) rfl rfl ql ?_
    with_reducible refine (sha_Text.calls k t259 t260 _ A22.out).mono ?_
    rintro e w97 ⟨rfl, hb⟩
    refine ⟨_, rfl, ?_⟩
    replace HO200 := Aside0.mk (Kd.V_below (au7v HO200) hb)
    replace HO216 := Aside0.mk (Kd.V_below (au7v HO216) hb)
    replace HO238 := Aside0.mk (Kd.V_below (au7v HO238) hb)
    replace HO241 := Aside0.mk (Kd.N_below (au7n HO241) hb)
    replace HO248 := Aside0.mk (Kd.V_below (au7v HO248) hb)
    replace HO254 := Aside0.mk (Kd.V_below (au7v HO254) hb)
    replace HO257 := Aside0.mk (Kd.N_below (au7n HO257) hb)
    replace BK203 := Aside0.mk (au7B BK203 hb)
    replace BK219 := Aside0.mk (au7B BK219 hb)
    replace BK222 := Aside0.mk (au7B BK222 hb)
    replace BK225 := Aside0.mk (au7B BK225 hb)
    replace HB := Aside0.mk (below_step (au7s HB) hb)
    (try clear hb)
    (try clear hb2)
    (try clear hk)
    (try clear hi)
    refine hK.out _ _ ⟨BK222.out, BK225.out, BK219.out, (blk_cell BK219.out 8).trans au7c, (blk_cell BK219.out 9).trans au7c, BK203.out, (blk_cell BK203.out 8).trans au7c, (blk_cell BK203.out 9).trans au7c⟩ (fun hHeld => ?_)
    clear hK K
    refine norm_ (a' := ?_) ?_ ?_
    rotate_left
    ·show Act.put _ (some 101) _ = _
     simp only [Act.put, zA_, zB_, zC_, i64_w, i32_w]
     rfl
    refine pure_ (i := 53) (N := some 102) (v := ?_) (a' := ?_) (bt7_ 77 18014398509481983) rfl rfl (any_of HT_.out (by kernel_rfl)) (fun _ _ _ h => h) (Or.inl ⟨by rfl, ?_⟩) ?_ ?_
    rotate_left
    ·intro w'
     go_simp
     with_reducible rfl
    rotate_left
    ·simp only [Act.put, zA_, zB_, zC_, i64_w, i32_w]
     rfl
    refine pure_ (i := 54) (N := some 103) (v := ?_) (a' := ?_) (bt7_ 77 36028797018963967) rfl rfl (any_of HT_.out (by kernel_rfl)) (fun _ _ _ h => h) (Or.inl ⟨by rfl, ?_⟩) ?_ ?_
    rotate_left
    ·intro w'
     go_simp
     with_reducible rfl
    rotate_left
    ·simp only [Act.put, zA_, zB_, zC_, i64_w, i32_w]
     rfl
    refine pure_ (i := 55) (N := some 104) (v := ?_) (a' := ?_) (bt7_ 77 72057594037927935) rfl rfl (any_of HT_.out (by kernel_rfl)) (fun _ _ _ h => h) (Or.inl ⟨by rfl, ?_⟩) ?_ ?_
    rotate_left
    ·intro w'
     go_simp
     with_reducible rfl
    rotate_left
    ·simp only [Act.put, zA_, zB_, zC_, i64_w, i32_w]
     rfl
    refine pure_ (i := 56) (N := some 105) (v := ?_) (a' := ?_) (bt7_ 77 144115188075855871) rfl rfl (any_of HT_.out (by kernel_rfl)) (fun _ _ _ h => h) (Or.inl ⟨by rfl, ?_⟩) ?_ ?_
    rotate_left
    ·intro w'
     go_simp
     with_reducible rfl
    rotate_left
    ·simp only [Act.put, zA_, zB_, zC_, i64_w, i32_w]
     rfl
    refine take_ (i := 57) (N := some 106) (v := ?_) (a' := ?_) (bt7_ 77 288230376151711743) rfl rfl (take_ofW HT_.out HW_.out (by kernel_rfl)) (fun _ _ _ h => h) (Or.inl ⟨by rfl, ?_⟩) hHeld ?_ ?_
    rotate_left
    ·rintro w' ⟨s0, s1, s2, s3, s4, s5, s6, s7⟩
     first | (refine (Ar.gload_run rfl Tryd.underlying36 rfl (D := ((Ar.cells .u32 8 t213) ++ #[.slice Ao60 t214.length co60, .int .u64 t217])) qz rfl (Ar.blk_part (by assumption) Ar.in_whole)).trans ?_; with_reducible rfl) | (go_simp; with_reducible rfl)
    rotate_left
    ·simp only [Act.put, zA_, zB_, zC_, i64_w, i32_w]
     rfl
    refine one_ (i := 58) (N := some 107) (bt7_ 77 576460752303423487) rfl rfl (one_of HT_.out (by kernel_rfl)) (by decide) (fun K hK => ?_)
    refine goes_ Tryd.func17 (by kernel_rfl) rfl #[.agg ((Ar.cells .u32 8 t213) ++ #[.slice Ao60 t214.length co60, .int .u64 t217])] (by rfl) rfl rfl ql ?_
    with_reducible refine (sha_Right.calls t213 _ _ t214 t217 true _ ?side1 ?side2 A26.out).mono ?_
    (case side1 => repeat (first | exact (Kd.V_reads' HO216.out).2.2 | (with_reducible refine Kd.C_alloc ?_ _) | (with_reducible refine Kd.C_drewN ?_ _) | (with_reducible refine Kd.C_drew ?_)))
    (case side2 => exact (Kd.V_reads' HO216.out).2.1)
    rintro e w98 ⟨rfl, hb⟩
    refine ⟨_, rfl, ?_⟩
    replace HO200 := Aside0.mk (Kd.V_below (au7v HO200) hb)
    replace HO216 := Aside0.mk (Kd.V_below (au7v HO216) hb)
    replace HO238 := Aside0.mk (Kd.V_below (au7v HO238) hb)
    replace HO241 := Aside0.mk (Kd.N_below (au7n HO241) hb)
    replace HO248 := Aside0.mk (Kd.V_below (au7v HO248) hb)
    replace HO254 := Aside0.mk (Kd.V_below (au7v HO254) hb)
    replace HO257 := Aside0.mk (Kd.N_below (au7n HO257) hb)
    replace BK203 := Aside0.mk (au7B BK203 hb)
    replace BK219 := Aside0.mk (au7B BK219 hb)
    replace BK222 := Aside0.mk (au7B BK222 hb)
    replace BK225 := Aside0.mk (au7B BK225 hb)
    replace HB := Aside0.mk (below_step (au7s HB) hb)
    (try clear hb)
    (try clear hb2)
    (try clear hk)
    (try clear hi)
    refine hK.out _ _ ⟨BK222.out, BK225.out, BK219.out, (blk_cell BK219.out 8).trans au7c, (blk_cell BK219.out 9).trans au7c, BK203.out, (blk_cell BK203.out 8).trans au7c, (blk_cell BK203.out 9).trans au7c⟩ (fun hHeld => ?_)
    clear hK K
    refine norm_ (a' := ?_) ?_ ?_
    rotate_left
    ·show Act.put _ (some 107) _ = _
     simp only [Act.put, zA_, zB_, zC_, i64_w, i32_w]
     rfl
    refine pure_ (i := 59) (N := some 108) (v := ?_) (a' := ?_) (bt7_ 77 1152921504606846975) rfl rfl (any_of HT_.out (by kernel_rfl)) (fun _ _ _ h => h) (Or.inl ⟨by rfl, ?_⟩) ?_ ?_
    rotate_left
    ·intro w'
     go_simp
     with_reducible rfl
    rotate_left
    ·simp only [Act.put, zA_, zB_, zC_, i64_w, i32_w]
     rfl
    refine pure_ (i := 60) (N := some 109) (v := ?_) (a' := ?_) (bt7_ 77 2305843009213693951) rfl rfl (any_of HT_.out (by kernel_rfl)) (fun _ _ _ h => h) (Or.inl ⟨by rfl, ?_⟩) ?_ ?_
    rotate_left
    ·intro w'
     go_simp
     with_reducible rfl
    rotate_left
    ·simp only [Act.put, zA_, zB_, zC_, i64_w, i32_w]
     rfl
    refine pure_ (i := 61) (N := some 110) (v := ?_) (a' := ?_) (bt7_ 77 4611686018427387903) rfl rfl (any_of HT_.out (by kernel_rfl)) (fun _ _ _ h => h) (Or.inl ⟨by rfl, ?_⟩) ?_ ?_
    rotate_left
    ·intro w'
     refine (Ar.gbuild_run rfl (D := ((Ar.cells .u32 8 (List.replicate 8 0)) ++ #[.slice none 0 0, .int .u64 1])) (by simp only [List.map_toArray, List.map_cons, List.map_nil]; exact fatBuild36_2 _ 1)).trans ?_; with_reducible rfl
    rotate_left
    ·simp only [Act.put, zA_, zB_, zC_, i64_w, i32_w]
     rfl
    refine one_ (i := 62) (N := some 111) (bt7_ 77 9223372036854775807) rfl rfl (one_of HT_.out (by kernel_rfl)) (by decide) (fun K hK => ?_)
    refine goes_ Tryd.func17 (by kernel_rfl) rfl #[.agg ((Ar.cells .u32 8 (List.replicate 8 0)) ++ #[.slice none 0 0, .int .u64 1])] (by rfl) rfl rfl ql ?_
    refine (sha_Right.calls (List.replicate 8 0) _ _ ([] : List Int) 1 false _ ?side1 ?side2 A28.out).mono ?_
    (case side1 => exact Kd.C_nil _ _)
    (case side2 => exact Nat.le_refl _)
    rintro e w99 ⟨rfl, hb⟩
    refine ⟨_, rfl, ?_⟩
    replace HO200 := Aside0.mk (Kd.V_below (au7v HO200) hb)
    replace HO216 := Aside0.mk (Kd.V_below (au7v HO216) hb)
    replace HO238 := Aside0.mk (Kd.V_below (au7v HO238) hb)
    replace HO241 := Aside0.mk (Kd.N_below (au7n HO241) hb)
    replace HO248 := Aside0.mk (Kd.V_below (au7v HO248) hb)
    replace HO254 := Aside0.mk (Kd.V_below (au7v HO254) hb)
    replace HO257 := Aside0.mk (Kd.N_below (au7n HO257) hb)
    replace BK203 := Aside0.mk (au7B BK203 hb)
    replace BK219 := Aside0.mk (au7B BK219 hb)
    replace BK222 := Aside0.mk (au7B BK222 hb)
    replace BK225 := Aside0.mk (au7B BK225 hb)
    replace HB := Aside0.mk (below_step (au7s HB) hb)
    (try clear hb)
    (try clear hb2)
    (try clear hk)
    (try clear hi)
    refine hK.out _ _ ⟨BK222.out, BK225.out, BK219.out, (blk_cell BK219.out 8).trans au7c, (blk_cell BK219.out 9).trans au7c, BK203.out, (blk_cell BK203.out 8).trans au7c, (blk_cell BK203.out 9).trans au7c⟩ (fun hHeld => ?_)
    clear hK K
    refine norm_ (a' := ?_) ?_ ?_
    rotate_left
    ·show Act.put _ (some 111) _ = _
     simp only [Act.put, zA_, zB_, zC_, i64_w, i32_w]
     rfl
    refine pure_ (i := 63) (N := some 112) (v := ?_) (a' := ?_) (bt7_ 77 18446744073709551615) rfl rfl (any_of HT_.out (by kernel_rfl)) (fun _ _ _ h => h) (Or.inl ⟨by rfl, ?_⟩) ?_ ?_
    rotate_left
    ·intro w'
     go_simp
     with_reducible rfl
    rotate_left
    ·simp only [Act.put, zA_, zB_, zC_, i64_w, i32_w]
     rfl
    refine pure_ (i := 64) (N := some 113) (v := ?_) (a' := ?_) (bt7_ 77 36893488147419103231) rfl rfl (any_of HT_.out (by kernel_rfl)) (fun _ _ _ h => h) (Or.inl ⟨by rfl, ?_⟩) ?_ ?_
    rotate_left
    ·intro w'
     go_simp
     with_reducible rfl
    rotate_left
    ·simp only [Act.put, zA_, zB_, zC_, i64_w, i32_w]
     rfl
    refine pure_ (i := 65) (N := some 114) (v := ?_) (a' := ?_) (bt7_ 77 73786976294838206463) rfl rfl (any_of HT_.out (by kernel_rfl)) (fun _ _ _ h => h) (Or.inl ⟨by rfl, ?_⟩) ?_ ?_
    rotate_left
    ·intro w'
     go_simp
     with_reducible rfl
    rotate_left
    ·simp only [Act.put, zA_, zB_, zC_, i64_w, i32_w]
     rfl
    refine take_ (i := 66) (N := some 115) (v := ?_) (a' := ?_) (bt7_ 77 147573952589676412927) rfl rfl (take_ofW HT_.out HW_.out (by kernel_rfl)) (fun _ _ _ h => h) (Or.inl ⟨by rfl, ?_⟩) hHeld ?_ ?_
    rotate_left
    ·rintro w' ⟨s0, s1, s2, s3, s4, s5, s6, s7⟩
     first | (refine (Ar.gload_run rfl Tryd.underlying36 rfl (D := ((Ar.cells .u32 8 t213) ++ #[.slice Ao60 t214.length co60, .int .u64 t217])) qz rfl (Ar.blk_part (by assumption) Ar.in_whole)).trans ?_; with_reducible rfl) | (go_simp; with_reducible rfl)
    rotate_left
    ·simp only [Act.put, zA_, zB_, zC_, i64_w, i32_w]
     rfl
    refine take_ (i := 67) (N := some 116) (v := ?_) (a' := ?_) (bt7_ 77 295147905179352825855) rfl rfl (take_ofW HT_.out HW_.out (by kernel_rfl)) (fun _ _ _ h => h) (Or.inl ⟨by rfl, ?_⟩) hHeld ?_ ?_
    rotate_left
    ·rintro w' ⟨s0, s1, s2, s3, s4, s5, s6, s7⟩
     first | (refine (Ar.gload_run rfl Tryd.underlying36 rfl (D := ((Ar.cells .u32 8 t213) ++ #[.slice Ao60 t214.length co60, .int .u64 t217])) qz rfl (Ar.blk_part (by assumption) Ar.in_whole)).trans ?_; with_reducible rfl) | (go_simp; with_reducible rfl)
    rotate_left
    ·simp only [Act.put, zA_, zB_, zC_, i64_w, i32_w]
     rfl
    refine one_ (i := 68) (N := some 117) (bt7_ 77 590295810358705651711) rfl rfl (one_of HT_.out (by kernel_rfl)) (by decide) (fun K hK => ?_)
    refine goes_ Tryd.func19 (by kernel_rfl) rfl #[.agg ((Ar.cells .u32 8 t213) ++ #[.slice Ao60 t214.length co60, .int .u64 t217]), .agg ((Ar.cells .u32 8 t213) ++ #[.slice Ao60 t214.length co60, .int .u64 t217])] (by rfl) rfl rfl ql ?_
    with_reducible refine (sha_Same.calls t213 _ _ t214 t217 t213 _ _ t214 t217 true _ ?side1 ?side2 ?side3 ?side4 A30.out).mono ?_
    (case side1 => repeat (first | exact (Kd.V_reads' HO216.out).2.2 | (with_reducible refine Kd.C_alloc ?_ _) | (with_reducible refine Kd.C_drewN ?_ _) | (with_reducible refine Kd.C_drew ?_)))
    (case side2 => exact (Kd.V_reads' HO216.out).2.1)
    (case side3 => repeat (first | exact (Kd.V_reads' HO216.out).2.2 | (with_reducible refine Kd.C_alloc ?_ _) | (with_reducible refine Kd.C_drewN ?_ _) | (with_reducible refine Kd.C_drew ?_)))
    (case side4 => exact (Kd.V_reads' HO216.out).2.1)
    rintro e w100 ⟨rfl, hb⟩
    refine ⟨_, rfl, ?_⟩
    replace HO200 := Aside0.mk (Kd.V_below (au7v HO200) hb)
    replace HO216 := Aside0.mk (Kd.V_below (au7v HO216) hb)
    replace HO238 := Aside0.mk (Kd.V_below (au7v HO238) hb)
    replace HO241 := Aside0.mk (Kd.N_below (au7n HO241) hb)
    replace HO248 := Aside0.mk (Kd.V_below (au7v HO248) hb)
    replace HO254 := Aside0.mk (Kd.V_below (au7v HO254) hb)
    replace HO257 := Aside0.mk (Kd.N_below (au7n HO257) hb)
    replace BK203 := Aside0.mk (au7B BK203 hb)
    replace BK219 := Aside0.mk (au7B BK219 hb)
    replace BK222 := Aside0.mk (au7B BK222 hb)
    replace BK225 := Aside0.mk (au7B BK225 hb)
    replace HB := Aside0.mk (below_step (au7s HB) hb)
    (try clear hb)
    (try clear hb2)
    (try clear hk)
    (try clear hi)
    refine hK.out _ _ ⟨BK222.out, BK225.out, BK219.out, (blk_cell BK219.out 8).trans au7c, (blk_cell BK219.out 9).trans au7c, BK203.out, (blk_cell BK203.out 8).trans au7c, (blk_cell BK203.out 9).trans au7c⟩ (fun hHeld => ?_)
    clear hK K
    refine norm_ (a' := ?_) ?_ ?_
    rotate_left
    ·show Act.put _ (some 117) _ = _
     simp only [Act.put, zA_, zB_, zC_, i64_w, i32_w]
     rfl
    refine pure_ (i := 69) (N := some 118) (v := ?_) (a' := ?_) (bt7_ 77 1180591620717411303423) rfl rfl (any_of HT_.out (by kernel_rfl)) (fun _ _ _ h => h) (Or.inl ⟨by rfl, ?_⟩) ?_ ?_
    rotate_left
    ·intro w'
     go_simp
     with_reducible rfl
    rotate_left
    ·simp only [Act.put, zA_, zB_, zC_, i64_w, i32_w]
     rfl
    refine pure_ (i := 70) (N := some 119) (v := ?_) (a' := ?_) (bt7_ 77 2361183241434822606847) rfl rfl (any_of HT_.out (by kernel_rfl)) (fun _ _ _ h => h) (Or.inl ⟨by rfl, ?_⟩) ?_ ?_
    rotate_left
    ·intro w'
     go_simp
     with_reducible rfl
    rotate_left
    ·simp only [Act.put, zA_, zB_, zC_, i64_w, i32_w]
     rfl
    refine take_ (i := 71) (N := some 120) (v := ?_) (a' := ?_) (bt7_ 77 4722366482869645213695) rfl rfl (take_ofW HT_.out HW_.out (by kernel_rfl)) (fun _ _ _ h => h) (Or.inl ⟨by rfl, ?_⟩) hHeld ?_ ?_
    rotate_left
    ·rintro w' ⟨s0, s1, s2, s3, s4, s5, s6, s7⟩
     first | (refine (Ar.gload_run rfl Tryd.underlying36 rfl (D := ((Ar.cells .u32 8 t213) ++ #[.slice Ao60 t214.length co60, .int .u64 t217])) qz rfl (Ar.blk_part (by assumption) Ar.in_whole)).trans ?_; with_reducible rfl) | (go_simp; with_reducible rfl)
    rotate_left
    ·simp only [Act.put, zA_, zB_, zC_, i64_w, i32_w]
     rfl
    refine take_ (i := 72) (N := some 121) (v := ?_) (a' := ?_) (bt7_ 77 9444732965739290427391) rfl rfl (take_ofW HT_.out HW_.out (by kernel_rfl)) (fun _ _ _ h => h) (Or.inl ⟨by rfl, ?_⟩) hHeld ?_ ?_
    rotate_left
    ·rintro w' ⟨s0, s1, s2, s3, s4, s5, s6, s7⟩
     first | (refine (Ar.gload_run rfl Tryd.underlying36 rfl (D := ((Ar.cells .u32 8 t197) ++ #[.slice Ao49 t198.length co49, .int .u64 t201])) qz rfl (Ar.blk_part (by assumption) Ar.in_whole)).trans ?_; with_reducible rfl) | (go_simp; with_reducible rfl)
    rotate_left
    ·simp only [Act.put, zA_, zB_, zC_, i64_w, i32_w]
     rfl
    refine one_ (i := 73) (N := some 122) (bt7_ 77 18889465931478580854783) rfl rfl (one_of HT_.out (by kernel_rfl)) (by decide) (fun K hK => ?_)
    refine goes_ Tryd.func19 (by kernel_rfl) rfl #[.agg ((Ar.cells .u32 8 t213) ++ #[.slice Ao60 t214.length co60, .int .u64 t217]), .agg ((Ar.cells .u32 8 t197) ++ #[.slice Ao49 t198.length co49, .int .u64 t201])] (by rfl) rfl rfl ql ?_
    with_reducible refine (sha_Same.calls t213 _ _ t214 t217 t197 _ _ t198 t201 t264 _ ?side1 ?side2 ?side3 ?side4 A32.out).mono ?_
    (case side1 => repeat (first | exact (Kd.V_reads' HO216.out).2.2 | (with_reducible refine Kd.C_alloc ?_ _) | (with_reducible refine Kd.C_drewN ?_ _) | (with_reducible refine Kd.C_drew ?_)))
    (case side2 => exact (Kd.V_reads' HO216.out).2.1)
    (case side3 => repeat (first | exact (Kd.V_reads' HO200.out).2.2 | (with_reducible refine Kd.C_alloc ?_ _) | (with_reducible refine Kd.C_drewN ?_ _) | (with_reducible refine Kd.C_drew ?_)))
    (case side4 => exact (Kd.V_reads' HO200.out).2.1)
    rintro e w101 ⟨rfl, hb⟩
    refine ⟨_, rfl, ?_⟩
    replace HO200 := Aside0.mk (Kd.V_below (au7v HO200) hb)
    replace HO216 := Aside0.mk (Kd.V_below (au7v HO216) hb)
    replace HO238 := Aside0.mk (Kd.V_below (au7v HO238) hb)
    replace HO241 := Aside0.mk (Kd.N_below (au7n HO241) hb)
    replace HO248 := Aside0.mk (Kd.V_below (au7v HO248) hb)
    replace HO254 := Aside0.mk (Kd.V_below (au7v HO254) hb)
    replace HO257 := Aside0.mk (Kd.N_below (au7n HO257) hb)
    replace BK203 := Aside0.mk (au7B BK203 hb)
    replace BK219 := Aside0.mk (au7B BK219 hb)
    replace BK222 := Aside0.mk (au7B BK222 hb)
    replace BK225 := Aside0.mk (au7B BK225 hb)
    replace HB := Aside0.mk (below_step (au7s HB) hb)
    (try clear hb)
    (try clear hb2)
    (try clear hk)
    (try clear hi)
    refine hK.out _ _ ⟨BK222.out, BK225.out, BK219.out, (blk_cell BK219.out 8).trans au7c, (blk_cell BK219.out 9).trans au7c, BK203.out, (blk_cell BK203.out 8).trans au7c, (blk_cell BK203.out 9).trans au7c⟩ (fun hHeld => ?_)
    clear hK K
    refine norm_ (a' := ?_) ?_ ?_
    rotate_left
    ·show Act.put _ (some 122) _ = _
     simp only [Act.put, zA_, zB_, zC_, i64_w, i32_w]
     rfl
    refine pure_ (i := 74) (N := some 123) (v := ?_) (a' := ?_) (bt7_ 77 37778931862957161709567) rfl rfl (any_of HT_.out (by kernel_rfl)) (fun _ _ _ h => h) (Or.inl ⟨by rfl, ?_⟩) ?_ ?_
    rotate_left
    ·intro w'
     go_simp
     with_reducible rfl
    rotate_left
    ·simp only [Act.put, zA_, zB_, zC_, i64_w, i32_w]
     rfl
    refine pure_ (i := 75) (N := some 124) (v := ?_) (a' := ?_) (bt7_ 77 75557863725914323419135) rfl rfl (any_of HT_.out (by kernel_rfl)) (fun _ _ _ h => h) (Or.inl ⟨by rfl, ?_⟩) ?_ ?_
    rotate_left
    ·intro w'
     go_simp
     with_reducible rfl
    rotate_left
    ·simp only [Act.put, zA_, zB_, zC_, i64_w, i32_w]
     rfl
    refine pure_ (i := 76) (N := some 0) (v := ?_) (a' := ?_) (bt7_ 77 151115727451828646838271) rfl rfl (any_of HT_.out (by kernel_rfl)) (fun _ _ _ h => h) (Or.inl ⟨by rfl, ?_⟩) ?_ ?_
    rotate_left
    ·intro w'
     go_simp
     with_reducible rfl
    rotate_left
    ·simp only [Act.put, zA_, zB_, zC_, i64_w, i32_w]
     rfl
    refine done_ (done_of HT_.out (by kernel_rfl)) ?_
    try go_wp2
    go_ret
    exact ⟨by first | rfl | (simp [errW_none, errW_some] <;> rfl) | (simp [*, errW_none, errW_some] <;> rfl), by repeat (first | (with_reducible first | exact HB.out | apply below_alloc | apply pw_below_drewN | apply below_drew1 | refine below_set ?_ GE203.out | refine below_set ?_ GE219.out | refine below_set ?_ GE222.out | refine below_set ?_ GE225.out) | exact HB.out)⟩
   ·replace c31 := Bool.eq_false_iff.mpr c31
    subst c31
    have H1 : (none) = some r := by rw [if_neg (show ¬ (false = true) by decide)] at H; exact H
    clear H
    have H := H1
    clear H1
    exact absurd H (by simp)
 ·replace c27 := Bool.eq_false_iff.mpr c27
  subst c27
  have H1 : (none) = some r := by rw [if_neg (show ¬ (false = true) by decide)] at H; exact H
  clear H
  have H := H1
  clear H1
  exact absurd H (by simp)
end Go.Proofs.YtkcdcbiobkcpmaaDoor.PA
end
section
namespace Go.Proofs.YtkcdcbiobkcpmaaDoor.PA
open Go.RowKit Go.Proofs.YtkcdcbiobkcpmaaDoorW.PrintWords Go.Proofs.YtkcdcbiobkcpmaaDoorW.PrintLast Go.Proofs.YtkcdcbiobkcpmaaDoorW.PrintMore
attribute [local go_sem] max2_int min2_int max_two min_two max_three min_three max_four min_four
set_option linter.unusedVariables false
set_option linter.unusedSimpArgs false
theorem drawlotref05_Text_u8 (x : Int) : IntKind.u8.wrap x = x % 256 := by simp [IntKind.wrap, IntKind.bits, IntKind.signed]
attribute [local go_sem] drawlotref05_Text_u8
def drawlotref05_Great.l0 : Nat → List (List Int) → Int → Option (Bool)
 | 0, _, _ => none
 | k + 1, x0, x3 => if x3 < (x0.length : Int) then (if 0 ≤ x3 then (if ((rd_L1 x0 x3).length : Int) > 500 then (some true) else (drawlotref05_Great.l0 k x0 (wrap64 (x3 + 1)))) else (none)) else (some false)
def drawlotref05_Great.f (k : Nat) (l0 : List (List Int)) : Option (Bool) := if (l0.length : Int) > 20 then (some true) else (drawlotref05_Great.l0 k l0 0)
theorem drawlotref05_Great.mono_l : ∀ k, (∀ y0 y1, LeO (drawlotref05_Great.l0 k y0 y1) (drawlotref05_Great.l0 (k + 1) y0 y1))
 | 0 => fun _ _ r h => by simp [drawlotref05_Great.l0] at h
 | k + 1 => by
  have ih0 := drawlotref05_Great.mono_l k
  ·intro y0 y1
   unfold drawlotref05_Great.l0
   repeat' first
   | (with_reducible exact ih0 _ _)
   | (with_reducible exact LeO.refl _)
   | (with_reducible exact LeO.none _)
   | (with_reducible refine LeO.ite ?_ ?_)
   | (with_reducible refine LeO.bind ?_ (fun _ => ?_))
   | exact ih0 _ _
   | exact LeO.none _
   | refine LeO.ite ?_ ?_
   | refine LeO.bind ?_ (fun _ => ?_)
theorem drawlotref05_Great.mono : ∀ a0 k, LeO (drawlotref05_Great.f k a0) (drawlotref05_Great.f (k + 1) a0) := by
 intro a0 k
 have ih0 := drawlotref05_Great.mono_l k
 unfold drawlotref05_Great.f
 repeat' first
   | (with_reducible exact ih0 _ _)
   | (with_reducible exact LeO.refl _)
   | (with_reducible exact LeO.none _)
   | (with_reducible refine LeO.ite ?_ ?_)
   | (with_reducible refine LeO.bind ?_ (fun _ => ?_))
   | exact ih0 _ _
   | exact LeO.none _
   | refine LeO.ite ?_ ?_
   | refine LeO.bind ?_ (fun _ => ?_)
set_option maxHeartbeats 8000000 in
set_option maxRecDepth 100000 in
theorem drawlotref05_Great.calls (k : Nat) (A0 : Option Addr) (c0 : Nat) (l0 : List (List Int)) (r : Bool) (w : World) (hr0 : Kd.C (Kd.slice 5 (Kd.int .u8)) w A0 l0.length l0) (hc0 : l0.length ≤ c0) (h : drawlotref05_Great.f k l0 = some r) :
  Calls Tryd.prog 8 #[.slice A0 l0.length c0] w fun e w' => e = .returned (.bool r) ∧ Drawn0 w w' := by
 have HR0 := Aside0.mk hr0
 have HC0 := Aside0.mk hc0
 clear hr0 hc0
 have H : (if (l0.length : Int) > 20 then (some true) else (drawlotref05_Great.l0 k l0 0)) = some r := h
 clear h
 by_cases c2 : (l0.length : Int) > 20
 ·rw [if_pos c2] at H
  have c2b0 : decide (20 < (l0.length : Int)) = true := decide_eq_true c2
  have c2b1 : decide (20 < l0.length) = true := decide_eq_true (by omega)
  clear c2
  obtain rfl := Option.some.inj H
  go_enter Tryd.func8, Tryd.ntmps8
  go_wp2
  go_ret
  exact ⟨by first | rfl | (simp; done) | (simp [*]; done), by repeat (first | exact Drawn0.refl _ | apply Drawn0.step)⟩
 ·rw [if_neg c2] at H
  have c2b0 : decide (20 < (l0.length : Int)) = false := decide_eq_false c2
  have c2b1 : decide (20 < l0.length) = false := decide_eq_false (by omega)
  clear c2
  have H' := Aside0.mk H
  clear H
  go_enter Tryd.func8, Tryd.ntmps8
  go_wp2
  go_loopg [3] k (fun kq v3 w' => ∃ (x3_1 : Int), v3 = .int .i64 x3_1 ∧ Aside0 (drawlotref05_Great.l0 kq l0 x3_1 = some r) ∧ Aside0 (kq ≤ k) ∧ Drawn0 w w')
  case atStart => exact ⟨(0), (by first | rfl | (simp; done) | (simp [*]; done)), H', ⟨Nat.le_refl _⟩, by repeat (first | exact Drawn0.refl _ | apply Drawn0.step)⟩
  case round =>
   clear H'
   try clear c2
   try clear c2b0
   try clear c2b1
   try clear p2
   obtain ⟨x3_1, rfl, HA, HK1, ⟨m1, rfl⟩⟩ := hrel
   cases gk with
   | zero => exact absurd HA.out (by simp [drawlotref05_Great.l0])
   | succ k1 =>
    have H := HA.out
    clear HA
    simp only [drawlotref05_Great.l0] at H
    by_cases c3 : x3_1 < (l0.length : Int)
    ·rw [if_pos c3] at H
     have c3b0 : decide (x3_1 < (l0.length : Int)) = true := decide_eq_true c3
     clear c3
     by_cases c4 : 0 ≤ x3_1
     ·rw [if_pos c4] at H
      have c4b0 : decide (0 ≤ x3_1) = true := decide_eq_true c4
      clear c4
      by_cases c5 : ((rd_L1 l0 x3_1).length : Int) > 500
      ·rw [if_pos c5] at H
       have c5b0 : decide (500 < ((rd_L1 l0 x3_1).length : Int)) = true := decide_eq_true c5
       have c5b1 : decide (500 < (rd_L1 l0 x3_1).length) = true := decide_eq_true (by omega)
       clear c5
       obtain rfl := Option.some.inj H
       have p286 : 0 ≤ (x3_1 : Int) := of_decide_eq_true qa
       have q286 : x3_1 < (l0.length : Int) := of_decide_eq_true qa
       obtain ⟨ad286, A286_0, c286_0, e286, hx286_0, hl286_0, hi286_0⟩ := at_L1 HR0.out x3_1 p286 q286
       cases e286
       have HR286_0 := Aside0.mk hi286_0
       have HC286_0 := Aside0.mk hl286_0
       clear hi286_0 hl286_0
       replace p286 := eq_true p286
       replace q286 := eq_true q286
       go_wp2
       go_ret
       exact ⟨by first | rfl | (simp; done) | (simp [*]; done), by repeat (first | exact Drawn0.refl _ | apply Drawn0.step)⟩
      ·rw [if_neg c5] at H
       have c5b0 : decide (500 < ((rd_L1 l0 x3_1).length : Int)) = false := decide_eq_false c5
       have c5b1 : decide (500 < (rd_L1 l0 x3_1).length) = false := decide_eq_false (by omega)
       clear c5
       have H' := Aside0.mk H
       clear H
       have p286 : 0 ≤ (x3_1 : Int) := of_decide_eq_true qa
       have q286 : x3_1 < (l0.length : Int) := of_decide_eq_true qa
       obtain ⟨ad286, A286_0, c286_0, e286, hx286_0, hl286_0, hi286_0⟩ := at_L1 HR0.out x3_1 p286 q286
       cases e286
       have HR286_0 := Aside0.mk hi286_0
       have HC286_0 := Aside0.mk hl286_0
       clear hi286_0 hl286_0
       replace p286 := eq_true p286
       replace q286 := eq_true q286
       go_wp2
       go_roundg k1
       case measure => have := HK1.out; omega
       case rel => exact ⟨(wrap64 (x3_1 + 1)), (by first | rfl | (simp; done) | (simp [*]; done)), H', ⟨by have := HK1.out; omega⟩, by repeat (first | exact Drawn0.refl _ | apply Drawn0.step)⟩
     ·rw [if_neg c4] at H
      exact absurd H (by simp)
    ·rw [if_neg c3] at H
     have c3b0 : decide (x3_1 < (l0.length : Int)) = false := decide_eq_false c3
     clear c3
     obtain rfl := Option.some.inj H
     go_wp2
     go_ret
     exact ⟨by first | rfl | (simp; done) | (simp [*]; done), by repeat (first | exact Drawn0.refl _ | apply Drawn0.step)⟩
end Go.Proofs.YtkcdcbiobkcpmaaDoor.PA
end
