-- by a program of this session (a turned copy of the print: make with a capacity)
import Derived.Test.YtdkgcloempbgpaaMade1
import Derived.Test.YtdkgcloempbgpaaPFnExactGetManx0
import Derived.Test.YtdkgcloempbgpaaPFnExactGetManx6
import Derived.Test.YtdkgcloempbgpaaPFnExactGetManx7
import Derived.Test.YtdkgcloempbgpaaPFnExactGetManx8
namespace Go.Proofs.Ytdkgcloempbgpaa.PFnExactGetMan
open Go.RowKit Go.Proofs.YtdkgcloempbgpaaW.PrintWords Go.Proofs.YtdkgcloempbgpaaW.PrintLast Go.Proofs.YtdkgcloempbgpaaW.PrintMore
attribute [local go_sem] max2_int min2_int max_two min_two max_three min_three max_four min_four   -- for this text's walks alone
set_option linter.unusedVariables false
set_option linter.unusedSimpArgs false

/-! ### impl_SumOf: function 76 -/
def impl_SumOf.l0 : Nat → List Int → Int → List Int → Int → Int → Option (Int × Int)
 | 0,_,_,_,_,_ => none
 | k + 1,x0,x3,x10,x11,x12 => if x12 < x11 then (if 0 ≤ x12 then (if x12 < (x10.length : Int) then (impl_SumOf.l0 k x0 (Go.bits .or .i64 (wrap64 (x3 * 256)) (wrap64 (rd x10 x12))) x10 x11 (wrap64 (x12 + 1))) else (none)) else (none)) else ((impl_WeakOf.f k x0).bind fun t242 => (some (t242,x3)))
def impl_SumOf.f (k : Nat) (l0 : List Int) : Option (Int × Int) := if (l0.length : Int) > 6 then (some (0,0)) else (impl_SumOf.l0 k l0 1 l0 (l0.length : Int) 0)
theorem impl_SumOf.mono_l : ∀ k,(∀ y0 y1 y2 y3 y4,LeO (impl_SumOf.l0 k y0 y1 y2 y3 y4) (impl_SumOf.l0 (k + 1) y0 y1 y2 y3 y4))
 | 0 => fun _ _ _ _ _ r h => by simp [impl_SumOf.l0] at h
 | k + 1 => by
  have ih0 := impl_SumOf.mono_l k
  ·intro y0 y1 y2 y3 y4
   unfold impl_SumOf.l0
   repeat' first
   | (with_reducible exact ih0 _ _ _ _ _)
   | (with_reducible exact impl_WeakOf.mono _ _)
   | (with_reducible exact LeO.refl _)
   | (with_reducible exact LeO.none _)
   | (with_reducible refine LeO.ite ?_ ?_)
   | (with_reducible refine LeO.bind ?_ (fun _ => ?_))
   | exact ih0 _ _ _ _ _
   | exact impl_WeakOf.mono _ _
   | exact LeO.none _
   | refine LeO.ite ?_ ?_
   | refine LeO.bind ?_ (fun _ => ?_)
theorem impl_SumOf.mono : ∀ a0 k,LeO (impl_SumOf.f k a0) (impl_SumOf.f (k + 1) a0) := by
 intro a0 k
 have ih0 := impl_SumOf.mono_l k
 unfold impl_SumOf.f
 repeat' first
   | (with_reducible exact ih0 _ _ _ _ _)
   | (with_reducible exact impl_WeakOf.mono _ _)
   | (with_reducible exact LeO.refl _)
   | (with_reducible exact LeO.none _)
   | (with_reducible refine LeO.ite ?_ ?_)
   | (with_reducible refine LeO.bind ?_ (fun _ => ?_))
   | exact ih0 _ _ _ _ _
   | exact impl_WeakOf.mono _ _
   | exact LeO.none _
   | refine LeO.ite ?_ ?_
   | refine LeO.bind ?_ (fun _ => ?_)
set_option maxHeartbeats 8000000 in
set_option maxRecDepth 100000 in
theorem impl_SumOf.calls (k : Nat) (A0 : Option Addr) (c0 : Nat) (l0 : List Int) (r1 : Int) (r2 : Int) (w : World) (hr0 : Kd.C (Kd.int .u8) w A0 l0.length l0) (hc0 : l0.length ≤ c0) (h : impl_SumOf.f k l0 = some (r1,r2)) :
  Calls Try.prog 76 #[.slice A0 l0.length c0] w fun e w' => e = .returned (.agg #[.int .i64 r1,.int .i64 r2]) ∧ Below w.heap.size w w' := by
 have hu66 := Try.underlying66
 have hf66_0 : ∀ (a_ b_ : Int) (W_ : World),(Instr.field 66 (.agg #[.int .i64 a_,.int .i64 b_]) 0).run Try.prog W_ = .ok (.int .i64 a_) W_ := fun _ _ _ => by kernel_rfl
 have hf66_1 : ∀ (a_ b_ : Int) (W_ : World),(Instr.field 66 (.agg #[.int .i64 a_,.int .i64 b_]) 1).run Try.prog W_ = .ok (.int .i64 b_) W_ := fun _ _ _ => by kernel_rfl
 have HR0 := Aside0.mk hr0
 have HC0 := Aside0.mk hc0
 clear hr0 hc0
 have HB := Aside0.mk (Below.refl w.heap.size w)
 have H : (if (l0.length : Int) > 6 then (some (0,0)) else (impl_SumOf.l0 k l0 1 l0 (l0.length : Int) 0)) = some (r1,r2) := h
 clear h
 by_cases c2 : (l0.length : Int) > 6
 ·rw [if_pos c2] at H
  have c2b0 : decide (6 < (l0.length : Int)) = true := decide_eq_true c2
  have c2b1 : decide (6 < l0.length) = true := decide_eq_true (by omega)
  clear c2
  simp only [Option.some.injEq,Prod.mk.injEq] at H
  obtain ⟨rfl,rfl⟩ := H
  go_enter Try.func76,Try.ntmps76
  go_wp2_with (first | ((with_reducible refine gate_dst (N := 2) rfl ?_);refine box_event ?hg (N := 2) ?hd (cs := #[.int .i64 0,.int .i64 0]) (t := 66) ?hr ?_;(case hd => rfl);(case hg => rfl);(case hr => first | (go_simp;done) | (go_simp;rfl));intro gb240 hg w3 hbox hb;have n0_ := Aside0.mk (below_step (B_up HB.out) hb);have n1_ := Aside0.mk (hbox);have n2_ := Aside0.mk ((by rw [hg];exact (below_size (B_up HB.out)) : w.heap.size ≤ gb240));have n3_ := Aside0.mk ((by rw [hg];exact (below_size (B_up HB.out)) : w.heap.size ≤ gb240));clear HB;have HB := n0_;have BK240 := n1_;have GW240 := n2_;have GE240 := n3_;clear n0_ n1_ n2_ n3_;clear hb hbox hg;have hcz4_0 : w3.cell? ⟨gb240,0,none⟩ = some (.int .i64 0) := (blk_cell BK240.out 0).trans rfl;have hcz4_1 : w3.cell? ⟨gb240,1,none⟩ = some (.int .i64 0) := (blk_cell BK240.out 1).trans rfl;have hfz4_0 := blk_frozen BK240.out 0;have hfz4_1 := blk_frozen BK240.out 1))
  refine bodyPost_ret (results_cell_row rfl _ _ gb240 66 #[.int .i64 0,.int .i64 0] (0,0) _ rfl (by (with_reducible repeat (first | refine blk_drewN ?_ _ | refine blk_drew ?_ | refine blk_alloc ?_ _));refine blk_put (cs := #[.int .i64 0,.int .i64 0]) ?_ 1 _ rfl;(with_reducible repeat (first | refine blk_drewN ?_ _ | refine blk_drew ?_ | refine blk_alloc ?_ _));refine blk_put (cs := #[.int .i64 0,.int .i64 0]) ?_ 0 _ rfl;(with_reducible repeat (first | refine blk_drewN ?_ _ | refine blk_drew ?_ | refine blk_alloc ?_ _));exact BK240.out) Try.underlying66 rfl (by kernel_rfl)) rfl ?_
  exact ⟨by first | rfl | (simp [errW_none,errW_some] <;> rfl) | (simp [*,errW_none,errW_some] <;> rfl),by repeat (first | (with_reducible first | exact HB.out | apply below_alloc | apply pw_below_drewN | apply below_drew1 | refine below_set ?_ GE240.out) | exact HB.out)⟩
 ·rw [if_neg c2] at H
  have c2b0 : decide (6 < (l0.length : Int)) = false := decide_eq_false c2
  have c2b1 : decide (6 < l0.length) = false := decide_eq_false (by omega)
  clear c2
  have H' := Aside0.mk H
  clear H
  go_enter Try.func76,Try.ntmps76
  go_wp2_with (first | ((with_reducible refine gate_dst (N := 2) rfl ?_);refine box_event ?hg (N := 2) ?hd (cs := #[.int .i64 0,.int .i64 0]) (t := 66) ?hr ?_;(case hd => rfl);(case hg => rfl);(case hr => first | (go_simp;done) | (go_simp;rfl));intro gb240 hg w5 hbox hb;have n0_ := Aside0.mk (below_step (B_up HB.out) hb);have n1_ := Aside0.mk (hbox);have n2_ := Aside0.mk ((by rw [hg];exact (below_size (B_up HB.out)) : w.heap.size ≤ gb240));have n3_ := Aside0.mk ((by rw [hg];exact (below_size (B_up HB.out)) : w.heap.size ≤ gb240));clear HB;have HB := n0_;have BK240 := n1_;have GW240 := n2_;have GE240 := n3_;clear n0_ n1_ n2_ n3_;clear hb hbox hg))
  go_loopg [3,12] k (fun kq v3 v12 w' => ∃ (x3_1 : Int) (x12_1 : Int),v3 = .int .i64 x3_1 ∧ v12 = .int .i64 x12_1 ∧ Aside0 (impl_SumOf.l0 kq l0 x3_1 l0 (l0.length : Int) x12_1 = some (r1,r2)) ∧ Aside0 (kq ≤ k) ∧ Aside0 (w'.heap[gb240]? = some (.cells #[.int .i64 0,.int .i64 0] 66 (0,0))) ∧ Aside0 (Below w.heap.size w w'))
  case atStart => exact ⟨(1),(0),(by first | rfl | (simp;done) | (simp [*];done)),(by first | rfl | (simp;done) | (simp [*];done)),H',⟨Nat.le_refl _⟩,⟨by (with_reducible repeat (first | refine blk_drewN ?_ _ | refine blk_drew ?_ | refine blk_alloc ?_ _));exact BK240.out⟩,⟨by repeat (first | (with_reducible first | exact HB.out | apply below_alloc | apply pw_below_drewN | apply below_drew1 | refine below_set ?_ GE240.out) | exact HB.out)⟩⟩
  case round =>
   clear H'
   try clear c2
   try clear c2b0
   try clear c2b1
   try clear p2
   try clear hcz4_0
   try clear hcz4_1
   try clear hfz4_0
   try clear hfz4_1
   obtain ⟨x3_1,x12_1,rfl,rfl,HA,HK1,BK240,HB⟩ := hrel
   cases gk with
   | zero => exact absurd HA.out (by simp [impl_SumOf.l0])
   | succ k1 =>
    have H := HA.out
    clear HA
    simp only [impl_SumOf.l0] at H
    by_cases c6 : x12_1 < (l0.length : Int)
    ·rw [if_pos c6] at H
     have c6b0 : decide (x12_1 < (l0.length : Int)) = true := decide_eq_true c6
     clear c6
     by_cases c7 : 0 ≤ x12_1
     ·rw [if_pos c7] at H
      have c7b0 : decide (0 ≤ x12_1) = true := decide_eq_true c7
      clear c7
      by_cases c8 : x12_1 < (l0.length : Int)
      ·rw [if_pos c8] at H
       have c8b0 : decide (x12_1 < (l0.length : Int)) = true := decide_eq_true c8
       clear c8
       have H' := Aside0.mk H
       clear H
       have p241 : 0 ≤ (x12_1 : Int) := of_decide_eq_true (by first | (with_reducible assumption) | assumption)
       have q241 : x12_1 < (l0.length : Int) := of_decide_eq_true (by first | (with_reducible assumption) | assumption)
       obtain ⟨ad241,e241,hx241_0⟩ := Kd.at_int HR0.out x12_1 p241 q241
       cases e241
       replace hx241_0 := (HB.out.cell (World.block_lt_of_cell? w _ hx241_0)).trans hx241_0
       replace p241 := eq_true p241
       replace q241 := eq_true q241
       go_wp2
       go_roundg k1
       case measure => have := HK1.out;omega
       case rel => exact ⟨(Go.bits .or .i64 (wrap64 (x3_1 * 256)) (wrap64 (rd l0 x12_1))),(wrap64 (x12_1 + 1)),(by first | rfl | (simp;done) | (simp [*];done)),(by first | rfl | (simp;done) | (simp [*];done)),H',⟨by have := HK1.out;omega⟩,⟨by (with_reducible repeat (first | refine blk_drewN ?_ _ | refine blk_drew ?_ | refine blk_alloc ?_ _));exact BK240.out⟩,⟨by repeat (first | (with_reducible first | exact HB.out | apply below_alloc | apply pw_below_drewN | apply below_drew1 | refine below_set ?_ GE240.out) | exact HB.out)⟩⟩
      ·rw [if_neg c8] at H
       exact absurd H (by simp)
     ·rw [if_neg c7] at H
      exact absurd H (by simp)
    ·rw [if_neg c6] at H
     have c6b0 : decide (x12_1 < (l0.length : Int)) = false := decide_eq_false c6
     clear c6
     replace H := Option.bind_eq_some_iff.mp H
     obtain ⟨t242,A90,H⟩ := H
     replace H : (some (t242,x3_1)) = some (r1,r2) := H
     have A9 := Aside0.mk A90
     clear A90
     simp only [Option.some.injEq,Prod.mk.injEq] at H
     obtain ⟨rfl,rfl⟩ := H
     go_wp2_with (first | ((with_reducible refine gate_callee (f := 95) rfl ?_);refine goesL_ (some 23) rfl rfl Try.func95 (by kernel_rfl) rfl #[.slice A0 l0.length c0] rfl eq_up ?_;(with_reducible refine (impl_WeakOf.calls k1 _ _ l0 t242 _ ?side1 ?side2 A9.out).mono ?_);(case side1 => repeat (first | exact (Kd.C_below HR0.out HB.out) | (with_reducible refine Kd.C_alloc ?_ _) | (with_reducible refine Kd.C_drewN ?_ _) | (with_reducible refine Kd.C_drew ?_)));(case side2 => exact HC0.out);rintro e w' ⟨rfl,⟨nd,rfl⟩⟩;refine ⟨_,rfl,?_⟩;(try (rw [drewN_self wr];generalize hq_ : World.drewN wr _ = wr;have n0_ : Aside0 (wr.heap[gb240]? = some (.cells #[.int .i64 0,.int .i64 0] 66 (0,0))) := ⟨by rw [← hq_];exact (blk_up BK240.out)⟩;have n1_ : Aside0 (Below w.heap.size w wr) := ⟨by rw [← hq_];exact (B_set HB.out)⟩;clear BK240 HB hq_;have BK240 := n0_;have HB := n1_;clear n0_ n1_));have hcz10_0 : wr.cell? ⟨gb240,0,none⟩ = some (.int .i64 0) := (blk_cell BK240.out 0).trans rfl;have hcz10_1 : wr.cell? ⟨gb240,1,none⟩ = some (.int .i64 0) := (blk_cell BK240.out 1).trans rfl;have hfz10_0 := blk_frozen BK240.out 0;have hfz10_1 := blk_frozen BK240.out 1))
     refine bodyPost_ret (results_cell_row rfl _ _ gb240 66 #[.int .i64 t242,.int .i64 x3_1] (0,0) _ rfl (by (with_reducible repeat (first | refine blk_drewN ?_ _ | refine blk_drew ?_ | refine blk_alloc ?_ _));refine blk_put (cs := #[.int .i64 t242,.int .i64 0]) ?_ 1 _ rfl;(with_reducible repeat (first | refine blk_drewN ?_ _ | refine blk_drew ?_ | refine blk_alloc ?_ _));refine blk_put (cs := #[.int .i64 0,.int .i64 0]) ?_ 0 _ rfl;(with_reducible repeat (first | refine blk_drewN ?_ _ | refine blk_drew ?_ | refine blk_alloc ?_ _));exact BK240.out) Try.underlying66 rfl (by kernel_rfl)) rfl ?_
     exact ⟨by first | rfl | (simp [errW_none,errW_some] <;> rfl) | (simp [*,errW_none,errW_some] <;> rfl),by repeat (first | (with_reducible first | exact HB.out | apply below_alloc | apply pw_below_drewN | apply below_drew1 | refine below_set ?_ GE240.out) | exact HB.out)⟩

/-! ### impl_GetMan: function 32 -/
def impl_GetMan.l0 : Nat → List Int → Int → Int → Int → Int → Int → Int → List (S66) → Option (Int × Int × Int × (List (S66)) × Int × Bool)
 | 0,_,_,_,_,_,_,_,_ => none
 | k + 1,x0,x1,x39,x40,x253000,x253001,x253002,x253003 => if x40 < x39 then ((impl_readVar.f k x0 x1 8).bind fun bt255 => ((impl_BytesOf.f k bt255.1).bind fun bt258 => (if bt255.2.2 = true then (if bt258.2 = true then ((impl_SumOf.f k bt258.1).bind fun bt262 => (if x253003.length < 8796093022208 then (impl_GetMan.l0 k x0 bt255.2.1 x39 (wrap64 (x40 + 1)) x253000 x253001 x253002 (x253003 ++ [(⟨bt262.1,bt262.2⟩ : S66)])) else (none))) else (some (0,0,0,([] : List (S66)),0,false))) else (some (0,0,0,([] : List (S66)),0,false))))) else ((impl_ManOk.f k x253000 x253001 x253002 x253003).bind fun t254 => (if t254 = true then (some (x253000,x253001,x253002,x253003,x1,true)) else (some (0,0,0,([] : List (S66)),0,false))))
def impl_GetMan.f (k : Nat) (l0 : List Int) (a1 : Int) : Option (Int × Int × Int × (List (S66)) × Int × Bool) := (impl_readVars.f k l0 a1 3).bind fun bt244 => (if bt244.2.2 = true then (if 0 < (bt244.1.length : Int) then (if 1 < (bt244.1.length : Int) then (if 2 < (bt244.1.length : Int) then ((impl_Blocks.f (rd bt244.1 1) (rd bt244.1 2)).bind fun t253 => (impl_GetMan.l0 k l0 bt244.2.1 t253 0 (rd bt244.1 0) (rd bt244.1 1) (rd bt244.1 2) ([] : List (S66)))) else (none)) else (none)) else (none)) else (some (0,0,0,([] : List (S66)),0,false)))
theorem impl_GetMan.mono_l : ∀ k,(∀ y0 y1 y2 y3 y4 y5 y6 y7,LeO (impl_GetMan.l0 k y0 y1 y2 y3 y4 y5 y6 y7) (impl_GetMan.l0 (k + 1) y0 y1 y2 y3 y4 y5 y6 y7))
 | 0 => fun _ _ _ _ _ _ _ _ r h => by simp [impl_GetMan.l0] at h
 | k + 1 => by
  have ih0 := impl_GetMan.mono_l k
  ·intro y0 y1 y2 y3 y4 y5 y6 y7
   unfold impl_GetMan.l0
   repeat' first
   | (with_reducible exact ih0 _ _ _ _ _ _ _ _)
   | (with_reducible exact impl_BytesOf.mono _ _)
   | (with_reducible exact impl_ManOk.mono _ _ _ _ _)
   | (with_reducible exact impl_SumOf.mono _ _)
   | (with_reducible exact impl_readVar.mono _ _ _ _)
   | (with_reducible exact impl_readVars.mono _ _ _ _)
   | (with_reducible exact LeO.refl _)
   | (with_reducible exact LeO.none _)
   | (with_reducible refine LeO.ite ?_ ?_)
   | (with_reducible refine LeO.bind ?_ (fun _ => ?_))
   | exact ih0 _ _ _ _ _ _ _ _
   | exact impl_BytesOf.mono _ _
   | exact impl_ManOk.mono _ _ _ _ _
   | exact impl_SumOf.mono _ _
   | exact impl_readVar.mono _ _ _ _
   | exact impl_readVars.mono _ _ _ _
   | exact LeO.none _
   | refine LeO.ite ?_ ?_
   | refine LeO.bind ?_ (fun _ => ?_)
theorem impl_GetMan.mono : ∀ a0 a1 k,LeO (impl_GetMan.f k a0 a1) (impl_GetMan.f (k + 1) a0 a1) := by
 intro a0 a1 k
 have ih0 := impl_GetMan.mono_l k
 unfold impl_GetMan.f
 repeat' first
   | (with_reducible exact ih0 _ _ _ _ _ _ _ _)
   | (with_reducible exact impl_BytesOf.mono _ _)
   | (with_reducible exact impl_ManOk.mono _ _ _ _ _)
   | (with_reducible exact impl_SumOf.mono _ _)
   | (with_reducible exact impl_readVar.mono _ _ _ _)
   | (with_reducible exact impl_readVars.mono _ _ _ _)
   | (with_reducible exact LeO.refl _)
   | (with_reducible exact LeO.none _)
   | (with_reducible refine LeO.ite ?_ ?_)
   | (with_reducible refine LeO.bind ?_ (fun _ => ?_))
   | exact ih0 _ _ _ _ _ _ _ _
   | exact impl_BytesOf.mono _ _
   | exact impl_ManOk.mono _ _ _ _ _
   | exact impl_SumOf.mono _ _
   | exact impl_readVar.mono _ _ _ _
   | exact impl_readVars.mono _ _ _ _
   | exact LeO.none _
   | refine LeO.ite ?_ ?_
   | refine LeO.bind ?_ (fun _ => ?_)
def impl_GetMan.T4 : Bool × List (List Nat × List Nat) := (true,[([],[]),([0],[0]),([1],[1]),([],[]),([3],[3]),([4],[4]),([],[]),([6],[6]),([7],[7]),([2,5,8],[2,5,8]),([],[]),([10,9,0,1,2,3,4,5,6,7,8,9,10],[9,10])])
def impl_GetMan.B4 : List Nat := [0,1,3,0,8,24,0,64,192,511,0,2047]
theorem impl_GetMan.tab4 : rtab .any (opsOf Try.f32 4) = impl_GetMan.T4 := by kernel_rfl
theorem impl_GetMan.bits4 : waitsOk impl_GetMan.T4.2 impl_GetMan.B4 = true := by kernel_rfl
def impl_GetMan.T11 : Bool × List (List Nat × List Nat) := (true,[([],[]),([0],[0]),([],[]),([2],[2]),([3],[3]),([1,4,3],[1,4]),([0,1,2,3,4,5],[]),([6,5,5,0,1,2,3,4,5],[5,6])])
def impl_GetMan.B11 : List Nat := [0,1,0,4,12,31,63,127]
theorem impl_GetMan.tab11 : rtab .any (opsOf Try.f32 11) = impl_GetMan.T11 := by kernel_rfl
theorem impl_GetMan.bits11 : waitsOk impl_GetMan.T11.2 impl_GetMan.B11 = true := by kernel_rfl
set_option maxHeartbeats 8000000 in
set_option maxRecDepth 100000 in
theorem impl_GetMan.calls (k : Nat) (A0 : Option Addr) (c0 : Nat) (l0 : List Int) (a1 : Int) (r1 : Int) (r2 : Int) (r3 : Int) (r4 : List (S66)) (r5 : Int) (r6 : Bool) (w : World) (hr0 : Kd.C (Kd.int .u8) w A0 l0.length l0) (hc0 : l0.length ≤ c0) (h : impl_GetMan.f k l0 a1 = some (r1,r2,r3,r4,r5,r6)) :
  Calls Try.prog 32 #[.slice A0 l0.length c0,.int .i64 a1] w fun e w' => ∃ v3_ : Value,e = .returned (.tuple #[.agg #[.int .i64 r1,.int .i64 r2,.int .i64 r3,v3_],.int .i64 r5,.bool r6]) ∧ Kd.R k66 66 w' w.heap.size (fun _ => True) v3_ r4 ∧ Below w.heap.size w w' := by
 have hu31 := Try.underlying31
 have HR0 := Aside0.mk hr0
 have HC0 := Aside0.mk hc0
 clear hr0 hc0
 have HB := Aside0.mk (Below.refl w.heap.size w)
 have H : ((impl_readVars.f k l0 a1 3).bind fun bt244 => (if bt244.2.2 = true then (if 0 < (bt244.1.length : Int) then (if 1 < (bt244.1.length : Int) then (if 2 < (bt244.1.length : Int) then ((impl_Blocks.f (rd bt244.1 1) (rd bt244.1 2)).bind fun t253 => (impl_GetMan.l0 k l0 bt244.2.1 t253 0 (rd bt244.1 0) (rd bt244.1 1) (rd bt244.1 2) ([] : List (S66)))) else (none)) else (none)) else (none)) else (some (0,0,0,([] : List (S66)),0,false)))) = some (r1,r2,r3,r4,r5,r6) := h
 clear h
 replace H := Option.bind_eq_some_iff.mp H
 obtain ⟨⟨t244,t245,t246⟩,A30,H⟩ := H
 (try dsimp only at H)
 have A3 := Aside0.mk A30
 clear A30
 by_cases c4 : t246 = true
 ·subst c4
  rw [if_pos rfl] at H
  by_cases c5 : 0 < (t244.length : Int)
  ·rw [if_pos c5] at H
   have c5b0 : decide (0 < (t244.length : Int)) = true := decide_eq_true c5
   have c5b1 : decide (0 < t244.length) = true := decide_eq_true (by omega)
   clear c5
   by_cases c6 : 1 < (t244.length : Int)
   ·rw [if_pos c6] at H
    have c6b0 : decide (1 < (t244.length : Int)) = true := decide_eq_true c6
    have c6b1 : decide (1 < t244.length) = true := decide_eq_true (by omega)
    clear c6
    by_cases c7 : 2 < (t244.length : Int)
    ·rw [if_pos c7] at H
     have c7b0 : decide (2 < (t244.length : Int)) = true := decide_eq_true c7
     have c7b1 : decide (2 < t244.length) = true := decide_eq_true (by omega)
     clear c7
     replace H := Option.bind_eq_some_iff.mp H
     obtain ⟨t253,A80,H⟩ := H
     (try dsimp only at H)
     have A8 := Aside0.mk A80
     clear A80
     have H' := Aside0.mk H
     clear H
     go_enter Try.func32,Try.ntmps32
     try go_wp2_with (first | ((with_reducible refine gate_dst (N := 4) rfl ?_);refine box_event ?hg (N := 4) ?hd (cs := #[.int .i64 0,.int .i64 0,.int .i64 0,.slice none 0 0]) (t := 31) ?hr ?_;(case hd => rfl);(case hg => rfl);(case hr => first | (go_simp;done) | (go_simp;rfl));intro gb243 hg w9 hbox hb;have n0_ := Aside0.mk (below_step (B_up HB.out) hb);have n1_ := Aside0.mk (hbox);have n2_ := Aside0.mk ((by rw [hg];exact (below_size (B_up HB.out)) : w.heap.size ≤ gb243));have n3_ := Aside0.mk ((by rw [hg];exact (below_size (B_up HB.out)) : w.heap.size ≤ gb243));clear HB;have HB := n0_;have BK243 := n1_;have GW243 := n2_;have GE243 := n3_;clear n0_ n1_ n2_ n3_;clear hb hbox hg) | ((with_reducible refine gate_callee (f := 73) rfl ?_);refine goesL_ (some 18) rfl rfl Try.func73 (by kernel_rfl) rfl #[.slice A0 l0.length c0,.int .i64 a1,.int .i64 3] rfl eq_up ?_;(with_reducible refine (impl_readVars.calls k _ _ l0 a1 3 t244 t245 true _ ?side1 ?side2 A3.out).mono ?_);(case side1 => repeat (first | exact (Kd.C_below HR0.out HB.out) | (with_reducible refine Kd.C_alloc ?_ _) | (with_reducible refine Kd.C_drewN ?_ _) | (with_reducible refine Kd.C_drew ?_)));(case side2 => exact HC0.out);rintro e w10 ⟨v247,rfl,ho0,hb⟩;refine ⟨_,rfl,?_⟩;have n0_ := Aside0.mk (Kd.R_lower ho0 (below_size (B_set HB.out)));have n1_ := Aside0.mk (blk_below (g := gb243) (o := .cells #[.int .i64 0,.int .i64 0,.int .i64 0,.slice none 0 0] 31 (0,0)) (blk_up BK243.out) hb);have n2_ := Aside0.mk (below_step (B_set HB.out) hb);clear BK243;clear HB;have HO248 := n0_;have BK243 := n1_;have HB := n2_;clear n0_ n1_ n2_;(try clear hb);(try clear hb2);(try clear hk);(try clear hi);(try clear ho0)))
     have n0_ := Aside0.mk (Kd.R_drew HO248.out)
     have n1_ := Aside0.mk (blk_drew BK243.out)
     have n2_ := Aside0.mk (below_drew1 HB.out)
     clear HO248
     clear BK243
     clear HB
     have HO248 := n0_
     have BK243 := n1_
     have HB := n2_
     clear n0_ n1_ n2_
     obtain ⟨Ao12,co12,eo12⟩ := Kd.R_slice HO248.out
     (first | subst eo12 | (injection eo12 with f1_ f2_ f3_;have f4_ := f1_.symm;have f5_ := f3_.symm;clear f1_ f2_ f3_;subst f4_;subst f5_))
     have p249 : 0 ≤ (0 : Int) := (by omega)
     have q249 : 0 < (t244.length : Int) := of_decide_eq_true (by first | (with_reducible assumption) | assumption)
     obtain ⟨ad249,e249,hx249_0⟩ := Kd.at_int (Kd.R_reads' HO248.out).2.2 0 p249 q249
     cases e249
     have qi249 : (0 < t244.length) = True := eq_true (by omega)
     (try rw [show ((0 : Int)).toNat = 0 from rfl] at hx249_0)
     (try rw [Addr.add_zero'] at hx249_0)
     replace p249 := eq_true p249
     replace q249 := eq_true q249
     have p250 : 0 ≤ (1 : Int) := (by omega)
     have q250 : 1 < (t244.length : Int) := of_decide_eq_true (by first | (with_reducible assumption) | assumption)
     obtain ⟨ad250,e250,hx250_0⟩ := Kd.at_int (Kd.R_reads' HO248.out).2.2 1 p250 q250
     obtain rfl : ad249 = ad250 := (by injection e250)
     (try simp only [show (1 : Int).toNat = 1 from rfl,Nat.reduceMul,Nat.reduceEqDiff,Go.Addr.add,↓reduceIte] at hx250_0)
     have qi250 : (1 < t244.length) = True := eq_true (by omega)
     (try rw [show ((1 : Int)).toNat = 1 from rfl] at hx250_0)
     replace p250 := eq_true p250
     replace q250 := eq_true q250
     have p251 : 0 ≤ (2 : Int) := (by omega)
     have q251 : 2 < (t244.length : Int) := of_decide_eq_true (by first | (with_reducible assumption) | assumption)
     obtain ⟨ad251,e251,hx251_0⟩ := Kd.at_int (Kd.R_reads' HO248.out).2.2 2 p251 q251
     obtain rfl : ad249 = ad251 := (by injection e251)
     (try simp only [show (2 : Int).toNat = 2 from rfl,Nat.reduceMul,Nat.reduceEqDiff,Go.Addr.add,↓reduceIte] at hx251_0)
     have qi251 : (2 < t244.length) = True := eq_true (by omega)
     (try rw [show ((2 : Int)).toNat = 2 from rfl] at hx251_0)
     replace p251 := eq_true p251
     replace q251 := eq_true q251
     refine start_ (n := 12) (S := fun w' => w'.cell? ad249 = some (.int .i64 (rd t244 0)) ∧ w'.cell? ⟨ad249.block,ad249.off + 1,none⟩ = some (.int .i64 (rd t244 1)) ∧ w'.cell? ⟨ad249.block,ad249.off + 2,none⟩ = some (.int .i64 (rd t244 2))) (ds := []) #[false,false,false,false,false,false,false,false,false,false,false,false] (by kernel_rfl) rfl rfl ⟨hx249_0,hx250_0,hx251_0⟩ (fun hHeld => ?_);refine with_tabW impl_GetMan.tab4 impl_GetMan.bits4 (fun HT_ HW_ => ?_)
     generalize w10.drew = w11 at HO248 BK243 HB hx249_0 hx250_0 hx251_0 hHeld ⊢
     refine pure_ (i := 0) (N := some 25) (v := ?_) (a' := ?_) #[true,false,false,false,false,false,false,false,false,false,false,false] rfl rfl (any_of HT_.out (by kernel_rfl)) (fun _ _ _ h => h) (Or.inl ⟨by rfl,?_⟩) ?_ ?_
     rotate_left
     ·intro w'
      go_simp
      with_reducible rfl
     rotate_left
     ·simp only [Act.put,List.setIfInBounds_toArray,List.set_cons_zero,List.set_cons_succ,i64_w,i32_w]
      rfl
     refine pure_ (i := 1) (N := some 26) (v := ?_) (a' := ?_) #[true,true,false,false,false,false,false,false,false,false,false,false] rfl rfl (any_of HT_.out (by kernel_rfl)) (fun _ _ _ h => h) (Or.inl ⟨by rfl,?_⟩) ?_ ?_
     rotate_left
     ·intro w'
      go_simp
      with_reducible rfl
     rotate_left
     ·simp only [Act.put,List.setIfInBounds_toArray,List.set_cons_zero,List.set_cons_succ,i64_w,i32_w]
      rfl
     refine pure_ (i := 3) (N := some 28) (v := ?_) (a' := ?_) #[true,true,false,true,false,false,false,false,false,false,false,false] rfl rfl (any_of HT_.out (by kernel_rfl)) (fun _ _ _ h => h) (Or.inl ⟨by rfl,?_⟩) ?_ ?_
     rotate_left
     ·intro w'
      go_simp
      with_reducible rfl
     rotate_left
     ·simp only [Act.put,List.setIfInBounds_toArray,List.set_cons_zero,List.set_cons_succ,i64_w,i32_w]
      rfl
     refine pure_ (i := 4) (N := some 29) (v := ?_) (a' := ?_) #[true,true,false,true,true,false,false,false,false,false,false,false] rfl rfl (any_of HT_.out (by kernel_rfl)) (fun _ _ _ h => h) (Or.inl ⟨by rfl,?_⟩) ?_ ?_
     rotate_left
     ·intro w'
      go_simp
      with_reducible rfl
     rotate_left
     ·simp only [Act.put,List.setIfInBounds_toArray,List.set_cons_zero,List.set_cons_succ,i64_w,i32_w]
      rfl
     refine pure_ (i := 6) (N := some 31) (v := ?_) (a' := ?_) #[true,true,false,true,true,false,true,false,false,false,false,false] rfl rfl (any_of HT_.out (by kernel_rfl)) (fun _ _ _ h => h) (Or.inl ⟨by rfl,?_⟩) ?_ ?_
     rotate_left
     ·intro w'
      go_simp
      with_reducible rfl
     rotate_left
     ·simp only [Act.put,List.setIfInBounds_toArray,List.set_cons_zero,List.set_cons_succ,i64_w,i32_w]
      rfl
     refine pure_ (i := 7) (N := some 32) (v := ?_) (a' := ?_) #[true,true,false,true,true,false,true,true,false,false,false,false] rfl rfl (any_of HT_.out (by kernel_rfl)) (fun _ _ _ h => h) (Or.inl ⟨by rfl,?_⟩) ?_ ?_
     rotate_left
     ·intro w'
      go_simp
      with_reducible rfl
     rotate_left
     ·simp only [Act.put,List.setIfInBounds_toArray,List.set_cons_zero,List.set_cons_succ,i64_w,i32_w]
      rfl
     refine take_ (i := 2) (N := some 27) (v := ?_) (a' := ?_) #[true,true,true,true,true,false,true,true,false,false,false,false] rfl rfl (take_ofW HT_.out HW_.out (by kernel_rfl)) (fun _ _ _ h => h) (Or.inl ⟨by rfl,?_⟩) hHeld ?_ ?_
     rotate_left
     ·rintro w' ⟨s0,s1,s2⟩
      go_simp
      with_reducible rfl
     rotate_left
     ·simp only [Act.put,List.setIfInBounds_toArray,List.set_cons_zero,List.set_cons_succ,i64_w,i32_w]
      rfl
     refine take_ (i := 5) (N := some 30) (v := ?_) (a' := ?_) #[true,true,true,true,true,true,true,true,false,false,false,false] rfl rfl (take_ofW HT_.out HW_.out (by kernel_rfl)) (fun _ _ _ h => h) (Or.inl ⟨by rfl,?_⟩) hHeld ?_ ?_
     rotate_left
     ·rintro w' ⟨s0,s1,s2⟩
      go_simp
      with_reducible rfl
     rotate_left
     ·simp only [Act.put,List.setIfInBounds_toArray,List.set_cons_zero,List.set_cons_succ,i64_w,i32_w]
      rfl
     refine take_ (i := 8) (N := some 33) (v := ?_) (a' := ?_) #[true,true,true,true,true,true,true,true,true,false,false,false] rfl rfl (take_ofW HT_.out HW_.out (by kernel_rfl)) (fun _ _ _ h => h) (Or.inl ⟨by rfl,?_⟩) hHeld ?_ ?_
     rotate_left
     ·rintro w' ⟨s0,s1,s2⟩
      go_simp
      with_reducible rfl
     rotate_left
     ·simp only [Act.put,List.setIfInBounds_toArray,List.set_cons_zero,List.set_cons_succ,i64_w,i32_w]
      rfl
     refine pure_ (i := 9) (N := some 34) (v := ?_) (a' := ?_) #[true,true,true,true,true,true,true,true,true,true,false,false] rfl rfl (any_of HT_.out (by kernel_rfl)) (fun _ _ _ h => h) (Or.inl ⟨by rfl,?_⟩) ?_ ?_
     rotate_left
     ·intro w'
      go_simp
      with_reducible rfl
     rotate_left
     ·simp only [Act.put,List.setIfInBounds_toArray,List.set_cons_zero,List.set_cons_succ,i64_w,i32_w]
      rfl
     refine one_ (i := 10) (N := some 9) #[true,true,true,true,true,true,true,true,true,true,true,false] rfl rfl (one_of HT_.out (by kernel_rfl)) (by decide) (fun K hK => ?_)
     refine box_step ?hg (N := 9) ?hd (cs := #[.int .i64 0,.int .i64 0,.int .i64 0,.slice none 0 0]) (t := 31) ?hr ?_;(case hd => rfl);(case hg => rfl);(case hr => first | (go_simp;done) | (go_simp;rfl))
     intro gb252 hg w13 hbox hb
     have HS0_ := (hb.cell (World.block_lt_of_cell? _ _ (hHeld.1))).trans (hHeld.1)
     have HS1_ := (hb.cell (World.block_lt_of_cell? _ _ (hHeld.2.1))).trans (hHeld.2.1)
     have HS2_ := (hb.cell (World.block_lt_of_cell? _ _ (hHeld.2.2))).trans (hHeld.2.2)
     have n0_ := Aside0.mk (Kd.R_below (Kd.R_up HO248.out) hb)
     have n1_ := Aside0.mk (blk_below (g := gb243) (o := .cells #[.int .i64 0,.int .i64 0,.int .i64 0,.slice none 0 0] 31 (0,0)) (blk_up BK243.out) hb)
     have n2_ := Aside0.mk (below_step (B_set HB.out) hb)
     have n3_ := Aside0.mk (hbox)
     have n4_ := Aside0.mk ((by rw [hg];exact (below_size (B_set HB.out)) : w.heap.size ≤ gb252))
     have n5_ := Aside0.mk ((by rw [hg];exact (below_size (B_set HB.out)) : w.heap.size ≤ gb252))
     have n6_ := Aside0.mk ((by rw [hg];exact Nat.ne_of_lt (blk_lt (g := gb243) (o := .cells #[.int .i64 0,.int .i64 0,.int .i64 0,.slice none 0 0] 31 (0,0)) (blk_up BK243.out)) : gb243 ≠ gb252))
     have n7_ := Aside0.mk ((by rw [hg];exact Nat.ne_of_gt (blk_lt (g := gb243) (o := .cells #[.int .i64 0,.int .i64 0,.int .i64 0,.slice none 0 0] 31 (0,0)) (blk_up BK243.out)) : gb252 ≠ gb243))
     clear HO248
     clear BK243
     clear HB
     have HO248 := n0_
     have BK243 := n1_
     have HB := n2_
     have BK252 := n3_
     have GW252 := n4_
     have GE252 := n5_
     have NB243_252 := n6_
     have NB252_243 := n7_
     clear n0_ n1_ n2_ n3_ n4_ n5_ n6_ n7_
     clear hb hbox hg
     refine hK.out _ _ ⟨HS0_,HS1_,HS2_⟩ (fun hHeld => ?_)
     clear hK K
     refine norm_ (a' := ?_) ?_ ?_
     rotate_left
     ·show Act.put _ (some 9) _ = _
      simp only [Act.put,List.setIfInBounds_toArray,List.set_cons_zero,List.set_cons_succ,i64_w,i32_w]
      rfl
     refine one_ (i := 11) (N := none) #[true,true,true,true,true,true,true,true,true,true,true,true] rfl rfl (one_of HT_.out (by kernel_rfl)) (by decide) (fun K hK => ?_)
     have hs14 : w13.cell? ⟨gb252,0,none⟩ = some (.int .i64 0) := (blk_cell BK252.out 0).trans rfl
     have hfs14 := blk_frozen BK252.out 0
     have hns14_0 := NB243_252.out
     have hms14_0 := NB252_243.out
     have hs15 : w13.cell? ⟨gb252,1,none⟩ = some (.int .i64 0) := (blk_cell BK252.out 1).trans rfl
     have hfs15 := blk_frozen BK252.out 1
     have hns15_0 := NB243_252.out
     have hms15_0 := NB252_243.out
     have hs16 : w13.cell? ⟨gb252,2,none⟩ = some (.int .i64 0) := (blk_cell BK252.out 2).trans rfl
     have hfs16 := blk_frozen BK252.out 2
     have hns16_0 := NB243_252.out
     have hms16_0 := NB252_243.out
     have hs17 : w13.cell? ⟨gb252,3,none⟩ = some (.slice none 0 0) := (blk_cell BK252.out 3).trans rfl
     have hfs17 := blk_frozen BK252.out 3
     have hns17_0 := NB243_252.out
     have hms17_0 := NB252_243.out
     refine skip_ (w1 := ?_) (by rfl) rfl ?_ ?_
     rotate_left
     ·go_simp
      rfl
     refine hK.out _ _ ⟨((cell_far (p := ⟨gb252,_,none⟩) (by first | exact Kd.own_blk (Kd.R_ne HO248.out BK252.out (by decide)) | (rw [add_block];exact Kd.own_blk (Kd.R_ne HO248.out BK252.out (by decide))) | (show (Addr.add _ _).block ≠ _;rw [add_block];exact Kd.own_blk (Kd.R_ne HO248.out BK252.out (by decide))) | (dsimp only;exact Kd.own_blk (Kd.R_ne HO248.out BK252.out (by decide)))) _).trans (((cell_far (p := ⟨gb252,_,none⟩) (by first | exact Kd.own_blk (Kd.R_ne HO248.out BK252.out (by decide)) | (rw [add_block];exact Kd.own_blk (Kd.R_ne HO248.out BK252.out (by decide))) | (show (Addr.add _ _).block ≠ _;rw [add_block];exact Kd.own_blk (Kd.R_ne HO248.out BK252.out (by decide))) | (dsimp only;exact Kd.own_blk (Kd.R_ne HO248.out BK252.out (by decide)))) _).trans (((cell_far (p := ⟨gb252,_,none⟩) (by first | exact Kd.own_blk (Kd.R_ne HO248.out BK252.out (by decide)) | (rw [add_block];exact Kd.own_blk (Kd.R_ne HO248.out BK252.out (by decide))) | (show (Addr.add _ _).block ≠ _;rw [add_block];exact Kd.own_blk (Kd.R_ne HO248.out BK252.out (by decide))) | (dsimp only;exact Kd.own_blk (Kd.R_ne HO248.out BK252.out (by decide)))) _).trans (((cell_far (p := ⟨gb252,_,none⟩) (by first | exact Kd.own_blk (Kd.R_ne HO248.out BK252.out (by decide)) | (rw [add_block];exact Kd.own_blk (Kd.R_ne HO248.out BK252.out (by decide))) | (show (Addr.add _ _).block ≠ _;rw [add_block];exact Kd.own_blk (Kd.R_ne HO248.out BK252.out (by decide))) | (dsimp only;exact Kd.own_blk (Kd.R_ne HO248.out BK252.out (by decide)))) _).trans (hHeld.1)))))))),((cell_far (p := ⟨gb252,_,none⟩) (by first | exact Kd.own_blk (Kd.R_ne HO248.out BK252.out (by decide)) | (rw [add_block];exact Kd.own_blk (Kd.R_ne HO248.out BK252.out (by decide))) | (show (Addr.add _ _).block ≠ _;rw [add_block];exact Kd.own_blk (Kd.R_ne HO248.out BK252.out (by decide))) | (dsimp only;exact Kd.own_blk (Kd.R_ne HO248.out BK252.out (by decide)))) _).trans (((cell_far (p := ⟨gb252,_,none⟩) (by first | exact Kd.own_blk (Kd.R_ne HO248.out BK252.out (by decide)) | (rw [add_block];exact Kd.own_blk (Kd.R_ne HO248.out BK252.out (by decide))) | (show (Addr.add _ _).block ≠ _;rw [add_block];exact Kd.own_blk (Kd.R_ne HO248.out BK252.out (by decide))) | (dsimp only;exact Kd.own_blk (Kd.R_ne HO248.out BK252.out (by decide)))) _).trans (((cell_far (p := ⟨gb252,_,none⟩) (by first | exact Kd.own_blk (Kd.R_ne HO248.out BK252.out (by decide)) | (rw [add_block];exact Kd.own_blk (Kd.R_ne HO248.out BK252.out (by decide))) | (show (Addr.add _ _).block ≠ _;rw [add_block];exact Kd.own_blk (Kd.R_ne HO248.out BK252.out (by decide))) | (dsimp only;exact Kd.own_blk (Kd.R_ne HO248.out BK252.out (by decide)))) _).trans (((cell_far (p := ⟨gb252,_,none⟩) (by first | exact Kd.own_blk (Kd.R_ne HO248.out BK252.out (by decide)) | (rw [add_block];exact Kd.own_blk (Kd.R_ne HO248.out BK252.out (by decide))) | (show (Addr.add _ _).block ≠ _;rw [add_block];exact Kd.own_blk (Kd.R_ne HO248.out BK252.out (by decide))) | (dsimp only;exact Kd.own_blk (Kd.R_ne HO248.out BK252.out (by decide)))) _).trans (hHeld.2.1)))))))),((cell_far (p := ⟨gb252,_,none⟩) (by first | exact Kd.own_blk (Kd.R_ne HO248.out BK252.out (by decide)) | (rw [add_block];exact Kd.own_blk (Kd.R_ne HO248.out BK252.out (by decide))) | (show (Addr.add _ _).block ≠ _;rw [add_block];exact Kd.own_blk (Kd.R_ne HO248.out BK252.out (by decide))) | (dsimp only;exact Kd.own_blk (Kd.R_ne HO248.out BK252.out (by decide)))) _).trans (((cell_far (p := ⟨gb252,_,none⟩) (by first | exact Kd.own_blk (Kd.R_ne HO248.out BK252.out (by decide)) | (rw [add_block];exact Kd.own_blk (Kd.R_ne HO248.out BK252.out (by decide))) | (show (Addr.add _ _).block ≠ _;rw [add_block];exact Kd.own_blk (Kd.R_ne HO248.out BK252.out (by decide))) | (dsimp only;exact Kd.own_blk (Kd.R_ne HO248.out BK252.out (by decide)))) _).trans (((cell_far (p := ⟨gb252,_,none⟩) (by first | exact Kd.own_blk (Kd.R_ne HO248.out BK252.out (by decide)) | (rw [add_block];exact Kd.own_blk (Kd.R_ne HO248.out BK252.out (by decide))) | (show (Addr.add _ _).block ≠ _;rw [add_block];exact Kd.own_blk (Kd.R_ne HO248.out BK252.out (by decide))) | (dsimp only;exact Kd.own_blk (Kd.R_ne HO248.out BK252.out (by decide)))) _).trans (((cell_far (p := ⟨gb252,_,none⟩) (by first | exact Kd.own_blk (Kd.R_ne HO248.out BK252.out (by decide)) | (rw [add_block];exact Kd.own_blk (Kd.R_ne HO248.out BK252.out (by decide))) | (show (Addr.add _ _).block ≠ _;rw [add_block];exact Kd.own_blk (Kd.R_ne HO248.out BK252.out (by decide))) | (dsimp only;exact Kd.own_blk (Kd.R_ne HO248.out BK252.out (by decide)))) _).trans (hHeld.2.2))))))))⟩ (fun hHeld => ?_)
     clear hK K
     refine done_ (done_of HT_.out (by kernel_rfl)) ?_
     have hnb18 := NB252_243.out
     have hnc18 := NB243_252.out
     have hcz19_0 : w13.cell? ⟨gb252,0,none⟩ = some (.int .i64 0) := (blk_cell BK252.out 0).trans rfl
     have hcz19_1 : w13.cell? ⟨gb252,1,none⟩ = some (.int .i64 0) := (blk_cell BK252.out 1).trans rfl
     have hcz19_2 : w13.cell? ⟨gb252,2,none⟩ = some (.int .i64 0) := (blk_cell BK252.out 2).trans rfl
     have hcz19_3 : w13.cell? ⟨gb252,3,none⟩ = some (.slice none 0 0) := (blk_cell BK252.out 3).trans rfl
     have hfz19_0 := blk_frozen BK252.out 0
     have hfz19_1 := blk_frozen BK252.out 1
     have hfz19_2 := blk_frozen BK252.out 2
     have hfz19_3 := blk_frozen BK252.out 3
     try go_wp2_with (first | ((with_reducible refine gate_callee (f := 47) rfl ?_);refine goesL_ (some 39) rfl rfl Try.func47 (by kernel_rfl) rfl #[.int .i64 (rd t244 1),.int .i64 (rd t244 2)] rfl eq_up ?_;(with_reducible refine (impl_Blocks.calls (rd t244 1) (rd t244 2) t253 _ A8.out).mono ?_);rintro e w' ⟨rfl,⟨nd,rfl⟩⟩;refine ⟨_,rfl,?_⟩))
     go_loopg [1,40] k (fun kq v1 v40 w' => ∃ (x1_1 : Int) (x40_1 : Int) (x244000_1 : Int) (x244001_1 : Int) (x244002_1 : Int) (x253003_1 : List (S66)) (u253003 : Value),v1 = .int .i64 x1_1 ∧ v40 = .int .i64 x40_1 ∧ Aside0 (impl_GetMan.l0 kq l0 x1_1 t253 x40_1 (rd t244 0) (rd t244 1) (rd t244 2) x253003_1 = some (r1,r2,r3,r4,r5,r6)) ∧ Aside0 (kq ≤ k) ∧ Aside0 (Kd.R k66 66 w' w.heap.size (fun _ => True) u253003 x253003_1) ∧ Aside0 (w'.heap[gb243]? = some (.cells #[.int .i64 x244000_1,.int .i64 x244001_1,.int .i64 x244002_1,(.slice none 0 0)] 31 (0,0))) ∧ Aside0 (w'.heap[gb252]? = some (.cells #[.int .i64 (rd t244 0),.int .i64 (rd t244 1),.int .i64 (rd t244 2),u253003] 31 (0,0))) ∧ Aside0 (Below w.heap.size w w'))
     case atStart => exact ⟨(t245),(0),(0),(0),(0),(([] : List (S66))),(.slice none 0 0),(by first | rfl | (simp;done) | (simp [*];done)),(by first | rfl | (simp;done) | (simp [*];done)),H',⟨Nat.le_refl _⟩,⟨by first | exact Kd.R_nil _ _ _ _ _ | exact Kd.N_nil _ _ _ _ _ | exact Kd.V_nil _ _ _ _ _ | exact Kd.Q_nil _ _ _ _ _ | exact Kd.S_nil _ _ _ _ _⟩,⟨by (with_reducible repeat (first | refine blk_drewN ?_ _ | refine blk_drew ?_ | refine blk_alloc ?_ _));refine blk_far ?_ NB243_252.out _;(with_reducible repeat (first | refine blk_drewN ?_ _ | refine blk_drew ?_ | refine blk_alloc ?_ _));refine blk_far ?_ NB243_252.out _;(with_reducible repeat (first | refine blk_drewN ?_ _ | refine blk_drew ?_ | refine blk_alloc ?_ _));refine blk_far ?_ NB243_252.out _;(with_reducible repeat (first | refine blk_drewN ?_ _ | refine blk_drew ?_ | refine blk_alloc ?_ _));refine blk_far ?_ NB243_252.out _;(with_reducible repeat (first | refine blk_drewN ?_ _ | refine blk_drew ?_ | refine blk_alloc ?_ _));exact BK243.out⟩,⟨by (with_reducible repeat (first | refine blk_drewN ?_ _ | refine blk_drew ?_ | refine blk_alloc ?_ _));refine blk_put (cs := #[.int .i64 (rd t244 0),.int .i64 (rd t244 1),.int .i64 (rd t244 2),.slice none 0 0]) ?_ 3 _ rfl;(with_reducible repeat (first | refine blk_drewN ?_ _ | refine blk_drew ?_ | refine blk_alloc ?_ _));refine blk_put (cs := #[.int .i64 (rd t244 0),.int .i64 (rd t244 1),.int .i64 0,.slice none 0 0]) ?_ 2 _ rfl;(with_reducible repeat (first | refine blk_drewN ?_ _ | refine blk_drew ?_ | refine blk_alloc ?_ _));refine blk_put (cs := #[.int .i64 (rd t244 0),.int .i64 0,.int .i64 0,.slice none 0 0]) ?_ 1 _ rfl;(with_reducible repeat (first | refine blk_drewN ?_ _ | refine blk_drew ?_ | refine blk_alloc ?_ _));refine blk_put (cs := #[.int .i64 0,.int .i64 0,.int .i64 0,.slice none 0 0]) ?_ 0 _ rfl;(with_reducible repeat (first | refine blk_drewN ?_ _ | refine blk_drew ?_ | refine blk_alloc ?_ _));exact BK252.out⟩,⟨by repeat (first | (with_reducible first | exact HB.out | apply below_alloc | apply pw_below_drewN | apply below_drew1 | refine below_set ?_ GE243.out | refine below_set ?_ GE252.out) | exact HB.out)⟩⟩
     case round =>
      clear H'
      try clear c1
      try clear p2
      try clear q2
      try clear hx2
      try clear qi2
      try clear c3
      try clear c4
      try clear c5
      try clear c5b0
      try clear c5b1
      try clear c6
      try clear c6b0
      try clear c6b1
      try clear c7
      try clear c7b0
      try clear c7b1
      try clear c18
      try clear hcz19_0
      try clear hcz19_1
      try clear hcz19_2
      try clear hcz19_3
      try clear hfz19_0
      try clear hfz19_1
      try clear hfz19_2
      try clear hfz19_3
      try clear hx249_0
      try clear hx250_0
      try clear hx251_0
      try clear p249
      try clear p250
      try clear p251
      try clear q249
      try clear q250
      try clear q251
      obtain ⟨x1_1,x40_1,x244000_1,x244001_1,x244002_1,x253003_1,u253003,rfl,rfl,HA,HK1,HO_253003,BK243,BK252,HB⟩ := hrel
      cases gk with
      | zero => exact absurd HA.out (by simp [impl_GetMan.l0])
      | succ k1 =>
       have H := HA.out
       clear HA
       simp only [impl_GetMan.l0] at H
       by_cases c20 : x40_1 < t253
       ·rw [if_pos c20] at H
        have c20b0 : decide (x40_1 < t253) = true := decide_eq_true c20
        clear c20
        replace H := Option.bind_eq_some_iff.mp H
        obtain ⟨⟨t255,t256,t257⟩,A210,H⟩ := H
        (try dsimp only at H)
        have A21 := Aside0.mk A210
        clear A210
        replace H := Option.bind_eq_some_iff.mp H
        obtain ⟨⟨t258,t259⟩,A220,H⟩ := H
        (try dsimp only at H)
        have A22 := Aside0.mk A220
        clear A220
        by_cases c23 : t257 = true
        ·subst c23
         rw [if_pos rfl] at H
         by_cases c24 : t259 = true
         ·subst c24
          rw [if_pos rfl] at H
          replace H := Option.bind_eq_some_iff.mp H
          obtain ⟨⟨t262,t263⟩,A250,H⟩ := H
          (try dsimp only at H)
          have A25 := Aside0.mk A250
          clear A250
          by_cases c26 : x253003_1.length < 8796093022208
          ·rw [if_pos c26] at H
           have LMc26 := Aside0.mk c26
           clear c26
           obtain ⟨y264,hy264⟩ : ∃ y_ : List (S66),y_ = (x253003_1 ++ [(⟨t262,t263⟩ : S66)]) := ⟨_,rfl⟩
           replace H : (impl_GetMan.l0 k1 l0 t256 t253 (wrap64 (x40_1 + 1)) (rd t244 0) (rd t244 1) (rd t244 2) y264) = some (r1,r2,r3,r4,r5,r6) := by first | (rw [hy264];with_reducible exact H) | (have H2_ := (Option.bind_some _ _).symm.trans H;rw [hy264];with_reducible exact H2_) | (have H2_ := (Option.bind_some _ _).symm.trans H;with_reducible exact H2_) | with_reducible exact H | (rw [hy264];exact H) | exact H
           have Ny264 := Aside0.mk hy264
           clear hy264
           have H' := Aside0.mk H
           clear H
           try go_wp2_with (first | ((with_reducible refine gate_callee (f := 74) rfl ?_);refine goesL_ (some 45) rfl rfl Try.func74 (by kernel_rfl) rfl #[.slice A0 l0.length c0,.int .i64 x1_1,.int .i64 8] rfl eq_up ?_;(with_reducible refine (impl_readVar.calls k1 _ _ l0 x1_1 8 t255 t256 true _ ?side1 ?side2 A21.out).mono ?_);(case side1 => repeat (first | exact (Kd.C_below HR0.out HB.out) | (with_reducible refine Kd.C_alloc ?_ _) | (with_reducible refine Kd.C_drewN ?_ _) | (with_reducible refine Kd.C_drew ?_)));(case side2 => exact HC0.out);rintro e w' ⟨rfl,⟨nd,rfl⟩⟩;refine ⟨_,rfl,?_⟩;(try (rw [drewN_self wr];generalize hq_ : World.drewN wr _ = wr;have n0_ : Aside0 (Kd.R k66 66 wr w.heap.size (fun _ => True) u253003 x253003_1) := ⟨by rw [← hq_];exact (Kd.R_up HO_253003.out)⟩;have n1_ : Aside0 (wr.heap[gb243]? = some (.cells #[.int .i64 x244000_1,.int .i64 x244001_1,.int .i64 x244002_1,.slice none 0 0] 31 (0,0))) := ⟨by rw [← hq_];exact (blk_up BK243.out)⟩;have n2_ : Aside0 (wr.heap[gb252]? = some (.cells #[.int .i64 (rd t244 0),.int .i64 (rd t244 1),.int .i64 (rd t244 2),u253003] 31 (0,0))) := ⟨by rw [← hq_];exact (blk_up BK252.out)⟩;have n3_ : Aside0 (Below w.heap.size w wr) := ⟨by rw [← hq_];exact (B_set HB.out)⟩;clear HO_253003 BK243 BK252 HB hq_;have HO_253003 := n0_;have BK243 := n1_;have BK252 := n2_;have HB := n3_;clear n0_ n1_ n2_ n3_))) | ((with_reducible refine gate_callee (f := 75) rfl ?_);refine goesL_ (some 51) rfl rfl Try.func75 (by kernel_rfl) rfl #[.int .i64 t255] rfl eq_up ?_;(with_reducible refine (impl_BytesOf.calls k1 t255 t258 true _ A22.out).mono ?_);rintro e w27 ⟨v260,rfl,ho0,hb⟩;refine ⟨_,rfl,?_⟩;have n0_ := Aside0.mk (Kd.R_below (Kd.R_up HO_253003.out) hb);have n1_ := Aside0.mk (Kd.R_lower ho0 (below_size (B_set HB.out)));have n2_ := Aside0.mk (blk_below (g := gb243) (o := .cells #[.int .i64 x244000_1,.int .i64 x244001_1,.int .i64 x244002_1,.slice none 0 0] 31 (0,0)) (blk_up BK243.out) hb);have n3_ := Aside0.mk (blk_below (g := gb252) (o := .cells #[.int .i64 (rd t244 0),.int .i64 (rd t244 1),.int .i64 (rd t244 2),u253003] 31 (0,0)) (blk_up BK252.out) hb);have n4_ := Aside0.mk (below_step (B_set HB.out) hb);clear HO_253003;clear BK243;clear BK252;clear HB;have HO_253003 := n0_;have HO261 := n1_;have BK243 := n2_;have BK252 := n3_;have HB := n4_;clear n0_ n1_ n2_ n3_ n4_;(try clear hb);(try clear hb2);(try clear hk);(try clear hi);(try clear ho0)))
           have n0_ := Aside0.mk (Kd.R_drew HO_253003.out)
           have n1_ := Aside0.mk (Kd.R_drew HO261.out)
           have n2_ := Aside0.mk (blk_drew BK243.out)
           have n3_ := Aside0.mk (blk_drew BK252.out)
           have n4_ := Aside0.mk (below_drew1 HB.out)
           clear HO_253003
           clear HO261
           clear BK243
           clear BK252
           clear HB
           have HO_253003 := n0_
           have HO261 := n1_
           have BK243 := n2_
           have BK252 := n3_
           have HB := n4_
           clear n0_ n1_ n2_ n3_ n4_
           obtain ⟨Ao29,co29,eo29⟩ := Kd.R_slice HO261.out
           (first | subst eo29 | (injection eo29 with f1_ f2_ f3_;have f4_ := f1_.symm;have f5_ := f3_.symm;clear f1_ f2_ f3_;subst f4_;subst f5_))
           refine start_ (n := 8) (S := fun w' => w'.cell? ⟨gb252,0,none⟩ = some (.int .i64 (rd t244 0)) ∧ w'.cell? ⟨gb252,1,none⟩ = some (.int .i64 (rd t244 1)) ∧ w'.cell? ⟨gb252,2,none⟩ = some (.int .i64 (rd t244 2)) ∧ w'.cell? ⟨gb252,3,none⟩ = some (u253003)) (ds := [7]) #[false,false,false,false,false,false,false,false] (by kernel_rfl) rfl rfl ⟨(blk_cell BK252.out 0).trans rfl,(blk_cell BK252.out 1).trans rfl,(blk_cell BK252.out 2).trans rfl,(blk_cell BK252.out 3).trans rfl⟩ (fun hHeld => ?_);refine with_tabW impl_GetMan.tab11 impl_GetMan.bits11 (fun HT_ HW_ => ?_)
           generalize w27.drew = w28 at HO_253003 HO261 BK243 BK252 HB hHeld ⊢
           refine pure_ (i := 0) (N := some 61) (v := ?_) (a' := ?_) #[true,false,false,false,false,false,false,false] rfl rfl (any_of HT_.out (by kernel_rfl)) (fun _ _ _ h => h) (Or.inl ⟨by rfl,?_⟩) ?_ ?_
           rotate_left
           ·intro w'
            go_simp
            with_reducible rfl
           rotate_left
           ·simp only [Act.put,List.setIfInBounds_toArray,List.set_cons_zero,List.set_cons_succ,i64_w,i32_w]
            rfl
           refine pure_ (i := 2) (N := some 63) (v := ?_) (a' := ?_) #[true,false,true,false,false,false,false,false] rfl rfl (any_of HT_.out (by kernel_rfl)) (fun _ _ _ h => h) (Or.inl ⟨by rfl,?_⟩) ?_ ?_
           rotate_left
           ·intro w'
            go_simp
            with_reducible rfl
           rotate_left
           ·simp only [Act.put,List.setIfInBounds_toArray,List.set_cons_zero,List.set_cons_succ,i64_w,i32_w]
            rfl
           refine take_ (i := 1) (N := some 62) (v := ?_) (a' := ?_) #[true,true,true,false,false,false,false,false] rfl rfl (take_ofW HT_.out HW_.out (by kernel_rfl)) (fun _ _ _ h => h) (Or.inl ⟨by rfl,?_⟩) hHeld ?_ ?_
           rotate_left
           ·rintro w' ⟨s0,s1,s2,s3⟩
            go_simp
            with_reducible rfl
           rotate_left
           ·simp only [Act.put,List.setIfInBounds_toArray,List.set_cons_zero,List.set_cons_succ,i64_w,i32_w]
            rfl
           refine one_ (i := 3) (N := some 64) #[true,true,true,true,false,false,false,false] rfl rfl (one_of HT_.out (by kernel_rfl)) (by decide) (fun K hK => ?_)
           refine goes_ Try.func76 (by kernel_rfl) rfl #[.slice Ao29 t258.length co29] (by rfl) rfl rfl eq_up ?_
           with_reducible refine (impl_SumOf.calls k1 _ _ t258 t262 t263 _ ?side1 ?side2 A25.out).mono ?_
           (case side1 => exact Kd.C_up (Kd.R_reads' HO261.out).2.2)
           (case side2 => exact (Kd.R_reads' HO261.out).2.1)
           rintro e w30 ⟨rfl,hb⟩
           refine ⟨_,rfl,?_⟩
           have n0_ := Aside0.mk (Kd.R_below (Kd.R_up HO_253003.out) hb)
           have n1_ := Aside0.mk (Kd.R_below (Kd.R_up HO261.out) hb)
           have n2_ := Aside0.mk (blk_below (g := gb243) (o := .cells #[.int .i64 x244000_1,.int .i64 x244001_1,.int .i64 x244002_1,.slice none 0 0] 31 (0,0)) (blk_up BK243.out) hb)
           have n3_ := Aside0.mk (blk_below (g := gb252) (o := .cells #[.int .i64 (rd t244 0),.int .i64 (rd t244 1),.int .i64 (rd t244 2),u253003] 31 (0,0)) (blk_up BK252.out) hb)
           have n4_ := Aside0.mk (below_step (B_set HB.out) hb)
           clear HO_253003
           clear HO261
           clear BK243
           clear BK252
           clear HB
           have HO_253003 := n0_
           have HO261 := n1_
           have BK243 := n2_
           have BK252 := n3_
           have HB := n4_
           clear n0_ n1_ n2_ n3_ n4_
           (try clear hb)
           (try clear hb2)
           (try clear hk)
           (try clear hi)
           refine hK.out _ _ ⟨(blk_cell BK252.out 0).trans rfl,(blk_cell BK252.out 1).trans rfl,(blk_cell BK252.out 2).trans rfl,(blk_cell BK252.out 3).trans rfl⟩ (fun hHeld => ?_)
           clear hK K
           refine norm_ (a' := ?_) ?_ ?_
           rotate_left
           ·show Act.put _ (some 64) _ = _
            simp only [Act.put,List.setIfInBounds_toArray,List.set_cons_zero,List.set_cons_succ,i64_w,i32_w]
            rfl
           refine one_ (i := 4) (N := some 65) #[true,true,true,true,true,false,false,false] rfl rfl (one_of HT_.out (by kernel_rfl)) (by decide) (fun K hK => ?_)
           refine value_ (w1 := ?_) (v := ?_) (by rfl) rfl ?_ ?_
           rotate_left 2
           ·go_simp
            constructor
            ·rfl
            ·rfl
           refine hK.out _ _ ⟨(blk_cell (blk_alloc BK252.out _) 0).trans rfl,(blk_cell (blk_alloc BK252.out _) 1).trans rfl,(blk_cell (blk_alloc BK252.out _) 2).trans rfl,(blk_cell (blk_alloc BK252.out _) 3).trans rfl⟩ (fun hHeld => ?_)
           clear hK K
           refine norm_ (a' := ?_) ?_ ?_
           rotate_left
           ·show Act.put _ (some 65) _ = _
            simp only [Act.put,List.setIfInBounds_toArray,List.set_cons_zero,List.set_cons_succ,i64_w,i32_w]
            rfl
           refine one_ (i := 5) (N := some 66) #[true,true,true,true,true,true,false,false] rfl rfl (one_of HT_.out (by kernel_rfl)) (by decide) (fun K hK => ?_)
           refine Kd.R_append_step k66 (w0 := w) w.heap.size (by rfl) (.tmp 62) (.tmp 65) 29 66 (.agg #[(.int .i64 0),(.int .i64 0)]) 16 rfl Try.underlying29 info66 rfl (by decide) (by omega) u253003 x253003_1 (⟨t262,t263⟩ : S66) [.int .i64 t262,.int .i64 t263] (fun _ => True) (fun _ => False) rfl rfl ?aP (fun _ hk => hk.elim) ?aF ?aO ?aB ?aS ?aL ?_
           (case aP => exact k66_mkM _ _ _ (⟨t262,t263⟩ : S66))
           (case aB => exact (B_set HB.out))
           (case aF => exact (fun _ _ => trivial))
           (case aO => exact (Kd.R_up HO_253003.out))
           (case aS => exact (below_size (B_set HB.out)))
           (case aL => have := LMc26.out;omega)
           intro v265 w31 ho hb hg hat
           rw [← Ny264.out] at ho
           have n0_ := Aside0.mk (blk_grown (g := gb243) (o := .cells #[.int .i64 x244000_1,.int .i64 x244001_1,.int .i64 x244002_1,.slice none 0 0] 31 (0,0)) (blk_up BK243.out) hg (Kd.R_ne HO_253003.out BK243.out (by decide)))
           have n1_ := Aside0.mk (blk_grown (g := gb252) (o := .cells #[.int .i64 (rd t244 0),.int .i64 (rd t244 1),.int .i64 (rd t244 2),u253003] 31 (0,0)) (blk_up BK252.out) hg (Kd.R_ne HO_253003.out BK252.out (by decide)))
           have n2_ := Aside0.mk (Kd.R_over' (Kd.R_up HO261.out) (Kd.R_typed (Kd.R_up HO_253003.out)) (by decide) hg)
           have n3_ := Aside0.mk (hb)
           have n4_ := Aside0.mk (ho)
           clear BK243
           clear BK252
           clear HO261
           clear HB
           clear HO_253003
           have BK243 := n0_
           have BK252 := n1_
           have HO261 := n2_
           have HB := n3_
           have HO266 := n4_
           clear n0_ n1_ n2_ n3_ n4_
           clear ho hb hg hat
           obtain ⟨Ao32,co32,eo32⟩ := Kd.R_slice HO266.out
           (first | subst eo32 | (injection eo32 with f1_ f2_ f3_;have f4_ := f1_.symm;have f5_ := f3_.symm;clear f1_ f2_ f3_;subst f4_;subst f5_))
           refine hK.out _ _ ⟨(blk_cell BK252.out 0).trans rfl,(blk_cell BK252.out 1).trans rfl,(blk_cell BK252.out 2).trans rfl,(blk_cell BK252.out 3).trans rfl⟩ (fun hHeld => ?_)
           clear hK K
           refine norm_ (a' := ?_) ?_ ?_
           rotate_left
           ·show Act.put _ (some 66) _ = _
            simp only [Act.put,List.setIfInBounds_toArray,List.set_cons_zero,List.set_cons_succ,i64_w,i32_w]
            rfl
           refine pure_ (i := 6) (N := some 67) (v := ?_) (a' := ?_) #[true,true,true,true,true,true,true,false] rfl rfl (any_of HT_.out (by kernel_rfl)) (fun _ _ _ h => h) (Or.inl ⟨by rfl,?_⟩) ?_ ?_
           rotate_left
           ·intro w'
            go_simp
            with_reducible rfl
           rotate_left
           ·simp only [Act.put,List.setIfInBounds_toArray,List.set_cons_zero,List.set_cons_succ,i64_w,i32_w]
            rfl
           refine last_ (i := 7) (N := none) #[true,true,true,true,true,true,true,true] rfl rfl (one_of HT_.out (by kernel_rfl)) (by decide) (fun K hK => ?_)
           have hs33 : w31.cell? ⟨gb252,3,none⟩ = some (u253003) := (blk_cell BK252.out 3).trans rfl
           have hfs33 := blk_frozen BK252.out 3
           have hns33_0 := NB243_252.out
           have hms33_0 := NB252_243.out
           refine skip_ (w1 := ?_) (by rfl) rfl ?_ ?_
           rotate_left
           ·go_simp
            rfl
           refine hK.out _ _ ?_
           clear hK K
           refine done_ (done_of HT_.out (by kernel_rfl)) ?_
           try go_wp2
           go_roundg k1
           case measure => have := HK1.out;omega
           case rel => exact ⟨(t256),(wrap64 (x40_1 + 1)),(x244000_1),(x244001_1),(x244002_1),(y264),(.slice Ao32 y264.length co32),(by first | rfl | (simp;done) | (simp [*];done)),(by first | rfl | (simp;done) | (simp [*];done)),H',⟨by have := HK1.out;omega⟩,⟨by (with_reducible repeat (first | apply Kd.R_alloc | apply Kd.R_drewN | apply Kd.R_drew));exact Kd.R_mono (Kd.R_far (p := ⟨gb252,3,none⟩) (Kd.R_types HO266.out BK252.out (by decide)) (fun _ hk => hk.2) (.slice Ao32 y264.length co32)) (fun _ hk => trivial)⟩,⟨by (with_reducible repeat (first | refine blk_drewN ?_ _ | refine blk_drew ?_ | refine blk_alloc ?_ _));refine blk_far ?_ NB243_252.out _;(with_reducible repeat (first | refine blk_drewN ?_ _ | refine blk_drew ?_ | refine blk_alloc ?_ _));exact BK243.out⟩,⟨by (with_reducible repeat (first | refine blk_drewN ?_ _ | refine blk_drew ?_ | refine blk_alloc ?_ _));refine blk_put (cs := #[.int .i64 (rd t244 0),.int .i64 (rd t244 1),.int .i64 (rd t244 2),u253003]) ?_ 3 _ rfl;(with_reducible repeat (first | refine blk_drewN ?_ _ | refine blk_drew ?_ | refine blk_alloc ?_ _));exact BK252.out⟩,⟨by repeat (first | (with_reducible first | exact HB.out | apply below_alloc | apply pw_below_drewN | apply below_drew1 | refine below_set ?_ GE243.out | refine below_set ?_ GE252.out) | exact HB.out)⟩⟩
          ·rw [if_neg c26] at H
           exact absurd H (by simp)
         ·replace c24 := Bool.eq_false_iff.mpr c24
          subst c24
          have H1 : (some (0,0,0,([] : List (S66)),0,false)) = some (r1,r2,r3,r4,r5,r6) := by rw [if_neg (show ¬ (false = true) by decide)] at H;exact H
          clear H
          have H := H1
          clear H1
          simp only [Option.some.injEq,Prod.mk.injEq] at H
          obtain ⟨rfl,rfl,rfl,rfl,rfl,rfl⟩ := H
          go_wp2_with (first | ((with_reducible refine gate_callee (f := 74) rfl ?_);refine goesL_ (some 45) rfl rfl Try.func74 (by kernel_rfl) rfl #[.slice A0 l0.length c0,.int .i64 x1_1,.int .i64 8] rfl eq_up ?_;(with_reducible refine (impl_readVar.calls k1 _ _ l0 x1_1 8 t255 t256 true _ ?side1 ?side2 A21.out).mono ?_);(case side1 => repeat (first | exact (Kd.C_below HR0.out HB.out) | (with_reducible refine Kd.C_alloc ?_ _) | (with_reducible refine Kd.C_drewN ?_ _) | (with_reducible refine Kd.C_drew ?_)));(case side2 => exact HC0.out);rintro e w' ⟨rfl,⟨nd,rfl⟩⟩;refine ⟨_,rfl,?_⟩;(try (rw [drewN_self wr];generalize hq_ : World.drewN wr _ = wr;have n0_ : Aside0 (Kd.R k66 66 wr w.heap.size (fun _ => True) u253003 x253003_1) := ⟨by rw [← hq_];exact (Kd.R_up HO_253003.out)⟩;have n1_ : Aside0 (wr.heap[gb243]? = some (.cells #[.int .i64 x244000_1,.int .i64 x244001_1,.int .i64 x244002_1,.slice none 0 0] 31 (0,0))) := ⟨by rw [← hq_];exact (blk_up BK243.out)⟩;have n2_ : Aside0 (wr.heap[gb252]? = some (.cells #[.int .i64 (rd t244 0),.int .i64 (rd t244 1),.int .i64 (rd t244 2),u253003] 31 (0,0))) := ⟨by rw [← hq_];exact (blk_up BK252.out)⟩;have n3_ : Aside0 (Below w.heap.size w wr) := ⟨by rw [← hq_];exact (B_set HB.out)⟩;clear HO_253003 BK243 BK252 HB hq_;have HO_253003 := n0_;have BK243 := n1_;have BK252 := n2_;have HB := n3_;clear n0_ n1_ n2_ n3_))) | ((with_reducible refine gate_callee (f := 75) rfl ?_);refine goesL_ (some 51) rfl rfl Try.func75 (by kernel_rfl) rfl #[.int .i64 t255] rfl eq_up ?_;(with_reducible refine (impl_BytesOf.calls k1 t255 t258 false _ A22.out).mono ?_);rintro e w34 ⟨v260,rfl,ho0,hb⟩;refine ⟨_,rfl,?_⟩;have n0_ := Aside0.mk (Kd.R_below (Kd.R_up HO_253003.out) hb);have n1_ := Aside0.mk (Kd.R_lower ho0 (below_size (B_set HB.out)));have n2_ := Aside0.mk (blk_below (g := gb243) (o := .cells #[.int .i64 x244000_1,.int .i64 x244001_1,.int .i64 x244002_1,.slice none 0 0] 31 (0,0)) (blk_up BK243.out) hb);have n3_ := Aside0.mk (blk_below (g := gb252) (o := .cells #[.int .i64 (rd t244 0),.int .i64 (rd t244 1),.int .i64 (rd t244 2),u253003] 31 (0,0)) (blk_up BK252.out) hb);have n4_ := Aside0.mk (below_step (B_set HB.out) hb);clear HO_253003;clear BK243;clear BK252;clear HB;have HO_253003 := n0_;have HO261 := n1_;have BK243 := n2_;have BK252 := n3_;have HB := n4_;clear n0_ n1_ n2_ n3_ n4_;(try clear hb);(try clear hb2);(try clear hk);(try clear hi);(try clear ho0);have hnb35 := NB243_252.out;have hnc35 := NB252_243.out;have hcz36_0 : w34.cell? ⟨gb243,0,none⟩ = some (.int .i64 x244000_1) := (blk_cell BK243.out 0).trans rfl;have hcz36_1 : w34.cell? ⟨gb243,1,none⟩ = some (.int .i64 x244001_1) := (blk_cell BK243.out 1).trans rfl;have hcz36_2 : w34.cell? ⟨gb243,2,none⟩ = some (.int .i64 x244002_1) := (blk_cell BK243.out 2).trans rfl;have hcz36_3 : w34.cell? ⟨gb243,3,none⟩ = some (.slice none 0 0) := (blk_cell BK243.out 3).trans rfl;have hfz36_0 := blk_frozen BK243.out 0;have hfz36_1 := blk_frozen BK243.out 1;have hfz36_2 := blk_frozen BK243.out 2;have hfz36_3 := blk_frozen BK243.out 3))
          refine bodyPost_ret (results_ctt rfl _ _ gb243 31 #[.int .i64 0,.int .i64 0,.int .i64 0,.slice none 0 0] (0,0) _ rfl (by (with_reducible repeat (first | refine blk_drewN ?_ _ | refine blk_drew ?_ | refine blk_alloc ?_ _));refine blk_put (cs := #[.int .i64 0,.int .i64 0,.int .i64 0,.slice none 0 0]) ?_ 3 _ rfl;(with_reducible repeat (first | refine blk_drewN ?_ _ | refine blk_drew ?_ | refine blk_alloc ?_ _));refine blk_put (cs := #[.int .i64 0,.int .i64 0,.int .i64 x244002_1,.slice none 0 0]) ?_ 2 _ rfl;(with_reducible repeat (first | refine blk_drewN ?_ _ | refine blk_drew ?_ | refine blk_alloc ?_ _));refine blk_put (cs := #[.int .i64 0,.int .i64 x244001_1,.int .i64 x244002_1,.slice none 0 0]) ?_ 1 _ rfl;(with_reducible repeat (first | refine blk_drewN ?_ _ | refine blk_drew ?_ | refine blk_alloc ?_ _));refine blk_put (cs := #[.int .i64 x244000_1,.int .i64 x244001_1,.int .i64 x244002_1,.slice none 0 0]) ?_ 0 _ rfl;(with_reducible repeat (first | refine blk_drewN ?_ _ | refine blk_drew ?_ | refine blk_alloc ?_ _));exact BK243.out) Try.underlying31 rfl (by kernel_rfl)) rfl ?_
          exact ⟨_,by first | rfl | (simp [errW_none,errW_some] <;> rfl) | (simp [*,errW_none,errW_some] <;> rfl),by first | exact Kd.R_nil _ _ _ _ _ | exact Kd.N_nil _ _ _ _ _ | exact Kd.V_nil _ _ _ _ _ | exact Kd.Q_nil _ _ _ _ _ | exact Kd.S_nil _ _ _ _ _,by repeat (first | (with_reducible first | exact HB.out | apply below_alloc | apply pw_below_drewN | apply below_drew1 | refine below_set ?_ GE243.out | refine below_set ?_ GE252.out) | exact HB.out)⟩
        ·replace c23 := Bool.eq_false_iff.mpr c23
         subst c23
         have H1 : (some (0,0,0,([] : List (S66)),0,false)) = some (r1,r2,r3,r4,r5,r6) := by rw [if_neg (show ¬ (false = true) by decide)] at H;exact H
         clear H
         have H := H1
         clear H1
         simp only [Option.some.injEq,Prod.mk.injEq] at H
         obtain ⟨rfl,rfl,rfl,rfl,rfl,rfl⟩ := H
         go_wp2_with (first | ((with_reducible refine gate_callee (f := 74) rfl ?_);refine goesL_ (some 45) rfl rfl Try.func74 (by kernel_rfl) rfl #[.slice A0 l0.length c0,.int .i64 x1_1,.int .i64 8] rfl eq_up ?_;(with_reducible refine (impl_readVar.calls k1 _ _ l0 x1_1 8 t255 t256 false _ ?side1 ?side2 A21.out).mono ?_);(case side1 => repeat (first | exact (Kd.C_below HR0.out HB.out) | (with_reducible refine Kd.C_alloc ?_ _) | (with_reducible refine Kd.C_drewN ?_ _) | (with_reducible refine Kd.C_drew ?_)));(case side2 => exact HC0.out);rintro e w' ⟨rfl,⟨nd,rfl⟩⟩;refine ⟨_,rfl,?_⟩;(try (rw [drewN_self wr];generalize hq_ : World.drewN wr _ = wr;have n0_ : Aside0 (Kd.R k66 66 wr w.heap.size (fun _ => True) u253003 x253003_1) := ⟨by rw [← hq_];exact (Kd.R_up HO_253003.out)⟩;have n1_ : Aside0 (wr.heap[gb243]? = some (.cells #[.int .i64 x244000_1,.int .i64 x244001_1,.int .i64 x244002_1,.slice none 0 0] 31 (0,0))) := ⟨by rw [← hq_];exact (blk_up BK243.out)⟩;have n2_ : Aside0 (wr.heap[gb252]? = some (.cells #[.int .i64 (rd t244 0),.int .i64 (rd t244 1),.int .i64 (rd t244 2),u253003] 31 (0,0))) := ⟨by rw [← hq_];exact (blk_up BK252.out)⟩;have n3_ : Aside0 (Below w.heap.size w wr) := ⟨by rw [← hq_];exact (B_set HB.out)⟩;clear HO_253003 BK243 BK252 HB hq_;have HO_253003 := n0_;have BK243 := n1_;have BK252 := n2_;have HB := n3_;clear n0_ n1_ n2_ n3_))) | ((with_reducible refine gate_callee (f := 75) rfl ?_);refine goesL_ (some 51) rfl rfl Try.func75 (by kernel_rfl) rfl #[.int .i64 t255] rfl eq_up ?_;(with_reducible refine (impl_BytesOf.calls k1 t255 t258 t259 _ A22.out).mono ?_);rintro e w37 ⟨v260,rfl,ho0,hb⟩;refine ⟨_,rfl,?_⟩;have n0_ := Aside0.mk (Kd.R_below (Kd.R_up HO_253003.out) hb);have n1_ := Aside0.mk (Kd.R_lower ho0 (below_size (B_set HB.out)));have n2_ := Aside0.mk (blk_below (g := gb243) (o := .cells #[.int .i64 x244000_1,.int .i64 x244001_1,.int .i64 x244002_1,.slice none 0 0] 31 (0,0)) (blk_up BK243.out) hb);have n3_ := Aside0.mk (blk_below (g := gb252) (o := .cells #[.int .i64 (rd t244 0),.int .i64 (rd t244 1),.int .i64 (rd t244 2),u253003] 31 (0,0)) (blk_up BK252.out) hb);have n4_ := Aside0.mk (below_step (B_set HB.out) hb);clear HO_253003;clear BK243;clear BK252;clear HB;have HO_253003 := n0_;have HO261 := n1_;have BK243 := n2_;have BK252 := n3_;have HB := n4_;clear n0_ n1_ n2_ n3_ n4_;(try clear hb);(try clear hb2);(try clear hk);(try clear hi);(try clear ho0);have hnb38 := NB243_252.out;have hnc38 := NB252_243.out;have hcz39_0 : w37.cell? ⟨gb243,0,none⟩ = some (.int .i64 x244000_1) := (blk_cell BK243.out 0).trans rfl;have hcz39_1 : w37.cell? ⟨gb243,1,none⟩ = some (.int .i64 x244001_1) := (blk_cell BK243.out 1).trans rfl;have hcz39_2 : w37.cell? ⟨gb243,2,none⟩ = some (.int .i64 x244002_1) := (blk_cell BK243.out 2).trans rfl;have hcz39_3 : w37.cell? ⟨gb243,3,none⟩ = some (.slice none 0 0) := (blk_cell BK243.out 3).trans rfl;have hfz39_0 := blk_frozen BK243.out 0;have hfz39_1 := blk_frozen BK243.out 1;have hfz39_2 := blk_frozen BK243.out 2;have hfz39_3 := blk_frozen BK243.out 3))
         refine bodyPost_ret (results_ctt rfl _ _ gb243 31 #[.int .i64 0,.int .i64 0,.int .i64 0,.slice none 0 0] (0,0) _ rfl (by (with_reducible repeat (first | refine blk_drewN ?_ _ | refine blk_drew ?_ | refine blk_alloc ?_ _));refine blk_put (cs := #[.int .i64 0,.int .i64 0,.int .i64 0,.slice none 0 0]) ?_ 3 _ rfl;(with_reducible repeat (first | refine blk_drewN ?_ _ | refine blk_drew ?_ | refine blk_alloc ?_ _));refine blk_put (cs := #[.int .i64 0,.int .i64 0,.int .i64 x244002_1,.slice none 0 0]) ?_ 2 _ rfl;(with_reducible repeat (first | refine blk_drewN ?_ _ | refine blk_drew ?_ | refine blk_alloc ?_ _));refine blk_put (cs := #[.int .i64 0,.int .i64 x244001_1,.int .i64 x244002_1,.slice none 0 0]) ?_ 1 _ rfl;(with_reducible repeat (first | refine blk_drewN ?_ _ | refine blk_drew ?_ | refine blk_alloc ?_ _));refine blk_put (cs := #[.int .i64 x244000_1,.int .i64 x244001_1,.int .i64 x244002_1,.slice none 0 0]) ?_ 0 _ rfl;(with_reducible repeat (first | refine blk_drewN ?_ _ | refine blk_drew ?_ | refine blk_alloc ?_ _));exact BK243.out) Try.underlying31 rfl (by kernel_rfl)) rfl ?_
         exact ⟨_,by first | rfl | (simp [errW_none,errW_some] <;> rfl) | (simp [*,errW_none,errW_some] <;> rfl),by first | exact Kd.R_nil _ _ _ _ _ | exact Kd.N_nil _ _ _ _ _ | exact Kd.V_nil _ _ _ _ _ | exact Kd.Q_nil _ _ _ _ _ | exact Kd.S_nil _ _ _ _ _,by repeat (first | (with_reducible first | exact HB.out | apply below_alloc | apply pw_below_drewN | apply below_drew1 | refine below_set ?_ GE243.out | refine below_set ?_ GE252.out) | exact HB.out)⟩
       ·rw [if_neg c20] at H
        have c20b0 : decide (x40_1 < t253) = false := decide_eq_false c20
        clear c20
        replace H := Option.bind_eq_some_iff.mp H
        obtain ⟨t254,A400,H⟩ := H
        (try dsimp only at H)
        have A40 := Aside0.mk A400
        clear A400
        by_cases c41 : t254 = true
        ·subst c41
         rw [if_pos rfl] at H
         simp only [Option.some.injEq,Prod.mk.injEq] at H
         obtain ⟨rfl,rfl,rfl,rfl,rfl,rfl⟩ := H
         have hnb42 := NB252_243.out
         have hnc42 := NB243_252.out
         have hcz43_0 : wr.cell? ⟨gb252,0,none⟩ = some (.int .i64 (rd t244 0)) := (blk_cell BK252.out 0).trans rfl
         have hcz43_1 : wr.cell? ⟨gb252,1,none⟩ = some (.int .i64 (rd t244 1)) := (blk_cell BK252.out 1).trans rfl
         have hcz43_2 : wr.cell? ⟨gb252,2,none⟩ = some (.int .i64 (rd t244 2)) := (blk_cell BK252.out 2).trans rfl
         have hcz43_3 : wr.cell? ⟨gb252,3,none⟩ = some (u253003) := (blk_cell BK252.out 3).trans rfl
         have hfz43_0 := blk_frozen BK252.out 0
         have hfz43_1 := blk_frozen BK252.out 1
         have hfz43_2 := blk_frozen BK252.out 2
         have hfz43_3 := blk_frozen BK252.out 3
         obtain ⟨Ao44,co44,eo44⟩ := Kd.R_slice HO_253003.out
         subst eo44
         go_wp2_with (first | ((with_reducible refine gate_callee (f := 43) rfl ?_);refine goesL_ (some 71) rfl rfl Try.func43 (by kernel_rfl) rfl #[.agg #[.int .i64 (rd t244 0),.int .i64 (rd t244 1),.int .i64 (rd t244 2),.slice Ao44 x253003_1.length co44]] rfl eq_up ?_;(with_reducible refine (impl_ManOk.calls k1 (rd t244 0) (rd t244 1) (rd t244 2) _ _ x253003_1 true _ ?side1 ?side2 A40.out).mono ?_);(case side1 => exact Kd.C_up (Kd.R_reads' HO_253003.out).2.2);(case side2 => exact (Kd.R_reads' HO_253003.out).2.1);rintro e w45 ⟨rfl,hb⟩;refine ⟨_,rfl,?_⟩;have n0_ := Aside0.mk (Kd.R_below (Kd.R_up HO_253003.out) hb);have n1_ := Aside0.mk (blk_below (g := gb243) (o := .cells #[.int .i64 x244000_1,.int .i64 x244001_1,.int .i64 x244002_1,.slice none 0 0] 31 (0,0)) (blk_up BK243.out) hb);have n2_ := Aside0.mk (blk_below (g := gb252) (o := .cells #[.int .i64 (rd t244 0),.int .i64 (rd t244 1),.int .i64 (rd t244 2),.slice Ao44 x253003_1.length co44] 31 (0,0)) (blk_up BK252.out) hb);have n3_ := Aside0.mk (below_step (B_set HB.out) hb);clear HO_253003;clear BK243;clear BK252;clear HB;have HO_253003 := n0_;have BK243 := n1_;have BK252 := n2_;have HB := n3_;clear n0_ n1_ n2_ n3_;(try clear hb);(try clear hb2);(try clear hk);(try clear hi);have hcz46_0 : w45.cell? ⟨gb252,0,none⟩ = some (.int .i64 (rd t244 0)) := (blk_cell BK252.out 0).trans rfl;have hcz46_1 : w45.cell? ⟨gb252,1,none⟩ = some (.int .i64 (rd t244 1)) := (blk_cell BK252.out 1).trans rfl;have hcz46_2 : w45.cell? ⟨gb252,2,none⟩ = some (.int .i64 (rd t244 2)) := (blk_cell BK252.out 2).trans rfl;have hcz46_3 : w45.cell? ⟨gb252,3,none⟩ = some (.slice Ao44 x253003_1.length co44) := (blk_cell BK252.out 3).trans rfl;have hfz46_0 := blk_frozen BK252.out 0;have hfz46_1 := blk_frozen BK252.out 1;have hfz46_2 := blk_frozen BK252.out 2;have hfz46_3 := blk_frozen BK252.out 3;have hcz47_0 : w45.cell? ⟨gb243,0,none⟩ = some (.int .i64 x244000_1) := (blk_cell BK243.out 0).trans rfl;have hcz47_1 : w45.cell? ⟨gb243,1,none⟩ = some (.int .i64 x244001_1) := (blk_cell BK243.out 1).trans rfl;have hcz47_2 : w45.cell? ⟨gb243,2,none⟩ = some (.int .i64 x244002_1) := (blk_cell BK243.out 2).trans rfl;have hcz47_3 : w45.cell? ⟨gb243,3,none⟩ = some (.slice none 0 0) := (blk_cell BK243.out 3).trans rfl;have hfz47_0 := blk_frozen BK243.out 0;have hfz47_1 := blk_frozen BK243.out 1;have hfz47_2 := blk_frozen BK243.out 2;have hfz47_3 := blk_frozen BK243.out 3))
         refine bodyPost_ret (results_ctt rfl _ _ gb243 31 #[.int .i64 (rd t244 0),.int .i64 (rd t244 1),.int .i64 (rd t244 2),.slice Ao44 x253003_1.length co44] (0,0) _ rfl (by (with_reducible repeat (first | refine blk_drewN ?_ _ | refine blk_drew ?_ | refine blk_alloc ?_ _));refine blk_put (cs := #[.int .i64 (rd t244 0),.int .i64 (rd t244 1),.int .i64 (rd t244 2),.slice none 0 0]) ?_ 3 _ rfl;(with_reducible repeat (first | refine blk_drewN ?_ _ | refine blk_drew ?_ | refine blk_alloc ?_ _));refine blk_put (cs := #[.int .i64 (rd t244 0),.int .i64 (rd t244 1),.int .i64 x244002_1,.slice none 0 0]) ?_ 2 _ rfl;(with_reducible repeat (first | refine blk_drewN ?_ _ | refine blk_drew ?_ | refine blk_alloc ?_ _));refine blk_put (cs := #[.int .i64 (rd t244 0),.int .i64 x244001_1,.int .i64 x244002_1,.slice none 0 0]) ?_ 1 _ rfl;(with_reducible repeat (first | refine blk_drewN ?_ _ | refine blk_drew ?_ | refine blk_alloc ?_ _));refine blk_put (cs := #[.int .i64 x244000_1,.int .i64 x244001_1,.int .i64 x244002_1,.slice none 0 0]) ?_ 0 _ rfl;(with_reducible repeat (first | refine blk_drewN ?_ _ | refine blk_drew ?_ | refine blk_alloc ?_ _));exact BK243.out) Try.underlying31 rfl (by kernel_rfl)) rfl ?_
         exact ⟨_,by first | rfl | (simp [errW_none,errW_some] <;> rfl) | (simp [*,errW_none,errW_some] <;> rfl),by (with_reducible repeat (first | apply Kd.R_alloc | apply Kd.R_drewN | apply Kd.R_drew));exact Kd.R_mono (Kd.R_far (p := ⟨gb243,3,none⟩) (Kd.R_far (p := ⟨gb243,2,none⟩) (Kd.R_far (p := ⟨gb243,1,none⟩) (Kd.R_far (p := ⟨gb243,0,none⟩) (Kd.R_types HO_253003.out BK243.out (by decide)) (fun _ hk => hk.2) (.int .i64 (rd t244 0))) (fun _ hk => hk.2) (.int .i64 (rd t244 1))) (fun _ hk => hk.2) (.int .i64 (rd t244 2))) (fun _ hk => hk.2) (.slice Ao44 x253003_1.length co44)) (fun _ hk => trivial),by repeat (first | (with_reducible first | exact HB.out | apply below_alloc | apply pw_below_drewN | apply below_drew1 | refine below_set ?_ GE243.out | refine below_set ?_ GE252.out) | exact HB.out)⟩
        ·replace c41 := Bool.eq_false_iff.mpr c41
         subst c41
         have H1 : (some (0,0,0,([] : List (S66)),0,false)) = some (r1,r2,r3,r4,r5,r6) := by rw [if_neg (show ¬ (false = true) by decide)] at H;exact H
         clear H
         have H := H1
         clear H1
         simp only [Option.some.injEq,Prod.mk.injEq] at H
         obtain ⟨rfl,rfl,rfl,rfl,rfl,rfl⟩ := H
         have hnb48 := NB252_243.out
         have hnc48 := NB243_252.out
         have hcz49_0 : wr.cell? ⟨gb252,0,none⟩ = some (.int .i64 (rd t244 0)) := (blk_cell BK252.out 0).trans rfl
         have hcz49_1 : wr.cell? ⟨gb252,1,none⟩ = some (.int .i64 (rd t244 1)) := (blk_cell BK252.out 1).trans rfl
         have hcz49_2 : wr.cell? ⟨gb252,2,none⟩ = some (.int .i64 (rd t244 2)) := (blk_cell BK252.out 2).trans rfl
         have hcz49_3 : wr.cell? ⟨gb252,3,none⟩ = some (u253003) := (blk_cell BK252.out 3).trans rfl
         have hfz49_0 := blk_frozen BK252.out 0
         have hfz49_1 := blk_frozen BK252.out 1
         have hfz49_2 := blk_frozen BK252.out 2
         have hfz49_3 := blk_frozen BK252.out 3
         obtain ⟨Ao50,co50,eo50⟩ := Kd.R_slice HO_253003.out
         subst eo50
         go_wp2_with (first | ((with_reducible refine gate_callee (f := 43) rfl ?_);refine goesL_ (some 71) rfl rfl Try.func43 (by kernel_rfl) rfl #[.agg #[.int .i64 (rd t244 0),.int .i64 (rd t244 1),.int .i64 (rd t244 2),.slice Ao50 x253003_1.length co50]] rfl eq_up ?_;(with_reducible refine (impl_ManOk.calls k1 (rd t244 0) (rd t244 1) (rd t244 2) _ _ x253003_1 false _ ?side1 ?side2 A40.out).mono ?_);(case side1 => exact Kd.C_up (Kd.R_reads' HO_253003.out).2.2);(case side2 => exact (Kd.R_reads' HO_253003.out).2.1);rintro e w51 ⟨rfl,hb⟩;refine ⟨_,rfl,?_⟩;have n0_ := Aside0.mk (Kd.R_below (Kd.R_up HO_253003.out) hb);have n1_ := Aside0.mk (blk_below (g := gb243) (o := .cells #[.int .i64 x244000_1,.int .i64 x244001_1,.int .i64 x244002_1,.slice none 0 0] 31 (0,0)) (blk_up BK243.out) hb);have n2_ := Aside0.mk (blk_below (g := gb252) (o := .cells #[.int .i64 (rd t244 0),.int .i64 (rd t244 1),.int .i64 (rd t244 2),.slice Ao50 x253003_1.length co50] 31 (0,0)) (blk_up BK252.out) hb);have n3_ := Aside0.mk (below_step (B_set HB.out) hb);clear HO_253003;clear BK243;clear BK252;clear HB;have HO_253003 := n0_;have BK243 := n1_;have BK252 := n2_;have HB := n3_;clear n0_ n1_ n2_ n3_;(try clear hb);(try clear hb2);(try clear hk);(try clear hi);have hcz52_0 : w51.cell? ⟨gb243,0,none⟩ = some (.int .i64 x244000_1) := (blk_cell BK243.out 0).trans rfl;have hcz52_1 : w51.cell? ⟨gb243,1,none⟩ = some (.int .i64 x244001_1) := (blk_cell BK243.out 1).trans rfl;have hcz52_2 : w51.cell? ⟨gb243,2,none⟩ = some (.int .i64 x244002_1) := (blk_cell BK243.out 2).trans rfl;have hcz52_3 : w51.cell? ⟨gb243,3,none⟩ = some (.slice none 0 0) := (blk_cell BK243.out 3).trans rfl;have hfz52_0 := blk_frozen BK243.out 0;have hfz52_1 := blk_frozen BK243.out 1;have hfz52_2 := blk_frozen BK243.out 2;have hfz52_3 := blk_frozen BK243.out 3))
         refine bodyPost_ret (results_ctt rfl _ _ gb243 31 #[.int .i64 0,.int .i64 0,.int .i64 0,.slice none 0 0] (0,0) _ rfl (by (with_reducible repeat (first | refine blk_drewN ?_ _ | refine blk_drew ?_ | refine blk_alloc ?_ _));refine blk_put (cs := #[.int .i64 0,.int .i64 0,.int .i64 0,.slice none 0 0]) ?_ 3 _ rfl;(with_reducible repeat (first | refine blk_drewN ?_ _ | refine blk_drew ?_ | refine blk_alloc ?_ _));refine blk_put (cs := #[.int .i64 0,.int .i64 0,.int .i64 x244002_1,.slice none 0 0]) ?_ 2 _ rfl;(with_reducible repeat (first | refine blk_drewN ?_ _ | refine blk_drew ?_ | refine blk_alloc ?_ _));refine blk_put (cs := #[.int .i64 0,.int .i64 x244001_1,.int .i64 x244002_1,.slice none 0 0]) ?_ 1 _ rfl;(with_reducible repeat (first | refine blk_drewN ?_ _ | refine blk_drew ?_ | refine blk_alloc ?_ _));refine blk_put (cs := #[.int .i64 x244000_1,.int .i64 x244001_1,.int .i64 x244002_1,.slice none 0 0]) ?_ 0 _ rfl;(with_reducible repeat (first | refine blk_drewN ?_ _ | refine blk_drew ?_ | refine blk_alloc ?_ _));exact BK243.out) Try.underlying31 rfl (by kernel_rfl)) rfl ?_
         exact ⟨_,by first | rfl | (simp [errW_none,errW_some] <;> rfl) | (simp [*,errW_none,errW_some] <;> rfl),by first | exact Kd.R_nil _ _ _ _ _ | exact Kd.N_nil _ _ _ _ _ | exact Kd.V_nil _ _ _ _ _ | exact Kd.Q_nil _ _ _ _ _ | exact Kd.S_nil _ _ _ _ _,by repeat (first | (with_reducible first | exact HB.out | apply below_alloc | apply pw_below_drewN | apply below_drew1 | refine below_set ?_ GE243.out | refine below_set ?_ GE252.out) | exact HB.out)⟩
    ·rw [if_neg c7] at H
     exact absurd H (by simp)
   ·rw [if_neg c6] at H
    exact absurd H (by simp)
  ·rw [if_neg c5] at H
   exact absurd H (by simp)
 ·replace c4 := Bool.eq_false_iff.mpr c4
  subst c4
  have H1 : (some (0,0,0,([] : List (S66)),0,false)) = some (r1,r2,r3,r4,r5,r6) := by rw [if_neg (show ¬ (false = true) by decide)] at H;exact H
  clear H
  have H := H1
  clear H1
  simp only [Option.some.injEq,Prod.mk.injEq] at H
  obtain ⟨rfl,rfl,rfl,rfl,rfl,rfl⟩ := H
  go_enter Try.func32,Try.ntmps32
  go_wp2_with (first | ((with_reducible refine gate_dst (N := 4) rfl ?_);refine box_event ?hg (N := 4) ?hd (cs := #[.int .i64 0,.int .i64 0,.int .i64 0,.slice none 0 0]) (t := 31) ?hr ?_;(case hd => rfl);(case hg => rfl);(case hr => first | (go_simp;done) | (go_simp;rfl));intro gb243 hg w53 hbox hb;have n0_ := Aside0.mk (below_step (B_up HB.out) hb);have n1_ := Aside0.mk (hbox);have n2_ := Aside0.mk ((by rw [hg];exact (below_size (B_up HB.out)) : w.heap.size ≤ gb243));have n3_ := Aside0.mk ((by rw [hg];exact (below_size (B_up HB.out)) : w.heap.size ≤ gb243));clear HB;have HB := n0_;have BK243 := n1_;have GW243 := n2_;have GE243 := n3_;clear n0_ n1_ n2_ n3_;clear hb hbox hg) | ((with_reducible refine gate_callee (f := 73) rfl ?_);refine goesL_ (some 18) rfl rfl Try.func73 (by kernel_rfl) rfl #[.slice A0 l0.length c0,.int .i64 a1,.int .i64 3] rfl eq_up ?_;(with_reducible refine (impl_readVars.calls k _ _ l0 a1 3 t244 t245 false _ ?side1 ?side2 A3.out).mono ?_);(case side1 => repeat (first | exact (Kd.C_below HR0.out HB.out) | (with_reducible refine Kd.C_alloc ?_ _) | (with_reducible refine Kd.C_drewN ?_ _) | (with_reducible refine Kd.C_drew ?_)));(case side2 => exact HC0.out);rintro e w54 ⟨v247,rfl,ho0,hb⟩;refine ⟨_,rfl,?_⟩;have n0_ := Aside0.mk (Kd.R_lower ho0 (below_size (B_set HB.out)));have n1_ := Aside0.mk (blk_below (g := gb243) (o := .cells #[.int .i64 0,.int .i64 0,.int .i64 0,.slice none 0 0] 31 (0,0)) (blk_up BK243.out) hb);have n2_ := Aside0.mk (below_step (B_set HB.out) hb);clear BK243;clear HB;have HO248 := n0_;have BK243 := n1_;have HB := n2_;clear n0_ n1_ n2_;(try clear hb);(try clear hb2);(try clear hk);(try clear hi);(try clear ho0);have hcz55_0 : w54.cell? ⟨gb243,0,none⟩ = some (.int .i64 0) := (blk_cell BK243.out 0).trans rfl;have hcz55_1 : w54.cell? ⟨gb243,1,none⟩ = some (.int .i64 0) := (blk_cell BK243.out 1).trans rfl;have hcz55_2 : w54.cell? ⟨gb243,2,none⟩ = some (.int .i64 0) := (blk_cell BK243.out 2).trans rfl;have hcz55_3 : w54.cell? ⟨gb243,3,none⟩ = some (.slice none 0 0) := (blk_cell BK243.out 3).trans rfl;have hfz55_0 := blk_frozen BK243.out 0;have hfz55_1 := blk_frozen BK243.out 1;have hfz55_2 := blk_frozen BK243.out 2;have hfz55_3 := blk_frozen BK243.out 3))
  refine bodyPost_ret (results_ctt rfl _ _ gb243 31 #[.int .i64 0,.int .i64 0,.int .i64 0,.slice none 0 0] (0,0) _ rfl (by (with_reducible repeat (first | refine blk_drewN ?_ _ | refine blk_drew ?_ | refine blk_alloc ?_ _));refine blk_put (cs := #[.int .i64 0,.int .i64 0,.int .i64 0,.slice none 0 0]) ?_ 3 _ rfl;(with_reducible repeat (first | refine blk_drewN ?_ _ | refine blk_drew ?_ | refine blk_alloc ?_ _));refine blk_put (cs := #[.int .i64 0,.int .i64 0,.int .i64 0,.slice none 0 0]) ?_ 2 _ rfl;(with_reducible repeat (first | refine blk_drewN ?_ _ | refine blk_drew ?_ | refine blk_alloc ?_ _));refine blk_put (cs := #[.int .i64 0,.int .i64 0,.int .i64 0,.slice none 0 0]) ?_ 1 _ rfl;(with_reducible repeat (first | refine blk_drewN ?_ _ | refine blk_drew ?_ | refine blk_alloc ?_ _));refine blk_put (cs := #[.int .i64 0,.int .i64 0,.int .i64 0,.slice none 0 0]) ?_ 0 _ rfl;(with_reducible repeat (first | refine blk_drewN ?_ _ | refine blk_drew ?_ | refine blk_alloc ?_ _));exact BK243.out) Try.underlying31 rfl (by kernel_rfl)) rfl ?_
  exact ⟨_,by first | rfl | (simp [errW_none,errW_some] <;> rfl) | (simp [*,errW_none,errW_some] <;> rfl),by first | exact Kd.R_nil _ _ _ _ _ | exact Kd.N_nil _ _ _ _ _ | exact Kd.V_nil _ _ _ _ _ | exact Kd.Q_nil _ _ _ _ _ | exact Kd.S_nil _ _ _ _ _,by repeat (first | (with_reducible first | exact HB.out | apply below_alloc | apply pw_below_drewN | apply below_drew1 | refine below_set ?_ GE243.out) | exact HB.out)⟩

end Go.Proofs.Ytdkgcloempbgpaa.PFnExactGetMan
