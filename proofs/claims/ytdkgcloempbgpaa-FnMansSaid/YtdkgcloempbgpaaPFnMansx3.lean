-- by a program of this session (a turned copy of the print: make with a capacity)
import Derived.Test.YtdkgcloempbgpaaVMade1
import Derived.Test.YtdkgcloempbgpaaPFnMansx0
import Derived.Test.YtdkgcloempbgpaaPFnMansx2
namespace Go.Proofs.Ytdkgcloempbgpaa.PFnMans
open Go.RowKit Go.Proofs.YtdkgcloempbgpaaW.PrintWords Go.Proofs.YtdkgcloempbgpaaW.PrintLast Go.Proofs.YtdkgcloempbgpaaW.PrintMore
attribute [local go_sem] max2_int min2_int max_two min_two max_three min_three max_four min_four   -- for this text's walks alone
set_option linter.unusedVariables false
set_option linter.unusedSimpArgs false

/-! ### impl_ManOk: function 43 -/
mutual
def impl_ManOk.j0 : Nat → Bool → Int → Int → Int → List (S66) → Option (Bool)
 | 0,_,_,_,_,_ => none
 | k + 1,x33,x120000,x120001,x120002,x120003 => if x33 = true then (some false) else (impl_ManOk.l0 k x120003 (x120003.length : Int) 0 x120000 x120001 x120002 x120003)
def impl_ManOk.l0 : Nat → List (S66) → Int → Int → Int → Int → Int → List (S66) → Option (Bool)
 | 0,_,_,_,_,_,_,_ => none
 | k + 1,x35,x36,x37,x120000,x120001,x120002,x120003 => if x37 < x36 then (if 0 ≤ x37 then (if x37 < (x35.length : Int) then ((impl_BytesOf.f k ((rd_T66 x35 x37).f1)).bind fun bt126 => ((impl_SpanOf.f x120001 x120002 x37).bind fun bt130 => (if bt126.2 = true then (if (bt126.1.length : Int) = bt130.2 then ((impl_WeakOf.f k bt126.1).bind fun t132 => (if t132 = ((rd_T66 x35 x37).f0) then (impl_ManOk.l0 k x35 x36 (wrap64 (x37 + 1)) x120000 x120001 x120002 x120003) else (some false))) else (some false)) else (some false)))) else (none)) else (none)) else (some true)
end
def impl_ManOk.f (k : Nat) (a0_0 : Int) (a0_1 : Int) (a0_2 : Int) (l0_3 : List (S66)) : Option (Bool) := (impl_isZeroMan.f a0_0 a0_1 a0_2 l0_3).bind fun t120 => (if t120 = true then (some true) else ((impl_within.f a0_0 1 1000000).bind fun t121 => (if t121 = true then ((impl_SizeOk.f a0_1 a0_2).bind fun t122 => (if t122 = true then ((impl_Blocks.f a0_1 a0_2).bind fun t123 => (impl_ManOk.j0 k ((l0_3.length : Int) != t123) a0_0 a0_1 a0_2 l0_3)) else (impl_ManOk.j0 k true a0_0 a0_1 a0_2 l0_3))) else (impl_ManOk.j0 k true a0_0 a0_1 a0_2 l0_3))))
theorem impl_ManOk.mono_l : ∀ k,(∀ y0 y1 y2 y3 y4,LeO (impl_ManOk.j0 k y0 y1 y2 y3 y4) (impl_ManOk.j0 (k + 1) y0 y1 y2 y3 y4)) ∧ (∀ y0 y1 y2 y3 y4 y5 y6,LeO (impl_ManOk.l0 k y0 y1 y2 y3 y4 y5 y6) (impl_ManOk.l0 (k + 1) y0 y1 y2 y3 y4 y5 y6))
 | 0 => ⟨fun _ _ _ _ _ r h => by simp [impl_ManOk.j0] at h,fun _ _ _ _ _ _ _ r h => by simp [impl_ManOk.l0] at h⟩
 | k + 1 => by
  obtain ⟨ih0,ih1⟩ := impl_ManOk.mono_l k
  refine ⟨?_,?_⟩
  ·intro y0 y1 y2 y3 y4
   unfold impl_ManOk.j0
   repeat' first
   | (with_reducible exact ih0 _ _ _ _ _)
   | (with_reducible exact ih1 _ _ _ _ _ _ _)
   | (with_reducible exact impl_BytesOf.mono _ _)
   | (with_reducible exact impl_WeakOf.mono _ _)
   | (with_reducible exact LeO.refl _)
   | (with_reducible exact LeO.none _)
   | (with_reducible refine LeO.ite ?_ ?_)
   | (with_reducible refine LeO.bind ?_ (fun _ => ?_))
   | exact ih0 _ _ _ _ _
   | exact ih1 _ _ _ _ _ _ _
   | exact impl_BytesOf.mono _ _
   | exact impl_WeakOf.mono _ _
   | exact LeO.none _
   | refine LeO.ite ?_ ?_
   | refine LeO.bind ?_ (fun _ => ?_)
  ·intro y0 y1 y2 y3 y4 y5 y6
   unfold impl_ManOk.l0
   repeat' first
   | (with_reducible exact ih0 _ _ _ _ _)
   | (with_reducible exact ih1 _ _ _ _ _ _ _)
   | (with_reducible exact impl_BytesOf.mono _ _)
   | (with_reducible exact impl_WeakOf.mono _ _)
   | (with_reducible exact LeO.refl _)
   | (with_reducible exact LeO.none _)
   | (with_reducible refine LeO.ite ?_ ?_)
   | (with_reducible refine LeO.bind ?_ (fun _ => ?_))
   | exact ih0 _ _ _ _ _
   | exact ih1 _ _ _ _ _ _ _
   | exact impl_BytesOf.mono _ _
   | exact impl_WeakOf.mono _ _
   | exact LeO.none _
   | refine LeO.ite ?_ ?_
   | refine LeO.bind ?_ (fun _ => ?_)
theorem impl_ManOk.mono : ∀ a0 a1 a2 a3 k,LeO (impl_ManOk.f k a0 a1 a2 a3) (impl_ManOk.f (k + 1) a0 a1 a2 a3) := by
 intro a0 a1 a2 a3 k
 obtain ⟨ih0,ih1⟩ := impl_ManOk.mono_l k
 unfold impl_ManOk.f
 repeat' first
   | (with_reducible exact ih0 _ _ _ _ _)
   | (with_reducible exact ih1 _ _ _ _ _ _ _)
   | (with_reducible exact impl_BytesOf.mono _ _)
   | (with_reducible exact impl_WeakOf.mono _ _)
   | (with_reducible exact LeO.refl _)
   | (with_reducible exact LeO.none _)
   | (with_reducible refine LeO.ite ?_ ?_)
   | (with_reducible refine LeO.bind ?_ (fun _ => ?_))
   | exact ih0 _ _ _ _ _
   | exact ih1 _ _ _ _ _ _ _
   | exact impl_BytesOf.mono _ _
   | exact impl_WeakOf.mono _ _
   | exact LeO.none _
   | refine LeO.ite ?_ ?_
   | refine LeO.bind ?_ (fun _ => ?_)
set_option maxHeartbeats 8000000 in
set_option maxRecDepth 100000 in
theorem impl_ManOk.calls (k : Nat) (a0_0 : Int) (a0_1 : Int) (a0_2 : Int) (A0_3 : Option Addr) (c0_3 : Nat) (l0_3 : List (S66)) (r : Bool) (w : World) (hr0_3 : Kd.C k66 w A0_3 l0_3.length l0_3) (hc0_3 : l0_3.length ≤ c0_3) (h : impl_ManOk.f k a0_0 a0_1 a0_2 l0_3 = some r) :
  Calls Try.prog 43 #[.agg #[.int .i64 a0_0,.int .i64 a0_1,.int .i64 a0_2,.slice A0_3 l0_3.length c0_3]] w fun e w' => e = .returned (.bool r) ∧ Below w.heap.size w w' := by
 have hu31 := Try.underlying31
 have hu66 := Try.underlying66
 have hf66_0 : ∀ (a_ b_ : Int) (W_ : World),(Instr.field 66 (.agg #[.int .i64 a_,.int .i64 b_]) 0).run Try.prog W_ = .ok (.int .i64 a_) W_ := fun _ _ _ => by kernel_rfl
 have hf66_1 : ∀ (a_ b_ : Int) (W_ : World),(Instr.field 66 (.agg #[.int .i64 a_,.int .i64 b_]) 1).run Try.prog W_ = .ok (.int .i64 b_) W_ := fun _ _ _ => by kernel_rfl
 have HR0_3 := Aside0.mk hr0_3
 have HC0_3 := Aside0.mk hc0_3
 clear hr0_3 hc0_3
 have HB := Aside0.mk (Below.refl w.heap.size w)
 have H : ((impl_isZeroMan.f a0_0 a0_1 a0_2 l0_3).bind fun t120 => (if t120 = true then (some true) else ((impl_within.f a0_0 1 1000000).bind fun t121 => (if t121 = true then ((impl_SizeOk.f a0_1 a0_2).bind fun t122 => (if t122 = true then ((impl_Blocks.f a0_1 a0_2).bind fun t123 => (impl_ManOk.j0 k ((l0_3.length : Int) != t123) a0_0 a0_1 a0_2 l0_3)) else (impl_ManOk.j0 k true a0_0 a0_1 a0_2 l0_3))) else (impl_ManOk.j0 k true a0_0 a0_1 a0_2 l0_3))))) = some r := h
 clear h
 replace H := Option.bind_eq_some_iff.mp H
 obtain ⟨t120,A20,H⟩ := H
 (try dsimp only at H)
 have A2 := Aside0.mk A20
 clear A20
 by_cases c3 : t120 = true
 ·subst c3
  rw [if_pos rfl] at H
  obtain rfl := Option.some.inj H
  go_enter Try.func43,Try.ntmps43
  go_wp2_with (first | ((with_reducible refine gate_dst (N := 1) rfl ?_);(try (refine gate_guard (by rfl) ?_;dsimp only));refine box_event ?hg (N := 1) ?hd (cs := #[.int .i64 a0_0,.int .i64 a0_1,.int .i64 a0_2,.slice A0_3 l0_3.length c0_3]) (t := 31) ?hr ?_;(case hd => rfl);(case hg => rfl);(case hr => first | (go_simp;done) | (go_simp;rfl));intro gb119 hg w4 hbox hb;have n0_ := Aside0.mk (below_step (B_up HB.out) hb);have n1_ := Aside0.mk (hbox);have n2_ := Aside0.mk ((by rw [hg];exact (below_size (B_up HB.out)) : w.heap.size ≤ gb119));have n3_ := Aside0.mk ((by rw [hg];exact (below_size (B_up HB.out)) : w.heap.size ≤ gb119));clear HB;have HB := n0_;have BK119 := n1_;have GW119 := n2_;have GE119 := n3_;clear n0_ n1_ n2_ n3_;clear hb hbox hg;have hcz5_0 : w4.cell? ⟨gb119,0,none⟩ = some (.int .i64 a0_0) := (blk_cell BK119.out 0).trans rfl;have hcz5_1 : w4.cell? ⟨gb119,1,none⟩ = some (.int .i64 a0_1) := (blk_cell BK119.out 1).trans rfl;have hcz5_2 : w4.cell? ⟨gb119,2,none⟩ = some (.int .i64 a0_2) := (blk_cell BK119.out 2).trans rfl;have hcz5_3 : w4.cell? ⟨gb119,3,none⟩ = some (.slice A0_3 l0_3.length c0_3) := (blk_cell BK119.out 3).trans rfl;have hfz5_0 := blk_frozen BK119.out 0;have hfz5_1 := blk_frozen BK119.out 1;have hfz5_2 := blk_frozen BK119.out 2;have hfz5_3 := blk_frozen BK119.out 3) | (go_at_call 94;(with_reducible refine (impl_isZeroMan.calls a0_0 a0_1 a0_2 _ _ l0_3 true _ ?side1 ?side2 A2.out).mono ?_);(case side1 => repeat (first | exact (Kd.C_below HR0_3.out HB.out) | (with_reducible refine Kd.C_alloc ?_ _) | (with_reducible refine Kd.C_drewN ?_ _) | (with_reducible refine Kd.C_drew ?_)));(case side2 => exact HC0_3.out);rintro e w6 ⟨rfl,hb⟩;have n0_ := Aside0.mk (blk_below (g := gb119) (o := .cells #[.int .i64 a0_0,.int .i64 a0_1,.int .i64 a0_2,.slice A0_3 l0_3.length c0_3] 31 (0,0)) (blk_up BK119.out) hb);have n1_ := Aside0.mk (below_step (B_set HB.out) hb);clear BK119;clear HB;have BK119 := n0_;have HB := n1_;clear n0_ n1_;(try clear hb);(try clear hb2);(try clear hk);(try clear hi)))
  repeat (go_quiet (first | ((with_reducible refine gate_dst (N := 1) rfl ?_);(try (refine gate_guard (by rfl) ?_;dsimp only));refine box_event ?hg (N := 1) ?hd (cs := #[.int .i64 a0_0,.int .i64 a0_1,.int .i64 a0_2,.slice A0_3 l0_3.length c0_3]) (t := 31) ?hr ?_;(case hd => rfl);(case hg => rfl);(case hr => first | (go_simp;done) | (go_simp;rfl));intro gb119 hg w4 hbox hb;have n0_ := Aside0.mk (below_step (B_up HB.out) hb);have n1_ := Aside0.mk (hbox);have n2_ := Aside0.mk ((by rw [hg];exact (below_size (B_up HB.out)) : w.heap.size ≤ gb119));have n3_ := Aside0.mk ((by rw [hg];exact (below_size (B_up HB.out)) : w.heap.size ≤ gb119));clear HB;have HB := n0_;have BK119 := n1_;have GW119 := n2_;have GE119 := n3_;clear n0_ n1_ n2_ n3_;clear hb hbox hg;have hcz5_0 : w4.cell? ⟨gb119,0,none⟩ = some (.int .i64 a0_0) := (blk_cell BK119.out 0).trans rfl;have hcz5_1 : w4.cell? ⟨gb119,1,none⟩ = some (.int .i64 a0_1) := (blk_cell BK119.out 1).trans rfl;have hcz5_2 : w4.cell? ⟨gb119,2,none⟩ = some (.int .i64 a0_2) := (blk_cell BK119.out 2).trans rfl;have hcz5_3 : w4.cell? ⟨gb119,3,none⟩ = some (.slice A0_3 l0_3.length c0_3) := (blk_cell BK119.out 3).trans rfl;have hfz5_0 := blk_frozen BK119.out 0;have hfz5_1 := blk_frozen BK119.out 1;have hfz5_2 := blk_frozen BK119.out 2;have hfz5_3 := blk_frozen BK119.out 3) | (go_at_call 94;(with_reducible refine (impl_isZeroMan.calls a0_0 a0_1 a0_2 _ _ l0_3 true _ ?side1 ?side2 A2.out).mono ?_);(case side1 => repeat (first | exact (Kd.C_below HR0_3.out HB.out) | (with_reducible refine Kd.C_alloc ?_ _) | (with_reducible refine Kd.C_drewN ?_ _) | (with_reducible refine Kd.C_drew ?_)));(case side2 => exact HC0_3.out);rintro e w6 ⟨rfl,hb⟩;have n0_ := Aside0.mk (blk_below (g := gb119) (o := .cells #[.int .i64 a0_0,.int .i64 a0_1,.int .i64 a0_2,.slice A0_3 l0_3.length c0_3] 31 (0,0)) (blk_up BK119.out) hb);have n1_ := Aside0.mk (below_step (B_set HB.out) hb);clear BK119;clear HB;have BK119 := n0_;have HB := n1_;clear n0_ n1_;(try clear hb);(try clear hb2);(try clear hk);(try clear hi)));try go_wp2_with (first | ((with_reducible refine gate_dst (N := 1) rfl ?_);(try (refine gate_guard (by rfl) ?_;dsimp only));refine box_event ?hg (N := 1) ?hd (cs := #[.int .i64 a0_0,.int .i64 a0_1,.int .i64 a0_2,.slice A0_3 l0_3.length c0_3]) (t := 31) ?hr ?_;(case hd => rfl);(case hg => rfl);(case hr => first | (go_simp;done) | (go_simp;rfl));intro gb119 hg w4 hbox hb;have n0_ := Aside0.mk (below_step (B_up HB.out) hb);have n1_ := Aside0.mk (hbox);have n2_ := Aside0.mk ((by rw [hg];exact (below_size (B_up HB.out)) : w.heap.size ≤ gb119));have n3_ := Aside0.mk ((by rw [hg];exact (below_size (B_up HB.out)) : w.heap.size ≤ gb119));clear HB;have HB := n0_;have BK119 := n1_;have GW119 := n2_;have GE119 := n3_;clear n0_ n1_ n2_ n3_;clear hb hbox hg;have hcz5_0 : w4.cell? ⟨gb119,0,none⟩ = some (.int .i64 a0_0) := (blk_cell BK119.out 0).trans rfl;have hcz5_1 : w4.cell? ⟨gb119,1,none⟩ = some (.int .i64 a0_1) := (blk_cell BK119.out 1).trans rfl;have hcz5_2 : w4.cell? ⟨gb119,2,none⟩ = some (.int .i64 a0_2) := (blk_cell BK119.out 2).trans rfl;have hcz5_3 : w4.cell? ⟨gb119,3,none⟩ = some (.slice A0_3 l0_3.length c0_3) := (blk_cell BK119.out 3).trans rfl;have hfz5_0 := blk_frozen BK119.out 0;have hfz5_1 := blk_frozen BK119.out 1;have hfz5_2 := blk_frozen BK119.out 2;have hfz5_3 := blk_frozen BK119.out 3) | (go_at_call 94;(with_reducible refine (impl_isZeroMan.calls a0_0 a0_1 a0_2 _ _ l0_3 true _ ?side1 ?side2 A2.out).mono ?_);(case side1 => repeat (first | exact (Kd.C_below HR0_3.out HB.out) | (with_reducible refine Kd.C_alloc ?_ _) | (with_reducible refine Kd.C_drewN ?_ _) | (with_reducible refine Kd.C_drew ?_)));(case side2 => exact HC0_3.out);rintro e w6 ⟨rfl,hb⟩;have n0_ := Aside0.mk (blk_below (g := gb119) (o := .cells #[.int .i64 a0_0,.int .i64 a0_1,.int .i64 a0_2,.slice A0_3 l0_3.length c0_3] 31 (0,0)) (blk_up BK119.out) hb);have n1_ := Aside0.mk (below_step (B_set HB.out) hb);clear BK119;clear HB;have BK119 := n0_;have HB := n1_;clear n0_ n1_;(try clear hb);(try clear hb2);(try clear hk);(try clear hi))))
  go_ret
  exact ⟨by first | rfl | (simp [errW_none,errW_some] <;> rfl) | (simp [*,errW_none,errW_some] <;> rfl),by repeat (first | (with_reducible first | exact HB.out | apply below_alloc | apply pw_below_drewN | apply below_drew1 | refine below_set ?_ GE119.out) | exact HB.out)⟩
 ·replace c3 := Bool.eq_false_iff.mpr c3
  subst c3
  have H1 : ((impl_within.f a0_0 1 1000000).bind fun t121 => (if t121 = true then ((impl_SizeOk.f a0_1 a0_2).bind fun t122 => (if t122 = true then ((impl_Blocks.f a0_1 a0_2).bind fun t123 => (impl_ManOk.j0 k ((l0_3.length : Int) != t123) a0_0 a0_1 a0_2 l0_3)) else (impl_ManOk.j0 k true a0_0 a0_1 a0_2 l0_3))) else (impl_ManOk.j0 k true a0_0 a0_1 a0_2 l0_3))) = some r := by rw [if_neg (show ¬ (false = true) by decide)] at H;exact H
  clear H
  have H := H1
  clear H1
  have HC7 := Aside0.mk H
  clear H
  go_enter Try.func43,Try.ntmps43
  go_upto_region 3 with (first | ((with_reducible refine gate_dst (N := 1) rfl ?_);(try (refine gate_guard (by rfl) ?_;dsimp only));refine box_event ?hg (N := 1) ?hd (cs := #[.int .i64 a0_0,.int .i64 a0_1,.int .i64 a0_2,.slice A0_3 l0_3.length c0_3]) (t := 31) ?hr ?_;(case hd => rfl);(case hg => rfl);(case hr => first | (go_simp;done) | (go_simp;rfl));intro gb119 hg w8 hbox hb;have n0_ := Aside0.mk (below_step (B_up HB.out) hb);have n1_ := Aside0.mk (hbox);have n2_ := Aside0.mk ((by rw [hg];exact (below_size (B_up HB.out)) : w.heap.size ≤ gb119));have n3_ := Aside0.mk ((by rw [hg];exact (below_size (B_up HB.out)) : w.heap.size ≤ gb119));clear HB;have HB := n0_;have BK119 := n1_;have GW119 := n2_;have GE119 := n3_;clear n0_ n1_ n2_ n3_;clear hb hbox hg;have hcz9_0 : w8.cell? ⟨gb119,0,none⟩ = some (.int .i64 a0_0) := (blk_cell BK119.out 0).trans rfl;have hcz9_1 : w8.cell? ⟨gb119,1,none⟩ = some (.int .i64 a0_1) := (blk_cell BK119.out 1).trans rfl;have hcz9_2 : w8.cell? ⟨gb119,2,none⟩ = some (.int .i64 a0_2) := (blk_cell BK119.out 2).trans rfl;have hcz9_3 : w8.cell? ⟨gb119,3,none⟩ = some (.slice A0_3 l0_3.length c0_3) := (blk_cell BK119.out 3).trans rfl;have hfz9_0 := blk_frozen BK119.out 0;have hfz9_1 := blk_frozen BK119.out 1;have hfz9_2 := blk_frozen BK119.out 2;have hfz9_3 := blk_frozen BK119.out 3) | (go_at_call 94;(with_reducible refine (impl_isZeroMan.calls a0_0 a0_1 a0_2 _ _ l0_3 false _ ?side1 ?side2 A2.out).mono ?_);(case side1 => repeat (first | exact (Kd.C_below HR0_3.out HB.out) | (with_reducible refine Kd.C_alloc ?_ _) | (with_reducible refine Kd.C_drewN ?_ _) | (with_reducible refine Kd.C_drew ?_)));(case side2 => exact HC0_3.out);rintro e w10 ⟨rfl,hb⟩;have n0_ := Aside0.mk (blk_below (g := gb119) (o := .cells #[.int .i64 a0_0,.int .i64 a0_1,.int .i64 a0_2,.slice A0_3 l0_3.length c0_3] 31 (0,0)) (blk_up BK119.out) hb);have n1_ := Aside0.mk (below_step (B_set HB.out) hb);clear BK119;clear HB;have BK119 := n0_;have HB := n1_;clear n0_ n1_;(try clear hb);(try clear hb2);(try clear hk);(try clear hi)))
  repeat (go_quiet (first | ((with_reducible refine gate_dst (N := 1) rfl ?_);(try (refine gate_guard (by rfl) ?_;dsimp only));refine box_event ?hg (N := 1) ?hd (cs := #[.int .i64 a0_0,.int .i64 a0_1,.int .i64 a0_2,.slice A0_3 l0_3.length c0_3]) (t := 31) ?hr ?_;(case hd => rfl);(case hg => rfl);(case hr => first | (go_simp;done) | (go_simp;rfl));intro gb119 hg w8 hbox hb;have n0_ := Aside0.mk (below_step (B_up HB.out) hb);have n1_ := Aside0.mk (hbox);have n2_ := Aside0.mk ((by rw [hg];exact (below_size (B_up HB.out)) : w.heap.size ≤ gb119));have n3_ := Aside0.mk ((by rw [hg];exact (below_size (B_up HB.out)) : w.heap.size ≤ gb119));clear HB;have HB := n0_;have BK119 := n1_;have GW119 := n2_;have GE119 := n3_;clear n0_ n1_ n2_ n3_;clear hb hbox hg;have hcz9_0 : w8.cell? ⟨gb119,0,none⟩ = some (.int .i64 a0_0) := (blk_cell BK119.out 0).trans rfl;have hcz9_1 : w8.cell? ⟨gb119,1,none⟩ = some (.int .i64 a0_1) := (blk_cell BK119.out 1).trans rfl;have hcz9_2 : w8.cell? ⟨gb119,2,none⟩ = some (.int .i64 a0_2) := (blk_cell BK119.out 2).trans rfl;have hcz9_3 : w8.cell? ⟨gb119,3,none⟩ = some (.slice A0_3 l0_3.length c0_3) := (blk_cell BK119.out 3).trans rfl;have hfz9_0 := blk_frozen BK119.out 0;have hfz9_1 := blk_frozen BK119.out 1;have hfz9_2 := blk_frozen BK119.out 2;have hfz9_3 := blk_frozen BK119.out 3) | (go_at_call 94;(with_reducible refine (impl_isZeroMan.calls a0_0 a0_1 a0_2 _ _ l0_3 false _ ?side1 ?side2 A2.out).mono ?_);(case side1 => repeat (first | exact (Kd.C_below HR0_3.out HB.out) | (with_reducible refine Kd.C_alloc ?_ _) | (with_reducible refine Kd.C_drewN ?_ _) | (with_reducible refine Kd.C_drew ?_)));(case side2 => exact HC0_3.out);rintro e w10 ⟨rfl,hb⟩;have n0_ := Aside0.mk (blk_below (g := gb119) (o := .cells #[.int .i64 a0_0,.int .i64 a0_1,.int .i64 a0_2,.slice A0_3 l0_3.length c0_3] 31 (0,0)) (blk_up BK119.out) hb);have n1_ := Aside0.mk (below_step (B_set HB.out) hb);clear BK119;clear HB;have BK119 := n0_;have HB := n1_;clear n0_ n1_;(try clear hb);(try clear hb2);(try clear hk);(try clear hi)));go_upto_region 3 with (first | ((with_reducible refine gate_dst (N := 1) rfl ?_);(try (refine gate_guard (by rfl) ?_;dsimp only));refine box_event ?hg (N := 1) ?hd (cs := #[.int .i64 a0_0,.int .i64 a0_1,.int .i64 a0_2,.slice A0_3 l0_3.length c0_3]) (t := 31) ?hr ?_;(case hd => rfl);(case hg => rfl);(case hr => first | (go_simp;done) | (go_simp;rfl));intro gb119 hg w8 hbox hb;have n0_ := Aside0.mk (below_step (B_up HB.out) hb);have n1_ := Aside0.mk (hbox);have n2_ := Aside0.mk ((by rw [hg];exact (below_size (B_up HB.out)) : w.heap.size ≤ gb119));have n3_ := Aside0.mk ((by rw [hg];exact (below_size (B_up HB.out)) : w.heap.size ≤ gb119));clear HB;have HB := n0_;have BK119 := n1_;have GW119 := n2_;have GE119 := n3_;clear n0_ n1_ n2_ n3_;clear hb hbox hg;have hcz9_0 : w8.cell? ⟨gb119,0,none⟩ = some (.int .i64 a0_0) := (blk_cell BK119.out 0).trans rfl;have hcz9_1 : w8.cell? ⟨gb119,1,none⟩ = some (.int .i64 a0_1) := (blk_cell BK119.out 1).trans rfl;have hcz9_2 : w8.cell? ⟨gb119,2,none⟩ = some (.int .i64 a0_2) := (blk_cell BK119.out 2).trans rfl;have hcz9_3 : w8.cell? ⟨gb119,3,none⟩ = some (.slice A0_3 l0_3.length c0_3) := (blk_cell BK119.out 3).trans rfl;have hfz9_0 := blk_frozen BK119.out 0;have hfz9_1 := blk_frozen BK119.out 1;have hfz9_2 := blk_frozen BK119.out 2;have hfz9_3 := blk_frozen BK119.out 3) | (go_at_call 94;(with_reducible refine (impl_isZeroMan.calls a0_0 a0_1 a0_2 _ _ l0_3 false _ ?side1 ?side2 A2.out).mono ?_);(case side1 => repeat (first | exact (Kd.C_below HR0_3.out HB.out) | (with_reducible refine Kd.C_alloc ?_ _) | (with_reducible refine Kd.C_drewN ?_ _) | (with_reducible refine Kd.C_drew ?_)));(case side2 => exact HC0_3.out);rintro e w10 ⟨rfl,hb⟩;have n0_ := Aside0.mk (blk_below (g := gb119) (o := .cells #[.int .i64 a0_0,.int .i64 a0_1,.int .i64 a0_2,.slice A0_3 l0_3.length c0_3] 31 (0,0)) (blk_up BK119.out) hb);have n1_ := Aside0.mk (below_step (B_set HB.out) hb);clear BK119;clear HB;have BK119 := n0_;have HB := n1_;clear n0_ n1_;(try clear hb);(try clear hb2);(try clear hk);(try clear hi))))
  (try simp only [Act.put,List.setIfInBounds_toArray,List.set_cons_zero,List.set_cons_succ])
  go_cut [33] (fun v33 wc => ∃ (kq : Nat) (x33_6 : Bool),v33 = .bool x33_6 ∧ Aside0 (impl_ManOk.j0 kq x33_6 a0_0 a0_1 a0_2 l0_3 = some r) ∧ Aside0 (kq ≤ k) ∧ Aside0 (wc.heap[gb119]? = some (.cells #[.int .i64 a0_0,.int .i64 a0_1,.int .i64 a0_2,(.slice A0_3 l0_3.length c0_3)] 31 (0,0))) ∧ Aside0 (Below w.heap.size w wc))
  case first =>
   have H := HC7.out
   clear HC7
   replace H := Option.bind_eq_some_iff.mp H
   obtain ⟨t121,A110,H⟩ := H
   (try dsimp only at H)
   have A11 := Aside0.mk A110
   clear A110
   by_cases c12 : t121 = true
   ·subst c12
    rw [if_pos rfl] at H
    replace H := Option.bind_eq_some_iff.mp H
    obtain ⟨t122,A130,H⟩ := H
    (try dsimp only at H)
    have A13 := Aside0.mk A130
    clear A130
    by_cases c14 : t122 = true
    ·subst c14
     rw [if_pos rfl] at H
     replace H := Option.bind_eq_some_iff.mp H
     obtain ⟨t123,A150,H⟩ := H
     replace H : (impl_ManOk.j0 k ((l0_3.length : Int) != t123) a0_0 a0_1 a0_2 l0_3) = some r := H
     have A15 := Aside0.mk A150
     clear A150
     have H' := Aside0.mk H
     clear H
     have hcz16_0 : w10.cell? ⟨gb119,0,none⟩ = some (.int .i64 a0_0) := (blk_cell BK119.out 0).trans rfl
     have hcz16_1 : w10.cell? ⟨gb119,1,none⟩ = some (.int .i64 a0_1) := (blk_cell BK119.out 1).trans rfl
     have hcz16_2 : w10.cell? ⟨gb119,2,none⟩ = some (.int .i64 a0_2) := (blk_cell BK119.out 2).trans rfl
     have hcz16_3 : w10.cell? ⟨gb119,3,none⟩ = some (.slice A0_3 l0_3.length c0_3) := (blk_cell BK119.out 3).trans rfl
     have hfz16_0 := blk_frozen BK119.out 0
     have hfz16_1 := blk_frozen BK119.out 1
     have hfz16_2 := blk_frozen BK119.out 2
     have hfz16_3 := blk_frozen BK119.out 3
     go_wp2_with (first | (go_at_call 53;(with_reducible refine (impl_within.calls a0_0 1 1000000 true _ A11.out).mono ?_);rintro e w' ⟨rfl,⟨nd,rfl⟩⟩;(try first | exact ⟨rfl,_,World.drewN_drewN _ _ _⟩ | exact ⟨rfl,_,Eq.trans (World.drewN_drewN _ _ _) (congrArg (World.drewN _) (Nat.add_assoc _ _ _))⟩)) | (go_at_call 81;(with_reducible refine (impl_SizeOk.calls a0_1 a0_2 true _ A13.out).mono ?_);rintro e w' ⟨rfl,⟨nd,rfl⟩⟩;(try first | exact ⟨rfl,_,World.drewN_drewN _ _ _⟩ | exact ⟨rfl,_,Eq.trans (World.drewN_drewN _ _ _) (congrArg (World.drewN _) (Nat.add_assoc _ _ _))⟩)) | (go_at_call 47;(with_reducible refine (impl_Blocks.calls a0_1 a0_2 t123 _ A15.out).mono ?_);rintro e w' ⟨rfl,⟨nd,rfl⟩⟩;(try first | exact ⟨rfl,_,World.drewN_drewN _ _ _⟩ | exact ⟨rfl,_,Eq.trans (World.drewN_drewN _ _ _) (congrArg (World.drewN _) (Nat.add_assoc _ _ _))⟩)))
     repeat (go_quiet (first | (go_at_call 53;(with_reducible refine (impl_within.calls a0_0 1 1000000 true _ A11.out).mono ?_);rintro e w' ⟨rfl,⟨nd,rfl⟩⟩;(try first | exact ⟨rfl,_,World.drewN_drewN _ _ _⟩ | exact ⟨rfl,_,Eq.trans (World.drewN_drewN _ _ _) (congrArg (World.drewN _) (Nat.add_assoc _ _ _))⟩)) | (go_at_call 81;(with_reducible refine (impl_SizeOk.calls a0_1 a0_2 true _ A13.out).mono ?_);rintro e w' ⟨rfl,⟨nd,rfl⟩⟩;(try first | exact ⟨rfl,_,World.drewN_drewN _ _ _⟩ | exact ⟨rfl,_,Eq.trans (World.drewN_drewN _ _ _) (congrArg (World.drewN _) (Nat.add_assoc _ _ _))⟩)) | (go_at_call 47;(with_reducible refine (impl_Blocks.calls a0_1 a0_2 t123 _ A15.out).mono ?_);rintro e w' ⟨rfl,⟨nd,rfl⟩⟩;(try first | exact ⟨rfl,_,World.drewN_drewN _ _ _⟩ | exact ⟨rfl,_,Eq.trans (World.drewN_drewN _ _ _) (congrArg (World.drewN _) (Nat.add_assoc _ _ _))⟩)));try go_wp2_with (first | (go_at_call 53;(with_reducible refine (impl_within.calls a0_0 1 1000000 true _ A11.out).mono ?_);rintro e w' ⟨rfl,⟨nd,rfl⟩⟩;(try first | exact ⟨rfl,_,World.drewN_drewN _ _ _⟩ | exact ⟨rfl,_,Eq.trans (World.drewN_drewN _ _ _) (congrArg (World.drewN _) (Nat.add_assoc _ _ _))⟩)) | (go_at_call 81;(with_reducible refine (impl_SizeOk.calls a0_1 a0_2 true _ A13.out).mono ?_);rintro e w' ⟨rfl,⟨nd,rfl⟩⟩;(try first | exact ⟨rfl,_,World.drewN_drewN _ _ _⟩ | exact ⟨rfl,_,Eq.trans (World.drewN_drewN _ _ _) (congrArg (World.drewN _) (Nat.add_assoc _ _ _))⟩)) | (go_at_call 47;(with_reducible refine (impl_Blocks.calls a0_1 a0_2 t123 _ A15.out).mono ?_);rintro e w' ⟨rfl,⟨nd,rfl⟩⟩;(try first | exact ⟨rfl,_,World.drewN_drewN _ _ _⟩ | exact ⟨rfl,_,Eq.trans (World.drewN_drewN _ _ _) (congrArg (World.drewN _) (Nat.add_assoc _ _ _))⟩))))
     go_meet
     case rel => exact ⟨_,(((l0_3.length : Int) != t123)),(by first | rfl | (simp;done) | (simp [*];done)),H',⟨by first | omega | exact Nat.le_refl _⟩,⟨by (with_reducible repeat (first | refine blk_drewN ?_ _ | refine blk_drew ?_ | refine blk_alloc ?_ _));exact BK119.out⟩,⟨by repeat (first | (with_reducible first | exact HB.out | apply below_alloc | apply pw_below_drewN | apply below_drew1 | refine below_set ?_ GE119.out) | exact HB.out)⟩⟩
    ·replace c14 := Bool.eq_false_iff.mpr c14
     subst c14
     have H1 : (impl_ManOk.j0 k true a0_0 a0_1 a0_2 l0_3) = some r := by rw [if_neg (show ¬ (false = true) by decide)] at H;exact H
     clear H
     have H := H1
     clear H1
     have H' := Aside0.mk H
     clear H
     have hcz17_0 : w10.cell? ⟨gb119,0,none⟩ = some (.int .i64 a0_0) := (blk_cell BK119.out 0).trans rfl
     have hcz17_1 : w10.cell? ⟨gb119,1,none⟩ = some (.int .i64 a0_1) := (blk_cell BK119.out 1).trans rfl
     have hcz17_2 : w10.cell? ⟨gb119,2,none⟩ = some (.int .i64 a0_2) := (blk_cell BK119.out 2).trans rfl
     have hcz17_3 : w10.cell? ⟨gb119,3,none⟩ = some (.slice A0_3 l0_3.length c0_3) := (blk_cell BK119.out 3).trans rfl
     have hfz17_0 := blk_frozen BK119.out 0
     have hfz17_1 := blk_frozen BK119.out 1
     have hfz17_2 := blk_frozen BK119.out 2
     have hfz17_3 := blk_frozen BK119.out 3
     go_wp2_with (first | (go_at_call 53;(with_reducible refine (impl_within.calls a0_0 1 1000000 true _ A11.out).mono ?_);rintro e w' ⟨rfl,⟨nd,rfl⟩⟩;(try first | exact ⟨rfl,_,World.drewN_drewN _ _ _⟩ | exact ⟨rfl,_,Eq.trans (World.drewN_drewN _ _ _) (congrArg (World.drewN _) (Nat.add_assoc _ _ _))⟩)) | (go_at_call 81;(with_reducible refine (impl_SizeOk.calls a0_1 a0_2 false _ A13.out).mono ?_);rintro e w' ⟨rfl,⟨nd,rfl⟩⟩;(try first | exact ⟨rfl,_,World.drewN_drewN _ _ _⟩ | exact ⟨rfl,_,Eq.trans (World.drewN_drewN _ _ _) (congrArg (World.drewN _) (Nat.add_assoc _ _ _))⟩)))
     repeat (go_quiet (first | (go_at_call 53;(with_reducible refine (impl_within.calls a0_0 1 1000000 true _ A11.out).mono ?_);rintro e w' ⟨rfl,⟨nd,rfl⟩⟩;(try first | exact ⟨rfl,_,World.drewN_drewN _ _ _⟩ | exact ⟨rfl,_,Eq.trans (World.drewN_drewN _ _ _) (congrArg (World.drewN _) (Nat.add_assoc _ _ _))⟩)) | (go_at_call 81;(with_reducible refine (impl_SizeOk.calls a0_1 a0_2 false _ A13.out).mono ?_);rintro e w' ⟨rfl,⟨nd,rfl⟩⟩;(try first | exact ⟨rfl,_,World.drewN_drewN _ _ _⟩ | exact ⟨rfl,_,Eq.trans (World.drewN_drewN _ _ _) (congrArg (World.drewN _) (Nat.add_assoc _ _ _))⟩)));try go_wp2_with (first | (go_at_call 53;(with_reducible refine (impl_within.calls a0_0 1 1000000 true _ A11.out).mono ?_);rintro e w' ⟨rfl,⟨nd,rfl⟩⟩;(try first | exact ⟨rfl,_,World.drewN_drewN _ _ _⟩ | exact ⟨rfl,_,Eq.trans (World.drewN_drewN _ _ _) (congrArg (World.drewN _) (Nat.add_assoc _ _ _))⟩)) | (go_at_call 81;(with_reducible refine (impl_SizeOk.calls a0_1 a0_2 false _ A13.out).mono ?_);rintro e w' ⟨rfl,⟨nd,rfl⟩⟩;(try first | exact ⟨rfl,_,World.drewN_drewN _ _ _⟩ | exact ⟨rfl,_,Eq.trans (World.drewN_drewN _ _ _) (congrArg (World.drewN _) (Nat.add_assoc _ _ _))⟩))))
     go_meet
     case rel => exact ⟨_,(true),(by first | rfl | (simp;done) | (simp [*];done)),H',⟨by first | omega | exact Nat.le_refl _⟩,⟨by (with_reducible repeat (first | refine blk_drewN ?_ _ | refine blk_drew ?_ | refine blk_alloc ?_ _));exact BK119.out⟩,⟨by repeat (first | (with_reducible first | exact HB.out | apply below_alloc | apply pw_below_drewN | apply below_drew1 | refine below_set ?_ GE119.out) | exact HB.out)⟩⟩
   ·replace c12 := Bool.eq_false_iff.mpr c12
    subst c12
    have H1 : (impl_ManOk.j0 k true a0_0 a0_1 a0_2 l0_3) = some r := by rw [if_neg (show ¬ (false = true) by decide)] at H;exact H
    clear H
    have H := H1
    clear H1
    have H' := Aside0.mk H
    clear H
    have hcz18_0 : w10.cell? ⟨gb119,0,none⟩ = some (.int .i64 a0_0) := (blk_cell BK119.out 0).trans rfl
    have hcz18_1 : w10.cell? ⟨gb119,1,none⟩ = some (.int .i64 a0_1) := (blk_cell BK119.out 1).trans rfl
    have hcz18_2 : w10.cell? ⟨gb119,2,none⟩ = some (.int .i64 a0_2) := (blk_cell BK119.out 2).trans rfl
    have hcz18_3 : w10.cell? ⟨gb119,3,none⟩ = some (.slice A0_3 l0_3.length c0_3) := (blk_cell BK119.out 3).trans rfl
    have hfz18_0 := blk_frozen BK119.out 0
    have hfz18_1 := blk_frozen BK119.out 1
    have hfz18_2 := blk_frozen BK119.out 2
    have hfz18_3 := blk_frozen BK119.out 3
    go_wp2_with (first | (go_at_call 53;(with_reducible refine (impl_within.calls a0_0 1 1000000 false _ A11.out).mono ?_);rintro e w' ⟨rfl,⟨nd,rfl⟩⟩;(try first | exact ⟨rfl,_,World.drewN_drewN _ _ _⟩ | exact ⟨rfl,_,Eq.trans (World.drewN_drewN _ _ _) (congrArg (World.drewN _) (Nat.add_assoc _ _ _))⟩)))
    repeat (go_quiet (first | (go_at_call 53;(with_reducible refine (impl_within.calls a0_0 1 1000000 false _ A11.out).mono ?_);rintro e w' ⟨rfl,⟨nd,rfl⟩⟩;(try first | exact ⟨rfl,_,World.drewN_drewN _ _ _⟩ | exact ⟨rfl,_,Eq.trans (World.drewN_drewN _ _ _) (congrArg (World.drewN _) (Nat.add_assoc _ _ _))⟩)));try go_wp2_with (first | (go_at_call 53;(with_reducible refine (impl_within.calls a0_0 1 1000000 false _ A11.out).mono ?_);rintro e w' ⟨rfl,⟨nd,rfl⟩⟩;(try first | exact ⟨rfl,_,World.drewN_drewN _ _ _⟩ | exact ⟨rfl,_,Eq.trans (World.drewN_drewN _ _ _) (congrArg (World.drewN _) (Nat.add_assoc _ _ _))⟩))))
    go_meet
    case rel => exact ⟨_,(true),(by first | rfl | (simp;done) | (simp [*];done)),H',⟨by first | omega | exact Nat.le_refl _⟩,⟨by (with_reducible repeat (first | refine blk_drewN ?_ _ | refine blk_drew ?_ | refine blk_alloc ?_ _));exact BK119.out⟩,⟨by repeat (first | (with_reducible first | exact HB.out | apply below_alloc | apply pw_below_drewN | apply below_drew1 | refine below_set ?_ GE119.out) | exact HB.out)⟩⟩
  case rest =>
   clear HC7
   try clear c1
   try clear p2
   try clear c3
   try clear c4
   try clear c12
   try clear c14
   try clear hcz16_0
   try clear hcz16_1
   try clear hcz16_2
   try clear hcz16_3
   try clear hcz17_0
   try clear hcz17_1
   try clear hcz17_2
   try clear hcz17_3
   try clear hcz18_0
   try clear hcz18_1
   try clear hcz18_2
   try clear hcz18_3
   try clear hcz5_0
   try clear hcz5_1
   try clear hcz5_2
   try clear hcz5_3
   try clear hcz9_0
   try clear hcz9_1
   try clear hcz9_2
   try clear hcz9_3
   try clear hfz16_0
   try clear hfz16_1
   try clear hfz16_2
   try clear hfz16_3
   try clear hfz17_0
   try clear hfz17_1
   try clear hfz17_2
   try clear hfz17_3
   try clear hfz18_0
   try clear hfz18_1
   try clear hfz18_2
   try clear hfz18_3
   try clear hfz5_0
   try clear hfz5_1
   try clear hfz5_2
   try clear hfz5_3
   try clear hfz9_0
   try clear hfz9_1
   try clear hfz9_2
   try clear hfz9_3
   obtain ⟨kq,x33_6,rfl,HA,HJ6,BK119,HB⟩ := hcut
   cases kq with
   | zero => exact absurd HA.out (by simp [impl_ManOk.j0])
   | succ kj6 =>
    have H := HA.out
    clear HA
    simp only [impl_ManOk.j0] at H
    by_cases c19 : x33_6 = true
    ·subst c19
     rw [if_pos rfl] at H
     obtain rfl := Option.some.inj H
     go_wp2
     repeat (go_quiet (fail);try go_wp2)
     go_ret
     exact ⟨by first | rfl | (simp [errW_none,errW_some] <;> rfl) | (simp [*,errW_none,errW_some] <;> rfl),by repeat (first | (with_reducible first | exact HB.out | apply below_alloc | apply pw_below_drewN | apply below_drew1 | refine below_set ?_ GE119.out) | exact HB.out)⟩
    ·replace c19 := Bool.eq_false_iff.mpr c19
     subst c19
     have H1 : (impl_ManOk.l0 kj6 l0_3 (l0_3.length : Int) 0 a0_0 a0_1 a0_2 l0_3) = some r := by rw [if_neg (show ¬ (false = true) by decide)] at H;exact H
     clear H
     have H := H1
     clear H1
     have H' := Aside0.mk H
     clear H
     have hcz20_0 : wc.cell? ⟨gb119,0,none⟩ = some (.int .i64 a0_0) := (blk_cell BK119.out 0).trans rfl
     have hcz20_1 : wc.cell? ⟨gb119,1,none⟩ = some (.int .i64 a0_1) := (blk_cell BK119.out 1).trans rfl
     have hcz20_2 : wc.cell? ⟨gb119,2,none⟩ = some (.int .i64 a0_2) := (blk_cell BK119.out 2).trans rfl
     have hcz20_3 : wc.cell? ⟨gb119,3,none⟩ = some (.slice A0_3 l0_3.length c0_3) := (blk_cell BK119.out 3).trans rfl
     have hfz20_0 := blk_frozen BK119.out 0
     have hfz20_1 := blk_frozen BK119.out 1
     have hfz20_2 := blk_frozen BK119.out 2
     have hfz20_3 := blk_frozen BK119.out 3
     go_wp2
     repeat (go_quiet (fail);try go_wp2)
     go_loopg [37] kj6 (fun kq v37 w' => ∃ (x37_2 : Int),v37 = .int .i64 x37_2 ∧ Aside0 (impl_ManOk.l0 kq l0_3 (l0_3.length : Int) x37_2 a0_0 a0_1 a0_2 l0_3 = some r) ∧ Aside0 (kq ≤ kj6) ∧ Aside0 (w'.heap[gb119]? = some (.cells #[.int .i64 a0_0,.int .i64 a0_1,.int .i64 a0_2,(.slice A0_3 l0_3.length c0_3)] 31 (0,0))) ∧ Aside0 (Below w.heap.size w w'))
     case atStart => exact ⟨(0),(by first | rfl | (simp;done) | (simp [*];done)),H',⟨Nat.le_refl _⟩,⟨by (with_reducible repeat (first | refine blk_drewN ?_ _ | refine blk_drew ?_ | refine blk_alloc ?_ _));exact BK119.out⟩,⟨by repeat (first | (with_reducible first | exact HB.out | apply below_alloc | apply pw_below_drewN | apply below_drew1 | refine below_set ?_ GE119.out) | exact HB.out)⟩⟩
     case round =>
      clear H'
      try clear c1
      try clear p2
      try clear c3
      try clear c4
      try clear c12
      try clear c14
      try clear c19
      try clear hcz16_0
      try clear hcz16_1
      try clear hcz16_2
      try clear hcz16_3
      try clear hcz17_0
      try clear hcz17_1
      try clear hcz17_2
      try clear hcz17_3
      try clear hcz18_0
      try clear hcz18_1
      try clear hcz18_2
      try clear hcz18_3
      try clear hcz20_0
      try clear hcz20_1
      try clear hcz20_2
      try clear hcz20_3
      try clear hcz5_0
      try clear hcz5_1
      try clear hcz5_2
      try clear hcz5_3
      try clear hcz9_0
      try clear hcz9_1
      try clear hcz9_2
      try clear hcz9_3
      try clear hfz16_0
      try clear hfz16_1
      try clear hfz16_2
      try clear hfz16_3
      try clear hfz17_0
      try clear hfz17_1
      try clear hfz17_2
      try clear hfz17_3
      try clear hfz18_0
      try clear hfz18_1
      try clear hfz18_2
      try clear hfz18_3
      try clear hfz20_0
      try clear hfz20_1
      try clear hfz20_2
      try clear hfz20_3
      try clear hfz5_0
      try clear hfz5_1
      try clear hfz5_2
      try clear hfz5_3
      try clear hfz9_0
      try clear hfz9_1
      try clear hfz9_2
      try clear hfz9_3
      try clear p2
      obtain ⟨x37_2,rfl,HA,HK2,BK119,HB⟩ := hrel
      cases gk with
      | zero => exact absurd HA.out (by simp [impl_ManOk.l0])
      | succ k2 =>
       have H := HA.out
       clear HA
       simp only [impl_ManOk.l0] at H
       by_cases c21 : x37_2 < (l0_3.length : Int)
       ·rw [if_pos c21] at H
        have c21b0 : decide (x37_2 < (l0_3.length : Int)) = true := decide_eq_true c21
        clear c21
        by_cases c22 : 0 ≤ x37_2
        ·rw [if_pos c22] at H
         have c22b0 : decide (0 ≤ x37_2) = true := decide_eq_true c22
         clear c22
         by_cases c23 : x37_2 < (l0_3.length : Int)
         ·rw [if_pos c23] at H
          have c23b0 : decide (x37_2 < (l0_3.length : Int)) = true := decide_eq_true c23
          clear c23
          replace H := Option.bind_eq_some_iff.mp H
          obtain ⟨⟨t126,t127⟩,A240,H⟩ := H
          (try dsimp only at H)
          have A24 := Aside0.mk A240
          clear A240
          replace H := Option.bind_eq_some_iff.mp H
          obtain ⟨⟨t130,t131⟩,A250,H⟩ := H
          (try dsimp only at H)
          have A25 := Aside0.mk A250
          clear A250
          by_cases c26 : t127 = true
          ·subst c26
           rw [if_pos rfl] at H
           by_cases c27 : (t126.length : Int) = t131
           ·rw [if_pos c27] at H
            have c27b0 : ((t126.length : Int) == t131) = true := beq_iff_eq.mpr c27
            have c27b1 : ((t126.length : Int) != t131) = false := bne_eq_false_iff_eq.mpr c27
            clear c27
            replace H := Option.bind_eq_some_iff.mp H
            obtain ⟨t132,A280,H⟩ := H
            (try dsimp only at H)
            have A28 := Aside0.mk A280
            clear A280
            by_cases c29 : t132 = ((rd_T66 l0_3 x37_2).f0)
            ·rw [if_pos c29] at H
             have c29b0 : (t132 == ((rd_T66 l0_3 x37_2).f0)) = true := beq_iff_eq.mpr c29
             have c29b1 : (t132 != ((rd_T66 l0_3 x37_2).f0)) = false := bne_eq_false_iff_eq.mpr c29
             clear c29
             have H' := Aside0.mk H
             clear H
             have p124 : 0 ≤ (x37_2 : Int) := of_decide_eq_true (by first | (with_reducible assumption) | assumption)
             have q124 : x37_2 < (l0_3.length : Int) := of_decide_eq_true (by first | (with_reducible assumption) | assumption)
             obtain ⟨ad124,e124,hx124_0,hx124_1⟩ := at_T66 HR0_3.out x37_2 p124 q124
             cases e124
             replace hx124_0 := (HB.out.cell (World.block_lt_of_cell? w _ hx124_0)).trans hx124_0
             replace hx124_1 := (HB.out.cell (World.block_lt_of_cell? w _ hx124_1)).trans hx124_1
             replace p124 := eq_true p124
             replace q124 := eq_true q124
             go_wp2_with (first | ((with_reducible refine gate_dst (N := 4) rfl ?_);(try (refine gate_guard (by rfl) ?_;dsimp only));refine box_event ?hg (N := 4) ?hd (cs := #[.int .i64 0,.int .i64 0]) (t := 66) ?hr ?_;(case hd => rfl);(case hg => rfl);(case hr => first | (go_simp;done) | (go_simp;rfl));intro gb125 hg w30 hbox hb;have n0_ := Aside0.mk (blk_below (g := gb119) (o := .cells #[.int .i64 a0_0,.int .i64 a0_1,.int .i64 a0_2,.slice (some ad124) l0_3.length c0_3] 31 (0,0)) (blk_up BK119.out) hb);have n1_ := Aside0.mk (below_step (B_set HB.out) hb);have n2_ := Aside0.mk (hbox);have n3_ := Aside0.mk ((by rw [hg];exact (below_size (B_set HB.out)) : w.heap.size ≤ gb125));have n4_ := Aside0.mk ((by rw [hg];exact (below_size (B_set HB.out)) : w.heap.size ≤ gb125));have n5_ := Aside0.mk ((by rw [hg];exact Nat.ne_of_lt (blk_lt (g := gb119) (o := .cells #[.int .i64 a0_0,.int .i64 a0_1,.int .i64 a0_2,.slice (some ad124) l0_3.length c0_3] 31 (0,0)) (blk_up BK119.out)) : gb119 ≠ gb125));have n6_ := Aside0.mk ((by rw [hg];exact Nat.ne_of_gt (blk_lt (g := gb119) (o := .cells #[.int .i64 a0_0,.int .i64 a0_1,.int .i64 a0_2,.slice (some ad124) l0_3.length c0_3] 31 (0,0)) (blk_up BK119.out)) : gb125 ≠ gb119));clear BK119;clear HB;have BK119 := n0_;have HB := n1_;have BK125 := n2_;have GW125 := n3_;have GE125 := n4_;have NB119_125 := n5_;have NB125_119 := n6_;clear n0_ n1_ n2_ n3_ n4_ n5_ n6_;clear hb hbox hg;have hnb31 := NB125_119.out;have hnc31 := NB119_125.out;have hcz32_0 : w30.cell? ⟨gb125,0,none⟩ = some (.int .i64 0) := (blk_cell BK125.out 0).trans rfl;have hcz32_1 : w30.cell? ⟨gb125,1,none⟩ = some (.int .i64 0) := (blk_cell BK125.out 1).trans rfl;have hfz32_0 := blk_frozen BK125.out 0;have hfz32_1 := blk_frozen BK125.out 1) | (go_at_call 75;(with_reducible refine (impl_BytesOf.calls k2 ((rd_T66 l0_3 x37_2).f1) t126 true _ A24.out).mono ?_);rintro e w33 ⟨v128,rfl,ho0,hb⟩;have n0_ := Aside0.mk (Kd.R_lower ho0 (below_size (B_set HB.out)));have n1_ := Aside0.mk (blk_below (g := gb119) (o := .cells #[.int .i64 a0_0,.int .i64 a0_1,.int .i64 a0_2,.slice (some ad124) l0_3.length c0_3] 31 (0,0)) (by (with_reducible repeat (first | refine blk_drewN ?_ _ | refine blk_drew ?_ | refine blk_alloc ?_ _));refine blk_far ?_ NB119_125.out _;(with_reducible repeat (first | refine blk_drewN ?_ _ | refine blk_drew ?_ | refine blk_alloc ?_ _));refine blk_far ?_ NB119_125.out _;(with_reducible repeat (first | refine blk_drewN ?_ _ | refine blk_drew ?_ | refine blk_alloc ?_ _));exact BK119.out) hb);have n2_ := Aside0.mk (blk_below (g := gb125) (o := .cells #[.int .i64 ((rd_T66 l0_3 x37_2).f0),.int .i64 ((rd_T66 l0_3 x37_2).f1)] 66 (0,0)) (by (with_reducible repeat (first | refine blk_drewN ?_ _ | refine blk_drew ?_ | refine blk_alloc ?_ _));refine blk_put (cs := #[.int .i64 ((rd_T66 l0_3 x37_2).f0),.int .i64 0]) ?_ 1 _ rfl;(with_reducible repeat (first | refine blk_drewN ?_ _ | refine blk_drew ?_ | refine blk_alloc ?_ _));refine blk_put (cs := #[.int .i64 0,.int .i64 0]) ?_ 0 _ rfl;(with_reducible repeat (first | refine blk_drewN ?_ _ | refine blk_drew ?_ | refine blk_alloc ?_ _));exact BK125.out) hb);have n3_ := Aside0.mk (below_step (B_set HB.out) hb);clear BK119;clear BK125;clear HB;have HO129 := n0_;have BK119 := n1_;have BK125 := n2_;have HB := n3_;clear n0_ n1_ n2_ n3_;(try clear hb);(try clear hb2);(try clear hk);(try clear hi);(try clear ho0);have hcz34_0 : w33.cell? ⟨gb119,0,none⟩ = some (.int .i64 a0_0) := (blk_cell BK119.out 0).trans rfl;have hcz34_1 : w33.cell? ⟨gb119,1,none⟩ = some (.int .i64 a0_1) := (blk_cell BK119.out 1).trans rfl;have hcz34_2 : w33.cell? ⟨gb119,2,none⟩ = some (.int .i64 a0_2) := (blk_cell BK119.out 2).trans rfl;have hcz34_3 : w33.cell? ⟨gb119,3,none⟩ = some (.slice (some ad124) l0_3.length c0_3) := (blk_cell BK119.out 3).trans rfl;have hfz34_0 := blk_frozen BK119.out 0;have hfz34_1 := blk_frozen BK119.out 1;have hfz34_2 := blk_frozen BK119.out 2;have hfz34_3 := blk_frozen BK119.out 3) | (go_at_call 52;(with_reducible refine (impl_SpanOf.calls a0_1 a0_2 x37_2 t130 t131 _ A25.out).mono ?_);rintro e w35 ⟨rfl,hb⟩;have n0_ := Aside0.mk (Kd.R_below (Kd.R_up HO129.out) hb);have n1_ := Aside0.mk (blk_below (g := gb119) (o := .cells #[.int .i64 a0_0,.int .i64 a0_1,.int .i64 a0_2,.slice (some ad124) l0_3.length c0_3] 31 (0,0)) (blk_up BK119.out) hb);have n2_ := Aside0.mk (blk_below (g := gb125) (o := .cells #[.int .i64 ((rd_T66 l0_3 x37_2).f0),.int .i64 ((rd_T66 l0_3 x37_2).f1)] 66 (0,0)) (blk_up BK125.out) hb);have n3_ := Aside0.mk (below_step (B_set HB.out) hb);clear HO129;clear BK119;clear BK125;clear HB;have HO129 := n0_;have BK119 := n1_;have BK125 := n2_;have HB := n3_;clear n0_ n1_ n2_ n3_;(try clear hb);(try clear hb2);(try clear hk);(try clear hi);obtain ⟨Ao36,co36,eo36⟩ := Kd.R_slice HO129.out;subst eo36;have hcz37_0 : w35.cell? ⟨gb125,0,none⟩ = some (.int .i64 ((rd_T66 l0_3 x37_2).f0)) := (blk_cell BK125.out 0).trans rfl;have hcz37_1 : w35.cell? ⟨gb125,1,none⟩ = some (.int .i64 ((rd_T66 l0_3 x37_2).f1)) := (blk_cell BK125.out 1).trans rfl;have hfz37_0 := blk_frozen BK125.out 0;have hfz37_1 := blk_frozen BK125.out 1) | (go_at_call 95;(with_reducible refine (impl_WeakOf.calls k2 _ _ t126 t132 _ ?side1 ?side2 A28.out).mono ?_);(case side1 => exact Kd.C_up (Kd.R_reads' HO129.out).2.2);(case side2 => exact (Kd.R_reads' HO129.out).2.1);rintro e w' ⟨rfl,⟨nd,rfl⟩⟩;(try first | exact ⟨rfl,_,World.drewN_drewN _ _ _⟩ | exact ⟨rfl,_,Eq.trans (World.drewN_drewN _ _ _) (congrArg (World.drewN _) (Nat.add_assoc _ _ _))⟩)))
             repeat (go_quiet (first | ((with_reducible refine gate_dst (N := 4) rfl ?_);(try (refine gate_guard (by rfl) ?_;dsimp only));refine box_event ?hg (N := 4) ?hd (cs := #[.int .i64 0,.int .i64 0]) (t := 66) ?hr ?_;(case hd => rfl);(case hg => rfl);(case hr => first | (go_simp;done) | (go_simp;rfl));intro gb125 hg w30 hbox hb;have n0_ := Aside0.mk (blk_below (g := gb119) (o := .cells #[.int .i64 a0_0,.int .i64 a0_1,.int .i64 a0_2,.slice (some ad124) l0_3.length c0_3] 31 (0,0)) (blk_up BK119.out) hb);have n1_ := Aside0.mk (below_step (B_set HB.out) hb);have n2_ := Aside0.mk (hbox);have n3_ := Aside0.mk ((by rw [hg];exact (below_size (B_set HB.out)) : w.heap.size ≤ gb125));have n4_ := Aside0.mk ((by rw [hg];exact (below_size (B_set HB.out)) : w.heap.size ≤ gb125));have n5_ := Aside0.mk ((by rw [hg];exact Nat.ne_of_lt (blk_lt (g := gb119) (o := .cells #[.int .i64 a0_0,.int .i64 a0_1,.int .i64 a0_2,.slice (some ad124) l0_3.length c0_3] 31 (0,0)) (blk_up BK119.out)) : gb119 ≠ gb125));have n6_ := Aside0.mk ((by rw [hg];exact Nat.ne_of_gt (blk_lt (g := gb119) (o := .cells #[.int .i64 a0_0,.int .i64 a0_1,.int .i64 a0_2,.slice (some ad124) l0_3.length c0_3] 31 (0,0)) (blk_up BK119.out)) : gb125 ≠ gb119));clear BK119;clear HB;have BK119 := n0_;have HB := n1_;have BK125 := n2_;have GW125 := n3_;have GE125 := n4_;have NB119_125 := n5_;have NB125_119 := n6_;clear n0_ n1_ n2_ n3_ n4_ n5_ n6_;clear hb hbox hg;have hnb31 := NB125_119.out;have hnc31 := NB119_125.out;have hcz32_0 : w30.cell? ⟨gb125,0,none⟩ = some (.int .i64 0) := (blk_cell BK125.out 0).trans rfl;have hcz32_1 : w30.cell? ⟨gb125,1,none⟩ = some (.int .i64 0) := (blk_cell BK125.out 1).trans rfl;have hfz32_0 := blk_frozen BK125.out 0;have hfz32_1 := blk_frozen BK125.out 1) | (go_at_call 75;(with_reducible refine (impl_BytesOf.calls k2 ((rd_T66 l0_3 x37_2).f1) t126 true _ A24.out).mono ?_);rintro e w33 ⟨v128,rfl,ho0,hb⟩;have n0_ := Aside0.mk (Kd.R_lower ho0 (below_size (B_set HB.out)));have n1_ := Aside0.mk (blk_below (g := gb119) (o := .cells #[.int .i64 a0_0,.int .i64 a0_1,.int .i64 a0_2,.slice (some ad124) l0_3.length c0_3] 31 (0,0)) (by (with_reducible repeat (first | refine blk_drewN ?_ _ | refine blk_drew ?_ | refine blk_alloc ?_ _));refine blk_far ?_ NB119_125.out _;(with_reducible repeat (first | refine blk_drewN ?_ _ | refine blk_drew ?_ | refine blk_alloc ?_ _));refine blk_far ?_ NB119_125.out _;(with_reducible repeat (first | refine blk_drewN ?_ _ | refine blk_drew ?_ | refine blk_alloc ?_ _));exact BK119.out) hb);have n2_ := Aside0.mk (blk_below (g := gb125) (o := .cells #[.int .i64 ((rd_T66 l0_3 x37_2).f0),.int .i64 ((rd_T66 l0_3 x37_2).f1)] 66 (0,0)) (by (with_reducible repeat (first | refine blk_drewN ?_ _ | refine blk_drew ?_ | refine blk_alloc ?_ _));refine blk_put (cs := #[.int .i64 ((rd_T66 l0_3 x37_2).f0),.int .i64 0]) ?_ 1 _ rfl;(with_reducible repeat (first | refine blk_drewN ?_ _ | refine blk_drew ?_ | refine blk_alloc ?_ _));refine blk_put (cs := #[.int .i64 0,.int .i64 0]) ?_ 0 _ rfl;(with_reducible repeat (first | refine blk_drewN ?_ _ | refine blk_drew ?_ | refine blk_alloc ?_ _));exact BK125.out) hb);have n3_ := Aside0.mk (below_step (B_set HB.out) hb);clear BK119;clear BK125;clear HB;have HO129 := n0_;have BK119 := n1_;have BK125 := n2_;have HB := n3_;clear n0_ n1_ n2_ n3_;(try clear hb);(try clear hb2);(try clear hk);(try clear hi);(try clear ho0);have hcz34_0 : w33.cell? ⟨gb119,0,none⟩ = some (.int .i64 a0_0) := (blk_cell BK119.out 0).trans rfl;have hcz34_1 : w33.cell? ⟨gb119,1,none⟩ = some (.int .i64 a0_1) := (blk_cell BK119.out 1).trans rfl;have hcz34_2 : w33.cell? ⟨gb119,2,none⟩ = some (.int .i64 a0_2) := (blk_cell BK119.out 2).trans rfl;have hcz34_3 : w33.cell? ⟨gb119,3,none⟩ = some (.slice (some ad124) l0_3.length c0_3) := (blk_cell BK119.out 3).trans rfl;have hfz34_0 := blk_frozen BK119.out 0;have hfz34_1 := blk_frozen BK119.out 1;have hfz34_2 := blk_frozen BK119.out 2;have hfz34_3 := blk_frozen BK119.out 3) | (go_at_call 52;(with_reducible refine (impl_SpanOf.calls a0_1 a0_2 x37_2 t130 t131 _ A25.out).mono ?_);rintro e w35 ⟨rfl,hb⟩;have n0_ := Aside0.mk (Kd.R_below (Kd.R_up HO129.out) hb);have n1_ := Aside0.mk (blk_below (g := gb119) (o := .cells #[.int .i64 a0_0,.int .i64 a0_1,.int .i64 a0_2,.slice (some ad124) l0_3.length c0_3] 31 (0,0)) (blk_up BK119.out) hb);have n2_ := Aside0.mk (blk_below (g := gb125) (o := .cells #[.int .i64 ((rd_T66 l0_3 x37_2).f0),.int .i64 ((rd_T66 l0_3 x37_2).f1)] 66 (0,0)) (blk_up BK125.out) hb);have n3_ := Aside0.mk (below_step (B_set HB.out) hb);clear HO129;clear BK119;clear BK125;clear HB;have HO129 := n0_;have BK119 := n1_;have BK125 := n2_;have HB := n3_;clear n0_ n1_ n2_ n3_;(try clear hb);(try clear hb2);(try clear hk);(try clear hi);obtain ⟨Ao36,co36,eo36⟩ := Kd.R_slice HO129.out;subst eo36;have hcz37_0 : w35.cell? ⟨gb125,0,none⟩ = some (.int .i64 ((rd_T66 l0_3 x37_2).f0)) := (blk_cell BK125.out 0).trans rfl;have hcz37_1 : w35.cell? ⟨gb125,1,none⟩ = some (.int .i64 ((rd_T66 l0_3 x37_2).f1)) := (blk_cell BK125.out 1).trans rfl;have hfz37_0 := blk_frozen BK125.out 0;have hfz37_1 := blk_frozen BK125.out 1) | (go_at_call 95;(with_reducible refine (impl_WeakOf.calls k2 _ _ t126 t132 _ ?side1 ?side2 A28.out).mono ?_);(case side1 => exact Kd.C_up (Kd.R_reads' HO129.out).2.2);(case side2 => exact (Kd.R_reads' HO129.out).2.1);rintro e w' ⟨rfl,⟨nd,rfl⟩⟩;(try first | exact ⟨rfl,_,World.drewN_drewN _ _ _⟩ | exact ⟨rfl,_,Eq.trans (World.drewN_drewN _ _ _) (congrArg (World.drewN _) (Nat.add_assoc _ _ _))⟩)));try go_wp2_with (first | ((with_reducible refine gate_dst (N := 4) rfl ?_);(try (refine gate_guard (by rfl) ?_;dsimp only));refine box_event ?hg (N := 4) ?hd (cs := #[.int .i64 0,.int .i64 0]) (t := 66) ?hr ?_;(case hd => rfl);(case hg => rfl);(case hr => first | (go_simp;done) | (go_simp;rfl));intro gb125 hg w30 hbox hb;have n0_ := Aside0.mk (blk_below (g := gb119) (o := .cells #[.int .i64 a0_0,.int .i64 a0_1,.int .i64 a0_2,.slice (some ad124) l0_3.length c0_3] 31 (0,0)) (blk_up BK119.out) hb);have n1_ := Aside0.mk (below_step (B_set HB.out) hb);have n2_ := Aside0.mk (hbox);have n3_ := Aside0.mk ((by rw [hg];exact (below_size (B_set HB.out)) : w.heap.size ≤ gb125));have n4_ := Aside0.mk ((by rw [hg];exact (below_size (B_set HB.out)) : w.heap.size ≤ gb125));have n5_ := Aside0.mk ((by rw [hg];exact Nat.ne_of_lt (blk_lt (g := gb119) (o := .cells #[.int .i64 a0_0,.int .i64 a0_1,.int .i64 a0_2,.slice (some ad124) l0_3.length c0_3] 31 (0,0)) (blk_up BK119.out)) : gb119 ≠ gb125));have n6_ := Aside0.mk ((by rw [hg];exact Nat.ne_of_gt (blk_lt (g := gb119) (o := .cells #[.int .i64 a0_0,.int .i64 a0_1,.int .i64 a0_2,.slice (some ad124) l0_3.length c0_3] 31 (0,0)) (blk_up BK119.out)) : gb125 ≠ gb119));clear BK119;clear HB;have BK119 := n0_;have HB := n1_;have BK125 := n2_;have GW125 := n3_;have GE125 := n4_;have NB119_125 := n5_;have NB125_119 := n6_;clear n0_ n1_ n2_ n3_ n4_ n5_ n6_;clear hb hbox hg;have hnb31 := NB125_119.out;have hnc31 := NB119_125.out;have hcz32_0 : w30.cell? ⟨gb125,0,none⟩ = some (.int .i64 0) := (blk_cell BK125.out 0).trans rfl;have hcz32_1 : w30.cell? ⟨gb125,1,none⟩ = some (.int .i64 0) := (blk_cell BK125.out 1).trans rfl;have hfz32_0 := blk_frozen BK125.out 0;have hfz32_1 := blk_frozen BK125.out 1) | (go_at_call 75;(with_reducible refine (impl_BytesOf.calls k2 ((rd_T66 l0_3 x37_2).f1) t126 true _ A24.out).mono ?_);rintro e w33 ⟨v128,rfl,ho0,hb⟩;have n0_ := Aside0.mk (Kd.R_lower ho0 (below_size (B_set HB.out)));have n1_ := Aside0.mk (blk_below (g := gb119) (o := .cells #[.int .i64 a0_0,.int .i64 a0_1,.int .i64 a0_2,.slice (some ad124) l0_3.length c0_3] 31 (0,0)) (by (with_reducible repeat (first | refine blk_drewN ?_ _ | refine blk_drew ?_ | refine blk_alloc ?_ _));refine blk_far ?_ NB119_125.out _;(with_reducible repeat (first | refine blk_drewN ?_ _ | refine blk_drew ?_ | refine blk_alloc ?_ _));refine blk_far ?_ NB119_125.out _;(with_reducible repeat (first | refine blk_drewN ?_ _ | refine blk_drew ?_ | refine blk_alloc ?_ _));exact BK119.out) hb);have n2_ := Aside0.mk (blk_below (g := gb125) (o := .cells #[.int .i64 ((rd_T66 l0_3 x37_2).f0),.int .i64 ((rd_T66 l0_3 x37_2).f1)] 66 (0,0)) (by (with_reducible repeat (first | refine blk_drewN ?_ _ | refine blk_drew ?_ | refine blk_alloc ?_ _));refine blk_put (cs := #[.int .i64 ((rd_T66 l0_3 x37_2).f0),.int .i64 0]) ?_ 1 _ rfl;(with_reducible repeat (first | refine blk_drewN ?_ _ | refine blk_drew ?_ | refine blk_alloc ?_ _));refine blk_put (cs := #[.int .i64 0,.int .i64 0]) ?_ 0 _ rfl;(with_reducible repeat (first | refine blk_drewN ?_ _ | refine blk_drew ?_ | refine blk_alloc ?_ _));exact BK125.out) hb);have n3_ := Aside0.mk (below_step (B_set HB.out) hb);clear BK119;clear BK125;clear HB;have HO129 := n0_;have BK119 := n1_;have BK125 := n2_;have HB := n3_;clear n0_ n1_ n2_ n3_;(try clear hb);(try clear hb2);(try clear hk);(try clear hi);(try clear ho0);have hcz34_0 : w33.cell? ⟨gb119,0,none⟩ = some (.int .i64 a0_0) := (blk_cell BK119.out 0).trans rfl;have hcz34_1 : w33.cell? ⟨gb119,1,none⟩ = some (.int .i64 a0_1) := (blk_cell BK119.out 1).trans rfl;have hcz34_2 : w33.cell? ⟨gb119,2,none⟩ = some (.int .i64 a0_2) := (blk_cell BK119.out 2).trans rfl;have hcz34_3 : w33.cell? ⟨gb119,3,none⟩ = some (.slice (some ad124) l0_3.length c0_3) := (blk_cell BK119.out 3).trans rfl;have hfz34_0 := blk_frozen BK119.out 0;have hfz34_1 := blk_frozen BK119.out 1;have hfz34_2 := blk_frozen BK119.out 2;have hfz34_3 := blk_frozen BK119.out 3) | (go_at_call 52;(with_reducible refine (impl_SpanOf.calls a0_1 a0_2 x37_2 t130 t131 _ A25.out).mono ?_);rintro e w35 ⟨rfl,hb⟩;have n0_ := Aside0.mk (Kd.R_below (Kd.R_up HO129.out) hb);have n1_ := Aside0.mk (blk_below (g := gb119) (o := .cells #[.int .i64 a0_0,.int .i64 a0_1,.int .i64 a0_2,.slice (some ad124) l0_3.length c0_3] 31 (0,0)) (blk_up BK119.out) hb);have n2_ := Aside0.mk (blk_below (g := gb125) (o := .cells #[.int .i64 ((rd_T66 l0_3 x37_2).f0),.int .i64 ((rd_T66 l0_3 x37_2).f1)] 66 (0,0)) (blk_up BK125.out) hb);have n3_ := Aside0.mk (below_step (B_set HB.out) hb);clear HO129;clear BK119;clear BK125;clear HB;have HO129 := n0_;have BK119 := n1_;have BK125 := n2_;have HB := n3_;clear n0_ n1_ n2_ n3_;(try clear hb);(try clear hb2);(try clear hk);(try clear hi);obtain ⟨Ao36,co36,eo36⟩ := Kd.R_slice HO129.out;subst eo36;have hcz37_0 : w35.cell? ⟨gb125,0,none⟩ = some (.int .i64 ((rd_T66 l0_3 x37_2).f0)) := (blk_cell BK125.out 0).trans rfl;have hcz37_1 : w35.cell? ⟨gb125,1,none⟩ = some (.int .i64 ((rd_T66 l0_3 x37_2).f1)) := (blk_cell BK125.out 1).trans rfl;have hfz37_0 := blk_frozen BK125.out 0;have hfz37_1 := blk_frozen BK125.out 1) | (go_at_call 95;(with_reducible refine (impl_WeakOf.calls k2 _ _ t126 t132 _ ?side1 ?side2 A28.out).mono ?_);(case side1 => exact Kd.C_up (Kd.R_reads' HO129.out).2.2);(case side2 => exact (Kd.R_reads' HO129.out).2.1);rintro e w' ⟨rfl,⟨nd,rfl⟩⟩;(try first | exact ⟨rfl,_,World.drewN_drewN _ _ _⟩ | exact ⟨rfl,_,Eq.trans (World.drewN_drewN _ _ _) (congrArg (World.drewN _) (Nat.add_assoc _ _ _))⟩))))
             go_roundg k2
             case measure => have := HJ6.out;have := HK2.out;omega
             case rel => exact ⟨(wrap64 (x37_2 + 1)),(by first | rfl | (simp;done) | (simp [*];done)),H',⟨by have := HJ6.out;have := HK2.out;omega⟩,⟨by (with_reducible repeat (first | refine blk_drewN ?_ _ | refine blk_drew ?_ | refine blk_alloc ?_ _));exact BK119.out⟩,⟨by repeat (first | (with_reducible first | exact HB.out | apply below_alloc | apply pw_below_drewN | apply below_drew1 | refine below_set ?_ GE119.out | refine below_set ?_ GE125.out) | exact HB.out)⟩⟩
            ·rw [if_neg c29] at H
             have c29b0 : (t132 == ((rd_T66 l0_3 x37_2).f0)) = false := beq_eq_false_iff_ne.mpr c29
             have c29b1 : (t132 != ((rd_T66 l0_3 x37_2).f0)) = true := bne_iff_ne.mpr c29
             obtain rfl := Option.some.inj H
             have p124 : 0 ≤ (x37_2 : Int) := of_decide_eq_true (by first | (with_reducible assumption) | assumption)
             have q124 : x37_2 < (l0_3.length : Int) := of_decide_eq_true (by first | (with_reducible assumption) | assumption)
             obtain ⟨ad124,e124,hx124_0,hx124_1⟩ := at_T66 HR0_3.out x37_2 p124 q124
             cases e124
             replace hx124_0 := (HB.out.cell (World.block_lt_of_cell? w _ hx124_0)).trans hx124_0
             replace hx124_1 := (HB.out.cell (World.block_lt_of_cell? w _ hx124_1)).trans hx124_1
             replace p124 := eq_true p124
             replace q124 := eq_true q124
             go_wp2_with (first | ((with_reducible refine gate_dst (N := 4) rfl ?_);(try (refine gate_guard (by rfl) ?_;dsimp only));refine box_event ?hg (N := 4) ?hd (cs := #[.int .i64 0,.int .i64 0]) (t := 66) ?hr ?_;(case hd => rfl);(case hg => rfl);(case hr => first | (go_simp;done) | (go_simp;rfl));intro gb125 hg w38 hbox hb;have n0_ := Aside0.mk (blk_below (g := gb119) (o := .cells #[.int .i64 a0_0,.int .i64 a0_1,.int .i64 a0_2,.slice (some ad124) l0_3.length c0_3] 31 (0,0)) (blk_up BK119.out) hb);have n1_ := Aside0.mk (below_step (B_set HB.out) hb);have n2_ := Aside0.mk (hbox);have n3_ := Aside0.mk ((by rw [hg];exact (below_size (B_set HB.out)) : w.heap.size ≤ gb125));have n4_ := Aside0.mk ((by rw [hg];exact (below_size (B_set HB.out)) : w.heap.size ≤ gb125));have n5_ := Aside0.mk ((by rw [hg];exact Nat.ne_of_lt (blk_lt (g := gb119) (o := .cells #[.int .i64 a0_0,.int .i64 a0_1,.int .i64 a0_2,.slice (some ad124) l0_3.length c0_3] 31 (0,0)) (blk_up BK119.out)) : gb119 ≠ gb125));have n6_ := Aside0.mk ((by rw [hg];exact Nat.ne_of_gt (blk_lt (g := gb119) (o := .cells #[.int .i64 a0_0,.int .i64 a0_1,.int .i64 a0_2,.slice (some ad124) l0_3.length c0_3] 31 (0,0)) (blk_up BK119.out)) : gb125 ≠ gb119));clear BK119;clear HB;have BK119 := n0_;have HB := n1_;have BK125 := n2_;have GW125 := n3_;have GE125 := n4_;have NB119_125 := n5_;have NB125_119 := n6_;clear n0_ n1_ n2_ n3_ n4_ n5_ n6_;clear hb hbox hg;have hnb39 := NB125_119.out;have hnc39 := NB119_125.out;have hcz40_0 : w38.cell? ⟨gb125,0,none⟩ = some (.int .i64 0) := (blk_cell BK125.out 0).trans rfl;have hcz40_1 : w38.cell? ⟨gb125,1,none⟩ = some (.int .i64 0) := (blk_cell BK125.out 1).trans rfl;have hfz40_0 := blk_frozen BK125.out 0;have hfz40_1 := blk_frozen BK125.out 1) | (go_at_call 75;(with_reducible refine (impl_BytesOf.calls k2 ((rd_T66 l0_3 x37_2).f1) t126 true _ A24.out).mono ?_);rintro e w41 ⟨v128,rfl,ho0,hb⟩;have n0_ := Aside0.mk (Kd.R_lower ho0 (below_size (B_set HB.out)));have n1_ := Aside0.mk (blk_below (g := gb119) (o := .cells #[.int .i64 a0_0,.int .i64 a0_1,.int .i64 a0_2,.slice (some ad124) l0_3.length c0_3] 31 (0,0)) (by (with_reducible repeat (first | refine blk_drewN ?_ _ | refine blk_drew ?_ | refine blk_alloc ?_ _));refine blk_far ?_ NB119_125.out _;(with_reducible repeat (first | refine blk_drewN ?_ _ | refine blk_drew ?_ | refine blk_alloc ?_ _));refine blk_far ?_ NB119_125.out _;(with_reducible repeat (first | refine blk_drewN ?_ _ | refine blk_drew ?_ | refine blk_alloc ?_ _));exact BK119.out) hb);have n2_ := Aside0.mk (blk_below (g := gb125) (o := .cells #[.int .i64 ((rd_T66 l0_3 x37_2).f0),.int .i64 ((rd_T66 l0_3 x37_2).f1)] 66 (0,0)) (by (with_reducible repeat (first | refine blk_drewN ?_ _ | refine blk_drew ?_ | refine blk_alloc ?_ _));refine blk_put (cs := #[.int .i64 ((rd_T66 l0_3 x37_2).f0),.int .i64 0]) ?_ 1 _ rfl;(with_reducible repeat (first | refine blk_drewN ?_ _ | refine blk_drew ?_ | refine blk_alloc ?_ _));refine blk_put (cs := #[.int .i64 0,.int .i64 0]) ?_ 0 _ rfl;(with_reducible repeat (first | refine blk_drewN ?_ _ | refine blk_drew ?_ | refine blk_alloc ?_ _));exact BK125.out) hb);have n3_ := Aside0.mk (below_step (B_set HB.out) hb);clear BK119;clear BK125;clear HB;have HO129 := n0_;have BK119 := n1_;have BK125 := n2_;have HB := n3_;clear n0_ n1_ n2_ n3_;(try clear hb);(try clear hb2);(try clear hk);(try clear hi);(try clear ho0);have hcz42_0 : w41.cell? ⟨gb119,0,none⟩ = some (.int .i64 a0_0) := (blk_cell BK119.out 0).trans rfl;have hcz42_1 : w41.cell? ⟨gb119,1,none⟩ = some (.int .i64 a0_1) := (blk_cell BK119.out 1).trans rfl;have hcz42_2 : w41.cell? ⟨gb119,2,none⟩ = some (.int .i64 a0_2) := (blk_cell BK119.out 2).trans rfl;have hcz42_3 : w41.cell? ⟨gb119,3,none⟩ = some (.slice (some ad124) l0_3.length c0_3) := (blk_cell BK119.out 3).trans rfl;have hfz42_0 := blk_frozen BK119.out 0;have hfz42_1 := blk_frozen BK119.out 1;have hfz42_2 := blk_frozen BK119.out 2;have hfz42_3 := blk_frozen BK119.out 3) | (go_at_call 52;(with_reducible refine (impl_SpanOf.calls a0_1 a0_2 x37_2 t130 t131 _ A25.out).mono ?_);rintro e w43 ⟨rfl,hb⟩;have n0_ := Aside0.mk (Kd.R_below (Kd.R_up HO129.out) hb);have n1_ := Aside0.mk (blk_below (g := gb119) (o := .cells #[.int .i64 a0_0,.int .i64 a0_1,.int .i64 a0_2,.slice (some ad124) l0_3.length c0_3] 31 (0,0)) (blk_up BK119.out) hb);have n2_ := Aside0.mk (blk_below (g := gb125) (o := .cells #[.int .i64 ((rd_T66 l0_3 x37_2).f0),.int .i64 ((rd_T66 l0_3 x37_2).f1)] 66 (0,0)) (blk_up BK125.out) hb);have n3_ := Aside0.mk (below_step (B_set HB.out) hb);clear HO129;clear BK119;clear BK125;clear HB;have HO129 := n0_;have BK119 := n1_;have BK125 := n2_;have HB := n3_;clear n0_ n1_ n2_ n3_;(try clear hb);(try clear hb2);(try clear hk);(try clear hi);obtain ⟨Ao44,co44,eo44⟩ := Kd.R_slice HO129.out;subst eo44;have hcz45_0 : w43.cell? ⟨gb125,0,none⟩ = some (.int .i64 ((rd_T66 l0_3 x37_2).f0)) := (blk_cell BK125.out 0).trans rfl;have hcz45_1 : w43.cell? ⟨gb125,1,none⟩ = some (.int .i64 ((rd_T66 l0_3 x37_2).f1)) := (blk_cell BK125.out 1).trans rfl;have hfz45_0 := blk_frozen BK125.out 0;have hfz45_1 := blk_frozen BK125.out 1) | (go_at_call 95;(with_reducible refine (impl_WeakOf.calls k2 _ _ t126 t132 _ ?side1 ?side2 A28.out).mono ?_);(case side1 => exact Kd.C_up (Kd.R_reads' HO129.out).2.2);(case side2 => exact (Kd.R_reads' HO129.out).2.1);rintro e w' ⟨rfl,⟨nd,rfl⟩⟩;(try first | exact ⟨rfl,_,World.drewN_drewN _ _ _⟩ | exact ⟨rfl,_,Eq.trans (World.drewN_drewN _ _ _) (congrArg (World.drewN _) (Nat.add_assoc _ _ _))⟩)))
             repeat (go_quiet (first | ((with_reducible refine gate_dst (N := 4) rfl ?_);(try (refine gate_guard (by rfl) ?_;dsimp only));refine box_event ?hg (N := 4) ?hd (cs := #[.int .i64 0,.int .i64 0]) (t := 66) ?hr ?_;(case hd => rfl);(case hg => rfl);(case hr => first | (go_simp;done) | (go_simp;rfl));intro gb125 hg w38 hbox hb;have n0_ := Aside0.mk (blk_below (g := gb119) (o := .cells #[.int .i64 a0_0,.int .i64 a0_1,.int .i64 a0_2,.slice (some ad124) l0_3.length c0_3] 31 (0,0)) (blk_up BK119.out) hb);have n1_ := Aside0.mk (below_step (B_set HB.out) hb);have n2_ := Aside0.mk (hbox);have n3_ := Aside0.mk ((by rw [hg];exact (below_size (B_set HB.out)) : w.heap.size ≤ gb125));have n4_ := Aside0.mk ((by rw [hg];exact (below_size (B_set HB.out)) : w.heap.size ≤ gb125));have n5_ := Aside0.mk ((by rw [hg];exact Nat.ne_of_lt (blk_lt (g := gb119) (o := .cells #[.int .i64 a0_0,.int .i64 a0_1,.int .i64 a0_2,.slice (some ad124) l0_3.length c0_3] 31 (0,0)) (blk_up BK119.out)) : gb119 ≠ gb125));have n6_ := Aside0.mk ((by rw [hg];exact Nat.ne_of_gt (blk_lt (g := gb119) (o := .cells #[.int .i64 a0_0,.int .i64 a0_1,.int .i64 a0_2,.slice (some ad124) l0_3.length c0_3] 31 (0,0)) (blk_up BK119.out)) : gb125 ≠ gb119));clear BK119;clear HB;have BK119 := n0_;have HB := n1_;have BK125 := n2_;have GW125 := n3_;have GE125 := n4_;have NB119_125 := n5_;have NB125_119 := n6_;clear n0_ n1_ n2_ n3_ n4_ n5_ n6_;clear hb hbox hg;have hnb39 := NB125_119.out;have hnc39 := NB119_125.out;have hcz40_0 : w38.cell? ⟨gb125,0,none⟩ = some (.int .i64 0) := (blk_cell BK125.out 0).trans rfl;have hcz40_1 : w38.cell? ⟨gb125,1,none⟩ = some (.int .i64 0) := (blk_cell BK125.out 1).trans rfl;have hfz40_0 := blk_frozen BK125.out 0;have hfz40_1 := blk_frozen BK125.out 1) | (go_at_call 75;(with_reducible refine (impl_BytesOf.calls k2 ((rd_T66 l0_3 x37_2).f1) t126 true _ A24.out).mono ?_);rintro e w41 ⟨v128,rfl,ho0,hb⟩;have n0_ := Aside0.mk (Kd.R_lower ho0 (below_size (B_set HB.out)));have n1_ := Aside0.mk (blk_below (g := gb119) (o := .cells #[.int .i64 a0_0,.int .i64 a0_1,.int .i64 a0_2,.slice (some ad124) l0_3.length c0_3] 31 (0,0)) (by (with_reducible repeat (first | refine blk_drewN ?_ _ | refine blk_drew ?_ | refine blk_alloc ?_ _));refine blk_far ?_ NB119_125.out _;(with_reducible repeat (first | refine blk_drewN ?_ _ | refine blk_drew ?_ | refine blk_alloc ?_ _));refine blk_far ?_ NB119_125.out _;(with_reducible repeat (first | refine blk_drewN ?_ _ | refine blk_drew ?_ | refine blk_alloc ?_ _));exact BK119.out) hb);have n2_ := Aside0.mk (blk_below (g := gb125) (o := .cells #[.int .i64 ((rd_T66 l0_3 x37_2).f0),.int .i64 ((rd_T66 l0_3 x37_2).f1)] 66 (0,0)) (by (with_reducible repeat (first | refine blk_drewN ?_ _ | refine blk_drew ?_ | refine blk_alloc ?_ _));refine blk_put (cs := #[.int .i64 ((rd_T66 l0_3 x37_2).f0),.int .i64 0]) ?_ 1 _ rfl;(with_reducible repeat (first | refine blk_drewN ?_ _ | refine blk_drew ?_ | refine blk_alloc ?_ _));refine blk_put (cs := #[.int .i64 0,.int .i64 0]) ?_ 0 _ rfl;(with_reducible repeat (first | refine blk_drewN ?_ _ | refine blk_drew ?_ | refine blk_alloc ?_ _));exact BK125.out) hb);have n3_ := Aside0.mk (below_step (B_set HB.out) hb);clear BK119;clear BK125;clear HB;have HO129 := n0_;have BK119 := n1_;have BK125 := n2_;have HB := n3_;clear n0_ n1_ n2_ n3_;(try clear hb);(try clear hb2);(try clear hk);(try clear hi);(try clear ho0);have hcz42_0 : w41.cell? ⟨gb119,0,none⟩ = some (.int .i64 a0_0) := (blk_cell BK119.out 0).trans rfl;have hcz42_1 : w41.cell? ⟨gb119,1,none⟩ = some (.int .i64 a0_1) := (blk_cell BK119.out 1).trans rfl;have hcz42_2 : w41.cell? ⟨gb119,2,none⟩ = some (.int .i64 a0_2) := (blk_cell BK119.out 2).trans rfl;have hcz42_3 : w41.cell? ⟨gb119,3,none⟩ = some (.slice (some ad124) l0_3.length c0_3) := (blk_cell BK119.out 3).trans rfl;have hfz42_0 := blk_frozen BK119.out 0;have hfz42_1 := blk_frozen BK119.out 1;have hfz42_2 := blk_frozen BK119.out 2;have hfz42_3 := blk_frozen BK119.out 3) | (go_at_call 52;(with_reducible refine (impl_SpanOf.calls a0_1 a0_2 x37_2 t130 t131 _ A25.out).mono ?_);rintro e w43 ⟨rfl,hb⟩;have n0_ := Aside0.mk (Kd.R_below (Kd.R_up HO129.out) hb);have n1_ := Aside0.mk (blk_below (g := gb119) (o := .cells #[.int .i64 a0_0,.int .i64 a0_1,.int .i64 a0_2,.slice (some ad124) l0_3.length c0_3] 31 (0,0)) (blk_up BK119.out) hb);have n2_ := Aside0.mk (blk_below (g := gb125) (o := .cells #[.int .i64 ((rd_T66 l0_3 x37_2).f0),.int .i64 ((rd_T66 l0_3 x37_2).f1)] 66 (0,0)) (blk_up BK125.out) hb);have n3_ := Aside0.mk (below_step (B_set HB.out) hb);clear HO129;clear BK119;clear BK125;clear HB;have HO129 := n0_;have BK119 := n1_;have BK125 := n2_;have HB := n3_;clear n0_ n1_ n2_ n3_;(try clear hb);(try clear hb2);(try clear hk);(try clear hi);obtain ⟨Ao44,co44,eo44⟩ := Kd.R_slice HO129.out;subst eo44;have hcz45_0 : w43.cell? ⟨gb125,0,none⟩ = some (.int .i64 ((rd_T66 l0_3 x37_2).f0)) := (blk_cell BK125.out 0).trans rfl;have hcz45_1 : w43.cell? ⟨gb125,1,none⟩ = some (.int .i64 ((rd_T66 l0_3 x37_2).f1)) := (blk_cell BK125.out 1).trans rfl;have hfz45_0 := blk_frozen BK125.out 0;have hfz45_1 := blk_frozen BK125.out 1) | (go_at_call 95;(with_reducible refine (impl_WeakOf.calls k2 _ _ t126 t132 _ ?side1 ?side2 A28.out).mono ?_);(case side1 => exact Kd.C_up (Kd.R_reads' HO129.out).2.2);(case side2 => exact (Kd.R_reads' HO129.out).2.1);rintro e w' ⟨rfl,⟨nd,rfl⟩⟩;(try first | exact ⟨rfl,_,World.drewN_drewN _ _ _⟩ | exact ⟨rfl,_,Eq.trans (World.drewN_drewN _ _ _) (congrArg (World.drewN _) (Nat.add_assoc _ _ _))⟩)));try go_wp2_with (first | ((with_reducible refine gate_dst (N := 4) rfl ?_);(try (refine gate_guard (by rfl) ?_;dsimp only));refine box_event ?hg (N := 4) ?hd (cs := #[.int .i64 0,.int .i64 0]) (t := 66) ?hr ?_;(case hd => rfl);(case hg => rfl);(case hr => first | (go_simp;done) | (go_simp;rfl));intro gb125 hg w38 hbox hb;have n0_ := Aside0.mk (blk_below (g := gb119) (o := .cells #[.int .i64 a0_0,.int .i64 a0_1,.int .i64 a0_2,.slice (some ad124) l0_3.length c0_3] 31 (0,0)) (blk_up BK119.out) hb);have n1_ := Aside0.mk (below_step (B_set HB.out) hb);have n2_ := Aside0.mk (hbox);have n3_ := Aside0.mk ((by rw [hg];exact (below_size (B_set HB.out)) : w.heap.size ≤ gb125));have n4_ := Aside0.mk ((by rw [hg];exact (below_size (B_set HB.out)) : w.heap.size ≤ gb125));have n5_ := Aside0.mk ((by rw [hg];exact Nat.ne_of_lt (blk_lt (g := gb119) (o := .cells #[.int .i64 a0_0,.int .i64 a0_1,.int .i64 a0_2,.slice (some ad124) l0_3.length c0_3] 31 (0,0)) (blk_up BK119.out)) : gb119 ≠ gb125));have n6_ := Aside0.mk ((by rw [hg];exact Nat.ne_of_gt (blk_lt (g := gb119) (o := .cells #[.int .i64 a0_0,.int .i64 a0_1,.int .i64 a0_2,.slice (some ad124) l0_3.length c0_3] 31 (0,0)) (blk_up BK119.out)) : gb125 ≠ gb119));clear BK119;clear HB;have BK119 := n0_;have HB := n1_;have BK125 := n2_;have GW125 := n3_;have GE125 := n4_;have NB119_125 := n5_;have NB125_119 := n6_;clear n0_ n1_ n2_ n3_ n4_ n5_ n6_;clear hb hbox hg;have hnb39 := NB125_119.out;have hnc39 := NB119_125.out;have hcz40_0 : w38.cell? ⟨gb125,0,none⟩ = some (.int .i64 0) := (blk_cell BK125.out 0).trans rfl;have hcz40_1 : w38.cell? ⟨gb125,1,none⟩ = some (.int .i64 0) := (blk_cell BK125.out 1).trans rfl;have hfz40_0 := blk_frozen BK125.out 0;have hfz40_1 := blk_frozen BK125.out 1) | (go_at_call 75;(with_reducible refine (impl_BytesOf.calls k2 ((rd_T66 l0_3 x37_2).f1) t126 true _ A24.out).mono ?_);rintro e w41 ⟨v128,rfl,ho0,hb⟩;have n0_ := Aside0.mk (Kd.R_lower ho0 (below_size (B_set HB.out)));have n1_ := Aside0.mk (blk_below (g := gb119) (o := .cells #[.int .i64 a0_0,.int .i64 a0_1,.int .i64 a0_2,.slice (some ad124) l0_3.length c0_3] 31 (0,0)) (by (with_reducible repeat (first | refine blk_drewN ?_ _ | refine blk_drew ?_ | refine blk_alloc ?_ _));refine blk_far ?_ NB119_125.out _;(with_reducible repeat (first | refine blk_drewN ?_ _ | refine blk_drew ?_ | refine blk_alloc ?_ _));refine blk_far ?_ NB119_125.out _;(with_reducible repeat (first | refine blk_drewN ?_ _ | refine blk_drew ?_ | refine blk_alloc ?_ _));exact BK119.out) hb);have n2_ := Aside0.mk (blk_below (g := gb125) (o := .cells #[.int .i64 ((rd_T66 l0_3 x37_2).f0),.int .i64 ((rd_T66 l0_3 x37_2).f1)] 66 (0,0)) (by (with_reducible repeat (first | refine blk_drewN ?_ _ | refine blk_drew ?_ | refine blk_alloc ?_ _));refine blk_put (cs := #[.int .i64 ((rd_T66 l0_3 x37_2).f0),.int .i64 0]) ?_ 1 _ rfl;(with_reducible repeat (first | refine blk_drewN ?_ _ | refine blk_drew ?_ | refine blk_alloc ?_ _));refine blk_put (cs := #[.int .i64 0,.int .i64 0]) ?_ 0 _ rfl;(with_reducible repeat (first | refine blk_drewN ?_ _ | refine blk_drew ?_ | refine blk_alloc ?_ _));exact BK125.out) hb);have n3_ := Aside0.mk (below_step (B_set HB.out) hb);clear BK119;clear BK125;clear HB;have HO129 := n0_;have BK119 := n1_;have BK125 := n2_;have HB := n3_;clear n0_ n1_ n2_ n3_;(try clear hb);(try clear hb2);(try clear hk);(try clear hi);(try clear ho0);have hcz42_0 : w41.cell? ⟨gb119,0,none⟩ = some (.int .i64 a0_0) := (blk_cell BK119.out 0).trans rfl;have hcz42_1 : w41.cell? ⟨gb119,1,none⟩ = some (.int .i64 a0_1) := (blk_cell BK119.out 1).trans rfl;have hcz42_2 : w41.cell? ⟨gb119,2,none⟩ = some (.int .i64 a0_2) := (blk_cell BK119.out 2).trans rfl;have hcz42_3 : w41.cell? ⟨gb119,3,none⟩ = some (.slice (some ad124) l0_3.length c0_3) := (blk_cell BK119.out 3).trans rfl;have hfz42_0 := blk_frozen BK119.out 0;have hfz42_1 := blk_frozen BK119.out 1;have hfz42_2 := blk_frozen BK119.out 2;have hfz42_3 := blk_frozen BK119.out 3) | (go_at_call 52;(with_reducible refine (impl_SpanOf.calls a0_1 a0_2 x37_2 t130 t131 _ A25.out).mono ?_);rintro e w43 ⟨rfl,hb⟩;have n0_ := Aside0.mk (Kd.R_below (Kd.R_up HO129.out) hb);have n1_ := Aside0.mk (blk_below (g := gb119) (o := .cells #[.int .i64 a0_0,.int .i64 a0_1,.int .i64 a0_2,.slice (some ad124) l0_3.length c0_3] 31 (0,0)) (blk_up BK119.out) hb);have n2_ := Aside0.mk (blk_below (g := gb125) (o := .cells #[.int .i64 ((rd_T66 l0_3 x37_2).f0),.int .i64 ((rd_T66 l0_3 x37_2).f1)] 66 (0,0)) (blk_up BK125.out) hb);have n3_ := Aside0.mk (below_step (B_set HB.out) hb);clear HO129;clear BK119;clear BK125;clear HB;have HO129 := n0_;have BK119 := n1_;have BK125 := n2_;have HB := n3_;clear n0_ n1_ n2_ n3_;(try clear hb);(try clear hb2);(try clear hk);(try clear hi);obtain ⟨Ao44,co44,eo44⟩ := Kd.R_slice HO129.out;subst eo44;have hcz45_0 : w43.cell? ⟨gb125,0,none⟩ = some (.int .i64 ((rd_T66 l0_3 x37_2).f0)) := (blk_cell BK125.out 0).trans rfl;have hcz45_1 : w43.cell? ⟨gb125,1,none⟩ = some (.int .i64 ((rd_T66 l0_3 x37_2).f1)) := (blk_cell BK125.out 1).trans rfl;have hfz45_0 := blk_frozen BK125.out 0;have hfz45_1 := blk_frozen BK125.out 1) | (go_at_call 95;(with_reducible refine (impl_WeakOf.calls k2 _ _ t126 t132 _ ?side1 ?side2 A28.out).mono ?_);(case side1 => exact Kd.C_up (Kd.R_reads' HO129.out).2.2);(case side2 => exact (Kd.R_reads' HO129.out).2.1);rintro e w' ⟨rfl,⟨nd,rfl⟩⟩;(try first | exact ⟨rfl,_,World.drewN_drewN _ _ _⟩ | exact ⟨rfl,_,Eq.trans (World.drewN_drewN _ _ _) (congrArg (World.drewN _) (Nat.add_assoc _ _ _))⟩))))
             go_ret
             exact ⟨by first | rfl | (simp [errW_none,errW_some] <;> rfl) | (simp [*,errW_none,errW_some] <;> rfl),by repeat (first | (with_reducible first | exact HB.out | apply below_alloc | apply pw_below_drewN | apply below_drew1 | refine below_set ?_ GE119.out | refine below_set ?_ GE125.out) | exact HB.out)⟩
           ·rw [if_neg c27] at H
            have c27b0 : ((t126.length : Int) == t131) = false := beq_eq_false_iff_ne.mpr c27
            have c27b1 : ((t126.length : Int) != t131) = true := bne_iff_ne.mpr c27
            obtain rfl := Option.some.inj H
            have p124 : 0 ≤ (x37_2 : Int) := of_decide_eq_true (by first | (with_reducible assumption) | assumption)
            have q124 : x37_2 < (l0_3.length : Int) := of_decide_eq_true (by first | (with_reducible assumption) | assumption)
            obtain ⟨ad124,e124,hx124_0,hx124_1⟩ := at_T66 HR0_3.out x37_2 p124 q124
            cases e124
            replace hx124_0 := (HB.out.cell (World.block_lt_of_cell? w _ hx124_0)).trans hx124_0
            replace hx124_1 := (HB.out.cell (World.block_lt_of_cell? w _ hx124_1)).trans hx124_1
            replace p124 := eq_true p124
            replace q124 := eq_true q124
            go_wp2_with (first | ((with_reducible refine gate_dst (N := 4) rfl ?_);(try (refine gate_guard (by rfl) ?_;dsimp only));refine box_event ?hg (N := 4) ?hd (cs := #[.int .i64 0,.int .i64 0]) (t := 66) ?hr ?_;(case hd => rfl);(case hg => rfl);(case hr => first | (go_simp;done) | (go_simp;rfl));intro gb125 hg w46 hbox hb;have n0_ := Aside0.mk (blk_below (g := gb119) (o := .cells #[.int .i64 a0_0,.int .i64 a0_1,.int .i64 a0_2,.slice (some ad124) l0_3.length c0_3] 31 (0,0)) (blk_up BK119.out) hb);have n1_ := Aside0.mk (below_step (B_set HB.out) hb);have n2_ := Aside0.mk (hbox);have n3_ := Aside0.mk ((by rw [hg];exact (below_size (B_set HB.out)) : w.heap.size ≤ gb125));have n4_ := Aside0.mk ((by rw [hg];exact (below_size (B_set HB.out)) : w.heap.size ≤ gb125));have n5_ := Aside0.mk ((by rw [hg];exact Nat.ne_of_lt (blk_lt (g := gb119) (o := .cells #[.int .i64 a0_0,.int .i64 a0_1,.int .i64 a0_2,.slice (some ad124) l0_3.length c0_3] 31 (0,0)) (blk_up BK119.out)) : gb119 ≠ gb125));have n6_ := Aside0.mk ((by rw [hg];exact Nat.ne_of_gt (blk_lt (g := gb119) (o := .cells #[.int .i64 a0_0,.int .i64 a0_1,.int .i64 a0_2,.slice (some ad124) l0_3.length c0_3] 31 (0,0)) (blk_up BK119.out)) : gb125 ≠ gb119));clear BK119;clear HB;have BK119 := n0_;have HB := n1_;have BK125 := n2_;have GW125 := n3_;have GE125 := n4_;have NB119_125 := n5_;have NB125_119 := n6_;clear n0_ n1_ n2_ n3_ n4_ n5_ n6_;clear hb hbox hg;have hnb47 := NB125_119.out;have hnc47 := NB119_125.out;have hcz48_0 : w46.cell? ⟨gb125,0,none⟩ = some (.int .i64 0) := (blk_cell BK125.out 0).trans rfl;have hcz48_1 : w46.cell? ⟨gb125,1,none⟩ = some (.int .i64 0) := (blk_cell BK125.out 1).trans rfl;have hfz48_0 := blk_frozen BK125.out 0;have hfz48_1 := blk_frozen BK125.out 1) | (go_at_call 75;(with_reducible refine (impl_BytesOf.calls k2 ((rd_T66 l0_3 x37_2).f1) t126 true _ A24.out).mono ?_);rintro e w49 ⟨v128,rfl,ho0,hb⟩;have n0_ := Aside0.mk (Kd.R_lower ho0 (below_size (B_set HB.out)));have n1_ := Aside0.mk (blk_below (g := gb119) (o := .cells #[.int .i64 a0_0,.int .i64 a0_1,.int .i64 a0_2,.slice (some ad124) l0_3.length c0_3] 31 (0,0)) (by (with_reducible repeat (first | refine blk_drewN ?_ _ | refine blk_drew ?_ | refine blk_alloc ?_ _));refine blk_far ?_ NB119_125.out _;(with_reducible repeat (first | refine blk_drewN ?_ _ | refine blk_drew ?_ | refine blk_alloc ?_ _));refine blk_far ?_ NB119_125.out _;(with_reducible repeat (first | refine blk_drewN ?_ _ | refine blk_drew ?_ | refine blk_alloc ?_ _));exact BK119.out) hb);have n2_ := Aside0.mk (blk_below (g := gb125) (o := .cells #[.int .i64 ((rd_T66 l0_3 x37_2).f0),.int .i64 ((rd_T66 l0_3 x37_2).f1)] 66 (0,0)) (by (with_reducible repeat (first | refine blk_drewN ?_ _ | refine blk_drew ?_ | refine blk_alloc ?_ _));refine blk_put (cs := #[.int .i64 ((rd_T66 l0_3 x37_2).f0),.int .i64 0]) ?_ 1 _ rfl;(with_reducible repeat (first | refine blk_drewN ?_ _ | refine blk_drew ?_ | refine blk_alloc ?_ _));refine blk_put (cs := #[.int .i64 0,.int .i64 0]) ?_ 0 _ rfl;(with_reducible repeat (first | refine blk_drewN ?_ _ | refine blk_drew ?_ | refine blk_alloc ?_ _));exact BK125.out) hb);have n3_ := Aside0.mk (below_step (B_set HB.out) hb);clear BK119;clear BK125;clear HB;have HO129 := n0_;have BK119 := n1_;have BK125 := n2_;have HB := n3_;clear n0_ n1_ n2_ n3_;(try clear hb);(try clear hb2);(try clear hk);(try clear hi);(try clear ho0);have hcz50_0 : w49.cell? ⟨gb119,0,none⟩ = some (.int .i64 a0_0) := (blk_cell BK119.out 0).trans rfl;have hcz50_1 : w49.cell? ⟨gb119,1,none⟩ = some (.int .i64 a0_1) := (blk_cell BK119.out 1).trans rfl;have hcz50_2 : w49.cell? ⟨gb119,2,none⟩ = some (.int .i64 a0_2) := (blk_cell BK119.out 2).trans rfl;have hcz50_3 : w49.cell? ⟨gb119,3,none⟩ = some (.slice (some ad124) l0_3.length c0_3) := (blk_cell BK119.out 3).trans rfl;have hfz50_0 := blk_frozen BK119.out 0;have hfz50_1 := blk_frozen BK119.out 1;have hfz50_2 := blk_frozen BK119.out 2;have hfz50_3 := blk_frozen BK119.out 3) | (go_at_call 52;(with_reducible refine (impl_SpanOf.calls a0_1 a0_2 x37_2 t130 t131 _ A25.out).mono ?_);rintro e w51 ⟨rfl,hb⟩;have n0_ := Aside0.mk (Kd.R_below (Kd.R_up HO129.out) hb);have n1_ := Aside0.mk (blk_below (g := gb119) (o := .cells #[.int .i64 a0_0,.int .i64 a0_1,.int .i64 a0_2,.slice (some ad124) l0_3.length c0_3] 31 (0,0)) (blk_up BK119.out) hb);have n2_ := Aside0.mk (blk_below (g := gb125) (o := .cells #[.int .i64 ((rd_T66 l0_3 x37_2).f0),.int .i64 ((rd_T66 l0_3 x37_2).f1)] 66 (0,0)) (blk_up BK125.out) hb);have n3_ := Aside0.mk (below_step (B_set HB.out) hb);clear HO129;clear BK119;clear BK125;clear HB;have HO129 := n0_;have BK119 := n1_;have BK125 := n2_;have HB := n3_;clear n0_ n1_ n2_ n3_;(try clear hb);(try clear hb2);(try clear hk);(try clear hi);obtain ⟨Ao52,co52,eo52⟩ := Kd.R_slice HO129.out;subst eo52))
            repeat (go_quiet (first | ((with_reducible refine gate_dst (N := 4) rfl ?_);(try (refine gate_guard (by rfl) ?_;dsimp only));refine box_event ?hg (N := 4) ?hd (cs := #[.int .i64 0,.int .i64 0]) (t := 66) ?hr ?_;(case hd => rfl);(case hg => rfl);(case hr => first | (go_simp;done) | (go_simp;rfl));intro gb125 hg w46 hbox hb;have n0_ := Aside0.mk (blk_below (g := gb119) (o := .cells #[.int .i64 a0_0,.int .i64 a0_1,.int .i64 a0_2,.slice (some ad124) l0_3.length c0_3] 31 (0,0)) (blk_up BK119.out) hb);have n1_ := Aside0.mk (below_step (B_set HB.out) hb);have n2_ := Aside0.mk (hbox);have n3_ := Aside0.mk ((by rw [hg];exact (below_size (B_set HB.out)) : w.heap.size ≤ gb125));have n4_ := Aside0.mk ((by rw [hg];exact (below_size (B_set HB.out)) : w.heap.size ≤ gb125));have n5_ := Aside0.mk ((by rw [hg];exact Nat.ne_of_lt (blk_lt (g := gb119) (o := .cells #[.int .i64 a0_0,.int .i64 a0_1,.int .i64 a0_2,.slice (some ad124) l0_3.length c0_3] 31 (0,0)) (blk_up BK119.out)) : gb119 ≠ gb125));have n6_ := Aside0.mk ((by rw [hg];exact Nat.ne_of_gt (blk_lt (g := gb119) (o := .cells #[.int .i64 a0_0,.int .i64 a0_1,.int .i64 a0_2,.slice (some ad124) l0_3.length c0_3] 31 (0,0)) (blk_up BK119.out)) : gb125 ≠ gb119));clear BK119;clear HB;have BK119 := n0_;have HB := n1_;have BK125 := n2_;have GW125 := n3_;have GE125 := n4_;have NB119_125 := n5_;have NB125_119 := n6_;clear n0_ n1_ n2_ n3_ n4_ n5_ n6_;clear hb hbox hg;have hnb47 := NB125_119.out;have hnc47 := NB119_125.out;have hcz48_0 : w46.cell? ⟨gb125,0,none⟩ = some (.int .i64 0) := (blk_cell BK125.out 0).trans rfl;have hcz48_1 : w46.cell? ⟨gb125,1,none⟩ = some (.int .i64 0) := (blk_cell BK125.out 1).trans rfl;have hfz48_0 := blk_frozen BK125.out 0;have hfz48_1 := blk_frozen BK125.out 1) | (go_at_call 75;(with_reducible refine (impl_BytesOf.calls k2 ((rd_T66 l0_3 x37_2).f1) t126 true _ A24.out).mono ?_);rintro e w49 ⟨v128,rfl,ho0,hb⟩;have n0_ := Aside0.mk (Kd.R_lower ho0 (below_size (B_set HB.out)));have n1_ := Aside0.mk (blk_below (g := gb119) (o := .cells #[.int .i64 a0_0,.int .i64 a0_1,.int .i64 a0_2,.slice (some ad124) l0_3.length c0_3] 31 (0,0)) (by (with_reducible repeat (first | refine blk_drewN ?_ _ | refine blk_drew ?_ | refine blk_alloc ?_ _));refine blk_far ?_ NB119_125.out _;(with_reducible repeat (first | refine blk_drewN ?_ _ | refine blk_drew ?_ | refine blk_alloc ?_ _));refine blk_far ?_ NB119_125.out _;(with_reducible repeat (first | refine blk_drewN ?_ _ | refine blk_drew ?_ | refine blk_alloc ?_ _));exact BK119.out) hb);have n2_ := Aside0.mk (blk_below (g := gb125) (o := .cells #[.int .i64 ((rd_T66 l0_3 x37_2).f0),.int .i64 ((rd_T66 l0_3 x37_2).f1)] 66 (0,0)) (by (with_reducible repeat (first | refine blk_drewN ?_ _ | refine blk_drew ?_ | refine blk_alloc ?_ _));refine blk_put (cs := #[.int .i64 ((rd_T66 l0_3 x37_2).f0),.int .i64 0]) ?_ 1 _ rfl;(with_reducible repeat (first | refine blk_drewN ?_ _ | refine blk_drew ?_ | refine blk_alloc ?_ _));refine blk_put (cs := #[.int .i64 0,.int .i64 0]) ?_ 0 _ rfl;(with_reducible repeat (first | refine blk_drewN ?_ _ | refine blk_drew ?_ | refine blk_alloc ?_ _));exact BK125.out) hb);have n3_ := Aside0.mk (below_step (B_set HB.out) hb);clear BK119;clear BK125;clear HB;have HO129 := n0_;have BK119 := n1_;have BK125 := n2_;have HB := n3_;clear n0_ n1_ n2_ n3_;(try clear hb);(try clear hb2);(try clear hk);(try clear hi);(try clear ho0);have hcz50_0 : w49.cell? ⟨gb119,0,none⟩ = some (.int .i64 a0_0) := (blk_cell BK119.out 0).trans rfl;have hcz50_1 : w49.cell? ⟨gb119,1,none⟩ = some (.int .i64 a0_1) := (blk_cell BK119.out 1).trans rfl;have hcz50_2 : w49.cell? ⟨gb119,2,none⟩ = some (.int .i64 a0_2) := (blk_cell BK119.out 2).trans rfl;have hcz50_3 : w49.cell? ⟨gb119,3,none⟩ = some (.slice (some ad124) l0_3.length c0_3) := (blk_cell BK119.out 3).trans rfl;have hfz50_0 := blk_frozen BK119.out 0;have hfz50_1 := blk_frozen BK119.out 1;have hfz50_2 := blk_frozen BK119.out 2;have hfz50_3 := blk_frozen BK119.out 3) | (go_at_call 52;(with_reducible refine (impl_SpanOf.calls a0_1 a0_2 x37_2 t130 t131 _ A25.out).mono ?_);rintro e w51 ⟨rfl,hb⟩;have n0_ := Aside0.mk (Kd.R_below (Kd.R_up HO129.out) hb);have n1_ := Aside0.mk (blk_below (g := gb119) (o := .cells #[.int .i64 a0_0,.int .i64 a0_1,.int .i64 a0_2,.slice (some ad124) l0_3.length c0_3] 31 (0,0)) (blk_up BK119.out) hb);have n2_ := Aside0.mk (blk_below (g := gb125) (o := .cells #[.int .i64 ((rd_T66 l0_3 x37_2).f0),.int .i64 ((rd_T66 l0_3 x37_2).f1)] 66 (0,0)) (blk_up BK125.out) hb);have n3_ := Aside0.mk (below_step (B_set HB.out) hb);clear HO129;clear BK119;clear BK125;clear HB;have HO129 := n0_;have BK119 := n1_;have BK125 := n2_;have HB := n3_;clear n0_ n1_ n2_ n3_;(try clear hb);(try clear hb2);(try clear hk);(try clear hi);obtain ⟨Ao52,co52,eo52⟩ := Kd.R_slice HO129.out;subst eo52));try go_wp2_with (first | ((with_reducible refine gate_dst (N := 4) rfl ?_);(try (refine gate_guard (by rfl) ?_;dsimp only));refine box_event ?hg (N := 4) ?hd (cs := #[.int .i64 0,.int .i64 0]) (t := 66) ?hr ?_;(case hd => rfl);(case hg => rfl);(case hr => first | (go_simp;done) | (go_simp;rfl));intro gb125 hg w46 hbox hb;have n0_ := Aside0.mk (blk_below (g := gb119) (o := .cells #[.int .i64 a0_0,.int .i64 a0_1,.int .i64 a0_2,.slice (some ad124) l0_3.length c0_3] 31 (0,0)) (blk_up BK119.out) hb);have n1_ := Aside0.mk (below_step (B_set HB.out) hb);have n2_ := Aside0.mk (hbox);have n3_ := Aside0.mk ((by rw [hg];exact (below_size (B_set HB.out)) : w.heap.size ≤ gb125));have n4_ := Aside0.mk ((by rw [hg];exact (below_size (B_set HB.out)) : w.heap.size ≤ gb125));have n5_ := Aside0.mk ((by rw [hg];exact Nat.ne_of_lt (blk_lt (g := gb119) (o := .cells #[.int .i64 a0_0,.int .i64 a0_1,.int .i64 a0_2,.slice (some ad124) l0_3.length c0_3] 31 (0,0)) (blk_up BK119.out)) : gb119 ≠ gb125));have n6_ := Aside0.mk ((by rw [hg];exact Nat.ne_of_gt (blk_lt (g := gb119) (o := .cells #[.int .i64 a0_0,.int .i64 a0_1,.int .i64 a0_2,.slice (some ad124) l0_3.length c0_3] 31 (0,0)) (blk_up BK119.out)) : gb125 ≠ gb119));clear BK119;clear HB;have BK119 := n0_;have HB := n1_;have BK125 := n2_;have GW125 := n3_;have GE125 := n4_;have NB119_125 := n5_;have NB125_119 := n6_;clear n0_ n1_ n2_ n3_ n4_ n5_ n6_;clear hb hbox hg;have hnb47 := NB125_119.out;have hnc47 := NB119_125.out;have hcz48_0 : w46.cell? ⟨gb125,0,none⟩ = some (.int .i64 0) := (blk_cell BK125.out 0).trans rfl;have hcz48_1 : w46.cell? ⟨gb125,1,none⟩ = some (.int .i64 0) := (blk_cell BK125.out 1).trans rfl;have hfz48_0 := blk_frozen BK125.out 0;have hfz48_1 := blk_frozen BK125.out 1) | (go_at_call 75;(with_reducible refine (impl_BytesOf.calls k2 ((rd_T66 l0_3 x37_2).f1) t126 true _ A24.out).mono ?_);rintro e w49 ⟨v128,rfl,ho0,hb⟩;have n0_ := Aside0.mk (Kd.R_lower ho0 (below_size (B_set HB.out)));have n1_ := Aside0.mk (blk_below (g := gb119) (o := .cells #[.int .i64 a0_0,.int .i64 a0_1,.int .i64 a0_2,.slice (some ad124) l0_3.length c0_3] 31 (0,0)) (by (with_reducible repeat (first | refine blk_drewN ?_ _ | refine blk_drew ?_ | refine blk_alloc ?_ _));refine blk_far ?_ NB119_125.out _;(with_reducible repeat (first | refine blk_drewN ?_ _ | refine blk_drew ?_ | refine blk_alloc ?_ _));refine blk_far ?_ NB119_125.out _;(with_reducible repeat (first | refine blk_drewN ?_ _ | refine blk_drew ?_ | refine blk_alloc ?_ _));exact BK119.out) hb);have n2_ := Aside0.mk (blk_below (g := gb125) (o := .cells #[.int .i64 ((rd_T66 l0_3 x37_2).f0),.int .i64 ((rd_T66 l0_3 x37_2).f1)] 66 (0,0)) (by (with_reducible repeat (first | refine blk_drewN ?_ _ | refine blk_drew ?_ | refine blk_alloc ?_ _));refine blk_put (cs := #[.int .i64 ((rd_T66 l0_3 x37_2).f0),.int .i64 0]) ?_ 1 _ rfl;(with_reducible repeat (first | refine blk_drewN ?_ _ | refine blk_drew ?_ | refine blk_alloc ?_ _));refine blk_put (cs := #[.int .i64 0,.int .i64 0]) ?_ 0 _ rfl;(with_reducible repeat (first | refine blk_drewN ?_ _ | refine blk_drew ?_ | refine blk_alloc ?_ _));exact BK125.out) hb);have n3_ := Aside0.mk (below_step (B_set HB.out) hb);clear BK119;clear BK125;clear HB;have HO129 := n0_;have BK119 := n1_;have BK125 := n2_;have HB := n3_;clear n0_ n1_ n2_ n3_;(try clear hb);(try clear hb2);(try clear hk);(try clear hi);(try clear ho0);have hcz50_0 : w49.cell? ⟨gb119,0,none⟩ = some (.int .i64 a0_0) := (blk_cell BK119.out 0).trans rfl;have hcz50_1 : w49.cell? ⟨gb119,1,none⟩ = some (.int .i64 a0_1) := (blk_cell BK119.out 1).trans rfl;have hcz50_2 : w49.cell? ⟨gb119,2,none⟩ = some (.int .i64 a0_2) := (blk_cell BK119.out 2).trans rfl;have hcz50_3 : w49.cell? ⟨gb119,3,none⟩ = some (.slice (some ad124) l0_3.length c0_3) := (blk_cell BK119.out 3).trans rfl;have hfz50_0 := blk_frozen BK119.out 0;have hfz50_1 := blk_frozen BK119.out 1;have hfz50_2 := blk_frozen BK119.out 2;have hfz50_3 := blk_frozen BK119.out 3) | (go_at_call 52;(with_reducible refine (impl_SpanOf.calls a0_1 a0_2 x37_2 t130 t131 _ A25.out).mono ?_);rintro e w51 ⟨rfl,hb⟩;have n0_ := Aside0.mk (Kd.R_below (Kd.R_up HO129.out) hb);have n1_ := Aside0.mk (blk_below (g := gb119) (o := .cells #[.int .i64 a0_0,.int .i64 a0_1,.int .i64 a0_2,.slice (some ad124) l0_3.length c0_3] 31 (0,0)) (blk_up BK119.out) hb);have n2_ := Aside0.mk (blk_below (g := gb125) (o := .cells #[.int .i64 ((rd_T66 l0_3 x37_2).f0),.int .i64 ((rd_T66 l0_3 x37_2).f1)] 66 (0,0)) (blk_up BK125.out) hb);have n3_ := Aside0.mk (below_step (B_set HB.out) hb);clear HO129;clear BK119;clear BK125;clear HB;have HO129 := n0_;have BK119 := n1_;have BK125 := n2_;have HB := n3_;clear n0_ n1_ n2_ n3_;(try clear hb);(try clear hb2);(try clear hk);(try clear hi);obtain ⟨Ao52,co52,eo52⟩ := Kd.R_slice HO129.out;subst eo52)))
            go_ret
            exact ⟨by first | rfl | (simp [errW_none,errW_some] <;> rfl) | (simp [*,errW_none,errW_some] <;> rfl),by repeat (first | (with_reducible first | exact HB.out | apply below_alloc | apply pw_below_drewN | apply below_drew1 | refine below_set ?_ GE119.out | refine below_set ?_ GE125.out) | exact HB.out)⟩
          ·replace c26 := Bool.eq_false_iff.mpr c26
           subst c26
           have H1 : (some false) = some r := by rw [if_neg (show ¬ (false = true) by decide)] at H;exact H
           clear H
           have H := H1
           clear H1
           obtain rfl := Option.some.inj H
           have p124 : 0 ≤ (x37_2 : Int) := of_decide_eq_true (by first | (with_reducible assumption) | assumption)
           have q124 : x37_2 < (l0_3.length : Int) := of_decide_eq_true (by first | (with_reducible assumption) | assumption)
           obtain ⟨ad124,e124,hx124_0,hx124_1⟩ := at_T66 HR0_3.out x37_2 p124 q124
           cases e124
           replace hx124_0 := (HB.out.cell (World.block_lt_of_cell? w _ hx124_0)).trans hx124_0
           replace hx124_1 := (HB.out.cell (World.block_lt_of_cell? w _ hx124_1)).trans hx124_1
           replace p124 := eq_true p124
           replace q124 := eq_true q124
           go_wp2_with (first | ((with_reducible refine gate_dst (N := 4) rfl ?_);(try (refine gate_guard (by rfl) ?_;dsimp only));refine box_event ?hg (N := 4) ?hd (cs := #[.int .i64 0,.int .i64 0]) (t := 66) ?hr ?_;(case hd => rfl);(case hg => rfl);(case hr => first | (go_simp;done) | (go_simp;rfl));intro gb125 hg w53 hbox hb;have n0_ := Aside0.mk (blk_below (g := gb119) (o := .cells #[.int .i64 a0_0,.int .i64 a0_1,.int .i64 a0_2,.slice (some ad124) l0_3.length c0_3] 31 (0,0)) (blk_up BK119.out) hb);have n1_ := Aside0.mk (below_step (B_set HB.out) hb);have n2_ := Aside0.mk (hbox);have n3_ := Aside0.mk ((by rw [hg];exact (below_size (B_set HB.out)) : w.heap.size ≤ gb125));have n4_ := Aside0.mk ((by rw [hg];exact (below_size (B_set HB.out)) : w.heap.size ≤ gb125));have n5_ := Aside0.mk ((by rw [hg];exact Nat.ne_of_lt (blk_lt (g := gb119) (o := .cells #[.int .i64 a0_0,.int .i64 a0_1,.int .i64 a0_2,.slice (some ad124) l0_3.length c0_3] 31 (0,0)) (blk_up BK119.out)) : gb119 ≠ gb125));have n6_ := Aside0.mk ((by rw [hg];exact Nat.ne_of_gt (blk_lt (g := gb119) (o := .cells #[.int .i64 a0_0,.int .i64 a0_1,.int .i64 a0_2,.slice (some ad124) l0_3.length c0_3] 31 (0,0)) (blk_up BK119.out)) : gb125 ≠ gb119));clear BK119;clear HB;have BK119 := n0_;have HB := n1_;have BK125 := n2_;have GW125 := n3_;have GE125 := n4_;have NB119_125 := n5_;have NB125_119 := n6_;clear n0_ n1_ n2_ n3_ n4_ n5_ n6_;clear hb hbox hg;have hnb54 := NB125_119.out;have hnc54 := NB119_125.out;have hcz55_0 : w53.cell? ⟨gb125,0,none⟩ = some (.int .i64 0) := (blk_cell BK125.out 0).trans rfl;have hcz55_1 : w53.cell? ⟨gb125,1,none⟩ = some (.int .i64 0) := (blk_cell BK125.out 1).trans rfl;have hfz55_0 := blk_frozen BK125.out 0;have hfz55_1 := blk_frozen BK125.out 1) | (go_at_call 75;(with_reducible refine (impl_BytesOf.calls k2 ((rd_T66 l0_3 x37_2).f1) t126 false _ A24.out).mono ?_);rintro e w56 ⟨v128,rfl,ho0,hb⟩;have n0_ := Aside0.mk (Kd.R_lower ho0 (below_size (B_set HB.out)));have n1_ := Aside0.mk (blk_below (g := gb119) (o := .cells #[.int .i64 a0_0,.int .i64 a0_1,.int .i64 a0_2,.slice (some ad124) l0_3.length c0_3] 31 (0,0)) (by (with_reducible repeat (first | refine blk_drewN ?_ _ | refine blk_drew ?_ | refine blk_alloc ?_ _));refine blk_far ?_ NB119_125.out _;(with_reducible repeat (first | refine blk_drewN ?_ _ | refine blk_drew ?_ | refine blk_alloc ?_ _));refine blk_far ?_ NB119_125.out _;(with_reducible repeat (first | refine blk_drewN ?_ _ | refine blk_drew ?_ | refine blk_alloc ?_ _));exact BK119.out) hb);have n2_ := Aside0.mk (blk_below (g := gb125) (o := .cells #[.int .i64 ((rd_T66 l0_3 x37_2).f0),.int .i64 ((rd_T66 l0_3 x37_2).f1)] 66 (0,0)) (by (with_reducible repeat (first | refine blk_drewN ?_ _ | refine blk_drew ?_ | refine blk_alloc ?_ _));refine blk_put (cs := #[.int .i64 ((rd_T66 l0_3 x37_2).f0),.int .i64 0]) ?_ 1 _ rfl;(with_reducible repeat (first | refine blk_drewN ?_ _ | refine blk_drew ?_ | refine blk_alloc ?_ _));refine blk_put (cs := #[.int .i64 0,.int .i64 0]) ?_ 0 _ rfl;(with_reducible repeat (first | refine blk_drewN ?_ _ | refine blk_drew ?_ | refine blk_alloc ?_ _));exact BK125.out) hb);have n3_ := Aside0.mk (below_step (B_set HB.out) hb);clear BK119;clear BK125;clear HB;have HO129 := n0_;have BK119 := n1_;have BK125 := n2_;have HB := n3_;clear n0_ n1_ n2_ n3_;(try clear hb);(try clear hb2);(try clear hk);(try clear hi);(try clear ho0);have hcz57_0 : w56.cell? ⟨gb119,0,none⟩ = some (.int .i64 a0_0) := (blk_cell BK119.out 0).trans rfl;have hcz57_1 : w56.cell? ⟨gb119,1,none⟩ = some (.int .i64 a0_1) := (blk_cell BK119.out 1).trans rfl;have hcz57_2 : w56.cell? ⟨gb119,2,none⟩ = some (.int .i64 a0_2) := (blk_cell BK119.out 2).trans rfl;have hcz57_3 : w56.cell? ⟨gb119,3,none⟩ = some (.slice (some ad124) l0_3.length c0_3) := (blk_cell BK119.out 3).trans rfl;have hfz57_0 := blk_frozen BK119.out 0;have hfz57_1 := blk_frozen BK119.out 1;have hfz57_2 := blk_frozen BK119.out 2;have hfz57_3 := blk_frozen BK119.out 3) | (go_at_call 52;(with_reducible refine (impl_SpanOf.calls a0_1 a0_2 x37_2 t130 t131 _ A25.out).mono ?_);rintro e w58 ⟨rfl,hb⟩;have n0_ := Aside0.mk (Kd.R_below (Kd.R_up HO129.out) hb);have n1_ := Aside0.mk (blk_below (g := gb119) (o := .cells #[.int .i64 a0_0,.int .i64 a0_1,.int .i64 a0_2,.slice (some ad124) l0_3.length c0_3] 31 (0,0)) (blk_up BK119.out) hb);have n2_ := Aside0.mk (blk_below (g := gb125) (o := .cells #[.int .i64 ((rd_T66 l0_3 x37_2).f0),.int .i64 ((rd_T66 l0_3 x37_2).f1)] 66 (0,0)) (blk_up BK125.out) hb);have n3_ := Aside0.mk (below_step (B_set HB.out) hb);clear HO129;clear BK119;clear BK125;clear HB;have HO129 := n0_;have BK119 := n1_;have BK125 := n2_;have HB := n3_;clear n0_ n1_ n2_ n3_;(try clear hb);(try clear hb2);(try clear hk);(try clear hi)))
           repeat (go_quiet (first | ((with_reducible refine gate_dst (N := 4) rfl ?_);(try (refine gate_guard (by rfl) ?_;dsimp only));refine box_event ?hg (N := 4) ?hd (cs := #[.int .i64 0,.int .i64 0]) (t := 66) ?hr ?_;(case hd => rfl);(case hg => rfl);(case hr => first | (go_simp;done) | (go_simp;rfl));intro gb125 hg w53 hbox hb;have n0_ := Aside0.mk (blk_below (g := gb119) (o := .cells #[.int .i64 a0_0,.int .i64 a0_1,.int .i64 a0_2,.slice (some ad124) l0_3.length c0_3] 31 (0,0)) (blk_up BK119.out) hb);have n1_ := Aside0.mk (below_step (B_set HB.out) hb);have n2_ := Aside0.mk (hbox);have n3_ := Aside0.mk ((by rw [hg];exact (below_size (B_set HB.out)) : w.heap.size ≤ gb125));have n4_ := Aside0.mk ((by rw [hg];exact (below_size (B_set HB.out)) : w.heap.size ≤ gb125));have n5_ := Aside0.mk ((by rw [hg];exact Nat.ne_of_lt (blk_lt (g := gb119) (o := .cells #[.int .i64 a0_0,.int .i64 a0_1,.int .i64 a0_2,.slice (some ad124) l0_3.length c0_3] 31 (0,0)) (blk_up BK119.out)) : gb119 ≠ gb125));have n6_ := Aside0.mk ((by rw [hg];exact Nat.ne_of_gt (blk_lt (g := gb119) (o := .cells #[.int .i64 a0_0,.int .i64 a0_1,.int .i64 a0_2,.slice (some ad124) l0_3.length c0_3] 31 (0,0)) (blk_up BK119.out)) : gb125 ≠ gb119));clear BK119;clear HB;have BK119 := n0_;have HB := n1_;have BK125 := n2_;have GW125 := n3_;have GE125 := n4_;have NB119_125 := n5_;have NB125_119 := n6_;clear n0_ n1_ n2_ n3_ n4_ n5_ n6_;clear hb hbox hg;have hnb54 := NB125_119.out;have hnc54 := NB119_125.out;have hcz55_0 : w53.cell? ⟨gb125,0,none⟩ = some (.int .i64 0) := (blk_cell BK125.out 0).trans rfl;have hcz55_1 : w53.cell? ⟨gb125,1,none⟩ = some (.int .i64 0) := (blk_cell BK125.out 1).trans rfl;have hfz55_0 := blk_frozen BK125.out 0;have hfz55_1 := blk_frozen BK125.out 1) | (go_at_call 75;(with_reducible refine (impl_BytesOf.calls k2 ((rd_T66 l0_3 x37_2).f1) t126 false _ A24.out).mono ?_);rintro e w56 ⟨v128,rfl,ho0,hb⟩;have n0_ := Aside0.mk (Kd.R_lower ho0 (below_size (B_set HB.out)));have n1_ := Aside0.mk (blk_below (g := gb119) (o := .cells #[.int .i64 a0_0,.int .i64 a0_1,.int .i64 a0_2,.slice (some ad124) l0_3.length c0_3] 31 (0,0)) (by (with_reducible repeat (first | refine blk_drewN ?_ _ | refine blk_drew ?_ | refine blk_alloc ?_ _));refine blk_far ?_ NB119_125.out _;(with_reducible repeat (first | refine blk_drewN ?_ _ | refine blk_drew ?_ | refine blk_alloc ?_ _));refine blk_far ?_ NB119_125.out _;(with_reducible repeat (first | refine blk_drewN ?_ _ | refine blk_drew ?_ | refine blk_alloc ?_ _));exact BK119.out) hb);have n2_ := Aside0.mk (blk_below (g := gb125) (o := .cells #[.int .i64 ((rd_T66 l0_3 x37_2).f0),.int .i64 ((rd_T66 l0_3 x37_2).f1)] 66 (0,0)) (by (with_reducible repeat (first | refine blk_drewN ?_ _ | refine blk_drew ?_ | refine blk_alloc ?_ _));refine blk_put (cs := #[.int .i64 ((rd_T66 l0_3 x37_2).f0),.int .i64 0]) ?_ 1 _ rfl;(with_reducible repeat (first | refine blk_drewN ?_ _ | refine blk_drew ?_ | refine blk_alloc ?_ _));refine blk_put (cs := #[.int .i64 0,.int .i64 0]) ?_ 0 _ rfl;(with_reducible repeat (first | refine blk_drewN ?_ _ | refine blk_drew ?_ | refine blk_alloc ?_ _));exact BK125.out) hb);have n3_ := Aside0.mk (below_step (B_set HB.out) hb);clear BK119;clear BK125;clear HB;have HO129 := n0_;have BK119 := n1_;have BK125 := n2_;have HB := n3_;clear n0_ n1_ n2_ n3_;(try clear hb);(try clear hb2);(try clear hk);(try clear hi);(try clear ho0);have hcz57_0 : w56.cell? ⟨gb119,0,none⟩ = some (.int .i64 a0_0) := (blk_cell BK119.out 0).trans rfl;have hcz57_1 : w56.cell? ⟨gb119,1,none⟩ = some (.int .i64 a0_1) := (blk_cell BK119.out 1).trans rfl;have hcz57_2 : w56.cell? ⟨gb119,2,none⟩ = some (.int .i64 a0_2) := (blk_cell BK119.out 2).trans rfl;have hcz57_3 : w56.cell? ⟨gb119,3,none⟩ = some (.slice (some ad124) l0_3.length c0_3) := (blk_cell BK119.out 3).trans rfl;have hfz57_0 := blk_frozen BK119.out 0;have hfz57_1 := blk_frozen BK119.out 1;have hfz57_2 := blk_frozen BK119.out 2;have hfz57_3 := blk_frozen BK119.out 3) | (go_at_call 52;(with_reducible refine (impl_SpanOf.calls a0_1 a0_2 x37_2 t130 t131 _ A25.out).mono ?_);rintro e w58 ⟨rfl,hb⟩;have n0_ := Aside0.mk (Kd.R_below (Kd.R_up HO129.out) hb);have n1_ := Aside0.mk (blk_below (g := gb119) (o := .cells #[.int .i64 a0_0,.int .i64 a0_1,.int .i64 a0_2,.slice (some ad124) l0_3.length c0_3] 31 (0,0)) (blk_up BK119.out) hb);have n2_ := Aside0.mk (blk_below (g := gb125) (o := .cells #[.int .i64 ((rd_T66 l0_3 x37_2).f0),.int .i64 ((rd_T66 l0_3 x37_2).f1)] 66 (0,0)) (blk_up BK125.out) hb);have n3_ := Aside0.mk (below_step (B_set HB.out) hb);clear HO129;clear BK119;clear BK125;clear HB;have HO129 := n0_;have BK119 := n1_;have BK125 := n2_;have HB := n3_;clear n0_ n1_ n2_ n3_;(try clear hb);(try clear hb2);(try clear hk);(try clear hi)));try go_wp2_with (first | ((with_reducible refine gate_dst (N := 4) rfl ?_);(try (refine gate_guard (by rfl) ?_;dsimp only));refine box_event ?hg (N := 4) ?hd (cs := #[.int .i64 0,.int .i64 0]) (t := 66) ?hr ?_;(case hd => rfl);(case hg => rfl);(case hr => first | (go_simp;done) | (go_simp;rfl));intro gb125 hg w53 hbox hb;have n0_ := Aside0.mk (blk_below (g := gb119) (o := .cells #[.int .i64 a0_0,.int .i64 a0_1,.int .i64 a0_2,.slice (some ad124) l0_3.length c0_3] 31 (0,0)) (blk_up BK119.out) hb);have n1_ := Aside0.mk (below_step (B_set HB.out) hb);have n2_ := Aside0.mk (hbox);have n3_ := Aside0.mk ((by rw [hg];exact (below_size (B_set HB.out)) : w.heap.size ≤ gb125));have n4_ := Aside0.mk ((by rw [hg];exact (below_size (B_set HB.out)) : w.heap.size ≤ gb125));have n5_ := Aside0.mk ((by rw [hg];exact Nat.ne_of_lt (blk_lt (g := gb119) (o := .cells #[.int .i64 a0_0,.int .i64 a0_1,.int .i64 a0_2,.slice (some ad124) l0_3.length c0_3] 31 (0,0)) (blk_up BK119.out)) : gb119 ≠ gb125));have n6_ := Aside0.mk ((by rw [hg];exact Nat.ne_of_gt (blk_lt (g := gb119) (o := .cells #[.int .i64 a0_0,.int .i64 a0_1,.int .i64 a0_2,.slice (some ad124) l0_3.length c0_3] 31 (0,0)) (blk_up BK119.out)) : gb125 ≠ gb119));clear BK119;clear HB;have BK119 := n0_;have HB := n1_;have BK125 := n2_;have GW125 := n3_;have GE125 := n4_;have NB119_125 := n5_;have NB125_119 := n6_;clear n0_ n1_ n2_ n3_ n4_ n5_ n6_;clear hb hbox hg;have hnb54 := NB125_119.out;have hnc54 := NB119_125.out;have hcz55_0 : w53.cell? ⟨gb125,0,none⟩ = some (.int .i64 0) := (blk_cell BK125.out 0).trans rfl;have hcz55_1 : w53.cell? ⟨gb125,1,none⟩ = some (.int .i64 0) := (blk_cell BK125.out 1).trans rfl;have hfz55_0 := blk_frozen BK125.out 0;have hfz55_1 := blk_frozen BK125.out 1) | (go_at_call 75;(with_reducible refine (impl_BytesOf.calls k2 ((rd_T66 l0_3 x37_2).f1) t126 false _ A24.out).mono ?_);rintro e w56 ⟨v128,rfl,ho0,hb⟩;have n0_ := Aside0.mk (Kd.R_lower ho0 (below_size (B_set HB.out)));have n1_ := Aside0.mk (blk_below (g := gb119) (o := .cells #[.int .i64 a0_0,.int .i64 a0_1,.int .i64 a0_2,.slice (some ad124) l0_3.length c0_3] 31 (0,0)) (by (with_reducible repeat (first | refine blk_drewN ?_ _ | refine blk_drew ?_ | refine blk_alloc ?_ _));refine blk_far ?_ NB119_125.out _;(with_reducible repeat (first | refine blk_drewN ?_ _ | refine blk_drew ?_ | refine blk_alloc ?_ _));refine blk_far ?_ NB119_125.out _;(with_reducible repeat (first | refine blk_drewN ?_ _ | refine blk_drew ?_ | refine blk_alloc ?_ _));exact BK119.out) hb);have n2_ := Aside0.mk (blk_below (g := gb125) (o := .cells #[.int .i64 ((rd_T66 l0_3 x37_2).f0),.int .i64 ((rd_T66 l0_3 x37_2).f1)] 66 (0,0)) (by (with_reducible repeat (first | refine blk_drewN ?_ _ | refine blk_drew ?_ | refine blk_alloc ?_ _));refine blk_put (cs := #[.int .i64 ((rd_T66 l0_3 x37_2).f0),.int .i64 0]) ?_ 1 _ rfl;(with_reducible repeat (first | refine blk_drewN ?_ _ | refine blk_drew ?_ | refine blk_alloc ?_ _));refine blk_put (cs := #[.int .i64 0,.int .i64 0]) ?_ 0 _ rfl;(with_reducible repeat (first | refine blk_drewN ?_ _ | refine blk_drew ?_ | refine blk_alloc ?_ _));exact BK125.out) hb);have n3_ := Aside0.mk (below_step (B_set HB.out) hb);clear BK119;clear BK125;clear HB;have HO129 := n0_;have BK119 := n1_;have BK125 := n2_;have HB := n3_;clear n0_ n1_ n2_ n3_;(try clear hb);(try clear hb2);(try clear hk);(try clear hi);(try clear ho0);have hcz57_0 : w56.cell? ⟨gb119,0,none⟩ = some (.int .i64 a0_0) := (blk_cell BK119.out 0).trans rfl;have hcz57_1 : w56.cell? ⟨gb119,1,none⟩ = some (.int .i64 a0_1) := (blk_cell BK119.out 1).trans rfl;have hcz57_2 : w56.cell? ⟨gb119,2,none⟩ = some (.int .i64 a0_2) := (blk_cell BK119.out 2).trans rfl;have hcz57_3 : w56.cell? ⟨gb119,3,none⟩ = some (.slice (some ad124) l0_3.length c0_3) := (blk_cell BK119.out 3).trans rfl;have hfz57_0 := blk_frozen BK119.out 0;have hfz57_1 := blk_frozen BK119.out 1;have hfz57_2 := blk_frozen BK119.out 2;have hfz57_3 := blk_frozen BK119.out 3) | (go_at_call 52;(with_reducible refine (impl_SpanOf.calls a0_1 a0_2 x37_2 t130 t131 _ A25.out).mono ?_);rintro e w58 ⟨rfl,hb⟩;have n0_ := Aside0.mk (Kd.R_below (Kd.R_up HO129.out) hb);have n1_ := Aside0.mk (blk_below (g := gb119) (o := .cells #[.int .i64 a0_0,.int .i64 a0_1,.int .i64 a0_2,.slice (some ad124) l0_3.length c0_3] 31 (0,0)) (blk_up BK119.out) hb);have n2_ := Aside0.mk (blk_below (g := gb125) (o := .cells #[.int .i64 ((rd_T66 l0_3 x37_2).f0),.int .i64 ((rd_T66 l0_3 x37_2).f1)] 66 (0,0)) (blk_up BK125.out) hb);have n3_ := Aside0.mk (below_step (B_set HB.out) hb);clear HO129;clear BK119;clear BK125;clear HB;have HO129 := n0_;have BK119 := n1_;have BK125 := n2_;have HB := n3_;clear n0_ n1_ n2_ n3_;(try clear hb);(try clear hb2);(try clear hk);(try clear hi))))
           go_ret
           exact ⟨by first | rfl | (simp [errW_none,errW_some] <;> rfl) | (simp [*,errW_none,errW_some] <;> rfl),by repeat (first | (with_reducible first | exact HB.out | apply below_alloc | apply pw_below_drewN | apply below_drew1 | refine below_set ?_ GE119.out | refine below_set ?_ GE125.out) | exact HB.out)⟩
         ·rw [if_neg c23] at H
          exact absurd H (by simp)
        ·rw [if_neg c22] at H
         exact absurd H (by simp)
       ·rw [if_neg c21] at H
        have c21b0 : decide (x37_2 < (l0_3.length : Int)) = false := decide_eq_false c21
        clear c21
        obtain rfl := Option.some.inj H
        go_wp2
        repeat (go_quiet (fail);try go_wp2)
        go_ret
        exact ⟨by first | rfl | (simp [errW_none,errW_some] <;> rfl) | (simp [*,errW_none,errW_some] <;> rfl),by repeat (first | (with_reducible first | exact HB.out | apply below_alloc | apply pw_below_drewN | apply below_drew1 | refine below_set ?_ GE119.out) | exact HB.out)⟩

/-! ### impl_cloned: function 65 -/
def impl_cloned.f (l0 : List Int) : Option (List Int) := if 0 ≤ (l0.length : Int) then (if ((l0.length : Int) : Int).toNat ≤ 281474976710656 then ((some (List.replicate 0 0 : List Int)).bind fun y133 => (if y133.length + l0.length < 140737488355328 then (some (y133 ++ l0)) else (none))) else (none)) else (none)
set_option maxHeartbeats 8000000 in
set_option maxRecDepth 100000 in
theorem impl_cloned.calls (A0 : Option Addr) (c0 : Nat) (l0 : List Int) (r : List Int) (w : World) (hr0 : Kd.C (Kd.int .u8) w A0 l0.length l0) (hc0 : l0.length ≤ c0) (h : impl_cloned.f l0 = some r) :
  Calls Try.prog 65 #[.slice A0 l0.length c0] w fun e w' => ∃ v0_ : Value,e = .returned (v0_) ∧ Kd.R (Kd.int .u8) 5 w' w.heap.size (fun _ => True) v0_ r ∧ Below w.heap.size w w' := by
 have HR0 := Aside0.mk hr0
 have HC0 := Aside0.mk hc0
 clear hr0 hc0
 have HB := Aside0.mk (Below.refl w.heap.size w)
 have H : (if 0 ≤ (l0.length : Int) then (if ((l0.length : Int) : Int).toNat ≤ 281474976710656 then ((some (List.replicate 0 0 : List Int)).bind fun y133 => (if y133.length + l0.length < 140737488355328 then (some (y133 ++ l0)) else (none))) else (none)) else (none)) = some r := h
 clear h
 by_cases c2 : 0 ≤ (l0.length : Int)
 ·rw [if_pos c2] at H
  have c2b0 := eq_true c2
  have c2b1 : decide (0 ≤ (l0.length : Int)) = true := decide_eq_true c2
  clear c2
  by_cases c3 : ((l0.length : Int) : Int).toNat ≤ 281474976710656
  ·rw [if_pos c3] at H
   have c3b0 := eq_true c3
   have c3b1 : decide (((l0.length : Int) : Int).toNat ≤ 281474976710656) = true := decide_eq_true c3
   clear c3
   obtain ⟨y133,hy133⟩ : ∃ y_ : List Int,y_ = (List.replicate 0 0) := ⟨_,rfl⟩
   replace H : (if y133.length + l0.length < 140737488355328 then (some (y133 ++ l0)) else (none)) = some r := by first | (rw [hy133];with_reducible exact H) | (have H2_ := (Option.bind_some _ _).symm.trans H;rw [hy133];with_reducible exact H2_) | (have H2_ := (Option.bind_some _ _).symm.trans H;with_reducible exact H2_) | with_reducible exact H | (rw [hy133];exact H) | exact H
   have Ny133 := Aside0.mk hy133
   clear hy133
   by_cases c4 : y133.length + l0.length < 140737488355328
   ·rw [if_pos c4] at H
    have LMc4 := Aside0.mk c4
    clear c4
    obtain ⟨y136,hy136⟩ : ∃ y_ : List Int,y_ = (y133 ++ l0) := ⟨_,rfl⟩
    replace H : (some y136) = some r := by first | (rw [hy136];with_reducible exact H) | (have H2_ := (Option.bind_some _ _).symm.trans H;rw [hy136];with_reducible exact H2_) | (have H2_ := (Option.bind_some _ _).symm.trans H;with_reducible exact H2_) | with_reducible exact H | (rw [hy136];exact H) | exact H
    have Ny136 := Aside0.mk hy136
    clear hy136
    obtain rfl := Option.some.inj H
    go_enter Try.func65,Try.ntmps65
    go_wp2_with (first | ((with_reducible refine gate_dst (N := 5) rfl ?_);refine Kd.R_make0 (Kd.int .u8) _ 5 rfl (N := 5) rfl 22 _ _ rfl (l0.length : Int) rfl rfl Try.underlying22 (.int .u8 0) 1 info5 rfl (by decide) (by omega) 0 (ok := fun _ => True) trivial (of_decide_eq_true (by first | (with_reducible assumption) | assumption)) (Nat.le_trans (Nat.mul_le_mul_right _ (of_decide_eq_true (by first | (with_reducible assumption) | assumption) : (l0.length : Int).toNat ≤ 281474976710656)) (by omega)) (Below.refl _ _) (Nat.le_refl _) ?_;intro v134 w5 ho6 hb hg_ hnew_;clear hg_ hnew_;(first | rw [← Ny133.out] at ho6 | (simp only [Int.reduceToNat] at ho6;rw [← Ny133.out] at ho6));have n0_ := Aside0.mk (Kd.R_lower ho6 (below_size (B_up HB.out)));have n1_ := Aside0.mk (below_step (B_up HB.out) hb);clear HB;have HO135 := n0_;have HB := n1_;clear n0_ n1_;clear hb ho6) | ((with_reducible refine gate_builtin (b := .append) (xs := #[.tmp 5,.tmp 6]) rfl ?_);at_builtin;refine Kd.R_append_rows (Kd.int .u8) (w0 := w) w.heap.size rfl (.tmp 5) (.tmp 6) 22 5 (.int .u8 0) 1 rfl Try.underlying22 info5 rfl (by decide) (by omega) v134 y133 l0 _ _ _ (fun _ => True) (fun _ => False) rfl rfl ?aO ?aR (fun _ _ h => h) (fun _ h => h.elim) ?aF ?aB ?aS ?aL ?_;(case aR => repeat (first | exact (Kd.C_below HR0.out HB.out) | (with_reducible refine Kd.C_alloc ?_ _) | (with_reducible refine Kd.C_drewN ?_ _) | (with_reducible refine Kd.C_drew ?_)));(case aB => exact (B_up HB.out));(case aF => exact (fun _ _ => trivial));(case aO => exact (Kd.R_up HO135.out));(case aS => exact (below_size (B_up HB.out)));(case aL => have := LMc4.out;omega);intro v137 w7 ho hb hg hat;rw [← Ny136.out] at ho;have n0_ := Aside0.mk (hb);have n1_ := Aside0.mk (ho);clear HB;clear HO135;have HB := n0_;have HO138 := n1_;clear n0_ n1_;clear ho hb hg hat))
    go_ret
    exact ⟨_,by first | rfl | (simp [errW_none,errW_some] <;> rfl) | (simp [*,errW_none,errW_some] <;> rfl),by (with_reducible repeat (first | apply Kd.R_alloc | apply Kd.R_drewN | apply Kd.R_drew));exact HO138.out,by repeat (first | (with_reducible first | exact HB.out | apply below_alloc | apply pw_below_drewN | apply below_drew1) | exact HB.out)⟩
   ·rw [if_neg c4] at H
    exact absurd H (by simp)
  ·rw [if_neg c3] at H
   exact absurd H (by simp)
 ·rw [if_neg c2] at H
  exact absurd H (by simp)

/-! ### impl_appendVar: function 67 -/
def impl_appendVar.l0 : Nat → List Int → Int → Option (List Int)
 | 0,_,_ => none
 | k + 1,x0,x1 => if x1 ≥ 128 then (if x0.length < 140737488355328 then (impl_appendVar.l0 k (x0 ++ [Go.bits .or .u8 ((x1) % 256) 128]) (x1 / 128)) else (none)) else (if x0.length < 140737488355328 then (some (x0 ++ [(x1) % 256])) else (none))
def impl_appendVar.f (k : Nat) (l0 : List Int) (a1 : Int) : Option (List Int) := impl_appendVar.l0 k l0 a1
theorem impl_appendVar.mono_l : ∀ k,(∀ y0 y1,LeO (impl_appendVar.l0 k y0 y1) (impl_appendVar.l0 (k + 1) y0 y1))
 | 0 => fun _ _ r h => by simp [impl_appendVar.l0] at h
 | k + 1 => by
  have ih0 := impl_appendVar.mono_l k
  ·intro y0 y1
   unfold impl_appendVar.l0
   repeat' first
   | (with_reducible exact ih0 _ _)
   | (with_reducible exact LeO.refl _)
   | (with_reducible exact LeO.none _)
   | (with_reducible refine LeO.ite ?_ ?_)
   | (with_reducible refine LeO.bind ?_ (fun _ => ?_))
   | exact ih0 _ _
   | exact LeO.none _
   | refine LeO.ite ?_ ?_
   | refine LeO.bind ?_ (fun _ => ?_)
theorem impl_appendVar.mono : ∀ a0 a1 k,LeO (impl_appendVar.f k a0 a1) (impl_appendVar.f (k + 1) a0 a1) := by
 intro a0 a1 k
 have ih0 := impl_appendVar.mono_l k
 unfold impl_appendVar.f
 repeat' first
   | (with_reducible exact ih0 _ _)
   | (with_reducible exact LeO.refl _)
   | (with_reducible exact LeO.none _)
   | (with_reducible refine LeO.ite ?_ ?_)
   | (with_reducible refine LeO.bind ?_ (fun _ => ?_))
   | exact ih0 _ _
   | exact LeO.none _
   | refine LeO.ite ?_ ?_
   | refine LeO.bind ?_ (fun _ => ?_)
set_option maxHeartbeats 8000000 in
set_option maxRecDepth 100000 in
theorem impl_appendVar.calls (k : Nat) (P0_ : Nat → Prop) (u9000_ : Value) (l0 : List Int) (a1 : Int) (r : List Int) (w0 w : World) (hB : Below w0.heap.size w0 w) (ho0 : Kd.R (Kd.int .u8) 5 w w0.heap.size P0_ u9000_ l0) (h : impl_appendVar.f k l0 a1 = some r) :
  Calls Try.prog 67 #[u9000_,.int .i64 a1] w fun e w' => ∃ v0_ : Value,e = .returned (v0_) ∧ Kd.R (Kd.int .u8) 5 w' w0.heap.size (fun k_ => (P0_ k_ ∨ w.heap.size ≤ k_)) v0_ r ∧ Below w0.heap.size w0 w' ∧ Kept w w' (fun k_ => P0_ k_) := by
 have HO0 := Aside0.mk (show Kd.R (Kd.int .u8) 5 w w0.heap.size (fun k_ => (P0_ k_ ∨ w.heap.size ≤ k_)) u9000_ l0 from Kd.R_mono ho0 (fun k_ hk => (.inl hk)))
 have HK := Aside0.mk (Kept.refl w (fun k_ => P0_ k_))
 have HW0 := Aside0.mk hB.size
 have HB := Aside0.mk hB
 clear hB
 have H : (impl_appendVar.l0 k l0 a1) = some r := h
 clear h
 have H' := Aside0.mk H
 clear H
 go_enter Try.func67,Try.ntmps67
 go_wp2
 go_loopg [0,1] k (fun kq v0 v1 w' => ∃ (x0_1 : List Int) (x1_1 : Int),v1 = .int .i64 x1_1 ∧ Aside0 (impl_appendVar.l0 kq x0_1 x1_1 = some r) ∧ Aside0 (kq ≤ k) ∧ Aside0 (Kd.R (Kd.int .u8) 5 w' w0.heap.size (fun k_ => (P0_ k_ ∨ w.heap.size ≤ k_)) v0 x0_1) ∧ Aside0 (Kept w w' (fun k_ => P0_ k_)) ∧ Aside0 (Below w0.heap.size w0 w'))
 case atStart => exact ⟨(l0),(a1),(by first | rfl | (simp;done) | (simp [*];done)),H',⟨Nat.le_refl _⟩,⟨by (with_reducible repeat (first | apply Kd.R_alloc | apply Kd.R_drewN | apply Kd.R_drew));exact HO0.out⟩,⟨by repeat (first | (with_reducible first | exact HK.out | apply Kept.alloc | apply Kept.drewN | apply Kept.drew) | exact HK.out)⟩,⟨by repeat (first | (with_reducible first | exact HB.out | apply below_alloc | apply pw_below_drewN | apply below_drew1) | exact HB.out)⟩⟩
 case round =>
  clear H'
  try clear p2
  obtain ⟨x0_1,x1_1,rfl,HA,HK1,HO_0,HK,HB⟩ := hrel
  cases gk with
  | zero => exact absurd HA.out (by simp [impl_appendVar.l0])
  | succ k1 =>
   have H := HA.out
   clear HA
   simp only [impl_appendVar.l0] at H
   by_cases c3 : x1_1 ≥ 128
   ·rw [if_pos c3] at H
    have c3b0 : decide (128 ≤ x1_1) = true := decide_eq_true c3
    clear c3
    by_cases c4 : x0_1.length < 140737488355328
    ·rw [if_pos c4] at H
     have LMc4 := Aside0.mk c4
     clear c4
     obtain ⟨y139,hy139⟩ : ∃ y_ : List Int,y_ = (x0_1 ++ [Go.bits .or .u8 ((x1_1) % 256) 128]) := ⟨_,rfl⟩
     replace H : (impl_appendVar.l0 k1 y139 (x1_1 / 128)) = some r := by first | (rw [hy139];with_reducible exact H) | (have H2_ := (Option.bind_some _ _).symm.trans H;rw [hy139];with_reducible exact H2_) | (have H2_ := (Option.bind_some _ _).symm.trans H;with_reducible exact H2_) | with_reducible exact H | (rw [hy139];exact H) | exact H
     have Ny139 := Aside0.mk hy139
     clear hy139
     have H' := Aside0.mk H
     clear H
     go_wp2_with (first | ((with_reducible refine gate_builtin (b := .append) (xs := #[.tmp 7,.tmp 11]) rfl ?_);at_builtin;refine Kd.R_append (Kd.int .u8) (w0 := w0) w0.heap.size rfl (.tmp 7) (.tmp 11) 22 5 (.int .u8 0) 1 rfl Try.underlying22 info5 rfl (by decide) (by omega) u0 x0_1 (Go.bits .or .u8 ((x1_1) % 256) 128) [.int .u8 (Go.bits .or .u8 ((x1_1) % 256) 128)] (fun k_ => (P0_ k_ ∨ w.heap.size ≤ k_)) (fun _ => False) rfl rfl ?aP (fun _ hk => hk.elim) ?aF ?aO ?aB ?aS ?aL ?_;(case aP => exact rfl);(case aB => exact (B_up HB.out));(case aF => exact (fun k_ hk => (.inr (Nat.le_trans (by first | exact HK.out.1 | exact (show Kept w _ (fun k_ => P0_ k_) from by repeat (first | (with_reducible first | exact HK.out | apply Kept.alloc | apply Kept.drewN | apply Kept.drew) | exact HK.out)).1) hk))));(case aO => exact (Kd.R_up HO_0.out));(case aS => exact (below_size (B_up HB.out)));(case aL => have := LMc4.out;omega);intro v140 w5 ho hb hg hat;rw [← Ny139.out] at ho;have n0_ := Aside0.mk (hb);have n1_ := Aside0.mk (Kept.of_grown (S := (fun k_ => P0_ k_)) hg (by repeat (first | (with_reducible first | exact HK.out | apply Kept.alloc | apply Kept.drewN | apply Kept.drew) | exact HK.out)) (fun k_ e_ => (HO_0.out.1 k_ e_)));have n2_ := Aside0.mk (ho);clear HB;clear HK;clear HO_0;have HB := n0_;have HK := n1_;have HO141 := n2_;clear n0_ n1_ n2_;clear ho hb hg hat))
     go_roundg k1
     case measure => have := HK1.out;omega
     case rel => exact ⟨(y139),(x1_1 / 128),(by first | rfl | (simp;done) | (simp [*];done)),H',⟨by have := HK1.out;omega⟩,⟨by (with_reducible repeat (first | apply Kd.R_alloc | apply Kd.R_drewN | apply Kd.R_drew));exact HO141.out⟩,⟨by repeat (first | (with_reducible first | exact HK.out | apply Kept.alloc | apply Kept.drewN | apply Kept.drew) | exact HK.out)⟩,⟨by repeat (first | (with_reducible first | exact HB.out | apply below_alloc | apply pw_below_drewN | apply below_drew1) | exact HB.out)⟩⟩
    ·rw [if_neg c4] at H
     exact absurd H (by simp)
   ·rw [if_neg c3] at H
    have c3b0 : decide (128 ≤ x1_1) = false := decide_eq_false c3
    clear c3
    by_cases c6 : x0_1.length < 140737488355328
    ·rw [if_pos c6] at H
     have LMc6 := Aside0.mk c6
     clear c6
     obtain ⟨y142,hy142⟩ : ∃ y_ : List Int,y_ = (x0_1 ++ [(x1_1) % 256]) := ⟨_,rfl⟩
     replace H : (some y142) = some r := by first | (rw [hy142];with_reducible exact H) | (have H2_ := (Option.bind_some _ _).symm.trans H;rw [hy142];with_reducible exact H2_) | (have H2_ := (Option.bind_some _ _).symm.trans H;with_reducible exact H2_) | with_reducible exact H | (rw [hy142];exact H) | exact H
     have Ny142 := Aside0.mk hy142
     clear hy142
     obtain rfl := Option.some.inj H
     go_wp2_with (first | ((with_reducible refine gate_builtin (b := .append) (xs := #[.tmp 15,.tmp 18]) rfl ?_);at_builtin;refine Kd.R_append (Kd.int .u8) (w0 := w0) w0.heap.size rfl (.tmp 15) (.tmp 18) 22 5 (.int .u8 0) 1 rfl Try.underlying22 info5 rfl (by decide) (by omega) u0 x0_1 ((x1_1) % 256) [.int .u8 ((x1_1) % 256)] (fun k_ => (P0_ k_ ∨ w.heap.size ≤ k_)) (fun _ => False) rfl rfl ?aP (fun _ hk => hk.elim) ?aF ?aO ?aB ?aS ?aL ?_;(case aP => exact rfl);(case aB => exact (B_up HB.out));(case aF => exact (fun k_ hk => (.inr (Nat.le_trans (by first | exact HK.out.1 | exact (show Kept w _ (fun k_ => P0_ k_) from by repeat (first | (with_reducible first | exact HK.out | apply Kept.alloc | apply Kept.drewN | apply Kept.drew) | exact HK.out)).1) hk))));(case aO => exact (Kd.R_up HO_0.out));(case aS => exact (below_size (B_up HB.out)));(case aL => have := LMc6.out;omega);intro v143 w7 ho hb hg hat;rw [← Ny142.out] at ho;have n0_ := Aside0.mk (hb);have n1_ := Aside0.mk (Kept.of_grown (S := (fun k_ => P0_ k_)) hg (by repeat (first | (with_reducible first | exact HK.out | apply Kept.alloc | apply Kept.drewN | apply Kept.drew) | exact HK.out)) (fun k_ e_ => (HO_0.out.1 k_ e_)));have n2_ := Aside0.mk (ho);clear HB;clear HK;clear HO_0;have HB := n0_;have HK := n1_;have HO144 := n2_;clear n0_ n1_ n2_;clear ho hb hg hat))
     go_ret
     exact ⟨_,by first | rfl | (simp [errW_none,errW_some] <;> rfl) | (simp [*,errW_none,errW_some] <;> rfl),by (with_reducible repeat (first | apply Kd.R_alloc | apply Kd.R_drewN | apply Kd.R_drew));exact HO144.out,by repeat (first | (with_reducible first | exact HB.out | apply below_alloc | apply pw_below_drewN | apply below_drew1) | exact HB.out),by repeat (first | (with_reducible first | exact HK.out | apply Kept.alloc | apply Kept.drewN | apply Kept.drew) | exact HK.out)⟩
    ·rw [if_neg c6] at H
     exact absurd H (by simp)

/-! ### impl_PutVar: function 66 -/
def impl_PutVar.f (k : Nat) (l0 : List Int) (a1 : Int) : Option (List Int) := (impl_cloned.f l0).bind fun t145 => ((impl_within.f a1 0 1000000000000).bind fun t148 => (if t148 = true then ((impl_appendVar.f k t145 a1).bind fun t149 => (some t149)) else (some t145)))
theorem impl_PutVar.mono : ∀ a0 a1 k,LeO (impl_PutVar.f k a0 a1) (impl_PutVar.f (k + 1) a0 a1) := by
 intro a0 a1 k
 unfold impl_PutVar.f
 repeat' first
   | (with_reducible exact impl_appendVar.mono _ _ _)
   | (with_reducible exact LeO.refl _)
   | (with_reducible exact LeO.none _)
   | (with_reducible refine LeO.ite ?_ ?_)
   | (with_reducible refine LeO.bind ?_ (fun _ => ?_))
   | exact impl_appendVar.mono _ _ _
   | exact LeO.none _
   | refine LeO.ite ?_ ?_
   | refine LeO.bind ?_ (fun _ => ?_)
set_option maxHeartbeats 8000000 in
set_option maxRecDepth 100000 in
theorem impl_PutVar.calls (k : Nat) (A0 : Option Addr) (c0 : Nat) (l0 : List Int) (a1 : Int) (r : List Int) (w : World) (hr0 : Kd.C (Kd.int .u8) w A0 l0.length l0) (hc0 : l0.length ≤ c0) (h : impl_PutVar.f k l0 a1 = some r) :
  Calls Try.prog 66 #[.slice A0 l0.length c0,.int .i64 a1] w fun e w' => ∃ v0_ : Value,e = .returned (v0_) ∧ Kd.R (Kd.int .u8) 5 w' w.heap.size (fun _ => True) v0_ r ∧ Below w.heap.size w w' := by
 have HR0 := Aside0.mk hr0
 have HC0 := Aside0.mk hc0
 clear hr0 hc0
 have HB := Aside0.mk (Below.refl w.heap.size w)
 have H : ((impl_cloned.f l0).bind fun t145 => ((impl_within.f a1 0 1000000000000).bind fun t148 => (if t148 = true then ((impl_appendVar.f k t145 a1).bind fun t149 => (some t149)) else (some t145)))) = some r := h
 clear h
 replace H := Option.bind_eq_some_iff.mp H
 obtain ⟨t145,A30,H⟩ := H
 (try dsimp only at H)
 have A3 := Aside0.mk A30
 clear A30
 replace H := Option.bind_eq_some_iff.mp H
 obtain ⟨t148,A40,H⟩ := H
 (try dsimp only at H)
 have A4 := Aside0.mk A40
 clear A40
 by_cases c5 : t148 = true
 ·subst c5
  rw [if_pos rfl] at H
  replace H := Option.bind_eq_some_iff.mp H
  obtain ⟨t149,A60,H⟩ := H
  replace H : (some t149) = some r := H
  have A6 := Aside0.mk A60
  clear A60
  obtain rfl := Option.some.inj H
  go_enter Try.func66,Try.ntmps66
  go_wp2_with (first | ((with_reducible refine gate_callee (f := 65) rfl ?_);refine goesL_ (some 7) rfl rfl Try.func65 (by kernel_rfl) rfl #[.slice A0 l0.length c0] rfl eq_up ?_;(with_reducible refine (impl_cloned.calls _ _ l0 t145 _ ?side1 ?side2 A3.out).mono ?_);(case side1 => exact Kd.C_up HR0.out);(case side2 => exact HC0.out);rintro e w7 ⟨v146,rfl,ho0,hb⟩;refine ⟨_,rfl,?_⟩;have n0_ := Aside0.mk (Kd.R_lower ho0 (below_size (B_up HB.out)));have n1_ := Aside0.mk (below_step (B_up HB.out) hb);clear HB;have HO147 := n0_;have HB := n1_;clear n0_ n1_;(try clear hb);(try clear hb2);(try clear hk);(try clear hi);(try clear ho0)) | ((with_reducible refine gate_callee (f := 53) rfl ?_);refine goesL_ (some 9) rfl rfl Try.func53 (by kernel_rfl) rfl #[.int .i64 a1,.int .i64 0,.int .i64 1000000000000] rfl eq_up ?_;(with_reducible refine (impl_within.calls a1 0 1000000000000 true _ A4.out).mono ?_);rintro e w' ⟨rfl,⟨nd,rfl⟩⟩;refine ⟨_,rfl,?_⟩;obtain ⟨Ao8,co8,eo8⟩ := Kd.R_slice HO147.out;subst eo8) | ((with_reducible refine gate_callee (f := 67) rfl ?_);refine goesL_ (some 14) rfl rfl Try.func67 (by kernel_rfl) rfl #[.slice Ao8 t145.length co8,.int .i64 a1] rfl eq_up ?_;(with_reducible refine (impl_appendVar.calls k (fun k_ => some k_ = (.slice Ao8 t145.length co8 : Value).ownBlock) (.slice Ao8 t145.length co8) t145 a1 t149 w _ ?side1 ?side2 A6.out).mono ?_);(case side1 => repeat (first | (with_reducible first | exact HB.out | apply below_alloc | apply pw_below_drewN | apply below_drew1) | exact HB.out));(case side2 => exact Kd.R_tight rfl HO147.out);rintro e w9 ⟨v150,rfl,ho0,hb,hkp⟩;refine ⟨_,rfl,?_⟩;have n0_ := Aside0.mk (Kd.R_mono (ok' := fun k_ => True) ho0 (fun k_ hk_ => trivial));have n1_ := Aside0.mk (hb);clear HB;clear HO147;have HO151 := n0_;have HB := n1_;clear n0_ n1_;(try clear hb);(try clear hkp);(try clear ho0)))
  go_ret
  exact ⟨_,by first | rfl | (simp [errW_none,errW_some] <;> rfl) | (simp [*,errW_none,errW_some] <;> rfl),by (with_reducible repeat (first | apply Kd.R_alloc | apply Kd.R_drewN | apply Kd.R_drew));exact HO151.out,by repeat (first | (with_reducible first | exact HB.out | apply below_alloc | apply pw_below_drewN | apply below_drew1) | exact HB.out)⟩
 ·replace c5 := Bool.eq_false_iff.mpr c5
  subst c5
  have H1 : (some t145) = some r := by rw [if_neg (show ¬ (false = true) by decide)] at H;exact H
  clear H
  have H := H1
  clear H1
  obtain rfl := Option.some.inj H
  go_enter Try.func66,Try.ntmps66
  go_wp2_with (first | ((with_reducible refine gate_callee (f := 65) rfl ?_);refine goesL_ (some 7) rfl rfl Try.func65 (by kernel_rfl) rfl #[.slice A0 l0.length c0] rfl eq_up ?_;(with_reducible refine (impl_cloned.calls _ _ l0 t145 _ ?side1 ?side2 A3.out).mono ?_);(case side1 => exact Kd.C_up HR0.out);(case side2 => exact HC0.out);rintro e w10 ⟨v146,rfl,ho0,hb⟩;refine ⟨_,rfl,?_⟩;have n0_ := Aside0.mk (Kd.R_lower ho0 (below_size (B_up HB.out)));have n1_ := Aside0.mk (below_step (B_up HB.out) hb);clear HB;have HO147 := n0_;have HB := n1_;clear n0_ n1_;(try clear hb);(try clear hb2);(try clear hk);(try clear hi);(try clear ho0)) | ((with_reducible refine gate_callee (f := 53) rfl ?_);refine goesL_ (some 9) rfl rfl Try.func53 (by kernel_rfl) rfl #[.int .i64 a1,.int .i64 0,.int .i64 1000000000000] rfl eq_up ?_;(with_reducible refine (impl_within.calls a1 0 1000000000000 false _ A4.out).mono ?_);rintro e w' ⟨rfl,⟨nd,rfl⟩⟩;refine ⟨_,rfl,?_⟩))
  go_ret
  exact ⟨_,by first | rfl | (simp [errW_none,errW_some] <;> rfl) | (simp [*,errW_none,errW_some] <;> rfl),by (with_reducible repeat (first | apply Kd.R_alloc | apply Kd.R_drewN | apply Kd.R_drew));exact HO147.out,by repeat (first | (with_reducible first | exact HB.out | apply below_alloc | apply pw_below_drewN | apply below_drew1) | exact HB.out)⟩

end Go.Proofs.Ytdkgcloempbgpaa.PFnMans
