-- by a program of this session (a turned copy of the print: make with a capacity)
import Derived.Test.YtdodnhjglpidlaaVMade2
import Derived.Test.YtdodnhjglpidlaaPFnMansBentx0
import Derived.Test.YtdodnhjglpidlaaPFnMansBentx6
import Derived.Test.YtdodnhjglpidlaaPFnMansBentx7
namespace Go.Proofs.Ytdodnhjglpidlaa.PFnMansBent
open Go.RowKit Go.Proofs.YtdodnhjglpidlaaW.PrintWords Go.Proofs.YtdodnhjglpidlaaW.PrintLast Go.Proofs.YtdodnhjglpidlaaW.PrintMore
attribute [local go_sem] max2_int min2_int max_two min_two max_three min_three max_four min_four   -- for this text's walks alone
set_option linter.unusedVariables false
set_option linter.unusedSimpArgs false

/-! ### impl_ManOk: function 16 -/
mutual
def impl_ManOk.j0 : Nat → Bool → Int → Int → Int → List (S56) → Option (Bool)
 | 0,_,_,_,_,_ => none
 | k + 1,x33,x364000,x364001,x364002,x364003 => if x33 = true then (some false) else (impl_ManOk.l0 k x364003 (x364003.length : Int) 0 x364000 x364001 x364002 x364003)
def impl_ManOk.l0 : Nat → List (S56) → Int → Int → Int → Int → Int → List (S56) → Option (Bool)
 | 0,_,_,_,_,_,_,_ => none
 | k + 1,x35,x36,x37,x364000,x364001,x364002,x364003 => if x37 < x36 then (if 0 ≤ x37 then (if x37 < (x35.length : Int) then ((impl_BytesOf.f k ((rd_T56 x35 x37).f1)).bind fun bt370 => ((impl_SpanOf.f x364001 x364002 x37).bind fun bt374 => (if bt370.2 = true then (if (bt370.1.length : Int) = bt374.2 then ((impl_WeakOf.f k bt370.1).bind fun t376 => (if t376 = ((rd_T56 x35 x37).f0) then (impl_ManOk.l0 k x35 x36 (wrap64 (x37 + 1)) x364000 x364001 x364002 x364003) else (some false))) else (some false)) else (some false)))) else (none)) else (none)) else (some true)
end
def impl_ManOk.f (k : Nat) (a0_0 : Int) (a0_1 : Int) (a0_2 : Int) (l0_3 : List (S56)) : Option (Bool) := (impl_isZeroMan.f a0_0 a0_1 a0_2 l0_3).bind fun t364 => (if t364 = true then (some true) else ((impl_within.f a0_0 1 1000000).bind fun t365 => (if t365 = true then ((impl_SizeOk.f a0_1 a0_2).bind fun t366 => (if t366 = true then ((impl_Blocks.f a0_1 a0_2).bind fun t367 => (impl_ManOk.j0 k ((l0_3.length : Int) != t367) a0_0 a0_1 a0_2 l0_3)) else (impl_ManOk.j0 k true a0_0 a0_1 a0_2 l0_3))) else (impl_ManOk.j0 k true a0_0 a0_1 a0_2 l0_3))))
theorem impl_ManOk.mono_l : ∀ k,(∀ y0 y1 y2 y3 y4,LeO (impl_ManOk.j0 k y0 y1 y2 y3 y4) (impl_ManOk.j0 (k + 1) y0 y1 y2 y3 y4)) ∧ (∀ y0 y1 y2 y3 y4 y5 y6,LeO (impl_ManOk.l0 k y0 y1 y2 y3 y4 y5 y6) (impl_ManOk.l0 (k + 1) y0 y1 y2 y3 y4 y5 y6))
 | 0 => ⟨fun _ _ _ _ _ r h => by simp [impl_ManOk.j0] at h,fun _ _ _ _ _ _ _ r h => by simp [impl_ManOk.l0] at h⟩
 | k + 1 => by
  obtain ⟨ih0,ih1⟩ := impl_ManOk.mono_l k
  refine ⟨?_,?_⟩
  ·intro y0 y1 y2 y3 y4
   unfold impl_ManOk.j0
   repeat' first
   | (with_reducible exact ih0 _ _ _ _ _)
   | (with_reducible exact ih1 _ _ _ _ _ _ _)
   | (with_reducible exact impl_BytesOf.mono _ _)
   | (with_reducible exact impl_WeakOf.mono _ _)
   | (with_reducible exact LeO.refl _)
   | (with_reducible exact LeO.none _)
   | (with_reducible refine LeO.ite ?_ ?_)
   | (with_reducible refine LeO.bind ?_ (fun _ => ?_))
   | exact ih0 _ _ _ _ _
   | exact ih1 _ _ _ _ _ _ _
   | exact impl_BytesOf.mono _ _
   | exact impl_WeakOf.mono _ _
   | exact LeO.none _
   | refine LeO.ite ?_ ?_
   | refine LeO.bind ?_ (fun _ => ?_)
  ·intro y0 y1 y2 y3 y4 y5 y6
   unfold impl_ManOk.l0
   repeat' first
   | (with_reducible exact ih0 _ _ _ _ _)
   | (with_reducible exact ih1 _ _ _ _ _ _ _)
   | (with_reducible exact impl_BytesOf.mono _ _)
   | (with_reducible exact impl_WeakOf.mono _ _)
   | (with_reducible exact LeO.refl _)
   | (with_reducible exact LeO.none _)
   | (with_reducible refine LeO.ite ?_ ?_)
   | (with_reducible refine LeO.bind ?_ (fun _ => ?_))
   | exact ih0 _ _ _ _ _
   | exact ih1 _ _ _ _ _ _ _
   | exact impl_BytesOf.mono _ _
   | exact impl_WeakOf.mono _ _
   | exact LeO.none _
   | refine LeO.ite ?_ ?_
   | refine LeO.bind ?_ (fun _ => ?_)
theorem impl_ManOk.mono : ∀ a0 a1 a2 a3 k,LeO (impl_ManOk.f k a0 a1 a2 a3) (impl_ManOk.f (k + 1) a0 a1 a2 a3) := by
 intro a0 a1 a2 a3 k
 obtain ⟨ih0,ih1⟩ := impl_ManOk.mono_l k
 unfold impl_ManOk.f
 repeat' first
   | (with_reducible exact ih0 _ _ _ _ _)
   | (with_reducible exact ih1 _ _ _ _ _ _ _)
   | (with_reducible exact impl_BytesOf.mono _ _)
   | (with_reducible exact impl_WeakOf.mono _ _)
   | (with_reducible exact LeO.refl _)
   | (with_reducible exact LeO.none _)
   | (with_reducible refine LeO.ite ?_ ?_)
   | (with_reducible refine LeO.bind ?_ (fun _ => ?_))
   | exact ih0 _ _ _ _ _
   | exact ih1 _ _ _ _ _ _ _
   | exact impl_BytesOf.mono _ _
   | exact impl_WeakOf.mono _ _
   | exact LeO.none _
   | refine LeO.ite ?_ ?_
   | refine LeO.bind ?_ (fun _ => ?_)
set_option maxHeartbeats 8000000 in
set_option maxRecDepth 100000 in
theorem impl_ManOk.calls (k : Nat) (a0_0 : Int) (a0_1 : Int) (a0_2 : Int) (A0_3 : Option Addr) (c0_3 : Nat) (l0_3 : List (S56)) (r : Bool) (w : World) (hr0_3 : Kd.C k56 w A0_3 l0_3.length l0_3) (hc0_3 : l0_3.length ≤ c0_3) (h : impl_ManOk.f k a0_0 a0_1 a0_2 l0_3 = some r) :
  Calls Try.prog 16 #[.agg #[.int .i64 a0_0,.int .i64 a0_1,.int .i64 a0_2,.slice A0_3 l0_3.length c0_3]] w fun e w' => e = .returned (.bool r) ∧ Below w.heap.size w w' := by
 have hu28 := Try.underlying28
 have hu56 := Try.underlying56
 have hf56_0 : ∀ (a_ b_ : Int) (W_ : World),(Instr.field 56 (.agg #[.int .i64 a_,.int .i64 b_]) 0).run Try.prog W_ = .ok (.int .i64 a_) W_ := fun _ _ _ => by kernel_rfl
 have hf56_1 : ∀ (a_ b_ : Int) (W_ : World),(Instr.field 56 (.agg #[.int .i64 a_,.int .i64 b_]) 1).run Try.prog W_ = .ok (.int .i64 b_) W_ := fun _ _ _ => by kernel_rfl
 have HR0_3 := Mk hr0_3
 have HC0_3 := Mk hc0_3
 clear hr0_3 hc0_3
 have HB := Mk (Below.refl w.heap.size w)
 have H : ((impl_isZeroMan.f a0_0 a0_1 a0_2 l0_3).bind fun t364 => (if t364 = true then (some true) else ((impl_within.f a0_0 1 1000000).bind fun t365 => (if t365 = true then ((impl_SizeOk.f a0_1 a0_2).bind fun t366 => (if t366 = true then ((impl_Blocks.f a0_1 a0_2).bind fun t367 => (impl_ManOk.j0 k ((l0_3.length : Int) != t367) a0_0 a0_1 a0_2 l0_3)) else (impl_ManOk.j0 k true a0_0 a0_1 a0_2 l0_3))) else (impl_ManOk.j0 k true a0_0 a0_1 a0_2 l0_3))))) = some r := h
 clear h
 replace H := bsm H
 obtain ⟨t364,A2,H⟩ := H
 (try dsimp only at H)
 by_cases c3 : t364 = true
 ·subst c3
  rw [if_pos rfl] at H
  obtain rfl := Option.some.inj H
  go_enter Try.func16,Try.ntmps16
  go_wp2_with (first | ((with_reducible refine gate_dst (N := 1) rfl ?_);(try (refine gate_guard (by rfl) ?_;dsimp only));refine box_event ?hg (N := 1) ?hd (cs := #[.int .i64 a0_0,.int .i64 a0_1,.int .i64 a0_2,.slice A0_3 l0_3.length c0_3]) (t := 28) ?hr ?_;(case hd => rfl);(case hg => rfl);(case hr => first | (go_simp;done) | (go_simp;rfl));intro gb363 hg w4 hbox hb;have BK363 := Mk (hbox);have GW363 := Mk ((by rw [hg];exact (below_size (B_up HB.out)) : w.heap.size ≤ gb363));have GE363 := Mk ((by rw [hg];exact (below_size (B_up HB.out)) : w.heap.size ≤ gb363));replace HB := Mk (below_step (B_up HB.out) hb);clear hb hbox hg;obtain ⟨hcz5_0,hcz5_1,hcz5_2,hcz5_3⟩ := cz4 BK363.out;obtain ⟨hfz5_0,hfz5_1,hfz5_2,hfz5_3⟩ := fz4 BK363.out) | (go_at_call 46;(with_reducible refine (impl_isZeroMan.calls a0_0 a0_1 a0_2 _ _ l0_3 true _ ?side1 ?side2 A2.out).mono ?_);(case side1 => repeat (first | exact (Kd.C_below HR0_3.out HB.out) | (with_reducible refine Kd.C_alloc ?_ _) | (with_reducible refine Kd.C_drewN ?_ _) | (with_reducible refine Kd.C_drew ?_)));(case side2 => exact HC0_3.out);rintro e w6 ⟨rfl,hb⟩;replace BK363 := Mk (blk_below (blk_up BK363.out) hb);replace HB := Mk (below_step (B_set HB.out) hb);(try clear hb);(try clear hb2);(try clear hk);(try clear hi)))
  repeat (go_quiet (first | ((with_reducible refine gate_dst (N := 1) rfl ?_);(try (refine gate_guard (by rfl) ?_;dsimp only));refine box_event ?hg (N := 1) ?hd (cs := #[.int .i64 a0_0,.int .i64 a0_1,.int .i64 a0_2,.slice A0_3 l0_3.length c0_3]) (t := 28) ?hr ?_;(case hd => rfl);(case hg => rfl);(case hr => first | (go_simp;done) | (go_simp;rfl));intro gb363 hg w4 hbox hb;have BK363 := Mk (hbox);have GW363 := Mk ((by rw [hg];exact (below_size (B_up HB.out)) : w.heap.size ≤ gb363));have GE363 := Mk ((by rw [hg];exact (below_size (B_up HB.out)) : w.heap.size ≤ gb363));replace HB := Mk (below_step (B_up HB.out) hb);clear hb hbox hg;obtain ⟨hcz5_0,hcz5_1,hcz5_2,hcz5_3⟩ := cz4 BK363.out;obtain ⟨hfz5_0,hfz5_1,hfz5_2,hfz5_3⟩ := fz4 BK363.out) | (go_at_call 46;(with_reducible refine (impl_isZeroMan.calls a0_0 a0_1 a0_2 _ _ l0_3 true _ ?side1 ?side2 A2.out).mono ?_);(case side1 => repeat (first | exact (Kd.C_below HR0_3.out HB.out) | (with_reducible refine Kd.C_alloc ?_ _) | (with_reducible refine Kd.C_drewN ?_ _) | (with_reducible refine Kd.C_drew ?_)));(case side2 => exact HC0_3.out);rintro e w6 ⟨rfl,hb⟩;replace BK363 := Mk (blk_below (blk_up BK363.out) hb);replace HB := Mk (below_step (B_set HB.out) hb);(try clear hb);(try clear hb2);(try clear hk);(try clear hi)));try go_wp2_with (first | ((with_reducible refine gate_dst (N := 1) rfl ?_);(try (refine gate_guard (by rfl) ?_;dsimp only));refine box_event ?hg (N := 1) ?hd (cs := #[.int .i64 a0_0,.int .i64 a0_1,.int .i64 a0_2,.slice A0_3 l0_3.length c0_3]) (t := 28) ?hr ?_;(case hd => rfl);(case hg => rfl);(case hr => first | (go_simp;done) | (go_simp;rfl));intro gb363 hg w4 hbox hb;have BK363 := Mk (hbox);have GW363 := Mk ((by rw [hg];exact (below_size (B_up HB.out)) : w.heap.size ≤ gb363));have GE363 := Mk ((by rw [hg];exact (below_size (B_up HB.out)) : w.heap.size ≤ gb363));replace HB := Mk (below_step (B_up HB.out) hb);clear hb hbox hg;obtain ⟨hcz5_0,hcz5_1,hcz5_2,hcz5_3⟩ := cz4 BK363.out;obtain ⟨hfz5_0,hfz5_1,hfz5_2,hfz5_3⟩ := fz4 BK363.out) | (go_at_call 46;(with_reducible refine (impl_isZeroMan.calls a0_0 a0_1 a0_2 _ _ l0_3 true _ ?side1 ?side2 A2.out).mono ?_);(case side1 => repeat (first | exact (Kd.C_below HR0_3.out HB.out) | (with_reducible refine Kd.C_alloc ?_ _) | (with_reducible refine Kd.C_drewN ?_ _) | (with_reducible refine Kd.C_drew ?_)));(case side2 => exact HC0_3.out);rintro e w6 ⟨rfl,hb⟩;replace BK363 := Mk (blk_below (blk_up BK363.out) hb);replace HB := Mk (below_step (B_set HB.out) hb);(try clear hb);(try clear hb2);(try clear hk);(try clear hi))))
  go_ret
  exact ⟨err_,B_set HB.out⟩
 ·replace c3 := Bool.eq_false_iff.mpr c3
  subst c3
  have H1 : ((impl_within.f a0_0 1 1000000).bind fun t365 => (if t365 = true then ((impl_SizeOk.f a0_1 a0_2).bind fun t366 => (if t366 = true then ((impl_Blocks.f a0_1 a0_2).bind fun t367 => (impl_ManOk.j0 k ((l0_3.length : Int) != t367) a0_0 a0_1 a0_2 l0_3)) else (impl_ManOk.j0 k true a0_0 a0_1 a0_2 l0_3))) else (impl_ManOk.j0 k true a0_0 a0_1 a0_2 l0_3))) = some r := by rw [if_neg (show ¬ (false = true) by decide)] at H;exact H
  clear H
  have H := H1
  clear H1
  have HC7 := Mk H
  clear H
  go_enter Try.func16,Try.ntmps16
  go_upto_region 3 with (first | ((with_reducible refine gate_dst (N := 1) rfl ?_);(try (refine gate_guard (by rfl) ?_;dsimp only));refine box_event ?hg (N := 1) ?hd (cs := #[.int .i64 a0_0,.int .i64 a0_1,.int .i64 a0_2,.slice A0_3 l0_3.length c0_3]) (t := 28) ?hr ?_;(case hd => rfl);(case hg => rfl);(case hr => first | (go_simp;done) | (go_simp;rfl));intro gb363 hg w8 hbox hb;have BK363 := Mk (hbox);have GW363 := Mk ((by rw [hg];exact (below_size (B_up HB.out)) : w.heap.size ≤ gb363));have GE363 := Mk ((by rw [hg];exact (below_size (B_up HB.out)) : w.heap.size ≤ gb363));replace HB := Mk (below_step (B_up HB.out) hb);clear hb hbox hg;obtain ⟨hcz9_0,hcz9_1,hcz9_2,hcz9_3⟩ := cz4 BK363.out;obtain ⟨hfz9_0,hfz9_1,hfz9_2,hfz9_3⟩ := fz4 BK363.out) | (go_at_call 46;(with_reducible refine (impl_isZeroMan.calls a0_0 a0_1 a0_2 _ _ l0_3 false _ ?side1 ?side2 A2.out).mono ?_);(case side1 => repeat (first | exact (Kd.C_below HR0_3.out HB.out) | (with_reducible refine Kd.C_alloc ?_ _) | (with_reducible refine Kd.C_drewN ?_ _) | (with_reducible refine Kd.C_drew ?_)));(case side2 => exact HC0_3.out);rintro e w10 ⟨rfl,hb⟩;replace BK363 := Mk (blk_below (blk_up BK363.out) hb);replace HB := Mk (below_step (B_set HB.out) hb);(try clear hb);(try clear hb2);(try clear hk);(try clear hi)))
  repeat (go_quiet (first | ((with_reducible refine gate_dst (N := 1) rfl ?_);(try (refine gate_guard (by rfl) ?_;dsimp only));refine box_event ?hg (N := 1) ?hd (cs := #[.int .i64 a0_0,.int .i64 a0_1,.int .i64 a0_2,.slice A0_3 l0_3.length c0_3]) (t := 28) ?hr ?_;(case hd => rfl);(case hg => rfl);(case hr => first | (go_simp;done) | (go_simp;rfl));intro gb363 hg w8 hbox hb;have BK363 := Mk (hbox);have GW363 := Mk ((by rw [hg];exact (below_size (B_up HB.out)) : w.heap.size ≤ gb363));have GE363 := Mk ((by rw [hg];exact (below_size (B_up HB.out)) : w.heap.size ≤ gb363));replace HB := Mk (below_step (B_up HB.out) hb);clear hb hbox hg;obtain ⟨hcz9_0,hcz9_1,hcz9_2,hcz9_3⟩ := cz4 BK363.out;obtain ⟨hfz9_0,hfz9_1,hfz9_2,hfz9_3⟩ := fz4 BK363.out) | (go_at_call 46;(with_reducible refine (impl_isZeroMan.calls a0_0 a0_1 a0_2 _ _ l0_3 false _ ?side1 ?side2 A2.out).mono ?_);(case side1 => repeat (first | exact (Kd.C_below HR0_3.out HB.out) | (with_reducible refine Kd.C_alloc ?_ _) | (with_reducible refine Kd.C_drewN ?_ _) | (with_reducible refine Kd.C_drew ?_)));(case side2 => exact HC0_3.out);rintro e w10 ⟨rfl,hb⟩;replace BK363 := Mk (blk_below (blk_up BK363.out) hb);replace HB := Mk (below_step (B_set HB.out) hb);(try clear hb);(try clear hb2);(try clear hk);(try clear hi)));go_upto_region 3 with (first | ((with_reducible refine gate_dst (N := 1) rfl ?_);(try (refine gate_guard (by rfl) ?_;dsimp only));refine box_event ?hg (N := 1) ?hd (cs := #[.int .i64 a0_0,.int .i64 a0_1,.int .i64 a0_2,.slice A0_3 l0_3.length c0_3]) (t := 28) ?hr ?_;(case hd => rfl);(case hg => rfl);(case hr => first | (go_simp;done) | (go_simp;rfl));intro gb363 hg w8 hbox hb;have BK363 := Mk (hbox);have GW363 := Mk ((by rw [hg];exact (below_size (B_up HB.out)) : w.heap.size ≤ gb363));have GE363 := Mk ((by rw [hg];exact (below_size (B_up HB.out)) : w.heap.size ≤ gb363));replace HB := Mk (below_step (B_up HB.out) hb);clear hb hbox hg;obtain ⟨hcz9_0,hcz9_1,hcz9_2,hcz9_3⟩ := cz4 BK363.out;obtain ⟨hfz9_0,hfz9_1,hfz9_2,hfz9_3⟩ := fz4 BK363.out) | (go_at_call 46;(with_reducible refine (impl_isZeroMan.calls a0_0 a0_1 a0_2 _ _ l0_3 false _ ?side1 ?side2 A2.out).mono ?_);(case side1 => repeat (first | exact (Kd.C_below HR0_3.out HB.out) | (with_reducible refine Kd.C_alloc ?_ _) | (with_reducible refine Kd.C_drewN ?_ _) | (with_reducible refine Kd.C_drew ?_)));(case side2 => exact HC0_3.out);rintro e w10 ⟨rfl,hb⟩;replace BK363 := Mk (blk_below (blk_up BK363.out) hb);replace HB := Mk (below_step (B_set HB.out) hb);(try clear hb);(try clear hb2);(try clear hk);(try clear hi))))
  (try simp only [Act.put,List.setIfInBounds_toArray,List.set_cons_zero,List.set_cons_succ])
  go_cut [33] (fun v33 wc => ∃ (kq : Nat) (x33_6 : Bool),v33 = .bool x33_6 ∧ Aside0 (impl_ManOk.j0 kq x33_6 a0_0 a0_1 a0_2 l0_3 = some r) ∧ Aside0 (kq ≤ k) ∧ Aside0 (wc.heap[gb363]? = some (.cells #[.int .i64 a0_0,.int .i64 a0_1,.int .i64 a0_2,(.slice A0_3 l0_3.length c0_3)] 28 (0,0))) ∧ Aside0 (Below w.heap.size w wc))
  case first =>
   have H := HC7.out
   clear HC7
   replace H := bsm H
   obtain ⟨t365,A11,H⟩ := H
   (try dsimp only at H)
   by_cases c12 : t365 = true
   ·subst c12
    rw [if_pos rfl] at H
    replace H := bsm H
    obtain ⟨t366,A13,H⟩ := H
    (try dsimp only at H)
    by_cases c14 : t366 = true
    ·subst c14
     rw [if_pos rfl] at H
     replace H := Option.bind_eq_some_iff.mp H
     obtain ⟨t367,A150,H⟩ := H
     replace H : (impl_ManOk.j0 k ((l0_3.length : Int) != t367) a0_0 a0_1 a0_2 l0_3) = some r := H
     have A15 := Mk A150
     clear A150
     have H' := Mk H
     clear H
     obtain ⟨hcz16_0,hcz16_1,hcz16_2,hcz16_3⟩ := cz4 BK363.out
     obtain ⟨hfz16_0,hfz16_1,hfz16_2,hfz16_3⟩ := fz4 BK363.out
     go_wp2_with (first | (go_at_call 47;(with_reducible refine (impl_within.calls a0_0 1 1000000 true _ A11.out).mono ?_);rintro e w' ⟨rfl,⟨nd,rfl⟩⟩;(try first | exact ⟨rfl,_,World.drewN_drewN _ _ _⟩ | exact ⟨rfl,_,Eq.trans (World.drewN_drewN _ _ _) (congrArg (World.drewN _) (Nat.add_assoc _ _ _))⟩)) | (go_at_call 48;(with_reducible refine (impl_SizeOk.calls a0_1 a0_2 true _ A13.out).mono ?_);rintro e w' ⟨rfl,⟨nd,rfl⟩⟩;(try first | exact ⟨rfl,_,World.drewN_drewN _ _ _⟩ | exact ⟨rfl,_,Eq.trans (World.drewN_drewN _ _ _) (congrArg (World.drewN _) (Nat.add_assoc _ _ _))⟩)) | (go_at_call 25;(with_reducible refine (impl_Blocks.calls a0_1 a0_2 t367 _ A15.out).mono ?_);rintro e w' ⟨rfl,⟨nd,rfl⟩⟩;(try first | exact ⟨rfl,_,World.drewN_drewN _ _ _⟩ | exact ⟨rfl,_,Eq.trans (World.drewN_drewN _ _ _) (congrArg (World.drewN _) (Nat.add_assoc _ _ _))⟩)))
     repeat (go_quiet (first | (go_at_call 47;(with_reducible refine (impl_within.calls a0_0 1 1000000 true _ A11.out).mono ?_);rintro e w' ⟨rfl,⟨nd,rfl⟩⟩;(try first | exact ⟨rfl,_,World.drewN_drewN _ _ _⟩ | exact ⟨rfl,_,Eq.trans (World.drewN_drewN _ _ _) (congrArg (World.drewN _) (Nat.add_assoc _ _ _))⟩)) | (go_at_call 48;(with_reducible refine (impl_SizeOk.calls a0_1 a0_2 true _ A13.out).mono ?_);rintro e w' ⟨rfl,⟨nd,rfl⟩⟩;(try first | exact ⟨rfl,_,World.drewN_drewN _ _ _⟩ | exact ⟨rfl,_,Eq.trans (World.drewN_drewN _ _ _) (congrArg (World.drewN _) (Nat.add_assoc _ _ _))⟩)) | (go_at_call 25;(with_reducible refine (impl_Blocks.calls a0_1 a0_2 t367 _ A15.out).mono ?_);rintro e w' ⟨rfl,⟨nd,rfl⟩⟩;(try first | exact ⟨rfl,_,World.drewN_drewN _ _ _⟩ | exact ⟨rfl,_,Eq.trans (World.drewN_drewN _ _ _) (congrArg (World.drewN _) (Nat.add_assoc _ _ _))⟩)));try go_wp2_with (first | (go_at_call 47;(with_reducible refine (impl_within.calls a0_0 1 1000000 true _ A11.out).mono ?_);rintro e w' ⟨rfl,⟨nd,rfl⟩⟩;(try first | exact ⟨rfl,_,World.drewN_drewN _ _ _⟩ | exact ⟨rfl,_,Eq.trans (World.drewN_drewN _ _ _) (congrArg (World.drewN _) (Nat.add_assoc _ _ _))⟩)) | (go_at_call 48;(with_reducible refine (impl_SizeOk.calls a0_1 a0_2 true _ A13.out).mono ?_);rintro e w' ⟨rfl,⟨nd,rfl⟩⟩;(try first | exact ⟨rfl,_,World.drewN_drewN _ _ _⟩ | exact ⟨rfl,_,Eq.trans (World.drewN_drewN _ _ _) (congrArg (World.drewN _) (Nat.add_assoc _ _ _))⟩)) | (go_at_call 25;(with_reducible refine (impl_Blocks.calls a0_1 a0_2 t367 _ A15.out).mono ?_);rintro e w' ⟨rfl,⟨nd,rfl⟩⟩;(try first | exact ⟨rfl,_,World.drewN_drewN _ _ _⟩ | exact ⟨rfl,_,Eq.trans (World.drewN_drewN _ _ _) (congrArg (World.drewN _) (Nat.add_assoc _ _ _))⟩))))
     go_meet
     case rel => exact ⟨_,(((l0_3.length : Int) != t367)),eqs_,H',⟨by first | omega | exact Nat.le_refl _⟩,⟨by (with_reducible repeat (first | refine blk_drewN ?_ _ | refine blk_drew ?_ | refine blk_alloc ?_ _));exact BK363.out⟩,⟨B_set HB.out⟩⟩
    ·replace c14 := Bool.eq_false_iff.mpr c14
     subst c14
     have H1 : (impl_ManOk.j0 k true a0_0 a0_1 a0_2 l0_3) = some r := by rw [if_neg (show ¬ (false = true) by decide)] at H;exact H
     clear H
     have H := H1
     clear H1
     have H' := Mk H
     clear H
     obtain ⟨hcz17_0,hcz17_1,hcz17_2,hcz17_3⟩ := cz4 BK363.out
     obtain ⟨hfz17_0,hfz17_1,hfz17_2,hfz17_3⟩ := fz4 BK363.out
     go_wp2_with (first | (go_at_call 47;(with_reducible refine (impl_within.calls a0_0 1 1000000 true _ A11.out).mono ?_);rintro e w' ⟨rfl,⟨nd,rfl⟩⟩;(try first | exact ⟨rfl,_,World.drewN_drewN _ _ _⟩ | exact ⟨rfl,_,Eq.trans (World.drewN_drewN _ _ _) (congrArg (World.drewN _) (Nat.add_assoc _ _ _))⟩)) | (go_at_call 48;(with_reducible refine (impl_SizeOk.calls a0_1 a0_2 false _ A13.out).mono ?_);rintro e w' ⟨rfl,⟨nd,rfl⟩⟩;(try first | exact ⟨rfl,_,World.drewN_drewN _ _ _⟩ | exact ⟨rfl,_,Eq.trans (World.drewN_drewN _ _ _) (congrArg (World.drewN _) (Nat.add_assoc _ _ _))⟩)))
     repeat (go_quiet (first | (go_at_call 47;(with_reducible refine (impl_within.calls a0_0 1 1000000 true _ A11.out).mono ?_);rintro e w' ⟨rfl,⟨nd,rfl⟩⟩;(try first | exact ⟨rfl,_,World.drewN_drewN _ _ _⟩ | exact ⟨rfl,_,Eq.trans (World.drewN_drewN _ _ _) (congrArg (World.drewN _) (Nat.add_assoc _ _ _))⟩)) | (go_at_call 48;(with_reducible refine (impl_SizeOk.calls a0_1 a0_2 false _ A13.out).mono ?_);rintro e w' ⟨rfl,⟨nd,rfl⟩⟩;(try first | exact ⟨rfl,_,World.drewN_drewN _ _ _⟩ | exact ⟨rfl,_,Eq.trans (World.drewN_drewN _ _ _) (congrArg (World.drewN _) (Nat.add_assoc _ _ _))⟩)));try go_wp2_with (first | (go_at_call 47;(with_reducible refine (impl_within.calls a0_0 1 1000000 true _ A11.out).mono ?_);rintro e w' ⟨rfl,⟨nd,rfl⟩⟩;(try first | exact ⟨rfl,_,World.drewN_drewN _ _ _⟩ | exact ⟨rfl,_,Eq.trans (World.drewN_drewN _ _ _) (congrArg (World.drewN _) (Nat.add_assoc _ _ _))⟩)) | (go_at_call 48;(with_reducible refine (impl_SizeOk.calls a0_1 a0_2 false _ A13.out).mono ?_);rintro e w' ⟨rfl,⟨nd,rfl⟩⟩;(try first | exact ⟨rfl,_,World.drewN_drewN _ _ _⟩ | exact ⟨rfl,_,Eq.trans (World.drewN_drewN _ _ _) (congrArg (World.drewN _) (Nat.add_assoc _ _ _))⟩))))
     go_meet
     case rel => exact ⟨_,(true),eqs_,H',⟨by first | omega | exact Nat.le_refl _⟩,⟨by (with_reducible repeat (first | refine blk_drewN ?_ _ | refine blk_drew ?_ | refine blk_alloc ?_ _));exact BK363.out⟩,⟨B_set HB.out⟩⟩
   ·replace c12 := Bool.eq_false_iff.mpr c12
    subst c12
    have H1 : (impl_ManOk.j0 k true a0_0 a0_1 a0_2 l0_3) = some r := by rw [if_neg (show ¬ (false = true) by decide)] at H;exact H
    clear H
    have H := H1
    clear H1
    have H' := Mk H
    clear H
    obtain ⟨hcz18_0,hcz18_1,hcz18_2,hcz18_3⟩ := cz4 BK363.out
    obtain ⟨hfz18_0,hfz18_1,hfz18_2,hfz18_3⟩ := fz4 BK363.out
    go_wp2_with (first | (go_at_call 47;(with_reducible refine (impl_within.calls a0_0 1 1000000 false _ A11.out).mono ?_);rintro e w' ⟨rfl,⟨nd,rfl⟩⟩;(try first | exact ⟨rfl,_,World.drewN_drewN _ _ _⟩ | exact ⟨rfl,_,Eq.trans (World.drewN_drewN _ _ _) (congrArg (World.drewN _) (Nat.add_assoc _ _ _))⟩)))
    repeat (go_quiet (first | (go_at_call 47;(with_reducible refine (impl_within.calls a0_0 1 1000000 false _ A11.out).mono ?_);rintro e w' ⟨rfl,⟨nd,rfl⟩⟩;(try first | exact ⟨rfl,_,World.drewN_drewN _ _ _⟩ | exact ⟨rfl,_,Eq.trans (World.drewN_drewN _ _ _) (congrArg (World.drewN _) (Nat.add_assoc _ _ _))⟩)));try go_wp2_with (first | (go_at_call 47;(with_reducible refine (impl_within.calls a0_0 1 1000000 false _ A11.out).mono ?_);rintro e w' ⟨rfl,⟨nd,rfl⟩⟩;(try first | exact ⟨rfl,_,World.drewN_drewN _ _ _⟩ | exact ⟨rfl,_,Eq.trans (World.drewN_drewN _ _ _) (congrArg (World.drewN _) (Nat.add_assoc _ _ _))⟩))))
    go_meet
    case rel => exact ⟨_,(true),eqs_,H',⟨by first | omega | exact Nat.le_refl _⟩,⟨by (with_reducible repeat (first | refine blk_drewN ?_ _ | refine blk_drew ?_ | refine blk_alloc ?_ _));exact BK363.out⟩,⟨B_set HB.out⟩⟩
  case rest =>
   clear HC7
   try clear c1
   try clear p2
   try clear c3
   try clear c12
   try clear c14
   try clear c16
   try clear hcz16_0
   try clear hcz16_1
   try clear hcz16_2
   try clear hcz16_3
   try clear hcz17_0
   try clear hcz17_1
   try clear hcz17_2
   try clear hcz17_3
   try clear hcz18_0
   try clear hcz18_1
   try clear hcz18_2
   try clear hcz18_3
   try clear hcz5_0
   try clear hcz5_1
   try clear hcz5_2
   try clear hcz5_3
   try clear hcz9_0
   try clear hcz9_1
   try clear hcz9_2
   try clear hcz9_3
   try clear hfz16_0
   try clear hfz16_1
   try clear hfz16_2
   try clear hfz16_3
   try clear hfz17_0
   try clear hfz17_1
   try clear hfz17_2
   try clear hfz17_3
   try clear hfz18_0
   try clear hfz18_1
   try clear hfz18_2
   try clear hfz18_3
   try clear hfz5_0
   try clear hfz5_1
   try clear hfz5_2
   try clear hfz5_3
   try clear hfz9_0
   try clear hfz9_1
   try clear hfz9_2
   try clear hfz9_3
   obtain ⟨kq,x33_6,rfl,HA,HJ6,BK363,HB⟩ := hcut
   cases kq with
   | zero => exact absurd HA.out (by simp [impl_ManOk.j0])
   | succ kj6 =>
    have H := HA.out
    clear HA
    simp only [impl_ManOk.j0] at H
    by_cases c19 : x33_6 = true
    ·subst c19
     rw [if_pos rfl] at H
     obtain rfl := Option.some.inj H
     go_wp2
     repeat (go_quiet (fail);try go_wp2)
     go_ret
     exact ⟨err_,B_set HB.out⟩
    ·replace c19 := Bool.eq_false_iff.mpr c19
     subst c19
     have H1 : (impl_ManOk.l0 kj6 l0_3 (l0_3.length : Int) 0 a0_0 a0_1 a0_2 l0_3) = some r := by rw [if_neg (show ¬ (false = true) by decide)] at H;exact H
     clear H
     have H := H1
     clear H1
     have H' := Mk H
     clear H
     obtain ⟨hcz20_0,hcz20_1,hcz20_2,hcz20_3⟩ := cz4 BK363.out
     obtain ⟨hfz20_0,hfz20_1,hfz20_2,hfz20_3⟩ := fz4 BK363.out
     go_wp2
     repeat (go_quiet (fail);try go_wp2)
     go_loopg [37] kj6 (fun kq v37 w' => ∃ (x37_2 : Int),v37 = .int .i64 x37_2 ∧ Aside0 (impl_ManOk.l0 kq l0_3 (l0_3.length : Int) x37_2 a0_0 a0_1 a0_2 l0_3 = some r) ∧ Aside0 (kq ≤ kj6) ∧ Aside0 (w'.heap[gb363]? = some (.cells #[.int .i64 a0_0,.int .i64 a0_1,.int .i64 a0_2,(.slice A0_3 l0_3.length c0_3)] 28 (0,0))) ∧ Aside0 (Below w.heap.size w w'))
     case atStart => exact ⟨(0),eqs_,H',⟨Nat.le_refl _⟩,⟨by (with_reducible repeat (first | refine blk_drewN ?_ _ | refine blk_drew ?_ | refine blk_alloc ?_ _));exact BK363.out⟩,⟨B_set HB.out⟩⟩
     case round =>
      clear H'
      try clear c1
      try clear p2
      try clear c3
      try clear c12
      try clear c14
      try clear c16
      try clear c19
      try clear hcz16_0
      try clear hcz16_1
      try clear hcz16_2
      try clear hcz16_3
      try clear hcz17_0
      try clear hcz17_1
      try clear hcz17_2
      try clear hcz17_3
      try clear hcz18_0
      try clear hcz18_1
      try clear hcz18_2
      try clear hcz18_3
      try clear hcz20_0
      try clear hcz20_1
      try clear hcz20_2
      try clear hcz20_3
      try clear hcz5_0
      try clear hcz5_1
      try clear hcz5_2
      try clear hcz5_3
      try clear hcz9_0
      try clear hcz9_1
      try clear hcz9_2
      try clear hcz9_3
      try clear hfz16_0
      try clear hfz16_1
      try clear hfz16_2
      try clear hfz16_3
      try clear hfz17_0
      try clear hfz17_1
      try clear hfz17_2
      try clear hfz17_3
      try clear hfz18_0
      try clear hfz18_1
      try clear hfz18_2
      try clear hfz18_3
      try clear hfz20_0
      try clear hfz20_1
      try clear hfz20_2
      try clear hfz20_3
      try clear hfz5_0
      try clear hfz5_1
      try clear hfz5_2
      try clear hfz5_3
      try clear hfz9_0
      try clear hfz9_1
      try clear hfz9_2
      try clear hfz9_3
      try clear p2
      obtain ⟨x37_2,rfl,HA,HK2,BK363,HB⟩ := hrel
      cases gk with
      | zero => exact absurd HA.out (by simp [impl_ManOk.l0])
      | succ k2 =>
       have H := HA.out
       clear HA
       simp only [impl_ManOk.l0] at H
       by_cases c21 : x37_2 < (l0_3.length : Int)
       ·rw [if_pos c21] at H
        have c21b0 : decide (x37_2 < (l0_3.length : Int)) = true := decide_eq_true c21
        clear c21
        by_cases c22 : 0 ≤ x37_2
        ·rw [if_pos c22] at H
         have c22b0 : decide (0 ≤ x37_2) = true := decide_eq_true c22
         clear c22
         by_cases c23 : x37_2 < (l0_3.length : Int)
         ·rw [if_pos c23] at H
          have c23b0 : decide (x37_2 < (l0_3.length : Int)) = true := decide_eq_true c23
          clear c23
          replace H := bsm H
          obtain ⟨⟨t370,t371⟩,A24,H⟩ := H
          (try dsimp only at H)
          replace H := bsm H
          obtain ⟨⟨t374,t375⟩,A25,H⟩ := H
          (try dsimp only at H)
          by_cases c26 : t371 = true
          ·subst c26
           rw [if_pos rfl] at H
           by_cases c27 : (t370.length : Int) = t375
           ·rw [if_pos c27] at H
            have c27b0 : ((t370.length : Int) == t375) = true := beq_iff_eq.mpr c27
            have c27b1 : ((t370.length : Int) != t375) = false := bne_eq_false_iff_eq.mpr c27
            clear c27
            replace H := bsm H
            obtain ⟨t376,A28,H⟩ := H
            (try dsimp only at H)
            by_cases c29 : t376 = ((rd_T56 l0_3 x37_2).f0)
            ·rw [if_pos c29] at H
             have c29b0 : (t376 == ((rd_T56 l0_3 x37_2).f0)) = true := beq_iff_eq.mpr c29
             have c29b1 : (t376 != ((rd_T56 l0_3 x37_2).f0)) = false := bne_eq_false_iff_eq.mpr c29
             clear c29
             have H' := Mk H
             clear H
             have p368 : 0 ≤ (x37_2 : Int) := ofd
             have q368 : x37_2 < (l0_3.length : Int) := ofd
             obtain ⟨ad368,e368,hx368_0,hx368_1⟩ := at_T56 HR0_3.out x37_2 p368 q368
             cases e368
             replace hx368_0 := (HB.out.cell (World.block_lt_of_cell? w _ hx368_0)).trans hx368_0
             replace hx368_1 := (HB.out.cell (World.block_lt_of_cell? w _ hx368_1)).trans hx368_1
             replace p368 := eq_true p368
             replace q368 := eq_true q368
             go_wp2_with (first | ((with_reducible refine gate_dst (N := 4) rfl ?_);(try (refine gate_guard (by rfl) ?_;dsimp only));refine box_event ?hg (N := 4) ?hd (cs := #[.int .i64 0,.int .i64 0]) (t := 56) ?hr ?_;(case hd => rfl);(case hg => rfl);(case hr => first | (go_simp;done) | (go_simp;rfl));intro gb369 hg w30 hbox hb;have BK369 := Mk (hbox);have GW369 := Mk ((by rw [hg];exact (below_size (B_set HB.out)) : w.heap.size ≤ gb369));have GE369 := Mk ((by rw [hg];exact (below_size (B_set HB.out)) : w.heap.size ≤ gb369));replace HB := Mk (below_step (B_set HB.out) hb);have NB363_369 := Mk ((by rw [hg];exact Nat.ne_of_lt (blk_lt (blk_up BK363.out)) : gb363 ≠ gb369));have NB369_363 := Mk ((by rw [hg];exact Nat.ne_of_gt (blk_lt (blk_up BK363.out)) : gb369 ≠ gb363));replace BK363 := Mk (blk_below (blk_up BK363.out) hb);clear hb hbox hg;have hnb31 := NB369_363.out;have hnc31 := NB363_369.out;obtain ⟨hcz32_0,hcz32_1⟩ := cz2 BK369.out;obtain ⟨hfz32_0,hfz32_1⟩ := fz2 BK369.out) | (go_at_call 27;(with_reducible refine (impl_BytesOf.calls k2 ((rd_T56 l0_3 x37_2).f1) t370 true _ A24.out).mono ?_);rintro e w33 ⟨v372,rfl,ho0,hb⟩;have HO373 := Mk (Kd.R_lower ho0 (below_size (B_set HB.out)));replace BK363 := Mk (blk_below (g := gb363) (o := .cells #[.int .i64 a0_0,.int .i64 a0_1,.int .i64 a0_2,.slice (some ad368) l0_3.length c0_3] 28 (0,0)) (by (with_reducible repeat (first | refine blk_drewN ?_ _ | refine blk_drew ?_ | refine blk_alloc ?_ _));refine blk_far ?_ NB363_369.out _;(with_reducible repeat (first | refine blk_drewN ?_ _ | refine blk_drew ?_ | refine blk_alloc ?_ _));refine blk_far ?_ NB363_369.out _;(with_reducible repeat (first | refine blk_drewN ?_ _ | refine blk_drew ?_ | refine blk_alloc ?_ _));exact BK363.out) hb);replace BK369 := Mk (blk_below (g := gb369) (o := .cells #[.int .i64 ((rd_T56 l0_3 x37_2).f0),.int .i64 ((rd_T56 l0_3 x37_2).f1)] 56 (0,0)) (by (with_reducible repeat (first | refine blk_drewN ?_ _ | refine blk_drew ?_ | refine blk_alloc ?_ _));refine blk_put (cs := #[.int .i64 ((rd_T56 l0_3 x37_2).f0),.int .i64 0]) ?_ 1 _ rfl;(with_reducible repeat (first | refine blk_drewN ?_ _ | refine blk_drew ?_ | refine blk_alloc ?_ _));refine blk_put (cs := #[.int .i64 0,.int .i64 0]) ?_ 0 _ rfl;(with_reducible repeat (first | refine blk_drewN ?_ _ | refine blk_drew ?_ | refine blk_alloc ?_ _));exact BK369.out) hb);replace HB := Mk (below_step (B_set HB.out) hb);(try clear hb);(try clear hb2);(try clear hk);(try clear hi);(try clear ho0);obtain ⟨hcz34_0,hcz34_1,hcz34_2,hcz34_3⟩ := cz4 BK363.out;obtain ⟨hfz34_0,hfz34_1,hfz34_2,hfz34_3⟩ := fz4 BK363.out) | (go_at_call 49;(with_reducible refine (impl_SpanOf.calls a0_1 a0_2 x37_2 t374 t375 _ A25.out).mono ?_);rintro e w35 ⟨rfl,hb⟩;replace HO373 := Mk (Kd.R_below (Kd.R_up HO373.out) hb);replace BK363 := Mk (blk_below (blk_up BK363.out) hb);replace BK369 := Mk (blk_below (blk_up BK369.out) hb);replace HB := Mk (below_step (B_set HB.out) hb);(try clear hb);(try clear hb2);(try clear hk);(try clear hi);obtain ⟨Ao36,co36,eo36⟩ := Kd.R_slice HO373.out;subst eo36;obtain ⟨hcz37_0,hcz37_1⟩ := cz2 BK369.out;obtain ⟨hfz37_0,hfz37_1⟩ := fz2 BK369.out) | (go_at_call 50;(with_reducible refine (impl_WeakOf.calls k2 _ _ t370 t376 _ ?side1 ?side2 A28.out).mono ?_);(case side1 => exact Kd.C_up (Kd.R_reads' HO373.out).2.2);(case side2 => exact (Kd.R_reads' HO373.out).2.1);rintro e w' ⟨rfl,⟨nd,rfl⟩⟩;(try first | exact ⟨rfl,_,World.drewN_drewN _ _ _⟩ | exact ⟨rfl,_,Eq.trans (World.drewN_drewN _ _ _) (congrArg (World.drewN _) (Nat.add_assoc _ _ _))⟩)))
             repeat (go_quiet (first | ((with_reducible refine gate_dst (N := 4) rfl ?_);(try (refine gate_guard (by rfl) ?_;dsimp only));refine box_event ?hg (N := 4) ?hd (cs := #[.int .i64 0,.int .i64 0]) (t := 56) ?hr ?_;(case hd => rfl);(case hg => rfl);(case hr => first | (go_simp;done) | (go_simp;rfl));intro gb369 hg w30 hbox hb;have BK369 := Mk (hbox);have GW369 := Mk ((by rw [hg];exact (below_size (B_set HB.out)) : w.heap.size ≤ gb369));have GE369 := Mk ((by rw [hg];exact (below_size (B_set HB.out)) : w.heap.size ≤ gb369));replace HB := Mk (below_step (B_set HB.out) hb);have NB363_369 := Mk ((by rw [hg];exact Nat.ne_of_lt (blk_lt (blk_up BK363.out)) : gb363 ≠ gb369));have NB369_363 := Mk ((by rw [hg];exact Nat.ne_of_gt (blk_lt (blk_up BK363.out)) : gb369 ≠ gb363));replace BK363 := Mk (blk_below (blk_up BK363.out) hb);clear hb hbox hg;have hnb31 := NB369_363.out;have hnc31 := NB363_369.out;obtain ⟨hcz32_0,hcz32_1⟩ := cz2 BK369.out;obtain ⟨hfz32_0,hfz32_1⟩ := fz2 BK369.out) | (go_at_call 27;(with_reducible refine (impl_BytesOf.calls k2 ((rd_T56 l0_3 x37_2).f1) t370 true _ A24.out).mono ?_);rintro e w33 ⟨v372,rfl,ho0,hb⟩;have HO373 := Mk (Kd.R_lower ho0 (below_size (B_set HB.out)));replace BK363 := Mk (blk_below (g := gb363) (o := .cells #[.int .i64 a0_0,.int .i64 a0_1,.int .i64 a0_2,.slice (some ad368) l0_3.length c0_3] 28 (0,0)) (by (with_reducible repeat (first | refine blk_drewN ?_ _ | refine blk_drew ?_ | refine blk_alloc ?_ _));refine blk_far ?_ NB363_369.out _;(with_reducible repeat (first | refine blk_drewN ?_ _ | refine blk_drew ?_ | refine blk_alloc ?_ _));refine blk_far ?_ NB363_369.out _;(with_reducible repeat (first | refine blk_drewN ?_ _ | refine blk_drew ?_ | refine blk_alloc ?_ _));exact BK363.out) hb);replace BK369 := Mk (blk_below (g := gb369) (o := .cells #[.int .i64 ((rd_T56 l0_3 x37_2).f0),.int .i64 ((rd_T56 l0_3 x37_2).f1)] 56 (0,0)) (by (with_reducible repeat (first | refine blk_drewN ?_ _ | refine blk_drew ?_ | refine blk_alloc ?_ _));refine blk_put (cs := #[.int .i64 ((rd_T56 l0_3 x37_2).f0),.int .i64 0]) ?_ 1 _ rfl;(with_reducible repeat (first | refine blk_drewN ?_ _ | refine blk_drew ?_ | refine blk_alloc ?_ _));refine blk_put (cs := #[.int .i64 0,.int .i64 0]) ?_ 0 _ rfl;(with_reducible repeat (first | refine blk_drewN ?_ _ | refine blk_drew ?_ | refine blk_alloc ?_ _));exact BK369.out) hb);replace HB := Mk (below_step (B_set HB.out) hb);(try clear hb);(try clear hb2);(try clear hk);(try clear hi);(try clear ho0);obtain ⟨hcz34_0,hcz34_1,hcz34_2,hcz34_3⟩ := cz4 BK363.out;obtain ⟨hfz34_0,hfz34_1,hfz34_2,hfz34_3⟩ := fz4 BK363.out) | (go_at_call 49;(with_reducible refine (impl_SpanOf.calls a0_1 a0_2 x37_2 t374 t375 _ A25.out).mono ?_);rintro e w35 ⟨rfl,hb⟩;replace HO373 := Mk (Kd.R_below (Kd.R_up HO373.out) hb);replace BK363 := Mk (blk_below (blk_up BK363.out) hb);replace BK369 := Mk (blk_below (blk_up BK369.out) hb);replace HB := Mk (below_step (B_set HB.out) hb);(try clear hb);(try clear hb2);(try clear hk);(try clear hi);obtain ⟨Ao36,co36,eo36⟩ := Kd.R_slice HO373.out;subst eo36;obtain ⟨hcz37_0,hcz37_1⟩ := cz2 BK369.out;obtain ⟨hfz37_0,hfz37_1⟩ := fz2 BK369.out) | (go_at_call 50;(with_reducible refine (impl_WeakOf.calls k2 _ _ t370 t376 _ ?side1 ?side2 A28.out).mono ?_);(case side1 => exact Kd.C_up (Kd.R_reads' HO373.out).2.2);(case side2 => exact (Kd.R_reads' HO373.out).2.1);rintro e w' ⟨rfl,⟨nd,rfl⟩⟩;(try first | exact ⟨rfl,_,World.drewN_drewN _ _ _⟩ | exact ⟨rfl,_,Eq.trans (World.drewN_drewN _ _ _) (congrArg (World.drewN _) (Nat.add_assoc _ _ _))⟩)));try go_wp2_with (first | ((with_reducible refine gate_dst (N := 4) rfl ?_);(try (refine gate_guard (by rfl) ?_;dsimp only));refine box_event ?hg (N := 4) ?hd (cs := #[.int .i64 0,.int .i64 0]) (t := 56) ?hr ?_;(case hd => rfl);(case hg => rfl);(case hr => first | (go_simp;done) | (go_simp;rfl));intro gb369 hg w30 hbox hb;have BK369 := Mk (hbox);have GW369 := Mk ((by rw [hg];exact (below_size (B_set HB.out)) : w.heap.size ≤ gb369));have GE369 := Mk ((by rw [hg];exact (below_size (B_set HB.out)) : w.heap.size ≤ gb369));replace HB := Mk (below_step (B_set HB.out) hb);have NB363_369 := Mk ((by rw [hg];exact Nat.ne_of_lt (blk_lt (blk_up BK363.out)) : gb363 ≠ gb369));have NB369_363 := Mk ((by rw [hg];exact Nat.ne_of_gt (blk_lt (blk_up BK363.out)) : gb369 ≠ gb363));replace BK363 := Mk (blk_below (blk_up BK363.out) hb);clear hb hbox hg;have hnb31 := NB369_363.out;have hnc31 := NB363_369.out;obtain ⟨hcz32_0,hcz32_1⟩ := cz2 BK369.out;obtain ⟨hfz32_0,hfz32_1⟩ := fz2 BK369.out) | (go_at_call 27;(with_reducible refine (impl_BytesOf.calls k2 ((rd_T56 l0_3 x37_2).f1) t370 true _ A24.out).mono ?_);rintro e w33 ⟨v372,rfl,ho0,hb⟩;have HO373 := Mk (Kd.R_lower ho0 (below_size (B_set HB.out)));replace BK363 := Mk (blk_below (g := gb363) (o := .cells #[.int .i64 a0_0,.int .i64 a0_1,.int .i64 a0_2,.slice (some ad368) l0_3.length c0_3] 28 (0,0)) (by (with_reducible repeat (first | refine blk_drewN ?_ _ | refine blk_drew ?_ | refine blk_alloc ?_ _));refine blk_far ?_ NB363_369.out _;(with_reducible repeat (first | refine blk_drewN ?_ _ | refine blk_drew ?_ | refine blk_alloc ?_ _));refine blk_far ?_ NB363_369.out _;(with_reducible repeat (first | refine blk_drewN ?_ _ | refine blk_drew ?_ | refine blk_alloc ?_ _));exact BK363.out) hb);replace BK369 := Mk (blk_below (g := gb369) (o := .cells #[.int .i64 ((rd_T56 l0_3 x37_2).f0),.int .i64 ((rd_T56 l0_3 x37_2).f1)] 56 (0,0)) (by (with_reducible repeat (first | refine blk_drewN ?_ _ | refine blk_drew ?_ | refine blk_alloc ?_ _));refine blk_put (cs := #[.int .i64 ((rd_T56 l0_3 x37_2).f0),.int .i64 0]) ?_ 1 _ rfl;(with_reducible repeat (first | refine blk_drewN ?_ _ | refine blk_drew ?_ | refine blk_alloc ?_ _));refine blk_put (cs := #[.int .i64 0,.int .i64 0]) ?_ 0 _ rfl;(with_reducible repeat (first | refine blk_drewN ?_ _ | refine blk_drew ?_ | refine blk_alloc ?_ _));exact BK369.out) hb);replace HB := Mk (below_step (B_set HB.out) hb);(try clear hb);(try clear hb2);(try clear hk);(try clear hi);(try clear ho0);obtain ⟨hcz34_0,hcz34_1,hcz34_2,hcz34_3⟩ := cz4 BK363.out;obtain ⟨hfz34_0,hfz34_1,hfz34_2,hfz34_3⟩ := fz4 BK363.out) | (go_at_call 49;(with_reducible refine (impl_SpanOf.calls a0_1 a0_2 x37_2 t374 t375 _ A25.out).mono ?_);rintro e w35 ⟨rfl,hb⟩;replace HO373 := Mk (Kd.R_below (Kd.R_up HO373.out) hb);replace BK363 := Mk (blk_below (blk_up BK363.out) hb);replace BK369 := Mk (blk_below (blk_up BK369.out) hb);replace HB := Mk (below_step (B_set HB.out) hb);(try clear hb);(try clear hb2);(try clear hk);(try clear hi);obtain ⟨Ao36,co36,eo36⟩ := Kd.R_slice HO373.out;subst eo36;obtain ⟨hcz37_0,hcz37_1⟩ := cz2 BK369.out;obtain ⟨hfz37_0,hfz37_1⟩ := fz2 BK369.out) | (go_at_call 50;(with_reducible refine (impl_WeakOf.calls k2 _ _ t370 t376 _ ?side1 ?side2 A28.out).mono ?_);(case side1 => exact Kd.C_up (Kd.R_reads' HO373.out).2.2);(case side2 => exact (Kd.R_reads' HO373.out).2.1);rintro e w' ⟨rfl,⟨nd,rfl⟩⟩;(try first | exact ⟨rfl,_,World.drewN_drewN _ _ _⟩ | exact ⟨rfl,_,Eq.trans (World.drewN_drewN _ _ _) (congrArg (World.drewN _) (Nat.add_assoc _ _ _))⟩))))
             go_roundg k2
             case measure => have := HJ6.out;have := HK2.out;omega
             case rel => exact ⟨(wrap64 (x37_2 + 1)),eqs_,H',⟨by have := HJ6.out;have := HK2.out;omega⟩,⟨by (with_reducible repeat (first | refine blk_drewN ?_ _ | refine blk_drew ?_ | refine blk_alloc ?_ _));exact BK363.out⟩,⟨B_set HB.out⟩⟩
            ·rw [if_neg c29] at H
             have c29b0 : (t376 == ((rd_T56 l0_3 x37_2).f0)) = false := beq_eq_false_iff_ne.mpr c29
             have c29b1 : (t376 != ((rd_T56 l0_3 x37_2).f0)) = true := bne_iff_ne.mpr c29
             obtain rfl := Option.some.inj H
             have p368 : 0 ≤ (x37_2 : Int) := ofd
             have q368 : x37_2 < (l0_3.length : Int) := ofd
             obtain ⟨ad368,e368,hx368_0,hx368_1⟩ := at_T56 HR0_3.out x37_2 p368 q368
             cases e368
             replace hx368_0 := (HB.out.cell (World.block_lt_of_cell? w _ hx368_0)).trans hx368_0
             replace hx368_1 := (HB.out.cell (World.block_lt_of_cell? w _ hx368_1)).trans hx368_1
             replace p368 := eq_true p368
             replace q368 := eq_true q368
             go_wp2_with (first | ((with_reducible refine gate_dst (N := 4) rfl ?_);(try (refine gate_guard (by rfl) ?_;dsimp only));refine box_event ?hg (N := 4) ?hd (cs := #[.int .i64 0,.int .i64 0]) (t := 56) ?hr ?_;(case hd => rfl);(case hg => rfl);(case hr => first | (go_simp;done) | (go_simp;rfl));intro gb369 hg w38 hbox hb;have BK369 := Mk (hbox);have GW369 := Mk ((by rw [hg];exact (below_size (B_set HB.out)) : w.heap.size ≤ gb369));have GE369 := Mk ((by rw [hg];exact (below_size (B_set HB.out)) : w.heap.size ≤ gb369));replace HB := Mk (below_step (B_set HB.out) hb);have NB363_369 := Mk ((by rw [hg];exact Nat.ne_of_lt (blk_lt (blk_up BK363.out)) : gb363 ≠ gb369));have NB369_363 := Mk ((by rw [hg];exact Nat.ne_of_gt (blk_lt (blk_up BK363.out)) : gb369 ≠ gb363));replace BK363 := Mk (blk_below (blk_up BK363.out) hb);clear hb hbox hg;have hnb39 := NB369_363.out;have hnc39 := NB363_369.out;obtain ⟨hcz40_0,hcz40_1⟩ := cz2 BK369.out;obtain ⟨hfz40_0,hfz40_1⟩ := fz2 BK369.out) | (go_at_call 27;(with_reducible refine (impl_BytesOf.calls k2 ((rd_T56 l0_3 x37_2).f1) t370 true _ A24.out).mono ?_);rintro e w41 ⟨v372,rfl,ho0,hb⟩;have HO373 := Mk (Kd.R_lower ho0 (below_size (B_set HB.out)));replace BK363 := Mk (blk_below (g := gb363) (o := .cells #[.int .i64 a0_0,.int .i64 a0_1,.int .i64 a0_2,.slice (some ad368) l0_3.length c0_3] 28 (0,0)) (by (with_reducible repeat (first | refine blk_drewN ?_ _ | refine blk_drew ?_ | refine blk_alloc ?_ _));refine blk_far ?_ NB363_369.out _;(with_reducible repeat (first | refine blk_drewN ?_ _ | refine blk_drew ?_ | refine blk_alloc ?_ _));refine blk_far ?_ NB363_369.out _;(with_reducible repeat (first | refine blk_drewN ?_ _ | refine blk_drew ?_ | refine blk_alloc ?_ _));exact BK363.out) hb);replace BK369 := Mk (blk_below (g := gb369) (o := .cells #[.int .i64 ((rd_T56 l0_3 x37_2).f0),.int .i64 ((rd_T56 l0_3 x37_2).f1)] 56 (0,0)) (by (with_reducible repeat (first | refine blk_drewN ?_ _ | refine blk_drew ?_ | refine blk_alloc ?_ _));refine blk_put (cs := #[.int .i64 ((rd_T56 l0_3 x37_2).f0),.int .i64 0]) ?_ 1 _ rfl;(with_reducible repeat (first | refine blk_drewN ?_ _ | refine blk_drew ?_ | refine blk_alloc ?_ _));refine blk_put (cs := #[.int .i64 0,.int .i64 0]) ?_ 0 _ rfl;(with_reducible repeat (first | refine blk_drewN ?_ _ | refine blk_drew ?_ | refine blk_alloc ?_ _));exact BK369.out) hb);replace HB := Mk (below_step (B_set HB.out) hb);(try clear hb);(try clear hb2);(try clear hk);(try clear hi);(try clear ho0);obtain ⟨hcz42_0,hcz42_1,hcz42_2,hcz42_3⟩ := cz4 BK363.out;obtain ⟨hfz42_0,hfz42_1,hfz42_2,hfz42_3⟩ := fz4 BK363.out) | (go_at_call 49;(with_reducible refine (impl_SpanOf.calls a0_1 a0_2 x37_2 t374 t375 _ A25.out).mono ?_);rintro e w43 ⟨rfl,hb⟩;replace HO373 := Mk (Kd.R_below (Kd.R_up HO373.out) hb);replace BK363 := Mk (blk_below (blk_up BK363.out) hb);replace BK369 := Mk (blk_below (blk_up BK369.out) hb);replace HB := Mk (below_step (B_set HB.out) hb);(try clear hb);(try clear hb2);(try clear hk);(try clear hi);obtain ⟨Ao44,co44,eo44⟩ := Kd.R_slice HO373.out;subst eo44;obtain ⟨hcz45_0,hcz45_1⟩ := cz2 BK369.out;obtain ⟨hfz45_0,hfz45_1⟩ := fz2 BK369.out) | (go_at_call 50;(with_reducible refine (impl_WeakOf.calls k2 _ _ t370 t376 _ ?side1 ?side2 A28.out).mono ?_);(case side1 => exact Kd.C_up (Kd.R_reads' HO373.out).2.2);(case side2 => exact (Kd.R_reads' HO373.out).2.1);rintro e w' ⟨rfl,⟨nd,rfl⟩⟩;(try first | exact ⟨rfl,_,World.drewN_drewN _ _ _⟩ | exact ⟨rfl,_,Eq.trans (World.drewN_drewN _ _ _) (congrArg (World.drewN _) (Nat.add_assoc _ _ _))⟩)))
             repeat (go_quiet (first | ((with_reducible refine gate_dst (N := 4) rfl ?_);(try (refine gate_guard (by rfl) ?_;dsimp only));refine box_event ?hg (N := 4) ?hd (cs := #[.int .i64 0,.int .i64 0]) (t := 56) ?hr ?_;(case hd => rfl);(case hg => rfl);(case hr => first | (go_simp;done) | (go_simp;rfl));intro gb369 hg w38 hbox hb;have BK369 := Mk (hbox);have GW369 := Mk ((by rw [hg];exact (below_size (B_set HB.out)) : w.heap.size ≤ gb369));have GE369 := Mk ((by rw [hg];exact (below_size (B_set HB.out)) : w.heap.size ≤ gb369));replace HB := Mk (below_step (B_set HB.out) hb);have NB363_369 := Mk ((by rw [hg];exact Nat.ne_of_lt (blk_lt (blk_up BK363.out)) : gb363 ≠ gb369));have NB369_363 := Mk ((by rw [hg];exact Nat.ne_of_gt (blk_lt (blk_up BK363.out)) : gb369 ≠ gb363));replace BK363 := Mk (blk_below (blk_up BK363.out) hb);clear hb hbox hg;have hnb39 := NB369_363.out;have hnc39 := NB363_369.out;obtain ⟨hcz40_0,hcz40_1⟩ := cz2 BK369.out;obtain ⟨hfz40_0,hfz40_1⟩ := fz2 BK369.out) | (go_at_call 27;(with_reducible refine (impl_BytesOf.calls k2 ((rd_T56 l0_3 x37_2).f1) t370 true _ A24.out).mono ?_);rintro e w41 ⟨v372,rfl,ho0,hb⟩;have HO373 := Mk (Kd.R_lower ho0 (below_size (B_set HB.out)));replace BK363 := Mk (blk_below (g := gb363) (o := .cells #[.int .i64 a0_0,.int .i64 a0_1,.int .i64 a0_2,.slice (some ad368) l0_3.length c0_3] 28 (0,0)) (by (with_reducible repeat (first | refine blk_drewN ?_ _ | refine blk_drew ?_ | refine blk_alloc ?_ _));refine blk_far ?_ NB363_369.out _;(with_reducible repeat (first | refine blk_drewN ?_ _ | refine blk_drew ?_ | refine blk_alloc ?_ _));refine blk_far ?_ NB363_369.out _;(with_reducible repeat (first | refine blk_drewN ?_ _ | refine blk_drew ?_ | refine blk_alloc ?_ _));exact BK363.out) hb);replace BK369 := Mk (blk_below (g := gb369) (o := .cells #[.int .i64 ((rd_T56 l0_3 x37_2).f0),.int .i64 ((rd_T56 l0_3 x37_2).f1)] 56 (0,0)) (by (with_reducible repeat (first | refine blk_drewN ?_ _ | refine blk_drew ?_ | refine blk_alloc ?_ _));refine blk_put (cs := #[.int .i64 ((rd_T56 l0_3 x37_2).f0),.int .i64 0]) ?_ 1 _ rfl;(with_reducible repeat (first | refine blk_drewN ?_ _ | refine blk_drew ?_ | refine blk_alloc ?_ _));refine blk_put (cs := #[.int .i64 0,.int .i64 0]) ?_ 0 _ rfl;(with_reducible repeat (first | refine blk_drewN ?_ _ | refine blk_drew ?_ | refine blk_alloc ?_ _));exact BK369.out) hb);replace HB := Mk (below_step (B_set HB.out) hb);(try clear hb);(try clear hb2);(try clear hk);(try clear hi);(try clear ho0);obtain ⟨hcz42_0,hcz42_1,hcz42_2,hcz42_3⟩ := cz4 BK363.out;obtain ⟨hfz42_0,hfz42_1,hfz42_2,hfz42_3⟩ := fz4 BK363.out) | (go_at_call 49;(with_reducible refine (impl_SpanOf.calls a0_1 a0_2 x37_2 t374 t375 _ A25.out).mono ?_);rintro e w43 ⟨rfl,hb⟩;replace HO373 := Mk (Kd.R_below (Kd.R_up HO373.out) hb);replace BK363 := Mk (blk_below (blk_up BK363.out) hb);replace BK369 := Mk (blk_below (blk_up BK369.out) hb);replace HB := Mk (below_step (B_set HB.out) hb);(try clear hb);(try clear hb2);(try clear hk);(try clear hi);obtain ⟨Ao44,co44,eo44⟩ := Kd.R_slice HO373.out;subst eo44;obtain ⟨hcz45_0,hcz45_1⟩ := cz2 BK369.out;obtain ⟨hfz45_0,hfz45_1⟩ := fz2 BK369.out) | (go_at_call 50;(with_reducible refine (impl_WeakOf.calls k2 _ _ t370 t376 _ ?side1 ?side2 A28.out).mono ?_);(case side1 => exact Kd.C_up (Kd.R_reads' HO373.out).2.2);(case side2 => exact (Kd.R_reads' HO373.out).2.1);rintro e w' ⟨rfl,⟨nd,rfl⟩⟩;(try first | exact ⟨rfl,_,World.drewN_drewN _ _ _⟩ | exact ⟨rfl,_,Eq.trans (World.drewN_drewN _ _ _) (congrArg (World.drewN _) (Nat.add_assoc _ _ _))⟩)));try go_wp2_with (first | ((with_reducible refine gate_dst (N := 4) rfl ?_);(try (refine gate_guard (by rfl) ?_;dsimp only));refine box_event ?hg (N := 4) ?hd (cs := #[.int .i64 0,.int .i64 0]) (t := 56) ?hr ?_;(case hd => rfl);(case hg => rfl);(case hr => first | (go_simp;done) | (go_simp;rfl));intro gb369 hg w38 hbox hb;have BK369 := Mk (hbox);have GW369 := Mk ((by rw [hg];exact (below_size (B_set HB.out)) : w.heap.size ≤ gb369));have GE369 := Mk ((by rw [hg];exact (below_size (B_set HB.out)) : w.heap.size ≤ gb369));replace HB := Mk (below_step (B_set HB.out) hb);have NB363_369 := Mk ((by rw [hg];exact Nat.ne_of_lt (blk_lt (blk_up BK363.out)) : gb363 ≠ gb369));have NB369_363 := Mk ((by rw [hg];exact Nat.ne_of_gt (blk_lt (blk_up BK363.out)) : gb369 ≠ gb363));replace BK363 := Mk (blk_below (blk_up BK363.out) hb);clear hb hbox hg;have hnb39 := NB369_363.out;have hnc39 := NB363_369.out;obtain ⟨hcz40_0,hcz40_1⟩ := cz2 BK369.out;obtain ⟨hfz40_0,hfz40_1⟩ := fz2 BK369.out) | (go_at_call 27;(with_reducible refine (impl_BytesOf.calls k2 ((rd_T56 l0_3 x37_2).f1) t370 true _ A24.out).mono ?_);rintro e w41 ⟨v372,rfl,ho0,hb⟩;have HO373 := Mk (Kd.R_lower ho0 (below_size (B_set HB.out)));replace BK363 := Mk (blk_below (g := gb363) (o := .cells #[.int .i64 a0_0,.int .i64 a0_1,.int .i64 a0_2,.slice (some ad368) l0_3.length c0_3] 28 (0,0)) (by (with_reducible repeat (first | refine blk_drewN ?_ _ | refine blk_drew ?_ | refine blk_alloc ?_ _));refine blk_far ?_ NB363_369.out _;(with_reducible repeat (first | refine blk_drewN ?_ _ | refine blk_drew ?_ | refine blk_alloc ?_ _));refine blk_far ?_ NB363_369.out _;(with_reducible repeat (first | refine blk_drewN ?_ _ | refine blk_drew ?_ | refine blk_alloc ?_ _));exact BK363.out) hb);replace BK369 := Mk (blk_below (g := gb369) (o := .cells #[.int .i64 ((rd_T56 l0_3 x37_2).f0),.int .i64 ((rd_T56 l0_3 x37_2).f1)] 56 (0,0)) (by (with_reducible repeat (first | refine blk_drewN ?_ _ | refine blk_drew ?_ | refine blk_alloc ?_ _));refine blk_put (cs := #[.int .i64 ((rd_T56 l0_3 x37_2).f0),.int .i64 0]) ?_ 1 _ rfl;(with_reducible repeat (first | refine blk_drewN ?_ _ | refine blk_drew ?_ | refine blk_alloc ?_ _));refine blk_put (cs := #[.int .i64 0,.int .i64 0]) ?_ 0 _ rfl;(with_reducible repeat (first | refine blk_drewN ?_ _ | refine blk_drew ?_ | refine blk_alloc ?_ _));exact BK369.out) hb);replace HB := Mk (below_step (B_set HB.out) hb);(try clear hb);(try clear hb2);(try clear hk);(try clear hi);(try clear ho0);obtain ⟨hcz42_0,hcz42_1,hcz42_2,hcz42_3⟩ := cz4 BK363.out;obtain ⟨hfz42_0,hfz42_1,hfz42_2,hfz42_3⟩ := fz4 BK363.out) | (go_at_call 49;(with_reducible refine (impl_SpanOf.calls a0_1 a0_2 x37_2 t374 t375 _ A25.out).mono ?_);rintro e w43 ⟨rfl,hb⟩;replace HO373 := Mk (Kd.R_below (Kd.R_up HO373.out) hb);replace BK363 := Mk (blk_below (blk_up BK363.out) hb);replace BK369 := Mk (blk_below (blk_up BK369.out) hb);replace HB := Mk (below_step (B_set HB.out) hb);(try clear hb);(try clear hb2);(try clear hk);(try clear hi);obtain ⟨Ao44,co44,eo44⟩ := Kd.R_slice HO373.out;subst eo44;obtain ⟨hcz45_0,hcz45_1⟩ := cz2 BK369.out;obtain ⟨hfz45_0,hfz45_1⟩ := fz2 BK369.out) | (go_at_call 50;(with_reducible refine (impl_WeakOf.calls k2 _ _ t370 t376 _ ?side1 ?side2 A28.out).mono ?_);(case side1 => exact Kd.C_up (Kd.R_reads' HO373.out).2.2);(case side2 => exact (Kd.R_reads' HO373.out).2.1);rintro e w' ⟨rfl,⟨nd,rfl⟩⟩;(try first | exact ⟨rfl,_,World.drewN_drewN _ _ _⟩ | exact ⟨rfl,_,Eq.trans (World.drewN_drewN _ _ _) (congrArg (World.drewN _) (Nat.add_assoc _ _ _))⟩))))
             go_ret
             exact ⟨err_,B_set HB.out⟩
           ·rw [if_neg c27] at H
            have c27b0 : ((t370.length : Int) == t375) = false := beq_eq_false_iff_ne.mpr c27
            have c27b1 : ((t370.length : Int) != t375) = true := bne_iff_ne.mpr c27
            obtain rfl := Option.some.inj H
            have p368 : 0 ≤ (x37_2 : Int) := ofd
            have q368 : x37_2 < (l0_3.length : Int) := ofd
            obtain ⟨ad368,e368,hx368_0,hx368_1⟩ := at_T56 HR0_3.out x37_2 p368 q368
            cases e368
            replace hx368_0 := (HB.out.cell (World.block_lt_of_cell? w _ hx368_0)).trans hx368_0
            replace hx368_1 := (HB.out.cell (World.block_lt_of_cell? w _ hx368_1)).trans hx368_1
            replace p368 := eq_true p368
            replace q368 := eq_true q368
            go_wp2_with (first | ((with_reducible refine gate_dst (N := 4) rfl ?_);(try (refine gate_guard (by rfl) ?_;dsimp only));refine box_event ?hg (N := 4) ?hd (cs := #[.int .i64 0,.int .i64 0]) (t := 56) ?hr ?_;(case hd => rfl);(case hg => rfl);(case hr => first | (go_simp;done) | (go_simp;rfl));intro gb369 hg w46 hbox hb;have BK369 := Mk (hbox);have GW369 := Mk ((by rw [hg];exact (below_size (B_set HB.out)) : w.heap.size ≤ gb369));have GE369 := Mk ((by rw [hg];exact (below_size (B_set HB.out)) : w.heap.size ≤ gb369));replace HB := Mk (below_step (B_set HB.out) hb);have NB363_369 := Mk ((by rw [hg];exact Nat.ne_of_lt (blk_lt (blk_up BK363.out)) : gb363 ≠ gb369));have NB369_363 := Mk ((by rw [hg];exact Nat.ne_of_gt (blk_lt (blk_up BK363.out)) : gb369 ≠ gb363));replace BK363 := Mk (blk_below (blk_up BK363.out) hb);clear hb hbox hg;have hnb47 := NB369_363.out;have hnc47 := NB363_369.out;obtain ⟨hcz48_0,hcz48_1⟩ := cz2 BK369.out;obtain ⟨hfz48_0,hfz48_1⟩ := fz2 BK369.out) | (go_at_call 27;(with_reducible refine (impl_BytesOf.calls k2 ((rd_T56 l0_3 x37_2).f1) t370 true _ A24.out).mono ?_);rintro e w49 ⟨v372,rfl,ho0,hb⟩;have HO373 := Mk (Kd.R_lower ho0 (below_size (B_set HB.out)));replace BK363 := Mk (blk_below (g := gb363) (o := .cells #[.int .i64 a0_0,.int .i64 a0_1,.int .i64 a0_2,.slice (some ad368) l0_3.length c0_3] 28 (0,0)) (by (with_reducible repeat (first | refine blk_drewN ?_ _ | refine blk_drew ?_ | refine blk_alloc ?_ _));refine blk_far ?_ NB363_369.out _;(with_reducible repeat (first | refine blk_drewN ?_ _ | refine blk_drew ?_ | refine blk_alloc ?_ _));refine blk_far ?_ NB363_369.out _;(with_reducible repeat (first | refine blk_drewN ?_ _ | refine blk_drew ?_ | refine blk_alloc ?_ _));exact BK363.out) hb);replace BK369 := Mk (blk_below (g := gb369) (o := .cells #[.int .i64 ((rd_T56 l0_3 x37_2).f0),.int .i64 ((rd_T56 l0_3 x37_2).f1)] 56 (0,0)) (by (with_reducible repeat (first | refine blk_drewN ?_ _ | refine blk_drew ?_ | refine blk_alloc ?_ _));refine blk_put (cs := #[.int .i64 ((rd_T56 l0_3 x37_2).f0),.int .i64 0]) ?_ 1 _ rfl;(with_reducible repeat (first | refine blk_drewN ?_ _ | refine blk_drew ?_ | refine blk_alloc ?_ _));refine blk_put (cs := #[.int .i64 0,.int .i64 0]) ?_ 0 _ rfl;(with_reducible repeat (first | refine blk_drewN ?_ _ | refine blk_drew ?_ | refine blk_alloc ?_ _));exact BK369.out) hb);replace HB := Mk (below_step (B_set HB.out) hb);(try clear hb);(try clear hb2);(try clear hk);(try clear hi);(try clear ho0);obtain ⟨hcz50_0,hcz50_1,hcz50_2,hcz50_3⟩ := cz4 BK363.out;obtain ⟨hfz50_0,hfz50_1,hfz50_2,hfz50_3⟩ := fz4 BK363.out) | (go_at_call 49;(with_reducible refine (impl_SpanOf.calls a0_1 a0_2 x37_2 t374 t375 _ A25.out).mono ?_);rintro e w51 ⟨rfl,hb⟩;replace HO373 := Mk (Kd.R_below (Kd.R_up HO373.out) hb);replace BK363 := Mk (blk_below (blk_up BK363.out) hb);replace BK369 := Mk (blk_below (blk_up BK369.out) hb);replace HB := Mk (below_step (B_set HB.out) hb);(try clear hb);(try clear hb2);(try clear hk);(try clear hi);obtain ⟨Ao52,co52,eo52⟩ := Kd.R_slice HO373.out;subst eo52))
            repeat (go_quiet (first | ((with_reducible refine gate_dst (N := 4) rfl ?_);(try (refine gate_guard (by rfl) ?_;dsimp only));refine box_event ?hg (N := 4) ?hd (cs := #[.int .i64 0,.int .i64 0]) (t := 56) ?hr ?_;(case hd => rfl);(case hg => rfl);(case hr => first | (go_simp;done) | (go_simp;rfl));intro gb369 hg w46 hbox hb;have BK369 := Mk (hbox);have GW369 := Mk ((by rw [hg];exact (below_size (B_set HB.out)) : w.heap.size ≤ gb369));have GE369 := Mk ((by rw [hg];exact (below_size (B_set HB.out)) : w.heap.size ≤ gb369));replace HB := Mk (below_step (B_set HB.out) hb);have NB363_369 := Mk ((by rw [hg];exact Nat.ne_of_lt (blk_lt (blk_up BK363.out)) : gb363 ≠ gb369));have NB369_363 := Mk ((by rw [hg];exact Nat.ne_of_gt (blk_lt (blk_up BK363.out)) : gb369 ≠ gb363));replace BK363 := Mk (blk_below (blk_up BK363.out) hb);clear hb hbox hg;have hnb47 := NB369_363.out;have hnc47 := NB363_369.out;obtain ⟨hcz48_0,hcz48_1⟩ := cz2 BK369.out;obtain ⟨hfz48_0,hfz48_1⟩ := fz2 BK369.out) | (go_at_call 27;(with_reducible refine (impl_BytesOf.calls k2 ((rd_T56 l0_3 x37_2).f1) t370 true _ A24.out).mono ?_);rintro e w49 ⟨v372,rfl,ho0,hb⟩;have HO373 := Mk (Kd.R_lower ho0 (below_size (B_set HB.out)));replace BK363 := Mk (blk_below (g := gb363) (o := .cells #[.int .i64 a0_0,.int .i64 a0_1,.int .i64 a0_2,.slice (some ad368) l0_3.length c0_3] 28 (0,0)) (by (with_reducible repeat (first | refine blk_drewN ?_ _ | refine blk_drew ?_ | refine blk_alloc ?_ _));refine blk_far ?_ NB363_369.out _;(with_reducible repeat (first | refine blk_drewN ?_ _ | refine blk_drew ?_ | refine blk_alloc ?_ _));refine blk_far ?_ NB363_369.out _;(with_reducible repeat (first | refine blk_drewN ?_ _ | refine blk_drew ?_ | refine blk_alloc ?_ _));exact BK363.out) hb);replace BK369 := Mk (blk_below (g := gb369) (o := .cells #[.int .i64 ((rd_T56 l0_3 x37_2).f0),.int .i64 ((rd_T56 l0_3 x37_2).f1)] 56 (0,0)) (by (with_reducible repeat (first | refine blk_drewN ?_ _ | refine blk_drew ?_ | refine blk_alloc ?_ _));refine blk_put (cs := #[.int .i64 ((rd_T56 l0_3 x37_2).f0),.int .i64 0]) ?_ 1 _ rfl;(with_reducible repeat (first | refine blk_drewN ?_ _ | refine blk_drew ?_ | refine blk_alloc ?_ _));refine blk_put (cs := #[.int .i64 0,.int .i64 0]) ?_ 0 _ rfl;(with_reducible repeat (first | refine blk_drewN ?_ _ | refine blk_drew ?_ | refine blk_alloc ?_ _));exact BK369.out) hb);replace HB := Mk (below_step (B_set HB.out) hb);(try clear hb);(try clear hb2);(try clear hk);(try clear hi);(try clear ho0);obtain ⟨hcz50_0,hcz50_1,hcz50_2,hcz50_3⟩ := cz4 BK363.out;obtain ⟨hfz50_0,hfz50_1,hfz50_2,hfz50_3⟩ := fz4 BK363.out) | (go_at_call 49;(with_reducible refine (impl_SpanOf.calls a0_1 a0_2 x37_2 t374 t375 _ A25.out).mono ?_);rintro e w51 ⟨rfl,hb⟩;replace HO373 := Mk (Kd.R_below (Kd.R_up HO373.out) hb);replace BK363 := Mk (blk_below (blk_up BK363.out) hb);replace BK369 := Mk (blk_below (blk_up BK369.out) hb);replace HB := Mk (below_step (B_set HB.out) hb);(try clear hb);(try clear hb2);(try clear hk);(try clear hi);obtain ⟨Ao52,co52,eo52⟩ := Kd.R_slice HO373.out;subst eo52));try go_wp2_with (first | ((with_reducible refine gate_dst (N := 4) rfl ?_);(try (refine gate_guard (by rfl) ?_;dsimp only));refine box_event ?hg (N := 4) ?hd (cs := #[.int .i64 0,.int .i64 0]) (t := 56) ?hr ?_;(case hd => rfl);(case hg => rfl);(case hr => first | (go_simp;done) | (go_simp;rfl));intro gb369 hg w46 hbox hb;have BK369 := Mk (hbox);have GW369 := Mk ((by rw [hg];exact (below_size (B_set HB.out)) : w.heap.size ≤ gb369));have GE369 := Mk ((by rw [hg];exact (below_size (B_set HB.out)) : w.heap.size ≤ gb369));replace HB := Mk (below_step (B_set HB.out) hb);have NB363_369 := Mk ((by rw [hg];exact Nat.ne_of_lt (blk_lt (blk_up BK363.out)) : gb363 ≠ gb369));have NB369_363 := Mk ((by rw [hg];exact Nat.ne_of_gt (blk_lt (blk_up BK363.out)) : gb369 ≠ gb363));replace BK363 := Mk (blk_below (blk_up BK363.out) hb);clear hb hbox hg;have hnb47 := NB369_363.out;have hnc47 := NB363_369.out;obtain ⟨hcz48_0,hcz48_1⟩ := cz2 BK369.out;obtain ⟨hfz48_0,hfz48_1⟩ := fz2 BK369.out) | (go_at_call 27;(with_reducible refine (impl_BytesOf.calls k2 ((rd_T56 l0_3 x37_2).f1) t370 true _ A24.out).mono ?_);rintro e w49 ⟨v372,rfl,ho0,hb⟩;have HO373 := Mk (Kd.R_lower ho0 (below_size (B_set HB.out)));replace BK363 := Mk (blk_below (g := gb363) (o := .cells #[.int .i64 a0_0,.int .i64 a0_1,.int .i64 a0_2,.slice (some ad368) l0_3.length c0_3] 28 (0,0)) (by (with_reducible repeat (first | refine blk_drewN ?_ _ | refine blk_drew ?_ | refine blk_alloc ?_ _));refine blk_far ?_ NB363_369.out _;(with_reducible repeat (first | refine blk_drewN ?_ _ | refine blk_drew ?_ | refine blk_alloc ?_ _));refine blk_far ?_ NB363_369.out _;(with_reducible repeat (first | refine blk_drewN ?_ _ | refine blk_drew ?_ | refine blk_alloc ?_ _));exact BK363.out) hb);replace BK369 := Mk (blk_below (g := gb369) (o := .cells #[.int .i64 ((rd_T56 l0_3 x37_2).f0),.int .i64 ((rd_T56 l0_3 x37_2).f1)] 56 (0,0)) (by (with_reducible repeat (first | refine blk_drewN ?_ _ | refine blk_drew ?_ | refine blk_alloc ?_ _));refine blk_put (cs := #[.int .i64 ((rd_T56 l0_3 x37_2).f0),.int .i64 0]) ?_ 1 _ rfl;(with_reducible repeat (first | refine blk_drewN ?_ _ | refine blk_drew ?_ | refine blk_alloc ?_ _));refine blk_put (cs := #[.int .i64 0,.int .i64 0]) ?_ 0 _ rfl;(with_reducible repeat (first | refine blk_drewN ?_ _ | refine blk_drew ?_ | refine blk_alloc ?_ _));exact BK369.out) hb);replace HB := Mk (below_step (B_set HB.out) hb);(try clear hb);(try clear hb2);(try clear hk);(try clear hi);(try clear ho0);obtain ⟨hcz50_0,hcz50_1,hcz50_2,hcz50_3⟩ := cz4 BK363.out;obtain ⟨hfz50_0,hfz50_1,hfz50_2,hfz50_3⟩ := fz4 BK363.out) | (go_at_call 49;(with_reducible refine (impl_SpanOf.calls a0_1 a0_2 x37_2 t374 t375 _ A25.out).mono ?_);rintro e w51 ⟨rfl,hb⟩;replace HO373 := Mk (Kd.R_below (Kd.R_up HO373.out) hb);replace BK363 := Mk (blk_below (blk_up BK363.out) hb);replace BK369 := Mk (blk_below (blk_up BK369.out) hb);replace HB := Mk (below_step (B_set HB.out) hb);(try clear hb);(try clear hb2);(try clear hk);(try clear hi);obtain ⟨Ao52,co52,eo52⟩ := Kd.R_slice HO373.out;subst eo52)))
            go_ret
            exact ⟨err_,B_set HB.out⟩
          ·replace c26 := Bool.eq_false_iff.mpr c26
           subst c26
           have H1 : (some false) = some r := by rw [if_neg (show ¬ (false = true) by decide)] at H;exact H
           clear H
           have H := H1
           clear H1
           obtain rfl := Option.some.inj H
           have p368 : 0 ≤ (x37_2 : Int) := ofd
           have q368 : x37_2 < (l0_3.length : Int) := ofd
           obtain ⟨ad368,e368,hx368_0,hx368_1⟩ := at_T56 HR0_3.out x37_2 p368 q368
           cases e368
           replace hx368_0 := (HB.out.cell (World.block_lt_of_cell? w _ hx368_0)).trans hx368_0
           replace hx368_1 := (HB.out.cell (World.block_lt_of_cell? w _ hx368_1)).trans hx368_1
           replace p368 := eq_true p368
           replace q368 := eq_true q368
           go_wp2_with (first | ((with_reducible refine gate_dst (N := 4) rfl ?_);(try (refine gate_guard (by rfl) ?_;dsimp only));refine box_event ?hg (N := 4) ?hd (cs := #[.int .i64 0,.int .i64 0]) (t := 56) ?hr ?_;(case hd => rfl);(case hg => rfl);(case hr => first | (go_simp;done) | (go_simp;rfl));intro gb369 hg w53 hbox hb;have BK369 := Mk (hbox);have GW369 := Mk ((by rw [hg];exact (below_size (B_set HB.out)) : w.heap.size ≤ gb369));have GE369 := Mk ((by rw [hg];exact (below_size (B_set HB.out)) : w.heap.size ≤ gb369));replace HB := Mk (below_step (B_set HB.out) hb);have NB363_369 := Mk ((by rw [hg];exact Nat.ne_of_lt (blk_lt (blk_up BK363.out)) : gb363 ≠ gb369));have NB369_363 := Mk ((by rw [hg];exact Nat.ne_of_gt (blk_lt (blk_up BK363.out)) : gb369 ≠ gb363));replace BK363 := Mk (blk_below (blk_up BK363.out) hb);clear hb hbox hg;have hnb54 := NB369_363.out;have hnc54 := NB363_369.out;obtain ⟨hcz55_0,hcz55_1⟩ := cz2 BK369.out;obtain ⟨hfz55_0,hfz55_1⟩ := fz2 BK369.out) | (go_at_call 27;(with_reducible refine (impl_BytesOf.calls k2 ((rd_T56 l0_3 x37_2).f1) t370 false _ A24.out).mono ?_);rintro e w56 ⟨v372,rfl,ho0,hb⟩;have HO373 := Mk (Kd.R_lower ho0 (below_size (B_set HB.out)));replace BK363 := Mk (blk_below (g := gb363) (o := .cells #[.int .i64 a0_0,.int .i64 a0_1,.int .i64 a0_2,.slice (some ad368) l0_3.length c0_3] 28 (0,0)) (by (with_reducible repeat (first | refine blk_drewN ?_ _ | refine blk_drew ?_ | refine blk_alloc ?_ _));refine blk_far ?_ NB363_369.out _;(with_reducible repeat (first | refine blk_drewN ?_ _ | refine blk_drew ?_ | refine blk_alloc ?_ _));refine blk_far ?_ NB363_369.out _;(with_reducible repeat (first | refine blk_drewN ?_ _ | refine blk_drew ?_ | refine blk_alloc ?_ _));exact BK363.out) hb);replace BK369 := Mk (blk_below (g := gb369) (o := .cells #[.int .i64 ((rd_T56 l0_3 x37_2).f0),.int .i64 ((rd_T56 l0_3 x37_2).f1)] 56 (0,0)) (by (with_reducible repeat (first | refine blk_drewN ?_ _ | refine blk_drew ?_ | refine blk_alloc ?_ _));refine blk_put (cs := #[.int .i64 ((rd_T56 l0_3 x37_2).f0),.int .i64 0]) ?_ 1 _ rfl;(with_reducible repeat (first | refine blk_drewN ?_ _ | refine blk_drew ?_ | refine blk_alloc ?_ _));refine blk_put (cs := #[.int .i64 0,.int .i64 0]) ?_ 0 _ rfl;(with_reducible repeat (first | refine blk_drewN ?_ _ | refine blk_drew ?_ | refine blk_alloc ?_ _));exact BK369.out) hb);replace HB := Mk (below_step (B_set HB.out) hb);(try clear hb);(try clear hb2);(try clear hk);(try clear hi);(try clear ho0);obtain ⟨hcz57_0,hcz57_1,hcz57_2,hcz57_3⟩ := cz4 BK363.out;obtain ⟨hfz57_0,hfz57_1,hfz57_2,hfz57_3⟩ := fz4 BK363.out) | (go_at_call 49;(with_reducible refine (impl_SpanOf.calls a0_1 a0_2 x37_2 t374 t375 _ A25.out).mono ?_);rintro e w58 ⟨rfl,hb⟩;replace HO373 := Mk (Kd.R_below (Kd.R_up HO373.out) hb);replace BK363 := Mk (blk_below (blk_up BK363.out) hb);replace BK369 := Mk (blk_below (blk_up BK369.out) hb);replace HB := Mk (below_step (B_set HB.out) hb);(try clear hb);(try clear hb2);(try clear hk);(try clear hi)))
           repeat (go_quiet (first | ((with_reducible refine gate_dst (N := 4) rfl ?_);(try (refine gate_guard (by rfl) ?_;dsimp only));refine box_event ?hg (N := 4) ?hd (cs := #[.int .i64 0,.int .i64 0]) (t := 56) ?hr ?_;(case hd => rfl);(case hg => rfl);(case hr => first | (go_simp;done) | (go_simp;rfl));intro gb369 hg w53 hbox hb;have BK369 := Mk (hbox);have GW369 := Mk ((by rw [hg];exact (below_size (B_set HB.out)) : w.heap.size ≤ gb369));have GE369 := Mk ((by rw [hg];exact (below_size (B_set HB.out)) : w.heap.size ≤ gb369));replace HB := Mk (below_step (B_set HB.out) hb);have NB363_369 := Mk ((by rw [hg];exact Nat.ne_of_lt (blk_lt (blk_up BK363.out)) : gb363 ≠ gb369));have NB369_363 := Mk ((by rw [hg];exact Nat.ne_of_gt (blk_lt (blk_up BK363.out)) : gb369 ≠ gb363));replace BK363 := Mk (blk_below (blk_up BK363.out) hb);clear hb hbox hg;have hnb54 := NB369_363.out;have hnc54 := NB363_369.out;obtain ⟨hcz55_0,hcz55_1⟩ := cz2 BK369.out;obtain ⟨hfz55_0,hfz55_1⟩ := fz2 BK369.out) | (go_at_call 27;(with_reducible refine (impl_BytesOf.calls k2 ((rd_T56 l0_3 x37_2).f1) t370 false _ A24.out).mono ?_);rintro e w56 ⟨v372,rfl,ho0,hb⟩;have HO373 := Mk (Kd.R_lower ho0 (below_size (B_set HB.out)));replace BK363 := Mk (blk_below (g := gb363) (o := .cells #[.int .i64 a0_0,.int .i64 a0_1,.int .i64 a0_2,.slice (some ad368) l0_3.length c0_3] 28 (0,0)) (by (with_reducible repeat (first | refine blk_drewN ?_ _ | refine blk_drew ?_ | refine blk_alloc ?_ _));refine blk_far ?_ NB363_369.out _;(with_reducible repeat (first | refine blk_drewN ?_ _ | refine blk_drew ?_ | refine blk_alloc ?_ _));refine blk_far ?_ NB363_369.out _;(with_reducible repeat (first | refine blk_drewN ?_ _ | refine blk_drew ?_ | refine blk_alloc ?_ _));exact BK363.out) hb);replace BK369 := Mk (blk_below (g := gb369) (o := .cells #[.int .i64 ((rd_T56 l0_3 x37_2).f0),.int .i64 ((rd_T56 l0_3 x37_2).f1)] 56 (0,0)) (by (with_reducible repeat (first | refine blk_drewN ?_ _ | refine blk_drew ?_ | refine blk_alloc ?_ _));refine blk_put (cs := #[.int .i64 ((rd_T56 l0_3 x37_2).f0),.int .i64 0]) ?_ 1 _ rfl;(with_reducible repeat (first | refine blk_drewN ?_ _ | refine blk_drew ?_ | refine blk_alloc ?_ _));refine blk_put (cs := #[.int .i64 0,.int .i64 0]) ?_ 0 _ rfl;(with_reducible repeat (first | refine blk_drewN ?_ _ | refine blk_drew ?_ | refine blk_alloc ?_ _));exact BK369.out) hb);replace HB := Mk (below_step (B_set HB.out) hb);(try clear hb);(try clear hb2);(try clear hk);(try clear hi);(try clear ho0);obtain ⟨hcz57_0,hcz57_1,hcz57_2,hcz57_3⟩ := cz4 BK363.out;obtain ⟨hfz57_0,hfz57_1,hfz57_2,hfz57_3⟩ := fz4 BK363.out) | (go_at_call 49;(with_reducible refine (impl_SpanOf.calls a0_1 a0_2 x37_2 t374 t375 _ A25.out).mono ?_);rintro e w58 ⟨rfl,hb⟩;replace HO373 := Mk (Kd.R_below (Kd.R_up HO373.out) hb);replace BK363 := Mk (blk_below (blk_up BK363.out) hb);replace BK369 := Mk (blk_below (blk_up BK369.out) hb);replace HB := Mk (below_step (B_set HB.out) hb);(try clear hb);(try clear hb2);(try clear hk);(try clear hi)));try go_wp2_with (first | ((with_reducible refine gate_dst (N := 4) rfl ?_);(try (refine gate_guard (by rfl) ?_;dsimp only));refine box_event ?hg (N := 4) ?hd (cs := #[.int .i64 0,.int .i64 0]) (t := 56) ?hr ?_;(case hd => rfl);(case hg => rfl);(case hr => first | (go_simp;done) | (go_simp;rfl));intro gb369 hg w53 hbox hb;have BK369 := Mk (hbox);have GW369 := Mk ((by rw [hg];exact (below_size (B_set HB.out)) : w.heap.size ≤ gb369));have GE369 := Mk ((by rw [hg];exact (below_size (B_set HB.out)) : w.heap.size ≤ gb369));replace HB := Mk (below_step (B_set HB.out) hb);have NB363_369 := Mk ((by rw [hg];exact Nat.ne_of_lt (blk_lt (blk_up BK363.out)) : gb363 ≠ gb369));have NB369_363 := Mk ((by rw [hg];exact Nat.ne_of_gt (blk_lt (blk_up BK363.out)) : gb369 ≠ gb363));replace BK363 := Mk (blk_below (blk_up BK363.out) hb);clear hb hbox hg;have hnb54 := NB369_363.out;have hnc54 := NB363_369.out;obtain ⟨hcz55_0,hcz55_1⟩ := cz2 BK369.out;obtain ⟨hfz55_0,hfz55_1⟩ := fz2 BK369.out) | (go_at_call 27;(with_reducible refine (impl_BytesOf.calls k2 ((rd_T56 l0_3 x37_2).f1) t370 false _ A24.out).mono ?_);rintro e w56 ⟨v372,rfl,ho0,hb⟩;have HO373 := Mk (Kd.R_lower ho0 (below_size (B_set HB.out)));replace BK363 := Mk (blk_below (g := gb363) (o := .cells #[.int .i64 a0_0,.int .i64 a0_1,.int .i64 a0_2,.slice (some ad368) l0_3.length c0_3] 28 (0,0)) (by (with_reducible repeat (first | refine blk_drewN ?_ _ | refine blk_drew ?_ | refine blk_alloc ?_ _));refine blk_far ?_ NB363_369.out _;(with_reducible repeat (first | refine blk_drewN ?_ _ | refine blk_drew ?_ | refine blk_alloc ?_ _));refine blk_far ?_ NB363_369.out _;(with_reducible repeat (first | refine blk_drewN ?_ _ | refine blk_drew ?_ | refine blk_alloc ?_ _));exact BK363.out) hb);replace BK369 := Mk (blk_below (g := gb369) (o := .cells #[.int .i64 ((rd_T56 l0_3 x37_2).f0),.int .i64 ((rd_T56 l0_3 x37_2).f1)] 56 (0,0)) (by (with_reducible repeat (first | refine blk_drewN ?_ _ | refine blk_drew ?_ | refine blk_alloc ?_ _));refine blk_put (cs := #[.int .i64 ((rd_T56 l0_3 x37_2).f0),.int .i64 0]) ?_ 1 _ rfl;(with_reducible repeat (first | refine blk_drewN ?_ _ | refine blk_drew ?_ | refine blk_alloc ?_ _));refine blk_put (cs := #[.int .i64 0,.int .i64 0]) ?_ 0 _ rfl;(with_reducible repeat (first | refine blk_drewN ?_ _ | refine blk_drew ?_ | refine blk_alloc ?_ _));exact BK369.out) hb);replace HB := Mk (below_step (B_set HB.out) hb);(try clear hb);(try clear hb2);(try clear hk);(try clear hi);(try clear ho0);obtain ⟨hcz57_0,hcz57_1,hcz57_2,hcz57_3⟩ := cz4 BK363.out;obtain ⟨hfz57_0,hfz57_1,hfz57_2,hfz57_3⟩ := fz4 BK363.out) | (go_at_call 49;(with_reducible refine (impl_SpanOf.calls a0_1 a0_2 x37_2 t374 t375 _ A25.out).mono ?_);rintro e w58 ⟨rfl,hb⟩;replace HO373 := Mk (Kd.R_below (Kd.R_up HO373.out) hb);replace BK363 := Mk (blk_below (blk_up BK363.out) hb);replace BK369 := Mk (blk_below (blk_up BK369.out) hb);replace HB := Mk (below_step (B_set HB.out) hb);(try clear hb);(try clear hb2);(try clear hk);(try clear hi))))
           go_ret
           exact ⟨err_,B_set HB.out⟩
         ·rw [if_neg c23] at H
          exact absurd H (by simp)
        ·rw [if_neg c22] at H
         exact absurd H (by simp)
       ·rw [if_neg c21] at H
        have c21b0 : decide (x37_2 < (l0_3.length : Int)) = false := decide_eq_false c21
        clear c21
        obtain rfl := Option.some.inj H
        go_wp2
        repeat (go_quiet (fail);try go_wp2)
        go_ret
        exact ⟨err_,B_set HB.out⟩

/-! ### impl_readVar: function 26 -/
def impl_readVar.l0 : Nat → List Int → Int → Int → Int → Int → Option (Int × Int × Bool)
 | 0,_,_,_,_,_ => none
 | k + 1,x0,x1,x9,x12,x13 => if x13 < x12 then ((impl_within.f x1 0 (wrap64 ((wrap64 ((x0.length : Int) - 1)) - x13))).bind fun t377 => (if t377 = true then (if 0 ≤ (wrap64 (x1 + x13)) then (if (wrap64 (x1 + x13)) < (x0.length : Int) then (if 0 ≤ (wrap64 (7 * x13)) then (if (wrap64 (rd x0 (wrap64 (x1 + x13)))) < 128 then (if x13 = 0 then (some (Go.bits .or .i64 x9 (shl .i64 (Go.bits .and .i64 (wrap64 (rd x0 (wrap64 (x1 + x13)))) 127) (wrap64 (7 * x13))),wrap64 ((wrap64 (x1 + x13)) + 1),true)) else (some (Go.bits .or .i64 x9 (shl .i64 (Go.bits .and .i64 (wrap64 (rd x0 (wrap64 (x1 + x13)))) 127) (wrap64 (7 * x13))),wrap64 ((wrap64 (x1 + x13)) + 1),decide ((wrap64 (rd x0 (wrap64 (x1 + x13)))) > 0)))) else (impl_readVar.l0 k x0 x1 (Go.bits .or .i64 x9 (shl .i64 (Go.bits .and .i64 (wrap64 (rd x0 (wrap64 (x1 + x13)))) 127) (wrap64 (7 * x13)))) x12 (wrap64 (x13 + 1)))) else (none)) else (none)) else (none)) else (some (0,0,false)))) else (some (0,0,false))
def impl_readVar.f (k : Nat) (l0 : List Int) (a1 : Int) (a2 : Int) : Option (Int × Int × Bool) := impl_readVar.l0 k l0 a1 0 a2 0
theorem impl_readVar.mono_l : ∀ k,(∀ y0 y1 y2 y3 y4,LeO (impl_readVar.l0 k y0 y1 y2 y3 y4) (impl_readVar.l0 (k + 1) y0 y1 y2 y3 y4))
 | 0 => fun _ _ _ _ _ r h => by simp [impl_readVar.l0] at h
 | k + 1 => by
  have ih0 := impl_readVar.mono_l k
  ·intro y0 y1 y2 y3 y4
   unfold impl_readVar.l0
   repeat' first
   | (with_reducible exact ih0 _ _ _ _ _)
   | (with_reducible exact LeO.refl _)
   | (with_reducible exact LeO.none _)
   | (with_reducible refine LeO.ite ?_ ?_)
   | (with_reducible refine LeO.bind ?_ (fun _ => ?_))
   | exact ih0 _ _ _ _ _
   | exact LeO.none _
   | refine LeO.ite ?_ ?_
   | refine LeO.bind ?_ (fun _ => ?_)
theorem impl_readVar.mono : ∀ a0 a1 a2 k,LeO (impl_readVar.f k a0 a1 a2) (impl_readVar.f (k + 1) a0 a1 a2) := by
 intro a0 a1 a2 k
 have ih0 := impl_readVar.mono_l k
 unfold impl_readVar.f
 repeat' first
   | (with_reducible exact ih0 _ _ _ _ _)
   | (with_reducible exact LeO.refl _)
   | (with_reducible exact LeO.none _)
   | (with_reducible refine LeO.ite ?_ ?_)
   | (with_reducible refine LeO.bind ?_ (fun _ => ?_))
   | exact ih0 _ _ _ _ _
   | exact LeO.none _
   | refine LeO.ite ?_ ?_
   | refine LeO.bind ?_ (fun _ => ?_)
set_option maxHeartbeats 8000000 in
set_option maxRecDepth 100000 in
theorem impl_readVar.calls (k : Nat) (A0 : Option Addr) (c0 : Nat) (l0 : List Int) (a1 : Int) (a2 : Int) (r1 : Int) (r2 : Int) (r3 : Bool) (w : World) (hr0 : Kd.C (Kd.int .u8) w A0 l0.length l0) (hc0 : l0.length ≤ c0) (h : impl_readVar.f k l0 a1 a2 = some (r1,r2,r3)) :
  Calls Try.prog 26 #[.slice A0 l0.length c0,.int .i64 a1,.int .i64 a2] w fun e w' => e = .returned (.tuple #[.int .i64 r1,.int .i64 r2,.bool r3]) ∧ Drawn0 w w' := by
 have HR0 := Mk hr0
 have HC0 := Mk hc0
 clear hr0 hc0
 have H : (impl_readVar.l0 k l0 a1 0 a2 0) = some (r1,r2,r3) := h
 clear h
 have H' := Mk H
 clear H
 go_enter Try.func26,Try.ntmps26
 go_wp2
 go_loopg [9,13] k (fun kq v9 v13 w' => ∃ (x9_1 : Int) (x13_1 : Int),v9 = .int .i64 x9_1 ∧ v13 = .int .i64 x13_1 ∧ Aside0 (impl_readVar.l0 kq l0 a1 x9_1 a2 x13_1 = some (r1,r2,r3)) ∧ Aside0 (kq ≤ k) ∧ Drawn0 w w')
 case atStart => exact ⟨(0),(0),eqs_,eqs_,H',⟨Nat.le_refl _⟩,by repeat (first | exact Drawn0.refl _ | apply Drawn0.step)⟩
 case round =>
  clear H'
  try clear c2
  try clear p2
  obtain ⟨x9_1,x13_1,rfl,rfl,HA,HK1,⟨m1,rfl⟩⟩ := hrel
  cases gk with
  | zero => exact absurd HA.out (by simp [impl_readVar.l0])
  | succ k1 =>
   have H := HA.out
   clear HA
   simp only [impl_readVar.l0] at H
   by_cases c4 : x13_1 < a2
   ·rw [if_pos c4] at H
    have c4b0 : decide (x13_1 < a2) = true := decide_eq_true c4
    clear c4
    replace H := bsm H
    obtain ⟨t377,A5,H⟩ := H
    (try dsimp only at H)
    by_cases c6 : t377 = true
    ·subst c6
     rw [if_pos rfl] at H
     obtain ⟨ji7,hji7⟩ : ∃ j_ : Int,(wrap64 (a1 + x13_1)) = j_ := ⟨_,rfl⟩
     replace H : (if 0 ≤ (ji7) then (if (ji7) < (l0.length : Int) then (if 0 ≤ (wrap64 (7 * x13_1)) then (if (wrap64 (rd l0 (ji7))) < 128 then (if x13_1 = 0 then (some (Go.bits .or .i64 x9_1 (shl .i64 (Go.bits .and .i64 (wrap64 (rd l0 (ji7))) 127) (wrap64 (7 * x13_1))),wrap64 ((ji7) + 1),true)) else (some (Go.bits .or .i64 x9_1 (shl .i64 (Go.bits .and .i64 (wrap64 (rd l0 (ji7))) 127) (wrap64 (7 * x13_1))),wrap64 ((ji7) + 1),decide ((wrap64 (rd l0 (ji7))) > 0)))) else (impl_readVar.l0 k1 l0 a1 (Go.bits .or .i64 x9_1 (shl .i64 (Go.bits .and .i64 (wrap64 (rd l0 (ji7))) 127) (wrap64 (7 * x13_1)))) a2 (wrap64 (x13_1 + 1)))) else (none)) else (none)) else (none)) = some (r1,r2,r3) := by first | (rw [hji7] at H;exact H) | (simp only [hji7] at H ⊢;exact H)
     (try rw [hji7] at A5)
     have hji7w : (IntKind.i64.wrap (a1 + x13_1)) = ji7 := (i64_w _).trans hji7
     by_cases c8 : 0 ≤ (ji7)
     ·rw [if_pos c8] at H
      have c8b0 : decide (0 ≤ (ji7)) = true := decide_eq_true c8
      clear c8
      by_cases c9 : (ji7) < (l0.length : Int)
      ·rw [if_pos c9] at H
       have c9b0 : decide ((ji7) < (l0.length : Int)) = true := decide_eq_true c9
       clear c9
       obtain ⟨ji10,hji10⟩ : ∃ j_ : Int,(wrap64 (7 * x13_1)) = j_ := ⟨_,rfl⟩
       replace H : (if 0 ≤ (ji10) then (if (wrap64 (rd l0 (ji7))) < 128 then (if x13_1 = 0 then (some (Go.bits .or .i64 x9_1 (shl .i64 (Go.bits .and .i64 (wrap64 (rd l0 (ji7))) 127) (ji10)),wrap64 ((ji7) + 1),true)) else (some (Go.bits .or .i64 x9_1 (shl .i64 (Go.bits .and .i64 (wrap64 (rd l0 (ji7))) 127) (ji10)),wrap64 ((ji7) + 1),decide ((wrap64 (rd l0 (ji7))) > 0)))) else (impl_readVar.l0 k1 l0 a1 (Go.bits .or .i64 x9_1 (shl .i64 (Go.bits .and .i64 (wrap64 (rd l0 (ji7))) 127) (ji10))) a2 (wrap64 (x13_1 + 1)))) else (none)) = some (r1,r2,r3) := by first | (rw [hji10] at H;exact H) | (simp only [hji10] at H ⊢;exact H)
       (try rw [hji10] at A5)
       have hji10w : (IntKind.i64.wrap (7 * x13_1)) = ji10 := (i64_w _).trans hji10
       by_cases c11 : 0 ≤ (ji10)
       ·rw [if_pos c11] at H
        have c11b0 := eq_true c11
        have c11b1 : decide (0 ≤ (ji10)) = true := decide_eq_true c11
        clear c11
        obtain ⟨ji12,hji12⟩ : ∃ j_ : Int,(shl .i64 (Go.bits .and .i64 (wrap64 (rd l0 (ji7))) 127) (ji10)) = j_ := ⟨_,rfl⟩
        replace H : (if (wrap64 (rd l0 (ji7))) < 128 then (if x13_1 = 0 then (some (Go.bits .or .i64 x9_1 (ji12),wrap64 ((ji7) + 1),true)) else (some (Go.bits .or .i64 x9_1 (ji12),wrap64 ((ji7) + 1),decide ((wrap64 (rd l0 (ji7))) > 0)))) else (impl_readVar.l0 k1 l0 a1 (Go.bits .or .i64 x9_1 (ji12)) a2 (wrap64 (x13_1 + 1)))) = some (r1,r2,r3) := by first | (rw [hji12] at H;exact H) | (simp only [hji12] at H ⊢;exact H)
        (try rw [hji12] at A5)
        have hji12_ : (IntKind.i64.wrap ((Go.bits .and .i64 (wrap64 (rd l0 (ji7))) 127) * 2 ^ min (ji10).toNat 64)) = ji12 := hji12
        have hji12z : (ji10) ≤ 64 → (IntKind.i64.wrap ((Go.bits .and .i64 (wrap64 (rd l0 (ji7))) 127) * 2 ^ (ji10).toNat)) = ji12 := shl_small hji12
        have hji12y : (wrap64 ((Go.bits .and .i64 (wrap64 (rd l0 (ji7))) 127) * 2 ^ min (ji10).toNat 64)) = ji12 := (i64_w _).symm.trans hji12_
        have hji12x : (ji10) ≤ 64 → (wrap64 ((Go.bits .and .i64 (wrap64 (rd l0 (ji7))) 127) * 2 ^ (ji10).toNat)) = ji12 := fun h_ => (i64_w _).symm.trans (hji12z h_)
        by_cases c13 : (wrap64 (rd l0 (ji7))) < 128
        ·rw [if_pos c13] at H
         have c13b0 : decide ((wrap64 (rd l0 (ji7))) < 128) = true := decide_eq_true c13
         clear c13
         by_cases c14 : x13_1 = 0
         ·rw [if_pos c14] at H
          have c14b0 : (x13_1 == 0) = true := beq_iff_eq.mpr c14
          have c14b1 : (x13_1 != 0) = false := bne_eq_false_iff_eq.mpr c14
          clear c14
          simp only [Option.some.injEq,Prod.mk.injEq] at H
          obtain ⟨rfl,rfl,rfl⟩ := H
          go_wp2_with (first | ((with_reducible refine gate_callee (f := 47) rfl ?_);refine goesL_ (some 22) rfl rfl Try.func47 (by kernel_rfl) rfl #[.int .i64 a1,.int .i64 0,.int .i64 (wrap64 ((wrap64 ((l0.length : Int) - 1)) - x13_1))] rfl eq_up ?_;(with_reducible refine (impl_within.calls a1 0 (wrap64 ((wrap64 ((l0.length : Int) - 1)) - x13_1)) true _ A5.out).mono ?_);rintro e w' ⟨rfl,⟨nd,rfl⟩⟩;refine ⟨_,rfl,?_⟩;have p378 : 0 ≤ ((ji7) : Int) := ofd;have q378 : (ji7) < (l0.length : Int) := ofd;obtain ⟨ad378,e378,hx378_0⟩ := Kd.at_int HR0.out (ji7) p378 q378;cases e378;replace p378 := eq_true p378;replace q378 := eq_true q378))
          go_ret3
          exact ⟨by first | rfl | (simp;done) | (simp only [← hji7,← hji10,← hji12] <;> (first | rfl | simp)) | (simp [*];done),by repeat (first | exact Drawn0.refl _ | apply Drawn0.step)⟩
         ·rw [if_neg c14] at H
          have c14b0 : (x13_1 == 0) = false := beq_eq_false_iff_ne.mpr c14
          have c14b1 : (x13_1 != 0) = true := bne_iff_ne.mpr c14
          simp only [Option.some.injEq,Prod.mk.injEq] at H
          obtain ⟨rfl,rfl,rfl⟩ := H
          go_wp2_with (first | ((with_reducible refine gate_callee (f := 47) rfl ?_);refine goesL_ (some 22) rfl rfl Try.func47 (by kernel_rfl) rfl #[.int .i64 a1,.int .i64 0,.int .i64 (wrap64 ((wrap64 ((l0.length : Int) - 1)) - x13_1))] rfl eq_up ?_;(with_reducible refine (impl_within.calls a1 0 (wrap64 ((wrap64 ((l0.length : Int) - 1)) - x13_1)) true _ A5.out).mono ?_);rintro e w' ⟨rfl,⟨nd,rfl⟩⟩;refine ⟨_,rfl,?_⟩;have p378 : 0 ≤ ((ji7) : Int) := ofd;have q378 : (ji7) < (l0.length : Int) := ofd;obtain ⟨ad378,e378,hx378_0⟩ := Kd.at_int HR0.out (ji7) p378 q378;cases e378;replace p378 := eq_true p378;replace q378 := eq_true q378))
          go_ret3
          exact ⟨by first | rfl | (simp;done) | (simp only [← hji7,← hji10,← hji12] <;> (first | rfl | simp)) | (simp [*];done),by repeat (first | exact Drawn0.refl _ | apply Drawn0.step)⟩
        ·rw [if_neg c13] at H
         have c13b0 : decide ((wrap64 (rd l0 (ji7))) < 128) = false := decide_eq_false c13
         clear c13
         have H' := Mk H
         clear H
         go_wp2_with (first | ((with_reducible refine gate_callee (f := 47) rfl ?_);refine goesL_ (some 22) rfl rfl Try.func47 (by kernel_rfl) rfl #[.int .i64 a1,.int .i64 0,.int .i64 (wrap64 ((wrap64 ((l0.length : Int) - 1)) - x13_1))] rfl eq_up ?_;(with_reducible refine (impl_within.calls a1 0 (wrap64 ((wrap64 ((l0.length : Int) - 1)) - x13_1)) true _ A5.out).mono ?_);rintro e w' ⟨rfl,⟨nd,rfl⟩⟩;refine ⟨_,rfl,?_⟩;have p378 : 0 ≤ ((ji7) : Int) := ofd;have q378 : (ji7) < (l0.length : Int) := ofd;obtain ⟨ad378,e378,hx378_0⟩ := Kd.at_int HR0.out (ji7) p378 q378;cases e378;replace p378 := eq_true p378;replace q378 := eq_true q378))
         go_roundg k1
         case measure => have := HK1.out;omega
         case rel => exact ⟨(Go.bits .or .i64 x9_1 (ji12)),(wrap64 (x13_1 + 1)),(by first | rfl | (simp;done) | (simp only [← hji12] <;> (first | rfl | simp)) | (simp [*];done)),eqs_,H',⟨by have := HK1.out;omega⟩,by repeat (first | exact Drawn0.refl _ | apply Drawn0.step)⟩
       ·rw [if_neg c11] at H
        exact absurd H (by simp)
      ·rw [if_neg c9] at H
       exact absurd H (by simp)
     ·rw [if_neg c8] at H
      exact absurd H (by simp)
    ·replace c6 := Bool.eq_false_iff.mpr c6
     subst c6
     have H1 : (some (0,0,false)) = some (r1,r2,r3) := by rw [if_neg (show ¬ (false = true) by decide)] at H;exact H
     clear H
     have H := H1
     clear H1
     simp only [Option.some.injEq,Prod.mk.injEq] at H
     obtain ⟨rfl,rfl,rfl⟩ := H
     go_wp2_with (first | ((with_reducible refine gate_callee (f := 47) rfl ?_);refine goesL_ (some 22) rfl rfl Try.func47 (by kernel_rfl) rfl #[.int .i64 a1,.int .i64 0,.int .i64 (wrap64 ((wrap64 ((l0.length : Int) - 1)) - x13_1))] rfl eq_up ?_;(with_reducible refine (impl_within.calls a1 0 (wrap64 ((wrap64 ((l0.length : Int) - 1)) - x13_1)) false _ A5.out).mono ?_);rintro e w' ⟨rfl,⟨nd,rfl⟩⟩;refine ⟨_,rfl,?_⟩))
     go_ret3
     exact ⟨by first | rfl | (simp;done) | (simp [*];done),by repeat (first | exact Drawn0.refl _ | apply Drawn0.step)⟩
   ·rw [if_neg c4] at H
    have c4b0 : decide (x13_1 < a2) = false := decide_eq_false c4
    clear c4
    simp only [Option.some.injEq,Prod.mk.injEq] at H
    obtain ⟨rfl,rfl,rfl⟩ := H
    go_wp2
    go_ret3
    exact ⟨by first | rfl | (simp;done) | (simp [*];done),by repeat (first | exact Drawn0.refl _ | apply Drawn0.step)⟩

/-! ### impl_GetVar: function 58 -/
def impl_GetVar.f (k : Nat) (l0 : List Int) (a1 : Int) : Option (Int × Int × Bool) := (impl_readVar.f k l0 a1 6).bind fun bt379 => (if bt379.2.2 = true then (if bt379.1 > 1000000000000 then (some (0,0,false)) else (some (bt379.1,bt379.2.1,true))) else (some (0,0,false)))
theorem impl_GetVar.mono : ∀ a0 a1 k,LeO (impl_GetVar.f k a0 a1) (impl_GetVar.f (k + 1) a0 a1) := by
 intro a0 a1 k
 unfold impl_GetVar.f
 repeat' first
   | (with_reducible exact impl_readVar.mono _ _ _ _)
   | (with_reducible exact LeO.refl _)
   | (with_reducible exact LeO.none _)
   | (with_reducible refine LeO.ite ?_ ?_)
   | (with_reducible refine LeO.bind ?_ (fun _ => ?_))
   | exact impl_readVar.mono _ _ _ _
   | exact LeO.none _
   | refine LeO.ite ?_ ?_
   | refine LeO.bind ?_ (fun _ => ?_)
set_option maxHeartbeats 8000000 in
set_option maxRecDepth 100000 in
theorem impl_GetVar.calls (k : Nat) (A0 : Option Addr) (c0 : Nat) (l0 : List Int) (a1 : Int) (r1 : Int) (r2 : Int) (r3 : Bool) (w : World) (hr0 : Kd.C (Kd.int .u8) w A0 l0.length l0) (hc0 : l0.length ≤ c0) (h : impl_GetVar.f k l0 a1 = some (r1,r2,r3)) :
  Calls Try.prog 58 #[.slice A0 l0.length c0,.int .i64 a1] w fun e w' => e = .returned (.tuple #[.int .i64 r1,.int .i64 r2,.bool r3]) ∧ Drawn0 w w' := by
 have HR0 := Mk hr0
 have HC0 := Mk hc0
 clear hr0 hc0
 have H : ((impl_readVar.f k l0 a1 6).bind fun bt379 => (if bt379.2.2 = true then (if bt379.1 > 1000000000000 then (some (0,0,false)) else (some (bt379.1,bt379.2.1,true))) else (some (0,0,false)))) = some (r1,r2,r3) := h
 clear h
 replace H := bsm H
 obtain ⟨⟨t379,t380,t381⟩,A3,H⟩ := H
 (try dsimp only at H)
 by_cases c4 : t381 = true
 ·subst c4
  rw [if_pos rfl] at H
  by_cases c5 : t379 > 1000000000000
  ·rw [if_pos c5] at H
   have c5b0 : decide (1000000000000 < t379) = true := decide_eq_true c5
   clear c5
   simp only [Option.some.injEq,Prod.mk.injEq] at H
   obtain ⟨rfl,rfl,rfl⟩ := H
   go_enter Try.func58,Try.ntmps58
   go_wp2_with (first | ((with_reducible refine gate_callee (f := 26) rfl ?_);refine goesL_ (some 13) rfl rfl Try.func26 (by kernel_rfl) rfl #[.slice A0 l0.length c0,.int .i64 a1,.int .i64 6] rfl eq_up ?_;(with_reducible refine (impl_readVar.calls k _ _ l0 a1 6 t379 t380 true _ ?side1 ?side2 A3.out).mono ?_);(case side1 => exact Kd.C_up HR0.out);(case side2 => exact HC0.out);rintro e w' ⟨rfl,⟨nd,rfl⟩⟩;refine ⟨_,rfl,?_⟩))
   go_ret3
   exact ⟨by first | rfl | (simp;done) | (simp [*];done),by repeat (first | exact Drawn0.refl _ | apply Drawn0.step)⟩
  ·rw [if_neg c5] at H
   have c5b0 : decide (1000000000000 < t379) = false := decide_eq_false c5
   clear c5
   simp only [Option.some.injEq,Prod.mk.injEq] at H
   obtain ⟨rfl,rfl,rfl⟩ := H
   go_enter Try.func58,Try.ntmps58
   go_wp2_with (first | ((with_reducible refine gate_callee (f := 26) rfl ?_);refine goesL_ (some 13) rfl rfl Try.func26 (by kernel_rfl) rfl #[.slice A0 l0.length c0,.int .i64 a1,.int .i64 6] rfl eq_up ?_;(with_reducible refine (impl_readVar.calls k _ _ l0 a1 6 t379 t380 true _ ?side1 ?side2 A3.out).mono ?_);(case side1 => exact Kd.C_up HR0.out);(case side2 => exact HC0.out);rintro e w' ⟨rfl,⟨nd,rfl⟩⟩;refine ⟨_,rfl,?_⟩))
   go_ret3
   exact ⟨by first | rfl | (simp;done) | (simp [*];done),by repeat (first | exact Drawn0.refl _ | apply Drawn0.step)⟩
 ·replace c4 := Bool.eq_false_iff.mpr c4
  subst c4
  have H1 : (some (0,0,false)) = some (r1,r2,r3) := by rw [if_neg (show ¬ (false = true) by decide)] at H;exact H
  clear H
  have H := H1
  clear H1
  simp only [Option.some.injEq,Prod.mk.injEq] at H
  obtain ⟨rfl,rfl,rfl⟩ := H
  go_enter Try.func58,Try.ntmps58
  go_wp2_with (first | ((with_reducible refine gate_callee (f := 26) rfl ?_);refine goesL_ (some 13) rfl rfl Try.func26 (by kernel_rfl) rfl #[.slice A0 l0.length c0,.int .i64 a1,.int .i64 6] rfl eq_up ?_;(with_reducible refine (impl_readVar.calls k _ _ l0 a1 6 t379 t380 false _ ?side1 ?side2 A3.out).mono ?_);(case side1 => exact Kd.C_up HR0.out);(case side2 => exact HC0.out);rintro e w' ⟨rfl,⟨nd,rfl⟩⟩;refine ⟨_,rfl,?_⟩))
  go_ret3
  exact ⟨by first | rfl | (simp;done) | (simp [*];done),by repeat (first | exact Drawn0.refl _ | apply Drawn0.step)⟩

/-! ### impl_readVars: function 24 -/
def impl_readVars.l0 : Nat → List Int → Int → List Int → Int → Int → Option (List Int × Int × Bool)
 | 0,_,_,_,_,_ => none
 | k + 1,x0,x1,x9,x14,x15 => if x15 < x14 then ((impl_GetVar.f k x0 x1).bind fun bt385 => (if bt385.2.2 = true then (if x9.length < 17592186044416 then (impl_readVars.l0 k x0 bt385.2.1 (x9 ++ [bt385.1]) x14 (wrap64 (x15 + 1))) else (none)) else (some (([] : List Int),0,false)))) else (some (x9,x1,true))
def impl_readVars.f (k : Nat) (l0 : List Int) (a1 : Int) (a2 : Int) : Option (List Int × Int × Bool) := impl_readVars.l0 k l0 a1 (([] : List Int)) a2 0
theorem impl_readVars.mono_l : ∀ k,(∀ y0 y1 y2 y3 y4,LeO (impl_readVars.l0 k y0 y1 y2 y3 y4) (impl_readVars.l0 (k + 1) y0 y1 y2 y3 y4))
 | 0 => fun _ _ _ _ _ r h => by simp [impl_readVars.l0] at h
 | k + 1 => by
  have ih0 := impl_readVars.mono_l k
  ·intro y0 y1 y2 y3 y4
   unfold impl_readVars.l0
   repeat' first
   | (with_reducible exact ih0 _ _ _ _ _)
   | (with_reducible exact impl_GetVar.mono _ _ _)
   | (with_reducible exact LeO.refl _)
   | (with_reducible exact LeO.none _)
   | (with_reducible refine LeO.ite ?_ ?_)
   | (with_reducible refine LeO.bind ?_ (fun _ => ?_))
   | exact ih0 _ _ _ _ _
   | exact impl_GetVar.mono _ _ _
   | exact LeO.none _
   | refine LeO.ite ?_ ?_
   | refine LeO.bind ?_ (fun _ => ?_)
theorem impl_readVars.mono : ∀ a0 a1 a2 k,LeO (impl_readVars.f k a0 a1 a2) (impl_readVars.f (k + 1) a0 a1 a2) := by
 intro a0 a1 a2 k
 have ih0 := impl_readVars.mono_l k
 unfold impl_readVars.f
 repeat' first
   | (with_reducible exact ih0 _ _ _ _ _)
   | (with_reducible exact impl_GetVar.mono _ _ _)
   | (with_reducible exact LeO.refl _)
   | (with_reducible exact LeO.none _)
   | (with_reducible refine LeO.ite ?_ ?_)
   | (with_reducible refine LeO.bind ?_ (fun _ => ?_))
   | exact ih0 _ _ _ _ _
   | exact impl_GetVar.mono _ _ _
   | exact LeO.none _
   | refine LeO.ite ?_ ?_
   | refine LeO.bind ?_ (fun _ => ?_)
set_option maxHeartbeats 8000000 in
set_option maxRecDepth 100000 in
theorem impl_readVars.calls (k : Nat) (A0 : Option Addr) (c0 : Nat) (l0 : List Int) (a1 : Int) (a2 : Int) (r1 : List Int) (r2 : Int) (r3 : Bool) (w : World) (hr0 : Kd.C (Kd.int .u8) w A0 l0.length l0) (hc0 : l0.length ≤ c0) (h : impl_readVars.f k l0 a1 a2 = some (r1,r2,r3)) :
  Calls Try.prog 24 #[.slice A0 l0.length c0,.int .i64 a1,.int .i64 a2] w fun e w' => ∃ v0_ : Value,e = .returned (.tuple #[v0_,.int .i64 r2,.bool r3]) ∧ Kd.R (Kd.int .i64) 3 w' w.heap.size (fun _ => True) v0_ r1 ∧ Below w.heap.size w w' := by
 have HR0 := Mk hr0
 have HC0 := Mk hc0
 clear hr0 hc0
 have HB := Mk (Below.refl w.heap.size w)
 have H : (impl_readVars.l0 k l0 a1 (([] : List Int)) a2 0) = some (r1,r2,r3) := h
 clear h
 obtain ⟨y382,hy382⟩ : ∃ y_ : List Int,y_ = (([] : List Int)) := ⟨_,rfl⟩
 replace H : (impl_readVars.l0 k l0 a1 y382 a2 0) = some (r1,r2,r3) := by first | (rw [hy382];with_reducible exact H) | (have H2_ := (Option.bind_some _ _).symm.trans H;rw [hy382];with_reducible exact H2_) | (have H2_ := (Option.bind_some _ _).symm.trans H;with_reducible exact H2_) | with_reducible exact H | (rw [hy382];exact H) | exact H
 have Ny382 := Mk hy382
 clear hy382
 have H' := Mk H
 clear H
 go_enter Try.func24,Try.ntmps24
 go_wp2_with (first | ((with_reducible refine gate_dst (N := 13) rfl ?_);refine Kd.R_lit (Kd.int .i64) _ 3 ?hg (N := 13) ?hd (xs := ([] : List Int)) (inner := []) (ok := fun _ => True) (okp := fun _ => True) ?hr ?hp (fun _ hk => hk) trivial (Below.refl _ _) (Nat.le_refl _) (by simp) ?_;(case hd => rfl);(case hg => rfl);(case hr => first | (go_simp;done) | (go_simp;rfl));(case hp => exact (Reps.none _ _));intro v383 w4 ho5 hb hg_ hnew_;clear hg_ hnew_;(first | rw [← Ny382.out] at ho5 | (simp only [Int.reduceToNat] at ho5;rw [← Ny382.out] at ho5));have HO384 := Mk (Kd.R_lower ho5 (below_size (B_up HB.out)));replace HB := Mk (below_step (B_up HB.out) hb);clear hb ho5))
 go_loopg [1,9,15] k (fun kq v1 v9 v15 w' => ∃ (x1_1 : Int) (x9_1 : List Int) (x15_1 : Int),v1 = .int .i64 x1_1 ∧ v15 = .int .i64 x15_1 ∧ Aside0 (impl_readVars.l0 kq l0 x1_1 x9_1 a2 x15_1 = some (r1,r2,r3)) ∧ Aside0 (kq ≤ k) ∧ Aside0 (Kd.R (Kd.int .i64) 3 w' w.heap.size (fun _ => True) v9 x9_1) ∧ Aside0 (Below w.heap.size w w'))
 case atStart => exact ⟨(a1),(y382),(0),eqs_,eqs_,H',⟨Nat.le_refl _⟩,⟨Kd.R_up HO384.out⟩,⟨B_set HB.out⟩⟩
 case round =>
  clear H'
  try clear c2
  try clear p2
  obtain ⟨x1_1,x9_1,x15_1,rfl,rfl,HA,HK1,HO_9,HB⟩ := hrel
  cases gk with
  | zero => exact absurd HA.out (by simp [impl_readVars.l0])
  | succ k1 =>
   have H := HA.out
   clear HA
   simp only [impl_readVars.l0] at H
   by_cases c6 : x15_1 < a2
   ·rw [if_pos c6] at H
    have c6b0 : decide (x15_1 < a2) = true := decide_eq_true c6
    clear c6
    replace H := bsm H
    obtain ⟨⟨t385,t386,t387⟩,A7,H⟩ := H
    (try dsimp only at H)
    by_cases c8 : t387 = true
    ·subst c8
     rw [if_pos rfl] at H
     by_cases c9 : x9_1.length < 17592186044416
     ·rw [if_pos c9] at H
      have LMc9 := Mk c9
      clear c9
      obtain ⟨y388,hy388⟩ : ∃ y_ : List Int,y_ = (x9_1 ++ [t385]) := ⟨_,rfl⟩
      replace H : (impl_readVars.l0 k1 l0 t386 y388 a2 (wrap64 (x15_1 + 1))) = some (r1,r2,r3) := by first | (rw [hy388];with_reducible exact H) | (have H2_ := (Option.bind_some _ _).symm.trans H;rw [hy388];with_reducible exact H2_) | (have H2_ := (Option.bind_some _ _).symm.trans H;with_reducible exact H2_) | with_reducible exact H | (rw [hy388];exact H) | exact H
      have Ny388 := Mk hy388
      clear hy388
      have H' := Mk H
      clear H
      go_wp2_with (first | ((with_reducible refine gate_callee (f := 58) rfl ?_);refine goesL_ (some 20) rfl rfl Try.func58 (by kernel_rfl) rfl #[.slice A0 l0.length c0,.int .i64 x1_1] rfl eq_up ?_;(with_reducible refine (impl_GetVar.calls k1 _ _ l0 x1_1 t385 t386 true _ ?side1 ?side2 A7.out).mono ?_);(case side1 => repeat (first | exact (Kd.C_below HR0.out HB.out) | (with_reducible refine Kd.C_alloc ?_ _) | (with_reducible refine Kd.C_drewN ?_ _) | (with_reducible refine Kd.C_drew ?_)));(case side2 => exact HC0.out);rintro e w' ⟨rfl,⟨nd,rfl⟩⟩;refine ⟨_,rfl,?_⟩) | ((with_reducible refine gate_builtin (b := .append) (xs := #[.tmp 26,.tmp 28]) rfl ?_);at_builtin;refine Kd.R_append (Kd.int .i64) (w0 := w) w.heap.size rfl (.tmp 26) (.tmp 28) 47 3 (.int .i64 0) 8 rfl Try.underlying47 info3 rfl (by decide) (by omega) u9 x9_1 t385 [.int .i64 t385] (fun _ => True) (fun _ => False) rfl rfl ?aP (fun _ hk => hk.elim) ?aF ?aO ?aB ?aS ?aL ?_;(case aP => exact rfl);(case aB => exact (B_up HB.out));(case aF => exact (fun _ _ => trivial));(case aO => exact (Kd.R_up HO_9.out));(case aS => exact (below_size (B_up HB.out)));(case aL => have := LMc9.out;omega);intro v389 w10 ho hb hg hat;rw [← Ny388.out] at ho;replace HB := Mk (hb);have HO390 := Mk (ho);clear HO_9;clear ho hb hg hat))
      go_roundg k1
      case measure => have := HK1.out;omega
      case rel => exact ⟨(t386),(y388),(wrap64 (x15_1 + 1)),eqs_,eqs_,H',⟨by have := HK1.out;omega⟩,⟨Kd.R_up HO390.out⟩,⟨B_set HB.out⟩⟩
     ·rw [if_neg c9] at H
      exact absurd H (by simp)
    ·replace c8 := Bool.eq_false_iff.mpr c8
     subst c8
     have H1 : (some (([] : List Int),0,false)) = some (r1,r2,r3) := by rw [if_neg (show ¬ (false = true) by decide)] at H;exact H
     clear H
     have H := H1
     clear H1
     simp only [Option.some.injEq,Prod.mk.injEq] at H
     obtain ⟨rfl,rfl,rfl⟩ := H
     go_wp2_with (first | ((with_reducible refine gate_callee (f := 58) rfl ?_);refine goesL_ (some 20) rfl rfl Try.func58 (by kernel_rfl) rfl #[.slice A0 l0.length c0,.int .i64 x1_1] rfl eq_up ?_;(with_reducible refine (impl_GetVar.calls k1 _ _ l0 x1_1 t385 t386 false _ ?side1 ?side2 A7.out).mono ?_);(case side1 => repeat (first | exact (Kd.C_below HR0.out HB.out) | (with_reducible refine Kd.C_alloc ?_ _) | (with_reducible refine Kd.C_drewN ?_ _) | (with_reducible refine Kd.C_drew ?_)));(case side2 => exact HC0.out);rintro e w' ⟨rfl,⟨nd,rfl⟩⟩;refine ⟨_,rfl,?_⟩))
     go_ret3
     exact ⟨_,err_,by first | exact Kd.R_nil _ _ _ _ _ | exact Kd.N_nil _ _ _ _ _ | exact Kd.V_nil _ _ _ _ _ | exact Kd.Q_nil _ _ _ _ _ | exact Kd.S_nil _ _ _ _ _,B_set HB.out⟩
   ·rw [if_neg c6] at H
    have c6b0 : decide (x15_1 < a2) = false := decide_eq_false c6
    clear c6
    simp only [Option.some.injEq,Prod.mk.injEq] at H
    obtain ⟨rfl,rfl,rfl⟩ := H
    go_wp2
    go_ret3
    exact ⟨_,err_,Kd.R_up HO_9.out,B_set HB.out⟩

end Go.Proofs.Ytdodnhjglpidlaa.PFnMansBent
