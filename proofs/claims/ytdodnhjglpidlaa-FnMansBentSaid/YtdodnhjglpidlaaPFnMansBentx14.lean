-- by a program of this session (a turned copy of the print: make with a capacity)
import Derived.Test.YtdodnhjglpidlaaVMade2
import Derived.Test.YtdodnhjglpidlaaPFnMansBentx0
import Derived.Test.YtdodnhjglpidlaaPFnMansBentx1
import Derived.Test.YtdodnhjglpidlaaPFnMansBentx2
import Derived.Test.YtdodnhjglpidlaaPFnMansBentx6
import Derived.Test.YtdodnhjglpidlaaPFnMansBentx8
import Derived.Test.YtdodnhjglpidlaaPFnMansBentx13
namespace Go.Proofs.Ytdodnhjglpidlaa.PFnMansBent
open Go.RowKit Go.Proofs.YtdodnhjglpidlaaW.PrintWords Go.Proofs.YtdodnhjglpidlaaW.PrintLast Go.Proofs.YtdodnhjglpidlaaW.PrintMore
attribute [local go_sem] max2_int min2_int max_two min_two max_three min_three max_four min_four   -- for this text's walks alone
set_option linter.unusedVariables false
set_option linter.unusedSimpArgs false

attribute [local go_sem high] eqA56
/-! ### impl_PutMan: function 13 -/
def impl_PutMan.l0 : Nat → List Int → List (S56) → Int → Int → Option (List Int)
 | 0,_,_,_,_ => none
 | k + 1,x5,x24,x25,x26 => if x26 < x25 then (if 0 ≤ x26 then (if x26 < (x24.length : Int) then ((impl_appendVar.f k x5 ((rd_T56 x24 x26).f1)).bind fun t609 => (impl_PutMan.l0 k t609 x24 x25 (wrap64 (x26 + 1)))) else (none)) else (none)) else (some x5)
def impl_PutMan.f (k : Nat) (l0 : List Int) (a1_0 : Int) (a1_1 : Int) (a1_2 : Int) (l1_3 : List (S56)) : Option (List Int) := (impl_ManOk.f k a1_0 a1_1 a1_2 l1_3).bind fun t594 => (if t594 = true then ((impl_PutVar.f k l0 a1_0).bind fun t598 => ((impl_PutVar.f k t598 a1_1).bind fun t601 => ((impl_PutVar.f k t601 a1_2).bind fun t604 => (impl_PutMan.l0 k t604 l1_3 (l1_3.length : Int) 0)))) else ((impl_cloned.f l0).bind fun t595 => (some t595)))
theorem impl_PutMan.mono_l : ∀ k,(∀ y0 y1 y2 y3,LeO (impl_PutMan.l0 k y0 y1 y2 y3) (impl_PutMan.l0 (k + 1) y0 y1 y2 y3))
 | 0 => fun _ _ _ _ r h => by simp [impl_PutMan.l0] at h
 | k + 1 => by
  have ih0 := impl_PutMan.mono_l k
  ·intro y0 y1 y2 y3
   unfold impl_PutMan.l0
   repeat' first
   | (with_reducible exact ih0 _ _ _ _)
   | (with_reducible exact impl_ManOk.mono _ _ _ _ _)
   | (with_reducible exact impl_PutVar.mono _ _ _)
   | (with_reducible exact impl_appendVar.mono _ _ _)
   | (with_reducible exact LeO.refl _)
   | (with_reducible exact LeO.none _)
   | (with_reducible refine LeO.ite ?_ ?_)
   | (with_reducible refine LeO.bind ?_ (fun _ => ?_))
   | exact ih0 _ _ _ _
   | exact impl_ManOk.mono _ _ _ _ _
   | exact impl_PutVar.mono _ _ _
   | exact impl_appendVar.mono _ _ _
   | exact LeO.none _
   | refine LeO.ite ?_ ?_
   | refine LeO.bind ?_ (fun _ => ?_)
theorem impl_PutMan.mono : ∀ a0 a1 a2 a3 a4 k,LeO (impl_PutMan.f k a0 a1 a2 a3 a4) (impl_PutMan.f (k + 1) a0 a1 a2 a3 a4) := by
 intro a0 a1 a2 a3 a4 k
 have ih0 := impl_PutMan.mono_l k
 unfold impl_PutMan.f
 repeat' first
   | (with_reducible exact ih0 _ _ _ _)
   | (with_reducible exact impl_ManOk.mono _ _ _ _ _)
   | (with_reducible exact impl_PutVar.mono _ _ _)
   | (with_reducible exact impl_appendVar.mono _ _ _)
   | (with_reducible exact LeO.refl _)
   | (with_reducible exact LeO.none _)
   | (with_reducible refine LeO.ite ?_ ?_)
   | (with_reducible refine LeO.bind ?_ (fun _ => ?_))
   | exact ih0 _ _ _ _
   | exact impl_ManOk.mono _ _ _ _ _
   | exact impl_PutVar.mono _ _ _
   | exact impl_appendVar.mono _ _ _
   | exact LeO.none _
   | refine LeO.ite ?_ ?_
   | refine LeO.bind ?_ (fun _ => ?_)
def impl_PutMan.T3 : Bool × List (List Nat × List Nat) := (true,[([],[]),([],[]),([1],[1]),([0,2],[0,2]),([],[]),([4],[4]),([3,5,3],[3,5]),([],[]),([7],[7]),([6,8,6],[6,8]),([9,9,0,1,2,3,4,5,6,7,8,9],[9])])
def impl_PutMan.B3 : List Nat := [0,0,2,7,0,16,63,0,128,511,1023]
theorem impl_PutMan.tab3 : rtab .any (opsOf Try.f13 3) = impl_PutMan.T3 := by kernel_rfl
theorem impl_PutMan.bits3 : waitsOk impl_PutMan.T3.2 impl_PutMan.B3 = true := by kernel_rfl
set_option maxHeartbeats 8000000 in
set_option maxRecDepth 100000 in
theorem impl_PutMan.calls (k : Nat) (A0 : Option Addr) (c0 : Nat) (l0 : List Int) (a1_0 : Int) (a1_1 : Int) (a1_2 : Int) (A1_3 : Option Addr) (c1_3 : Nat) (l1_3 : List (S56)) (r : List Int) (w : World) (hr0 : Kd.C (Kd.int .u8) w A0 l0.length l0) (hc0 : l0.length ≤ c0) (hr1_3 : Kd.C k56 w A1_3 l1_3.length l1_3) (hc1_3 : l1_3.length ≤ c1_3) (h : impl_PutMan.f k l0 a1_0 a1_1 a1_2 l1_3 = some r) :
  Calls Try.prog 13 #[.slice A0 l0.length c0,.agg #[.int .i64 a1_0,.int .i64 a1_1,.int .i64 a1_2,.slice A1_3 l1_3.length c1_3]] w fun e w' => ∃ v0_ : Value,e = .returned (v0_) ∧ Kd.R (Kd.int .u8) 5 w' w.heap.size (fun _ => True) v0_ r ∧ Below w.heap.size w w' := by
 have hu28 := Try.underlying28
 have hu56 := Try.underlying56
 have hf56_0 : ∀ (a_ b_ : Int) (W_ : World),(Instr.field 56 (.agg #[.int .i64 a_,.int .i64 b_]) 0).run Try.prog W_ = .ok (.int .i64 a_) W_ := fun _ _ _ => by kernel_rfl
 have hf56_1 : ∀ (a_ b_ : Int) (W_ : World),(Instr.field 56 (.agg #[.int .i64 a_,.int .i64 b_]) 1).run Try.prog W_ = .ok (.int .i64 b_) W_ := fun _ _ _ => by kernel_rfl
 have HR0 := Mk hr0
 have HC0 := Mk hc0
 clear hr0 hc0
 have HR1_3 := Mk hr1_3
 have HC1_3 := Mk hc1_3
 clear hr1_3 hc1_3
 have HB := Mk (Below.refl w.heap.size w)
 have H : ((impl_ManOk.f k a1_0 a1_1 a1_2 l1_3).bind fun t594 => (if t594 = true then ((impl_PutVar.f k l0 a1_0).bind fun t598 => ((impl_PutVar.f k t598 a1_1).bind fun t601 => ((impl_PutVar.f k t601 a1_2).bind fun t604 => (impl_PutMan.l0 k t604 l1_3 (l1_3.length : Int) 0)))) else ((impl_cloned.f l0).bind fun t595 => (some t595)))) = some r := h
 clear h
 replace H := bsm H
 obtain ⟨t594,A3,H⟩ := H
 (try dsimp only at H)
 by_cases c4 : t594 = true
 ·subst c4
  rw [if_pos rfl] at H
  replace H := bsm H
  obtain ⟨t598,A5,H⟩ := H
  (try dsimp only at H)
  replace H := bsm H
  obtain ⟨t601,A6,H⟩ := H
  (try dsimp only at H)
  replace H := Option.bind_eq_some_iff.mp H
  obtain ⟨t604,A70,H⟩ := H
  replace H : (impl_PutMan.l0 k t604 l1_3 (l1_3.length : Int) 0) = some r := H
  have A7 := Mk A70
  clear A70
  have H' := Mk H
  clear H
  go_enter Try.func13,Try.ntmps13
  try go_wp2_with (first | ((with_reducible refine gate_dst (N := 3) rfl ?_);refine box_event ?hg (N := 3) ?hd (cs := #[.int .i64 a1_0,.int .i64 a1_1,.int .i64 a1_2,.slice A1_3 l1_3.length c1_3]) (t := 28) ?hr ?_;(case hd => rfl);(case hg => rfl);(case hr => first | (go_simp;done) | (go_simp;rfl));intro gb593 hg w8 hbox hb;have BK593 := Mk (hbox);have GW593 := Mk ((by rw [hg];exact (below_size (B_up HB.out)) : w.heap.size ≤ gb593));have GE593 := Mk ((by rw [hg];exact (below_size (B_up HB.out)) : w.heap.size ≤ gb593));replace HB := Mk (below_step (B_up HB.out) hb);clear hb hbox hg;obtain ⟨hcz9_0,hcz9_1,hcz9_2,hcz9_3⟩ := cz4 BK593.out;obtain ⟨hfz9_0,hfz9_1,hfz9_2,hfz9_3⟩ := fz4 BK593.out) | ((with_reducible refine gate_callee (f := 16) rfl ?_);refine goesL_ (some 9) rfl rfl Try.func16 (by kernel_rfl) rfl #[.agg #[.int .i64 a1_0,.int .i64 a1_1,.int .i64 a1_2,.slice A1_3 l1_3.length c1_3]] rfl eq_up ?_;(with_reducible refine (impl_ManOk.calls k a1_0 a1_1 a1_2 _ _ l1_3 true _ ?side1 ?side2 A3.out).mono ?_);(case side1 => repeat (first | exact (Kd.C_below HR1_3.out HB.out) | (with_reducible refine Kd.C_alloc ?_ _) | (with_reducible refine Kd.C_drewN ?_ _) | (with_reducible refine Kd.C_drew ?_)));(case side2 => exact HC1_3.out);rintro e w10 ⟨rfl,hb⟩;refine ⟨_,rfl,?_⟩;replace BK593 := Mk (blk_below (blk_up BK593.out) hb);replace HB := Mk (below_step (B_set HB.out) hb);(try clear hb);(try clear hb2);(try clear hk);(try clear hi)))
  replace BK593 := Mk (blk_drew BK593.out)
  replace HB := Mk (below_drew1 HB.out)
  refine start_ (n := 11) (S := fun w' => w'.cell? ⟨gb593,0,none⟩ = some (.int .i64 a1_0) ∧ w'.cell? ⟨gb593,1,none⟩ = some (.int .i64 a1_1) ∧ w'.cell? ⟨gb593,2,none⟩ = some (.int .i64 a1_2) ∧ w'.cell? ⟨gb593,3,none⟩ = some (.slice A1_3 l1_3.length c1_3)) (ds := []) #[false,false,false,false,false,false,false,false,false,false,false] (by kernel_rfl) rfl rfl ⟨(blk_cell BK593.out 0).trans rfl,(blk_cell BK593.out 1).trans rfl,(blk_cell BK593.out 2).trans rfl,(blk_cell BK593.out 3).trans rfl⟩ (fun hHeld => ?_);refine with_tabW impl_PutMan.tab3 impl_PutMan.bits3 (fun HT_ HW_ => ?_)
  generalize w10.drew = w11 at BK593 HB hHeld ⊢
  refine pure_ (i := 0) (N := some 13) (v := ?_) (a' := ?_) #[true,false,false,false,false,false,false,false,false,false,false] rfl rfl (any_of HT_.out (by kernel_rfl)) (fun _ _ _ h => h) (Or.inl ⟨by rfl,?_⟩) ?_ ?_
  rotate_left
  ·intro w'
   go_simp
   with_reducible rfl
  rotate_left
  ·simp only [Act.put,List.setIfInBounds_toArray,List.set_cons_zero,List.set_cons_succ,i64_w,i32_w]
   rfl
  refine pure_ (i := 1) (N := some 14) (v := ?_) (a' := ?_) #[true,true,false,false,false,false,false,false,false,false,false] rfl rfl (any_of HT_.out (by kernel_rfl)) (fun _ _ _ h => h) (Or.inl ⟨by rfl,?_⟩) ?_ ?_
  rotate_left
  ·intro w'
   go_simp
   with_reducible rfl
  rotate_left
  ·simp only [Act.put,List.setIfInBounds_toArray,List.set_cons_zero,List.set_cons_succ,i64_w,i32_w]
   rfl
  refine pure_ (i := 4) (N := some 17) (v := ?_) (a' := ?_) #[true,true,false,false,true,false,false,false,false,false,false] rfl rfl (any_of HT_.out (by kernel_rfl)) (fun _ _ _ h => h) (Or.inl ⟨by rfl,?_⟩) ?_ ?_
  rotate_left
  ·intro w'
   go_simp
   with_reducible rfl
  rotate_left
  ·simp only [Act.put,List.setIfInBounds_toArray,List.set_cons_zero,List.set_cons_succ,i64_w,i32_w]
   rfl
  refine pure_ (i := 7) (N := some 20) (v := ?_) (a' := ?_) #[true,true,false,false,true,false,false,true,false,false,false] rfl rfl (any_of HT_.out (by kernel_rfl)) (fun _ _ _ h => h) (Or.inl ⟨by rfl,?_⟩) ?_ ?_
  rotate_left
  ·intro w'
   go_simp
   with_reducible rfl
  rotate_left
  ·simp only [Act.put,List.setIfInBounds_toArray,List.set_cons_zero,List.set_cons_succ,i64_w,i32_w]
   rfl
  refine take_ (i := 2) (N := some 15) (v := ?_) (a' := ?_) #[true,true,true,false,true,false,false,true,false,false,false] rfl rfl (take_ofW HT_.out HW_.out (by kernel_rfl)) (fun _ _ _ h => h) (Or.inl ⟨by rfl,?_⟩) hHeld ?_ ?_
  rotate_left
  ·rintro w' ⟨s0,s1,s2,s3⟩
   go_simp
   with_reducible rfl
  rotate_left
  ·simp only [Act.put,List.setIfInBounds_toArray,List.set_cons_zero,List.set_cons_succ,i64_w,i32_w]
   rfl
  refine take_ (i := 5) (N := some 18) (v := ?_) (a' := ?_) #[true,true,true,false,true,true,false,true,false,false,false] rfl rfl (take_ofW HT_.out HW_.out (by kernel_rfl)) (fun _ _ _ h => h) (Or.inl ⟨by rfl,?_⟩) hHeld ?_ ?_
  rotate_left
  ·rintro w' ⟨s0,s1,s2,s3⟩
   go_simp
   with_reducible rfl
  rotate_left
  ·simp only [Act.put,List.setIfInBounds_toArray,List.set_cons_zero,List.set_cons_succ,i64_w,i32_w]
   rfl
  refine take_ (i := 8) (N := some 21) (v := ?_) (a' := ?_) #[true,true,true,false,true,true,false,true,true,false,false] rfl rfl (take_ofW HT_.out HW_.out (by kernel_rfl)) (fun _ _ _ h => h) (Or.inl ⟨by rfl,?_⟩) hHeld ?_ ?_
  rotate_left
  ·rintro w' ⟨s0,s1,s2,s3⟩
   go_simp
   with_reducible rfl
  rotate_left
  ·simp only [Act.put,List.setIfInBounds_toArray,List.set_cons_zero,List.set_cons_succ,i64_w,i32_w]
   rfl
  refine one_ (i := 3) (N := some 16) #[true,true,true,true,true,true,false,true,true,false,false] rfl rfl (one_of HT_.out (by kernel_rfl)) (by decide) (fun K hK => ?_)
  refine goes_ Try.func41 (by kernel_rfl) rfl #[.slice A0 l0.length c0,.int .i64 a1_0] (by rfl) rfl rfl eq_up ?_
  with_reducible refine (impl_PutVar.calls k _ _ l0 a1_0 t598 _ ?side1 ?side2 A5.out).mono ?_
  (case side1 => repeat (first | exact (Kd.C_below HR0.out HB.out) | (with_reducible refine Kd.C_alloc ?_ _) | (with_reducible refine Kd.C_drewN ?_ _) | (with_reducible refine Kd.C_drew ?_)))
  (case side2 => exact HC0.out)
  rintro e w12 ⟨v599,rfl,ho0,hb⟩
  refine ⟨_,rfl,?_⟩
  have HO600 := Mk (Kd.R_lower ho0 (below_size (B_set HB.out)))
  replace BK593 := Mk (blk_below (blk_up BK593.out) hb)
  replace HB := Mk (below_step (B_set HB.out) hb)
  (try clear hb)
  (try clear hb2)
  (try clear hk)
  (try clear hi)
  (try clear ho0)
  obtain ⟨Ao13,co13,eo13⟩ := Kd.R_slice HO600.out
  (first | subst eo13 | (injection eo13 with f1_ f2_ f3_;have f4_ := f1_.symm;have f5_ := f3_.symm;clear f1_ f2_ f3_;subst f4_;subst f5_))
  refine hK.out _ _ ⟨(blk_cell BK593.out 0).trans rfl,(blk_cell BK593.out 1).trans rfl,(blk_cell BK593.out 2).trans rfl,(blk_cell BK593.out 3).trans rfl⟩ (fun hHeld => ?_)
  clear hK K
  refine norm_ (a' := ?_) ?_ ?_
  rotate_left
  ·show Act.put _ (some 16) _ = _
   simp only [Act.put,List.setIfInBounds_toArray,List.set_cons_zero,List.set_cons_succ,i64_w,i32_w]
   rfl
  refine one_ (i := 6) (N := some 19) #[true,true,true,true,true,true,true,true,true,false,false] rfl rfl (one_of HT_.out (by kernel_rfl)) (by decide) (fun K hK => ?_)
  refine goes_ Try.func41 (by kernel_rfl) rfl #[.slice Ao13 t598.length co13,.int .i64 a1_1] (by rfl) rfl rfl eq_up ?_
  with_reducible refine (impl_PutVar.calls k _ _ t598 a1_1 t601 _ ?side1 ?side2 A6.out).mono ?_
  (case side1 => exact Kd.C_up (Kd.R_reads' HO600.out).2.2)
  (case side2 => exact (Kd.R_reads' HO600.out).2.1)
  rintro e w14 ⟨v602,rfl,ho0,hb⟩
  refine ⟨_,rfl,?_⟩
  have HO603 := Mk (Kd.R_lower (Kd.R_new' ho0 (Kd.R_lt (Kd.R_up HO600.out))) (below_size (B_set HB.out)))
  replace HO600 := Mk (Kd.R_elder' (Kd.R_up HO600.out) (Kd.R_base ho0) hb)
  replace BK593 := Mk (blk_below (blk_up BK593.out) hb)
  replace HB := Mk (below_step (B_set HB.out) hb)
  (try clear hb)
  (try clear hb2)
  (try clear hk)
  (try clear hi)
  (try clear ho0)
  obtain ⟨Ao15,co15,eo15⟩ := Kd.R_slice HO603.out
  (first | subst eo15 | (injection eo15 with f1_ f2_ f3_;have f4_ := f1_.symm;have f5_ := f3_.symm;clear f1_ f2_ f3_;subst f4_;subst f5_))
  refine hK.out _ _ ⟨(blk_cell BK593.out 0).trans rfl,(blk_cell BK593.out 1).trans rfl,(blk_cell BK593.out 2).trans rfl,(blk_cell BK593.out 3).trans rfl⟩ (fun hHeld => ?_)
  clear hK K
  refine norm_ (a' := ?_) ?_ ?_
  rotate_left
  ·show Act.put _ (some 19) _ = _
   simp only [Act.put,List.setIfInBounds_toArray,List.set_cons_zero,List.set_cons_succ,i64_w,i32_w]
   rfl
  refine one_ (i := 9) (N := some 22) #[true,true,true,true,true,true,true,true,true,true,false] rfl rfl (one_of HT_.out (by kernel_rfl)) (by decide) (fun K hK => ?_)
  refine goes_ Try.func41 (by kernel_rfl) rfl #[.slice Ao15 t601.length co15,.int .i64 a1_2] (by rfl) rfl rfl eq_up ?_
  with_reducible refine (impl_PutVar.calls k _ _ t601 a1_2 t604 _ ?side1 ?side2 A7.out).mono ?_
  (case side1 => exact Kd.C_up (Kd.R_reads' HO603.out).2.2)
  (case side2 => exact (Kd.R_reads' HO603.out).2.1)
  rintro e w16 ⟨v605,rfl,ho0,hb⟩
  refine ⟨_,rfl,?_⟩
  have HO606 := Mk (Kd.R_lower (Kd.R_new' (Kd.R_new' ho0 (Kd.R_lt (Kd.R_up HO600.out))) (Kd.R_lt (Kd.R_up HO603.out))) (below_size (B_set HB.out)))
  replace HO600 := Mk (Kd.R_elder' (Kd.R_up HO600.out) (Kd.R_base ho0) hb)
  replace HO603 := Mk (Kd.R_elder' (Kd.R_up HO603.out) (Kd.R_base ho0) hb)
  replace BK593 := Mk (blk_below (blk_up BK593.out) hb)
  replace HB := Mk (below_step (B_set HB.out) hb)
  (try clear hb)
  (try clear hb2)
  (try clear hk)
  (try clear hi)
  (try clear ho0)
  refine hK.out _ _ ⟨(blk_cell BK593.out 0).trans rfl,(blk_cell BK593.out 1).trans rfl,(blk_cell BK593.out 2).trans rfl,(blk_cell BK593.out 3).trans rfl⟩ (fun hHeld => ?_)
  clear hK K
  refine norm_ (a' := ?_) ?_ ?_
  rotate_left
  ·show Act.put _ (some 22) _ = _
   simp only [Act.put,List.setIfInBounds_toArray,List.set_cons_zero,List.set_cons_succ,i64_w,i32_w]
   rfl
  refine pure_ (i := 10) (N := some 5) (v := ?_) (a' := ?_) #[true,true,true,true,true,true,true,true,true,true,true] rfl rfl (any_of HT_.out (by kernel_rfl)) (fun _ _ _ h => h) (Or.inl ⟨by rfl,?_⟩) ?_ ?_
  rotate_left
  ·intro w'
   go_simp
   with_reducible rfl
  rotate_left
  ·simp only [Act.put,List.setIfInBounds_toArray,List.set_cons_zero,List.set_cons_succ,i64_w,i32_w]
   rfl
  refine done_ (done_of HT_.out (by kernel_rfl)) ?_
  obtain ⟨hcz17_0,hcz17_1,hcz17_2,hcz17_3⟩ := cz4 BK593.out
  obtain ⟨hfz17_0,hfz17_1,hfz17_2,hfz17_3⟩ := fz4 BK593.out
  try go_wp2
  go_loopg [5,26] k (fun kq v5 v26 w' => ∃ (x5_1 : List Int) (x26_1 : Int),v26 = .int .i64 x26_1 ∧ Aside0 (impl_PutMan.l0 kq x5_1 l1_3 (l1_3.length : Int) x26_1 = some r) ∧ Aside0 (kq ≤ k) ∧ Aside0 (Kd.R (Kd.int .u8) 5 w' w.heap.size (fun _ => True) v5 x5_1) ∧ Aside0 (w'.heap[gb593]? = some (.cells #[.int .i64 a1_0,.int .i64 a1_1,.int .i64 a1_2,(.slice A1_3 l1_3.length c1_3)] 28 (0,0))) ∧ Aside0 (Below w.heap.size w w'))
  case atStart => exact ⟨(t604),(0),eqs_,H',⟨Nat.le_refl _⟩,⟨Kd.R_up (Kd.R_mono HO606.out (fun _ hk => trivial))⟩,⟨by (with_reducible repeat (first | refine blk_drewN ?_ _ | refine blk_drew ?_ | refine blk_alloc ?_ _));exact BK593.out⟩,⟨B_set HB.out⟩⟩
  case round =>
   clear H'
   try clear c1
   try clear p2
   try clear c4
   try clear c13
   try clear c16
   try clear hcz17_0
   try clear hcz17_1
   try clear hcz17_2
   try clear hcz17_3
   try clear hcz9_0
   try clear hcz9_1
   try clear hcz9_2
   try clear hcz9_3
   try clear hfz17_0
   try clear hfz17_1
   try clear hfz17_2
   try clear hfz17_3
   try clear hfz9_0
   try clear hfz9_1
   try clear hfz9_2
   try clear hfz9_3
   obtain ⟨x5_1,x26_1,rfl,HA,HK1,HO_5,BK593,HB⟩ := hrel
   cases gk with
   | zero => exact absurd HA.out (by simp [impl_PutMan.l0])
   | succ k1 =>
    have H := HA.out
    clear HA
    simp only [impl_PutMan.l0] at H
    by_cases c18 : x26_1 < (l1_3.length : Int)
    ·rw [if_pos c18] at H
     have c18b0 : decide (x26_1 < (l1_3.length : Int)) = true := decide_eq_true c18
     clear c18
     by_cases c19 : 0 ≤ x26_1
     ·rw [if_pos c19] at H
      have c19b0 : decide (0 ≤ x26_1) = true := decide_eq_true c19
      clear c19
      by_cases c20 : x26_1 < (l1_3.length : Int)
      ·rw [if_pos c20] at H
       have c20b0 : decide (x26_1 < (l1_3.length : Int)) = true := decide_eq_true c20
       clear c20
       replace H := Option.bind_eq_some_iff.mp H
       obtain ⟨t609,A210,H⟩ := H
       replace H : (impl_PutMan.l0 k1 t609 l1_3 (l1_3.length : Int) (wrap64 (x26_1 + 1))) = some r := H
       have A21 := Mk A210
       clear A210
       have H' := Mk H
       clear H
       have p607 : 0 ≤ (x26_1 : Int) := ofd
       have q607 : x26_1 < (l1_3.length : Int) := ofd
       obtain ⟨ad607,e607,hx607_0,hx607_1⟩ := at_T56 HR1_3.out x26_1 p607 q607
       cases e607
       replace hx607_0 := (HB.out.cell (World.block_lt_of_cell? w _ hx607_0)).trans hx607_0
       replace hx607_1 := (HB.out.cell (World.block_lt_of_cell? w _ hx607_1)).trans hx607_1
       replace p607 := eq_true p607
       replace q607 := eq_true q607
       go_wp2_with (first | ((with_reducible refine gate_dst (N := 7) rfl ?_);refine box_event ?hg (N := 7) ?hd (cs := #[.int .i64 0,.int .i64 0]) (t := 56) ?hr ?_;(case hd => rfl);(case hg => rfl);(case hr => first | (go_simp;done) | (go_simp;rfl));intro gb608 hg w22 hbox hb;replace HO_5 := Mk (Kd.R_below (Kd.R_up HO_5.out) hb);have BK608 := Mk (hbox);have GW608 := Mk ((by rw [hg];exact (below_size (B_set HB.out)) : w.heap.size ≤ gb608));have GE608 := Mk ((by rw [hg];exact (below_size (B_set HB.out)) : w.heap.size ≤ gb608));replace HB := Mk (below_step (B_set HB.out) hb);have NB593_608 := Mk ((by rw [hg];exact Nat.ne_of_lt (blk_lt (blk_up BK593.out)) : gb593 ≠ gb608));have NB608_593 := Mk ((by rw [hg];exact Nat.ne_of_gt (blk_lt (blk_up BK593.out)) : gb608 ≠ gb593));replace BK593 := Mk (blk_below (blk_up BK593.out) hb);clear hb hbox hg;have hnb23 := NB608_593.out;have hnc23 := NB593_608.out;obtain ⟨hcz24_0,hcz24_1⟩ := cz2 BK608.out;obtain ⟨hfz24_0,hfz24_1⟩ := fz2 BK608.out) | ((with_reducible refine gate_store (t := 56) (p := 7) rfl ?_);refine store_event (t := 56) (p := 7) (v := ?vo_w25) (w1 := ((w22.setCell ⟨gb608,0,none⟩ (.int .i64 ((rd_T56 l1_3 x26_1).f0))).setCell ⟨gb608,1,none⟩ (.int .i64 ((rd_T56 l1_3 x26_1).f1)))) ?hg ?ho ?hn ?hr ?_;(case ho => rfl);(case hg => rfl);(case hn => rfl);(case hr => first | (go_simp;done) | (go_simp;rfl));intro w25 hw;replace HO_5 : Aside0 (Kd.R (Kd.int .u8) 5 w25 w.heap.size (fun _ => True) u5 x5_1) := ⟨(by rw [hw];exact (Kd.R_up (Kd.R_mono (Kd.R_far (p := ⟨gb608,1,none⟩) (Kd.R_far (p := ⟨gb608,0,none⟩) (Kd.R_types HO_5.out BK608.out (by decide)) (fun _ hk => hk.2) (.int .i64 ((rd_T56 l1_3 x26_1).f0))) (fun _ hk => hk.2) (.int .i64 ((rd_T56 l1_3 x26_1).f1))) (fun _ hk => trivial))))⟩;replace BK593 : Aside0 (w25.heap[gb593]? = some (.cells #[.int .i64 a1_0,.int .i64 a1_1,.int .i64 a1_2,.slice (some ad607) l1_3.length c1_3] 28 (0,0))) := ⟨(by rw [hw];exact (by (with_reducible repeat (first | refine blk_drewN ?_ _ | refine blk_drew ?_ | refine blk_alloc ?_ _));refine blk_far ?_ NB593_608.out _;(with_reducible repeat (first | refine blk_drewN ?_ _ | refine blk_drew ?_ | refine blk_alloc ?_ _));refine blk_far ?_ NB593_608.out _;(with_reducible repeat (first | refine blk_drewN ?_ _ | refine blk_drew ?_ | refine blk_alloc ?_ _));exact BK593.out))⟩;replace BK608 : Aside0 (w25.heap[gb608]? = some (.cells #[.int .i64 ((rd_T56 l1_3 x26_1).f0),.int .i64 ((rd_T56 l1_3 x26_1).f1)] 56 (0,0))) := ⟨(by rw [hw];exact (by (with_reducible repeat (first | refine blk_drewN ?_ _ | refine blk_drew ?_ | refine blk_alloc ?_ _));refine blk_put (cs := #[.int .i64 ((rd_T56 l1_3 x26_1).f0),.int .i64 0]) ?_ 1 _ rfl;(with_reducible repeat (first | refine blk_drewN ?_ _ | refine blk_drew ?_ | refine blk_alloc ?_ _));refine blk_put (cs := #[.int .i64 0,.int .i64 0]) ?_ 0 _ rfl;(with_reducible repeat (first | refine blk_drewN ?_ _ | refine blk_drew ?_ | refine blk_alloc ?_ _));exact BK608.out))⟩;replace HB : Aside0 (Below w.heap.size w w25) := ⟨(by rw [hw];exact (B_set HB.out))⟩;clear hw;obtain ⟨hcz26_0,hcz26_1⟩ := cz2 BK608.out;obtain ⟨hfz26_0,hfz26_1⟩ := fz2 BK608.out;obtain ⟨Ao27,co27,eo27⟩ := Kd.R_slice HO_5.out;subst eo27) | ((with_reducible refine gate_callee (f := 42) rfl ?_);refine goesL_ (some 33) rfl rfl Try.func42 (by kernel_rfl) rfl #[.slice Ao27 x5_1.length co27,.int .i64 ((rd_T56 l1_3 x26_1).f1)] rfl eq_up ?_;(with_reducible refine (impl_appendVar.calls k1 (fun k_ => some k_ = (.slice Ao27 x5_1.length co27 : Value).ownBlock) (.slice Ao27 x5_1.length co27) x5_1 ((rd_T56 l1_3 x26_1).f1) t609 w _ ?side1 ?side2 A21.out).mono ?_);(case side1 => exact B_set HB.out);(case side2 => exact Kd.R_tight rfl HO_5.out);rintro e w28 ⟨v610,rfl,ho0,hb,hkp⟩;refine ⟨_,rfl,?_⟩;replace BK593 := Mk (blk_kept (blk_up BK593.out) hkp (fun hs_ => (fun e_ => (Kd.R_ne HO_5.out BK593.out (by decide)) e_) hs_));replace BK608 := Mk (blk_kept (blk_up BK608.out) hkp (fun hs_ => (fun e_ => (Kd.R_ne HO_5.out BK608.out (by decide)) e_) hs_));have HO611 := Mk (Kd.R_mono (ok' := fun k_ => True) ho0 (fun k_ hk_ => trivial));replace HB := Mk (hb);clear HO_5;(try clear hb);(try clear hkp);(try clear ho0)))
       go_roundg k1
       case measure => have := HK1.out;omega
       case rel => exact ⟨(t609),(wrap64 (x26_1 + 1)),eqs_,H',⟨by have := HK1.out;omega⟩,⟨Kd.R_up HO611.out⟩,⟨by (with_reducible repeat (first | refine blk_drewN ?_ _ | refine blk_drew ?_ | refine blk_alloc ?_ _));exact BK593.out⟩,⟨B_set HB.out⟩⟩
      ·rw [if_neg c20] at H
       exact absurd H (by simp)
     ·rw [if_neg c19] at H
      exact absurd H (by simp)
    ·rw [if_neg c18] at H
     have c18b0 : decide (x26_1 < (l1_3.length : Int)) = false := decide_eq_false c18
     clear c18
     obtain rfl := Option.some.inj H
     go_wp2
     go_ret
     exact ⟨_,err_,Kd.R_up HO_5.out,B_set HB.out⟩
 ·replace c4 := Bool.eq_false_iff.mpr c4
  subst c4
  have H1 : ((impl_cloned.f l0).bind fun t595 => (some t595)) = some r := by rw [if_neg (show ¬ (false = true) by decide)] at H;exact H
  clear H
  have H := H1
  clear H1
  replace H := Option.bind_eq_some_iff.mp H
  obtain ⟨t595,A290,H⟩ := H
  replace H : (some t595) = some r := H
  have A29 := Mk A290
  clear A290
  obtain rfl := Option.some.inj H
  go_enter Try.func13,Try.ntmps13
  go_wp2_with (first | ((with_reducible refine gate_dst (N := 3) rfl ?_);refine box_event ?hg (N := 3) ?hd (cs := #[.int .i64 a1_0,.int .i64 a1_1,.int .i64 a1_2,.slice A1_3 l1_3.length c1_3]) (t := 28) ?hr ?_;(case hd => rfl);(case hg => rfl);(case hr => first | (go_simp;done) | (go_simp;rfl));intro gb593 hg w30 hbox hb;have BK593 := Mk (hbox);have GW593 := Mk ((by rw [hg];exact (below_size (B_up HB.out)) : w.heap.size ≤ gb593));have GE593 := Mk ((by rw [hg];exact (below_size (B_up HB.out)) : w.heap.size ≤ gb593));replace HB := Mk (below_step (B_up HB.out) hb);clear hb hbox hg;obtain ⟨hcz31_0,hcz31_1,hcz31_2,hcz31_3⟩ := cz4 BK593.out;obtain ⟨hfz31_0,hfz31_1,hfz31_2,hfz31_3⟩ := fz4 BK593.out) | ((with_reducible refine gate_callee (f := 16) rfl ?_);refine goesL_ (some 9) rfl rfl Try.func16 (by kernel_rfl) rfl #[.agg #[.int .i64 a1_0,.int .i64 a1_1,.int .i64 a1_2,.slice A1_3 l1_3.length c1_3]] rfl eq_up ?_;(with_reducible refine (impl_ManOk.calls k a1_0 a1_1 a1_2 _ _ l1_3 false _ ?side1 ?side2 A3.out).mono ?_);(case side1 => repeat (first | exact (Kd.C_below HR1_3.out HB.out) | (with_reducible refine Kd.C_alloc ?_ _) | (with_reducible refine Kd.C_drewN ?_ _) | (with_reducible refine Kd.C_drew ?_)));(case side2 => exact HC1_3.out);rintro e w32 ⟨rfl,hb⟩;refine ⟨_,rfl,?_⟩;replace BK593 := Mk (blk_below (blk_up BK593.out) hb);replace HB := Mk (below_step (B_set HB.out) hb);(try clear hb);(try clear hb2);(try clear hk);(try clear hi)) | ((with_reducible refine gate_callee (f := 40) rfl ?_);refine goesL_ (some 12) rfl rfl Try.func40 (by kernel_rfl) rfl #[.slice A0 l0.length c0] rfl eq_up ?_;(with_reducible refine (impl_cloned.calls _ _ l0 t595 _ ?side1 ?side2 A29.out).mono ?_);(case side1 => repeat (first | exact (Kd.C_below HR0.out HB.out) | (with_reducible refine Kd.C_alloc ?_ _) | (with_reducible refine Kd.C_drewN ?_ _) | (with_reducible refine Kd.C_drew ?_)));(case side2 => exact HC0.out);rintro e w33 ⟨v596,rfl,ho0,hb⟩;refine ⟨_,rfl,?_⟩;have HO597 := Mk (Kd.R_lower ho0 (below_size (B_set HB.out)));replace BK593 := Mk (blk_below (blk_up BK593.out) hb);replace HB := Mk (below_step (B_set HB.out) hb);(try clear hb);(try clear hb2);(try clear hk);(try clear hi);(try clear ho0)))
  go_ret
  exact ⟨_,err_,Kd.R_up HO597.out,B_set HB.out⟩

/-! ### impl_Sum: function 45 -/
def impl_Sum.l0 : Nat → List (S56) → List (S56) → Int → Int → Option (Bool)
 | 0,_,_,_,_ => none
 | k + 1,x0,x1,x12,x13 => if x13 < x12 then (if 0 ≤ x13 then (if x13 < (x0.length : Int) then (if x13 < (x1.length : Int) then (if (!(((rd_T56 x0 x13).f0) == ((rd_T56 x1 x13).f0)) || (!(((rd_T56 x0 x13).f1) == ((rd_T56 x1 x13).f1)))) = true then (some false) else (impl_Sum.l0 k x0 x1 x12 (wrap64 (x13 + 1)))) else (none)) else (none)) else (none)) else (some true)
def impl_Sum.f (k : Nat) (l0 : List (S56)) (l1 : List (S56)) : Option (Bool) := if (l0.length : Int) = (l1.length : Int) then (impl_Sum.l0 k l0 l1 (l0.length : Int) 0) else (some false)
theorem impl_Sum.mono_l : ∀ k,(∀ y0 y1 y2 y3,LeO (impl_Sum.l0 k y0 y1 y2 y3) (impl_Sum.l0 (k + 1) y0 y1 y2 y3))
 | 0 => fun _ _ _ _ r h => by simp [impl_Sum.l0] at h
 | k + 1 => by
  have ih0 := impl_Sum.mono_l k
  ·intro y0 y1 y2 y3
   unfold impl_Sum.l0
   repeat' first
   | (with_reducible exact ih0 _ _ _ _)
   | (with_reducible exact LeO.refl _)
   | (with_reducible exact LeO.none _)
   | (with_reducible refine LeO.ite ?_ ?_)
   | (with_reducible refine LeO.bind ?_ (fun _ => ?_))
   | exact ih0 _ _ _ _
   | exact LeO.none _
   | refine LeO.ite ?_ ?_
   | refine LeO.bind ?_ (fun _ => ?_)
theorem impl_Sum.mono : ∀ a0 a1 k,LeO (impl_Sum.f k a0 a1) (impl_Sum.f (k + 1) a0 a1) := by
 intro a0 a1 k
 have ih0 := impl_Sum.mono_l k
 unfold impl_Sum.f
 repeat' first
   | (with_reducible exact ih0 _ _ _ _)
   | (with_reducible exact LeO.refl _)
   | (with_reducible exact LeO.none _)
   | (with_reducible refine LeO.ite ?_ ?_)
   | (with_reducible refine LeO.bind ?_ (fun _ => ?_))
   | exact ih0 _ _ _ _
   | exact LeO.none _
   | refine LeO.ite ?_ ?_
   | refine LeO.bind ?_ (fun _ => ?_)
set_option maxHeartbeats 8000000 in
set_option maxRecDepth 100000 in
theorem impl_Sum.calls (k : Nat) (A0 : Option Addr) (c0 : Nat) (l0 : List (S56)) (A1 : Option Addr) (c1 : Nat) (l1 : List (S56)) (r : Bool) (w : World) (hr0 : Kd.C k56 w A0 l0.length l0) (hc0 : l0.length ≤ c0) (hr1 : Kd.C k56 w A1 l1.length l1) (hc1 : l1.length ≤ c1) (h : impl_Sum.f k l0 l1 = some r) :
  Calls Try.prog 45 #[.slice A0 l0.length c0,.slice A1 l1.length c1] w fun e w' => e = .returned (.bool r) ∧ Drawn0 w w' := by
 have hu56 := Try.underlying56
 have hf56_0 : ∀ (a_ b_ : Int) (W_ : World),(Instr.field 56 (.agg #[.int .i64 a_,.int .i64 b_]) 0).run Try.prog W_ = .ok (.int .i64 a_) W_ := fun _ _ _ => by kernel_rfl
 have hf56_1 : ∀ (a_ b_ : Int) (W_ : World),(Instr.field 56 (.agg #[.int .i64 a_,.int .i64 b_]) 1).run Try.prog W_ = .ok (.int .i64 b_) W_ := fun _ _ _ => by kernel_rfl
 have HR0 := Mk hr0
 have HC0 := Mk hc0
 clear hr0 hc0
 have HR1 := Mk hr1
 have HC1 := Mk hc1
 clear hr1 hc1
 have H : (if (l0.length : Int) = (l1.length : Int) then (impl_Sum.l0 k l0 l1 (l0.length : Int) 0) else (some false)) = some r := h
 clear h
 by_cases c3 : (l0.length : Int) = (l1.length : Int)
 ·rw [if_pos c3] at H
  have c3b0 : ((l0.length : Int) == (l1.length : Int)) = true := beq_iff_eq.mpr c3
  have c3b1 : ((l0.length : Int) != (l1.length : Int)) = false := bne_eq_false_iff_eq.mpr c3
  have c3b2 : (l0.length == l1.length) = true := by first | simpa using c3 | (simp at c3 ⊢;omega)
  clear c3
  have H' := Mk H
  clear H
  go_enter Try.func45,Try.ntmps45
  go_wp2
  repeat (go_quiet (fail);try go_wp2)
  go_loopg [13] k (fun kq v13 w' => ∃ (x13_1 : Int),v13 = .int .i64 x13_1 ∧ Aside0 (impl_Sum.l0 kq l0 l1 (l0.length : Int) x13_1 = some r) ∧ Aside0 (kq ≤ k) ∧ Drawn0 w w')
  case atStart => exact ⟨(0),eqs_,H',⟨Nat.le_refl _⟩,by repeat (first | exact Drawn0.refl _ | apply Drawn0.step)⟩
  case round =>
   clear H'
   try clear c1
   try clear p2
   try clear c3
   try clear c3b0
   try clear c3b1
   try clear c3b2
   obtain ⟨x13_1,rfl,HA,HK1,⟨m1,rfl⟩⟩ := hrel
   cases gk with
   | zero => exact absurd HA.out (by simp [impl_Sum.l0])
   | succ k1 =>
    have H := HA.out
    clear HA
    simp only [impl_Sum.l0] at H
    by_cases c4 : x13_1 < (l0.length : Int)
    ·rw [if_pos c4] at H
     have c4b0 : decide (x13_1 < (l0.length : Int)) = true := decide_eq_true c4
     clear c4
     by_cases c5 : 0 ≤ x13_1
     ·rw [if_pos c5] at H
      have c5b0 : decide (0 ≤ x13_1) = true := decide_eq_true c5
      clear c5
      by_cases c6 : x13_1 < (l0.length : Int)
      ·rw [if_pos c6] at H
       have c6b0 : decide (x13_1 < (l0.length : Int)) = true := decide_eq_true c6
       clear c6
       by_cases c7 : x13_1 < (l1.length : Int)
       ·rw [if_pos c7] at H
        have c7b0 : decide (x13_1 < (l1.length : Int)) = true := decide_eq_true c7
        clear c7
        by_cases c8 : (!(((rd_T56 l0 x13_1).f0) == ((rd_T56 l1 x13_1).f0)) || (!(((rd_T56 l0 x13_1).f1) == ((rd_T56 l1 x13_1).f1)))) = true
        ·rw [if_pos c8] at H
         have c8b0 : (!(((rd_T56 l0 x13_1).f0) == ((rd_T56 l1 x13_1).f0)) || (!(((rd_T56 l0 x13_1).f1) == ((rd_T56 l1 x13_1).f1)))) = true := c8
         clear c8
         obtain rfl := Option.some.inj H
         have p612 : 0 ≤ (x13_1 : Int) := ofd
         have q612 : x13_1 < (l0.length : Int) := ofd
         obtain ⟨ad612,e612,hx612_0,hx612_1⟩ := at_T56 HR0.out x13_1 p612 q612
         cases e612
         replace p612 := eq_true p612
         replace q612 := eq_true q612
         have p613 : 0 ≤ (x13_1 : Int) := ofd
         have q613 : x13_1 < (l1.length : Int) := ofd
         obtain ⟨ad613,e613,hx613_0,hx613_1⟩ := at_T56 HR1.out x13_1 p613 q613
         cases e613
         replace p613 := eq_true p613
         replace q613 := eq_true q613
         go_wp2
         repeat (go_quiet (fail);try go_wp2)
         go_ret
         exact ⟨by first | rfl | (simp;done) | (simp [*];done),by repeat (first | exact Drawn0.refl _ | apply Drawn0.step)⟩
        ·rw [if_neg c8] at H
         have c8b0 : (!(((rd_T56 l0 x13_1).f0) == ((rd_T56 l1 x13_1).f0)) || (!(((rd_T56 l0 x13_1).f1) == ((rd_T56 l1 x13_1).f1)))) = false := by simpa using c8
         clear c8
         have H' := Mk H
         clear H
         have p612 : 0 ≤ (x13_1 : Int) := ofd
         have q612 : x13_1 < (l0.length : Int) := ofd
         obtain ⟨ad612,e612,hx612_0,hx612_1⟩ := at_T56 HR0.out x13_1 p612 q612
         cases e612
         replace p612 := eq_true p612
         replace q612 := eq_true q612
         have p613 : 0 ≤ (x13_1 : Int) := ofd
         have q613 : x13_1 < (l1.length : Int) := ofd
         obtain ⟨ad613,e613,hx613_0,hx613_1⟩ := at_T56 HR1.out x13_1 p613 q613
         cases e613
         replace p613 := eq_true p613
         replace q613 := eq_true q613
         go_wp2
         repeat (go_quiet (fail);try go_wp2)
         go_roundg k1
         case measure => have := HK1.out;omega
         case rel => exact ⟨(wrap64 (x13_1 + 1)),eqs_,H',⟨by have := HK1.out;omega⟩,by repeat (first | exact Drawn0.refl _ | apply Drawn0.step)⟩
       ·rw [if_neg c7] at H
        exact absurd H (by simp)
      ·rw [if_neg c6] at H
       exact absurd H (by simp)
     ·rw [if_neg c5] at H
      exact absurd H (by simp)
    ·rw [if_neg c4] at H
     have c4b0 : decide (x13_1 < (l0.length : Int)) = false := decide_eq_false c4
     clear c4
     obtain rfl := Option.some.inj H
     go_wp2
     repeat (go_quiet (fail);try go_wp2)
     go_ret
     exact ⟨by first | rfl | (simp;done) | (simp [*];done),by repeat (first | exact Drawn0.refl _ | apply Drawn0.step)⟩
 ·rw [if_neg c3] at H
  have c3b0 : ((l0.length : Int) == (l1.length : Int)) = false := beq_eq_false_iff_ne.mpr c3
  have c3b1 : ((l0.length : Int) != (l1.length : Int)) = true := bne_iff_ne.mpr c3
  have c3b2 : (l0.length == l1.length) = false := by first | simpa using c3 | (simp at c3 ⊢;omega)
  obtain rfl := Option.some.inj H
  go_enter Try.func45,Try.ntmps45
  go_wp2
  repeat (go_quiet (fail);try go_wp2)
  go_ret
  exact ⟨by first | rfl | (simp;done) | (simp [*];done),by repeat (first | exact Drawn0.refl _ | apply Drawn0.step)⟩

/-! ### impl_SameMan: function 15 -/
def impl_SameMan.f (k : Nat) (a0_0 : Int) (a0_1 : Int) (a0_2 : Int) (l0_3 : List (S56)) (a1_0 : Int) (a1_1 : Int) (a1_2 : Int) (l1_3 : List (S56)) : Option (Bool) := if a0_0 = a1_0 then (if a0_1 = a1_1 then (if a0_2 = a1_2 then ((impl_Sum.f k l0_3 l1_3).bind fun t616 => (some t616)) else (some false)) else (some false)) else (some false)
theorem impl_SameMan.mono : ∀ a0 a1 a2 a3 a4 a5 a6 a7 k,LeO (impl_SameMan.f k a0 a1 a2 a3 a4 a5 a6 a7) (impl_SameMan.f (k + 1) a0 a1 a2 a3 a4 a5 a6 a7) := by
 intro a0 a1 a2 a3 a4 a5 a6 a7 k
 unfold impl_SameMan.f
 repeat' first
   | (with_reducible exact impl_Sum.mono _ _ _)
   | (with_reducible exact LeO.refl _)
   | (with_reducible exact LeO.none _)
   | (with_reducible refine LeO.ite ?_ ?_)
   | (with_reducible refine LeO.bind ?_ (fun _ => ?_))
   | exact impl_Sum.mono _ _ _
   | exact LeO.none _
   | refine LeO.ite ?_ ?_
   | refine LeO.bind ?_ (fun _ => ?_)
set_option maxHeartbeats 8000000 in
set_option maxRecDepth 100000 in
theorem impl_SameMan.calls (k : Nat) (a0_0 : Int) (a0_1 : Int) (a0_2 : Int) (A0_3 : Option Addr) (c0_3 : Nat) (l0_3 : List (S56)) (a1_0 : Int) (a1_1 : Int) (a1_2 : Int) (A1_3 : Option Addr) (c1_3 : Nat) (l1_3 : List (S56)) (r : Bool) (w : World) (hr0_3 : Kd.C k56 w A0_3 l0_3.length l0_3) (hc0_3 : l0_3.length ≤ c0_3) (hr1_3 : Kd.C k56 w A1_3 l1_3.length l1_3) (hc1_3 : l1_3.length ≤ c1_3) (h : impl_SameMan.f k a0_0 a0_1 a0_2 l0_3 a1_0 a1_1 a1_2 l1_3 = some r) :
  Calls Try.prog 15 #[.agg #[.int .i64 a0_0,.int .i64 a0_1,.int .i64 a0_2,.slice A0_3 l0_3.length c0_3],.agg #[.int .i64 a1_0,.int .i64 a1_1,.int .i64 a1_2,.slice A1_3 l1_3.length c1_3]] w fun e w' => e = .returned (.bool r) ∧ Below w.heap.size w w' := by
 have hu28 := Try.underlying28
 have HR0_3 := Mk hr0_3
 have HC0_3 := Mk hc0_3
 clear hr0_3 hc0_3
 have HR1_3 := Mk hr1_3
 have HC1_3 := Mk hc1_3
 clear hr1_3 hc1_3
 have HB := Mk (Below.refl w.heap.size w)
 have H : (if a0_0 = a1_0 then (if a0_1 = a1_1 then (if a0_2 = a1_2 then ((impl_Sum.f k l0_3 l1_3).bind fun t616 => (some t616)) else (some false)) else (some false)) else (some false)) = some r := h
 clear h
 by_cases c3 : a0_0 = a1_0
 ·rw [if_pos c3] at H
  have c3b0 : (a0_0 == a1_0) = true := beq_iff_eq.mpr c3
  have c3b1 : (a0_0 != a1_0) = false := bne_eq_false_iff_eq.mpr c3
  clear c3
  by_cases c4 : a0_1 = a1_1
  ·rw [if_pos c4] at H
   have c4b0 : (a0_1 == a1_1) = true := beq_iff_eq.mpr c4
   have c4b1 : (a0_1 != a1_1) = false := bne_eq_false_iff_eq.mpr c4
   clear c4
   by_cases c5 : a0_2 = a1_2
   ·rw [if_pos c5] at H
    have c5b0 : (a0_2 == a1_2) = true := beq_iff_eq.mpr c5
    have c5b1 : (a0_2 != a1_2) = false := bne_eq_false_iff_eq.mpr c5
    clear c5
    replace H := Option.bind_eq_some_iff.mp H
    obtain ⟨t616,A60,H⟩ := H
    replace H : (some t616) = some r := H
    have A6 := Mk A60
    clear A60
    obtain rfl := Option.some.inj H
    go_enter Try.func15,Try.ntmps15
    go_wp2_with (first | ((with_reducible refine gate_dst (N := 2) rfl ?_);refine box_event ?hg (N := 2) ?hd (cs := #[.int .i64 a0_0,.int .i64 a0_1,.int .i64 a0_2,.slice A0_3 l0_3.length c0_3]) (t := 28) ?hr ?_;(case hd => rfl);(case hg => rfl);(case hr => first | (go_simp;done) | (go_simp;rfl));intro gb614 hg w7 hbox hb;have BK614 := Mk (hbox);have GW614 := Mk ((by rw [hg];exact (below_size (B_up HB.out)) : w.heap.size ≤ gb614));have GE614 := Mk ((by rw [hg];exact (below_size (B_up HB.out)) : w.heap.size ≤ gb614));replace HB := Mk (below_step (B_up HB.out) hb);clear hb hbox hg) | ((with_reducible refine gate_dst (N := 3) rfl ?_);refine box_event ?hg (N := 3) ?hd (cs := #[.int .i64 a1_0,.int .i64 a1_1,.int .i64 a1_2,.slice A1_3 l1_3.length c1_3]) (t := 28) ?hr ?_;(case hd => rfl);(case hg => rfl);(case hr => first | (go_simp;done) | (go_simp;rfl));intro gb615 hg w8 hbox hb;have BK615 := Mk (hbox);have GW615 := Mk ((by rw [hg];exact (below_size (B_set HB.out)) : w.heap.size ≤ gb615));have GE615 := Mk ((by rw [hg];exact (below_size (B_set HB.out)) : w.heap.size ≤ gb615));replace HB := Mk (below_step (B_set HB.out) hb);have NB614_615 := Mk ((by rw [hg];exact Nat.ne_of_lt (blk_lt (blk_up BK614.out)) : gb614 ≠ gb615));have NB615_614 := Mk ((by rw [hg];exact Nat.ne_of_gt (blk_lt (blk_up BK614.out)) : gb615 ≠ gb614));replace BK614 := Mk (blk_below (blk_up BK614.out) hb);clear hb hbox hg;have hnb9 := NB614_615.out;have hnc9 := NB615_614.out;obtain ⟨hcz10_0,hcz10_1,hcz10_2,hcz10_3⟩ := cz4 BK614.out;obtain ⟨hfz10_0,hfz10_1,hfz10_2,hfz10_3⟩ := fz4 BK614.out;obtain ⟨hcz11_0,hcz11_1,hcz11_2,hcz11_3⟩ := cz4 BK615.out;obtain ⟨hfz11_0,hfz11_1,hfz11_2,hfz11_3⟩ := fz4 BK615.out) | (go_at_call 45;(with_reducible refine (impl_Sum.calls k _ _ l0_3 _ _ l1_3 t616 _ ?side1 ?side2 ?side3 ?side4 A6.out).mono ?_);(case side1 => repeat (first | exact (Kd.C_below HR0_3.out HB.out) | (with_reducible refine Kd.C_alloc ?_ _) | (with_reducible refine Kd.C_drewN ?_ _) | (with_reducible refine Kd.C_drew ?_)));(case side2 => exact HC0_3.out);(case side3 => repeat (first | exact (Kd.C_below HR1_3.out HB.out) | (with_reducible refine Kd.C_alloc ?_ _) | (with_reducible refine Kd.C_drewN ?_ _) | (with_reducible refine Kd.C_drew ?_)));(case side4 => exact HC1_3.out);rintro e w' ⟨rfl,⟨nd,rfl⟩⟩))
    go_ret
    exact ⟨err_,B_set HB.out⟩
   ·rw [if_neg c5] at H
    have c5b0 : (a0_2 == a1_2) = false := beq_eq_false_iff_ne.mpr c5
    have c5b1 : (a0_2 != a1_2) = true := bne_iff_ne.mpr c5
    obtain rfl := Option.some.inj H
    go_enter Try.func15,Try.ntmps15
    go_wp2_with (first | ((with_reducible refine gate_dst (N := 2) rfl ?_);refine box_event ?hg (N := 2) ?hd (cs := #[.int .i64 a0_0,.int .i64 a0_1,.int .i64 a0_2,.slice A0_3 l0_3.length c0_3]) (t := 28) ?hr ?_;(case hd => rfl);(case hg => rfl);(case hr => first | (go_simp;done) | (go_simp;rfl));intro gb614 hg w12 hbox hb;have BK614 := Mk (hbox);have GW614 := Mk ((by rw [hg];exact (below_size (B_up HB.out)) : w.heap.size ≤ gb614));have GE614 := Mk ((by rw [hg];exact (below_size (B_up HB.out)) : w.heap.size ≤ gb614));replace HB := Mk (below_step (B_up HB.out) hb);clear hb hbox hg) | ((with_reducible refine gate_dst (N := 3) rfl ?_);refine box_event ?hg (N := 3) ?hd (cs := #[.int .i64 a1_0,.int .i64 a1_1,.int .i64 a1_2,.slice A1_3 l1_3.length c1_3]) (t := 28) ?hr ?_;(case hd => rfl);(case hg => rfl);(case hr => first | (go_simp;done) | (go_simp;rfl));intro gb615 hg w13 hbox hb;have BK615 := Mk (hbox);have GW615 := Mk ((by rw [hg];exact (below_size (B_set HB.out)) : w.heap.size ≤ gb615));have GE615 := Mk ((by rw [hg];exact (below_size (B_set HB.out)) : w.heap.size ≤ gb615));replace HB := Mk (below_step (B_set HB.out) hb);have NB614_615 := Mk ((by rw [hg];exact Nat.ne_of_lt (blk_lt (blk_up BK614.out)) : gb614 ≠ gb615));have NB615_614 := Mk ((by rw [hg];exact Nat.ne_of_gt (blk_lt (blk_up BK614.out)) : gb615 ≠ gb614));replace BK614 := Mk (blk_below (blk_up BK614.out) hb);clear hb hbox hg;have hnb14 := NB614_615.out;have hnc14 := NB615_614.out;obtain ⟨hcz15_0,hcz15_1,hcz15_2,hcz15_3⟩ := cz4 BK614.out;obtain ⟨hfz15_0,hfz15_1,hfz15_2,hfz15_3⟩ := fz4 BK614.out;obtain ⟨hcz16_0,hcz16_1,hcz16_2,hcz16_3⟩ := cz4 BK615.out;obtain ⟨hfz16_0,hfz16_1,hfz16_2,hfz16_3⟩ := fz4 BK615.out))
    go_ret
    exact ⟨err_,B_set HB.out⟩
  ·rw [if_neg c4] at H
   have c4b0 : (a0_1 == a1_1) = false := beq_eq_false_iff_ne.mpr c4
   have c4b1 : (a0_1 != a1_1) = true := bne_iff_ne.mpr c4
   obtain rfl := Option.some.inj H
   go_enter Try.func15,Try.ntmps15
   go_wp2_with (first | ((with_reducible refine gate_dst (N := 2) rfl ?_);refine box_event ?hg (N := 2) ?hd (cs := #[.int .i64 a0_0,.int .i64 a0_1,.int .i64 a0_2,.slice A0_3 l0_3.length c0_3]) (t := 28) ?hr ?_;(case hd => rfl);(case hg => rfl);(case hr => first | (go_simp;done) | (go_simp;rfl));intro gb614 hg w17 hbox hb;have BK614 := Mk (hbox);have GW614 := Mk ((by rw [hg];exact (below_size (B_up HB.out)) : w.heap.size ≤ gb614));have GE614 := Mk ((by rw [hg];exact (below_size (B_up HB.out)) : w.heap.size ≤ gb614));replace HB := Mk (below_step (B_up HB.out) hb);clear hb hbox hg) | ((with_reducible refine gate_dst (N := 3) rfl ?_);refine box_event ?hg (N := 3) ?hd (cs := #[.int .i64 a1_0,.int .i64 a1_1,.int .i64 a1_2,.slice A1_3 l1_3.length c1_3]) (t := 28) ?hr ?_;(case hd => rfl);(case hg => rfl);(case hr => first | (go_simp;done) | (go_simp;rfl));intro gb615 hg w18 hbox hb;have BK615 := Mk (hbox);have GW615 := Mk ((by rw [hg];exact (below_size (B_set HB.out)) : w.heap.size ≤ gb615));have GE615 := Mk ((by rw [hg];exact (below_size (B_set HB.out)) : w.heap.size ≤ gb615));replace HB := Mk (below_step (B_set HB.out) hb);have NB614_615 := Mk ((by rw [hg];exact Nat.ne_of_lt (blk_lt (blk_up BK614.out)) : gb614 ≠ gb615));have NB615_614 := Mk ((by rw [hg];exact Nat.ne_of_gt (blk_lt (blk_up BK614.out)) : gb615 ≠ gb614));replace BK614 := Mk (blk_below (blk_up BK614.out) hb);clear hb hbox hg;have hnb19 := NB614_615.out;have hnc19 := NB615_614.out;obtain ⟨hcz20_0,hcz20_1,hcz20_2,hcz20_3⟩ := cz4 BK614.out;obtain ⟨hfz20_0,hfz20_1,hfz20_2,hfz20_3⟩ := fz4 BK614.out;obtain ⟨hcz21_0,hcz21_1,hcz21_2,hcz21_3⟩ := cz4 BK615.out;obtain ⟨hfz21_0,hfz21_1,hfz21_2,hfz21_3⟩ := fz4 BK615.out))
   go_ret
   exact ⟨err_,B_set HB.out⟩
 ·rw [if_neg c3] at H
  have c3b0 : (a0_0 == a1_0) = false := beq_eq_false_iff_ne.mpr c3
  have c3b1 : (a0_0 != a1_0) = true := bne_iff_ne.mpr c3
  obtain rfl := Option.some.inj H
  go_enter Try.func15,Try.ntmps15
  go_wp2_with (first | ((with_reducible refine gate_dst (N := 2) rfl ?_);refine box_event ?hg (N := 2) ?hd (cs := #[.int .i64 a0_0,.int .i64 a0_1,.int .i64 a0_2,.slice A0_3 l0_3.length c0_3]) (t := 28) ?hr ?_;(case hd => rfl);(case hg => rfl);(case hr => first | (go_simp;done) | (go_simp;rfl));intro gb614 hg w22 hbox hb;have BK614 := Mk (hbox);have GW614 := Mk ((by rw [hg];exact (below_size (B_up HB.out)) : w.heap.size ≤ gb614));have GE614 := Mk ((by rw [hg];exact (below_size (B_up HB.out)) : w.heap.size ≤ gb614));replace HB := Mk (below_step (B_up HB.out) hb);clear hb hbox hg) | ((with_reducible refine gate_dst (N := 3) rfl ?_);refine box_event ?hg (N := 3) ?hd (cs := #[.int .i64 a1_0,.int .i64 a1_1,.int .i64 a1_2,.slice A1_3 l1_3.length c1_3]) (t := 28) ?hr ?_;(case hd => rfl);(case hg => rfl);(case hr => first | (go_simp;done) | (go_simp;rfl));intro gb615 hg w23 hbox hb;have BK615 := Mk (hbox);have GW615 := Mk ((by rw [hg];exact (below_size (B_set HB.out)) : w.heap.size ≤ gb615));have GE615 := Mk ((by rw [hg];exact (below_size (B_set HB.out)) : w.heap.size ≤ gb615));replace HB := Mk (below_step (B_set HB.out) hb);have NB614_615 := Mk ((by rw [hg];exact Nat.ne_of_lt (blk_lt (blk_up BK614.out)) : gb614 ≠ gb615));have NB615_614 := Mk ((by rw [hg];exact Nat.ne_of_gt (blk_lt (blk_up BK614.out)) : gb615 ≠ gb614));replace BK614 := Mk (blk_below (blk_up BK614.out) hb);clear hb hbox hg;have hnb24 := NB614_615.out;have hnc24 := NB615_614.out;obtain ⟨hcz25_0,hcz25_1,hcz25_2,hcz25_3⟩ := cz4 BK614.out;obtain ⟨hfz25_0,hfz25_1,hfz25_2,hfz25_3⟩ := fz4 BK614.out;obtain ⟨hcz26_0,hcz26_1,hcz26_2,hcz26_3⟩ := cz4 BK615.out;obtain ⟨hfz26_0,hfz26_1,hfz26_2,hfz26_3⟩ := fz4 BK615.out))
  go_ret
  exact ⟨err_,B_set HB.out⟩

/-! ### impl_FullSet: function 54 -/
def impl_FullSet.f (a0 : Int) : Option (Int) := (impl_within.f a0 0 40).bind fun t617 => (if t617 = true then (if 0 ≤ a0 then (some (wrap64 ((shl .i64 1 a0) - 1))) else (none)) else (some 0))
set_option maxHeartbeats 8000000 in
set_option maxRecDepth 100000 in
theorem impl_FullSet.calls (a0 : Int) (r : Int) (w : World) (h : impl_FullSet.f a0 = some r) :
  Calls Try.prog 54 #[.int .i64 a0] w fun e w' => e = .returned (.int .i64 r) ∧ Drawn0 w w' := by
 have H : ((impl_within.f a0 0 40).bind fun t617 => (if t617 = true then (if 0 ≤ a0 then (some (wrap64 ((shl .i64 1 a0) - 1))) else (none)) else (some 0))) = some r := h
 clear h
 replace H := bsm H
 obtain ⟨t617,A2,H⟩ := H
 (try dsimp only at H)
 by_cases c3 : t617 = true
 ·subst c3
  rw [if_pos rfl] at H
  by_cases c4 : 0 ≤ a0
  ·rw [if_pos c4] at H
   have c4b0 := eq_true c4
   have c4b1 : decide (0 ≤ a0) = true := decide_eq_true c4
   clear c4
   obtain ⟨ji5,hji5⟩ : ∃ j_ : Int,(shl .i64 1 a0) = j_ := ⟨_,rfl⟩
   replace H : (some (wrap64 ((ji5) - 1))) = some r := by first | (rw [hji5] at H;exact H) | (simp only [hji5] at H ⊢;exact H)
   (try rw [hji5] at A2)
   have hji5_ : (IntKind.i64.wrap (1 * 2 ^ min a0.toNat 64)) = ji5 := hji5
   have hji5z : a0 ≤ 64 → (IntKind.i64.wrap (1 * 2 ^ a0.toNat)) = ji5 := shl_small hji5
   have hji5u : (IntKind.i64.wrap (2 ^ min a0.toNat 64)) = ji5 := by have h_ := hji5_;rw [Int.one_mul] at h_;exact h_
   have hji5v : a0 ≤ 64 → (IntKind.i64.wrap (2 ^ a0.toNat)) = ji5 := fun hle_ => by have h_ := hji5z hle_;rw [Int.one_mul] at h_;exact h_
   have hji5y : (wrap64 (1 * 2 ^ min a0.toNat 64)) = ji5 := (i64_w _).symm.trans hji5_
   have hji5x : a0 ≤ 64 → (wrap64 (1 * 2 ^ a0.toNat)) = ji5 := fun h_ => (i64_w _).symm.trans (hji5z h_)
   obtain rfl := Option.some.inj H
   go_enter Try.func54,Try.ntmps54
   go_wp2_with (first | ((with_reducible refine gate_callee (f := 47) rfl ?_);refine goesL_ (some 4) rfl rfl Try.func47 (by kernel_rfl) rfl #[.int .i64 a0,.int .i64 0,.int .i64 40] rfl eq_up ?_;(with_reducible refine (impl_within.calls a0 0 40 true _ A2.out).mono ?_);rintro e w' ⟨rfl,⟨nd,rfl⟩⟩;refine ⟨_,rfl,?_⟩))
   go_ret
   exact ⟨by first | rfl | (simp;done) | (simp only [← hji5] <;> (first | rfl | simp)) | (simp [*];done),by repeat (first | exact Drawn0.refl _ | apply Drawn0.step)⟩
  ·rw [if_neg c4] at H
   exact absurd H (by simp)
 ·replace c3 := Bool.eq_false_iff.mpr c3
  subst c3
  have H1 : (some 0) = some r := by rw [if_neg (show ¬ (false = true) by decide)] at H;exact H
  clear H
  have H := H1
  clear H1
  obtain rfl := Option.some.inj H
  go_enter Try.func54,Try.ntmps54
  go_wp2_with (first | ((with_reducible refine gate_callee (f := 47) rfl ?_);refine goesL_ (some 4) rfl rfl Try.func47 (by kernel_rfl) rfl #[.int .i64 a0,.int .i64 0,.int .i64 40] rfl eq_up ?_;(with_reducible refine (impl_within.calls a0 0 40 false _ A2.out).mono ?_);rintro e w' ⟨rfl,⟨nd,rfl⟩⟩;refine ⟨_,rfl,?_⟩))
  go_ret
  exact ⟨by first | rfl | (simp;done) | (simp [*];done),by repeat (first | exact Drawn0.refl _ | apply Drawn0.step)⟩

/-! ### impl_AllParts: function 18 -/
def impl_AllParts.f (a0_0 : Int) (a0_1 : Int) (a0_2 : Int) (l0_3 : List (S56)) : Option (Int) := (impl_FullSet.f (l0_3.length : Int)).bind fun t619 => (some t619)
set_option maxHeartbeats 8000000 in
set_option maxRecDepth 100000 in
theorem impl_AllParts.calls (a0_0 : Int) (a0_1 : Int) (a0_2 : Int) (A0_3 : Option Addr) (c0_3 : Nat) (l0_3 : List (S56)) (r : Int) (w : World) (hr0_3 : Kd.C k56 w A0_3 l0_3.length l0_3) (hc0_3 : l0_3.length ≤ c0_3) (h : impl_AllParts.f a0_0 a0_1 a0_2 l0_3 = some r) :
  Calls Try.prog 18 #[.agg #[.int .i64 a0_0,.int .i64 a0_1,.int .i64 a0_2,.slice A0_3 l0_3.length c0_3]] w fun e w' => e = .returned (.int .i64 r) ∧ Below w.heap.size w w' := by
 have hu28 := Try.underlying28
 have HR0_3 := Mk hr0_3
 have HC0_3 := Mk hc0_3
 clear hr0_3 hc0_3
 have HB := Mk (Below.refl w.heap.size w)
 have H : ((impl_FullSet.f (l0_3.length : Int)).bind fun t619 => (some t619)) = some r := h
 clear h
 replace H := Option.bind_eq_some_iff.mp H
 obtain ⟨t619,A20,H⟩ := H
 replace H : (some t619) = some r := H
 have A2 := Mk A20
 clear A20
 obtain rfl := Option.some.inj H
 go_enter Try.func18,Try.ntmps18
 go_wp2_with (first | ((with_reducible refine gate_dst (N := 1) rfl ?_);refine box_event ?hg (N := 1) ?hd (cs := #[.int .i64 a0_0,.int .i64 a0_1,.int .i64 a0_2,.slice A0_3 l0_3.length c0_3]) (t := 28) ?hr ?_;(case hd => rfl);(case hg => rfl);(case hr => first | (go_simp;done) | (go_simp;rfl));intro gb618 hg w3 hbox hb;have BK618 := Mk (hbox);have GW618 := Mk ((by rw [hg];exact (below_size (B_up HB.out)) : w.heap.size ≤ gb618));have GE618 := Mk ((by rw [hg];exact (below_size (B_up HB.out)) : w.heap.size ≤ gb618));replace HB := Mk (below_step (B_up HB.out) hb);clear hb hbox hg;obtain ⟨hcz4_0,hcz4_1,hcz4_2,hcz4_3⟩ := cz4 BK618.out;obtain ⟨hfz4_0,hfz4_1,hfz4_2,hfz4_3⟩ := fz4 BK618.out) | ((with_reducible refine gate_callee (f := 54) rfl ?_);refine goesL_ (some 6) rfl rfl Try.func54 (by kernel_rfl) rfl #[.int .i64 (l0_3.length : Int)] rfl eq_up ?_;(with_reducible refine (impl_FullSet.calls (l0_3.length : Int) t619 _ A2.out).mono ?_);rintro e w' ⟨rfl,⟨nd,rfl⟩⟩;refine ⟨_,rfl,?_⟩))
 go_ret
 exact ⟨err_,B_set HB.out⟩

/-! ### spec_FullSet: function 55 -/
def spec_FullSet.f (a0 : Int) : Option (Int) := (spec_l1In.f a0 0 40).bind fun t620 => (if t620 = true then (if 0 ≤ a0 then (some (wrap64 ((shl .i64 1 a0) - 1))) else (none)) else (some 0))
set_option maxHeartbeats 8000000 in
set_option maxRecDepth 100000 in
theorem spec_FullSet.calls (a0 : Int) (r : Int) (w : World) (h : spec_FullSet.f a0 = some r) :
  Calls Try.prog 55 #[.int .i64 a0] w fun e w' => e = .returned (.int .i64 r) ∧ Drawn0 w w' := by
 have H : ((spec_l1In.f a0 0 40).bind fun t620 => (if t620 = true then (if 0 ≤ a0 then (some (wrap64 ((shl .i64 1 a0) - 1))) else (none)) else (some 0))) = some r := h
 clear h
 replace H := bsm H
 obtain ⟨t620,A2,H⟩ := H
 (try dsimp only at H)
 by_cases c3 : t620 = true
 ·subst c3
  rw [if_pos rfl] at H
  by_cases c4 : 0 ≤ a0
  ·rw [if_pos c4] at H
   have c4b0 := eq_true c4
   have c4b1 : decide (0 ≤ a0) = true := decide_eq_true c4
   clear c4
   obtain ⟨ji5,hji5⟩ : ∃ j_ : Int,(shl .i64 1 a0) = j_ := ⟨_,rfl⟩
   replace H : (some (wrap64 ((ji5) - 1))) = some r := by first | (rw [hji5] at H;exact H) | (simp only [hji5] at H ⊢;exact H)
   (try rw [hji5] at A2)
   have hji5_ : (IntKind.i64.wrap (1 * 2 ^ min a0.toNat 64)) = ji5 := hji5
   have hji5z : a0 ≤ 64 → (IntKind.i64.wrap (1 * 2 ^ a0.toNat)) = ji5 := shl_small hji5
   have hji5u : (IntKind.i64.wrap (2 ^ min a0.toNat 64)) = ji5 := by have h_ := hji5_;rw [Int.one_mul] at h_;exact h_
   have hji5v : a0 ≤ 64 → (IntKind.i64.wrap (2 ^ a0.toNat)) = ji5 := fun hle_ => by have h_ := hji5z hle_;rw [Int.one_mul] at h_;exact h_
   have hji5y : (wrap64 (1 * 2 ^ min a0.toNat 64)) = ji5 := (i64_w _).symm.trans hji5_
   have hji5x : a0 ≤ 64 → (wrap64 (1 * 2 ^ a0.toNat)) = ji5 := fun h_ => (i64_w _).symm.trans (hji5z h_)
   obtain rfl := Option.some.inj H
   go_enter Try.func55,Try.ntmps55
   go_wp2_with (first | ((with_reducible refine gate_callee (f := 51) rfl ?_);refine goesL_ (some 4) rfl rfl Try.func51 (by kernel_rfl) rfl #[.int .i64 a0,.int .i64 0,.int .i64 40] rfl eq_up ?_;(with_reducible refine (spec_l1In.calls a0 0 40 true _ A2.out).mono ?_);rintro e w' ⟨rfl,⟨nd,rfl⟩⟩;refine ⟨_,rfl,?_⟩))
   go_ret
   exact ⟨by first | rfl | (simp;done) | (simp only [← hji5] <;> (first | rfl | simp)) | (simp [*];done),by repeat (first | exact Drawn0.refl _ | apply Drawn0.step)⟩
  ·rw [if_neg c4] at H
   exact absurd H (by simp)
 ·replace c3 := Bool.eq_false_iff.mpr c3
  subst c3
  have H1 : (some 0) = some r := by rw [if_neg (show ¬ (false = true) by decide)] at H;exact H
  clear H
  have H := H1
  clear H1
  obtain rfl := Option.some.inj H
  go_enter Try.func55,Try.ntmps55
  go_wp2_with (first | ((with_reducible refine gate_callee (f := 51) rfl ?_);refine goesL_ (some 4) rfl rfl Try.func51 (by kernel_rfl) rfl #[.int .i64 a0,.int .i64 0,.int .i64 40] rfl eq_up ?_;(with_reducible refine (spec_l1In.calls a0 0 40 false _ A2.out).mono ?_);rintro e w' ⟨rfl,⟨nd,rfl⟩⟩;refine ⟨_,rfl,?_⟩))
  go_ret
  exact ⟨by first | rfl | (simp;done) | (simp [*];done),by repeat (first | exact Drawn0.refl _ | apply Drawn0.step)⟩

/-! ### spec_AllParts: function 19 -/
def spec_AllParts.f (a0_0 : Int) (a0_1 : Int) (a0_2 : Int) (l0_3 : List (S56)) : Option (Int) := (spec_FullSet.f (l0_3.length : Int)).bind fun t622 => (some t622)
set_option maxHeartbeats 8000000 in
set_option maxRecDepth 100000 in
theorem spec_AllParts.calls (a0_0 : Int) (a0_1 : Int) (a0_2 : Int) (A0_3 : Option Addr) (c0_3 : Nat) (l0_3 : List (S56)) (r : Int) (w : World) (hr0_3 : Kd.C k56 w A0_3 l0_3.length l0_3) (hc0_3 : l0_3.length ≤ c0_3) (h : spec_AllParts.f a0_0 a0_1 a0_2 l0_3 = some r) :
  Calls Try.prog 19 #[.agg #[.int .i64 a0_0,.int .i64 a0_1,.int .i64 a0_2,.slice A0_3 l0_3.length c0_3]] w fun e w' => e = .returned (.int .i64 r) ∧ Below w.heap.size w w' := by
 have hu28 := Try.underlying28
 have HR0_3 := Mk hr0_3
 have HC0_3 := Mk hc0_3
 clear hr0_3 hc0_3
 have HB := Mk (Below.refl w.heap.size w)
 have H : ((spec_FullSet.f (l0_3.length : Int)).bind fun t622 => (some t622)) = some r := h
 clear h
 replace H := Option.bind_eq_some_iff.mp H
 obtain ⟨t622,A20,H⟩ := H
 replace H : (some t622) = some r := H
 have A2 := Mk A20
 clear A20
 obtain rfl := Option.some.inj H
 go_enter Try.func19,Try.ntmps19
 go_wp2_with (first | ((with_reducible refine gate_dst (N := 1) rfl ?_);refine box_event ?hg (N := 1) ?hd (cs := #[.int .i64 a0_0,.int .i64 a0_1,.int .i64 a0_2,.slice A0_3 l0_3.length c0_3]) (t := 28) ?hr ?_;(case hd => rfl);(case hg => rfl);(case hr => first | (go_simp;done) | (go_simp;rfl));intro gb621 hg w3 hbox hb;have BK621 := Mk (hbox);have GW621 := Mk ((by rw [hg];exact (below_size (B_up HB.out)) : w.heap.size ≤ gb621));have GE621 := Mk ((by rw [hg];exact (below_size (B_up HB.out)) : w.heap.size ≤ gb621));replace HB := Mk (below_step (B_up HB.out) hb);clear hb hbox hg;obtain ⟨hcz4_0,hcz4_1,hcz4_2,hcz4_3⟩ := cz4 BK621.out;obtain ⟨hfz4_0,hfz4_1,hfz4_2,hfz4_3⟩ := fz4 BK621.out) | ((with_reducible refine gate_callee (f := 55) rfl ?_);refine goesL_ (some 6) rfl rfl Try.func55 (by kernel_rfl) rfl #[.int .i64 (l0_3.length : Int)] rfl eq_up ?_;(with_reducible refine (spec_FullSet.calls (l0_3.length : Int) t622 _ A2.out).mono ?_);rintro e w' ⟨rfl,⟨nd,rfl⟩⟩;refine ⟨_,rfl,?_⟩))
 go_ret
 exact ⟨err_,B_set HB.out⟩

end Go.Proofs.Ytdodnhjglpidlaa.PFnMansBent
