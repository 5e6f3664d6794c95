-- by a program of this session (a turned copy of the print: make with a capacity)
import Derived.Test.YtdkgcloempbgpaaMade1
import Derived.Test.YtdkgcloempbgpaaPFnExactPutManx0
import Derived.Test.YtdkgcloempbgpaaPFnExactPutManx8
namespace Go.Proofs.Ytdkgcloempbgpaa.PFnExactPutMan
open Go.RowKit Go.Proofs.YtdkgcloempbgpaaW.PrintWords Go.Proofs.YtdkgcloempbgpaaW.PrintLast Go.Proofs.YtdkgcloempbgpaaW.PrintMore
attribute [local go_sem] max2_int min2_int max_two min_two max_three min_three max_four min_four   -- for this text's walks alone
set_option linter.unusedVariables false
set_option linter.unusedSimpArgs false

/-! ### impl_PutMan: function 29 -/
def impl_PutMan.l0 : Nat → List Int → List (S66) → Int → Int → Option (List Int)
 | 0,_,_,_,_ => none
 | k + 1,x5,x24,x25,x26 => if x26 < x25 then (if 0 ≤ x26 then (if x26 < (x24.length : Int) then ((impl_appendVar.f k x5 ((rd_T66 x24 x26).f1)).bind fun t290 => (impl_PutMan.l0 k t290 x24 x25 (wrap64 (x26 + 1)))) else (none)) else (none)) else (some x5)
def impl_PutMan.f (k : Nat) (l0 : List Int) (a1_0 : Int) (a1_1 : Int) (a1_2 : Int) (l1_3 : List (S66)) : Option (List Int) := (impl_ManOk.f k a1_0 a1_1 a1_2 l1_3).bind fun t275 => (if t275 = true then ((impl_PutVar.f k l0 a1_0).bind fun t279 => ((impl_PutVar.f k t279 a1_1).bind fun t282 => ((impl_PutVar.f k t282 a1_2).bind fun t285 => (impl_PutMan.l0 k t285 l1_3 (l1_3.length : Int) 0)))) else ((impl_cloned.f l0).bind fun t276 => (some t276)))
theorem impl_PutMan.mono_l : ∀ k,(∀ y0 y1 y2 y3,LeO (impl_PutMan.l0 k y0 y1 y2 y3) (impl_PutMan.l0 (k + 1) y0 y1 y2 y3))
 | 0 => fun _ _ _ _ r h => by simp [impl_PutMan.l0] at h
 | k + 1 => by
  have ih0 := impl_PutMan.mono_l k
  ·intro y0 y1 y2 y3
   unfold impl_PutMan.l0
   repeat' first
   | (with_reducible exact ih0 _ _ _ _)
   | (with_reducible exact impl_ManOk.mono _ _ _ _ _)
   | (with_reducible exact impl_PutVar.mono _ _ _)
   | (with_reducible exact impl_appendVar.mono _ _ _)
   | (with_reducible exact LeO.refl _)
   | (with_reducible exact LeO.none _)
   | (with_reducible refine LeO.ite ?_ ?_)
   | (with_reducible refine LeO.bind ?_ (fun _ => ?_))
   | exact ih0 _ _ _ _
   | exact impl_ManOk.mono _ _ _ _ _
   | exact impl_PutVar.mono _ _ _
   | exact impl_appendVar.mono _ _ _
   | exact LeO.none _
   | refine LeO.ite ?_ ?_
   | refine LeO.bind ?_ (fun _ => ?_)
theorem impl_PutMan.mono : ∀ a0 a1 a2 a3 a4 k,LeO (impl_PutMan.f k a0 a1 a2 a3 a4) (impl_PutMan.f (k + 1) a0 a1 a2 a3 a4) := by
 intro a0 a1 a2 a3 a4 k
 have ih0 := impl_PutMan.mono_l k
 unfold impl_PutMan.f
 repeat' first
   | (with_reducible exact ih0 _ _ _ _)
   | (with_reducible exact impl_ManOk.mono _ _ _ _ _)
   | (with_reducible exact impl_PutVar.mono _ _ _)
   | (with_reducible exact impl_appendVar.mono _ _ _)
   | (with_reducible exact LeO.refl _)
   | (with_reducible exact LeO.none _)
   | (with_reducible refine LeO.ite ?_ ?_)
   | (with_reducible refine LeO.bind ?_ (fun _ => ?_))
   | exact ih0 _ _ _ _
   | exact impl_ManOk.mono _ _ _ _ _
   | exact impl_PutVar.mono _ _ _
   | exact impl_appendVar.mono _ _ _
   | exact LeO.none _
   | refine LeO.ite ?_ ?_
   | refine LeO.bind ?_ (fun _ => ?_)
def impl_PutMan.T3 : Bool × List (List Nat × List Nat) := (true,[([],[]),([],[]),([1],[1]),([0,2],[0,2]),([],[]),([4],[4]),([3,5,3],[3,5]),([],[]),([7],[7]),([6,8,6],[6,8]),([9,9,0,1,2,3,4,5,6,7,8,9],[9])])
def impl_PutMan.B3 : List Nat := [0,0,2,7,0,16,63,0,128,511,1023]
theorem impl_PutMan.tab3 : rtab .any (opsOf Try.f29 3) = impl_PutMan.T3 := by kernel_rfl
theorem impl_PutMan.bits3 : waitsOk impl_PutMan.T3.2 impl_PutMan.B3 = true := by kernel_rfl
set_option maxHeartbeats 8000000 in
set_option maxRecDepth 100000 in
theorem impl_PutMan.calls (k : Nat) (A0 : Option Addr) (c0 : Nat) (l0 : List Int) (a1_0 : Int) (a1_1 : Int) (a1_2 : Int) (A1_3 : Option Addr) (c1_3 : Nat) (l1_3 : List (S66)) (r : List Int) (w : World) (hr0 : Kd.C (Kd.int .u8) w A0 l0.length l0) (hc0 : l0.length ≤ c0) (hr1_3 : Kd.C k66 w A1_3 l1_3.length l1_3) (hc1_3 : l1_3.length ≤ c1_3) (h : impl_PutMan.f k l0 a1_0 a1_1 a1_2 l1_3 = some r) :
  Calls Try.prog 29 #[.slice A0 l0.length c0,.agg #[.int .i64 a1_0,.int .i64 a1_1,.int .i64 a1_2,.slice A1_3 l1_3.length c1_3]] w fun e w' => ∃ v0_ : Value,e = .returned (v0_) ∧ Kd.R (Kd.int .u8) 5 w' w.heap.size (fun _ => True) v0_ r ∧ Below w.heap.size w w' := by
 have hu31 := Try.underlying31
 have hu66 := Try.underlying66
 have hf66_0 : ∀ (a_ b_ : Int) (W_ : World),(Instr.field 66 (.agg #[.int .i64 a_,.int .i64 b_]) 0).run Try.prog W_ = .ok (.int .i64 a_) W_ := fun _ _ _ => by kernel_rfl
 have hf66_1 : ∀ (a_ b_ : Int) (W_ : World),(Instr.field 66 (.agg #[.int .i64 a_,.int .i64 b_]) 1).run Try.prog W_ = .ok (.int .i64 b_) W_ := fun _ _ _ => by kernel_rfl
 have HR0 := Aside0.mk hr0
 have HC0 := Aside0.mk hc0
 clear hr0 hc0
 have HR1_3 := Aside0.mk hr1_3
 have HC1_3 := Aside0.mk hc1_3
 clear hr1_3 hc1_3
 have HB := Aside0.mk (Below.refl w.heap.size w)
 have H : ((impl_ManOk.f k a1_0 a1_1 a1_2 l1_3).bind fun t275 => (if t275 = true then ((impl_PutVar.f k l0 a1_0).bind fun t279 => ((impl_PutVar.f k t279 a1_1).bind fun t282 => ((impl_PutVar.f k t282 a1_2).bind fun t285 => (impl_PutMan.l0 k t285 l1_3 (l1_3.length : Int) 0)))) else ((impl_cloned.f l0).bind fun t276 => (some t276)))) = some r := h
 clear h
 replace H := Option.bind_eq_some_iff.mp H
 obtain ⟨t275,A30,H⟩ := H
 (try dsimp only at H)
 have A3 := Aside0.mk A30
 clear A30
 by_cases c4 : t275 = true
 ·subst c4
  rw [if_pos rfl] at H
  replace H := Option.bind_eq_some_iff.mp H
  obtain ⟨t279,A50,H⟩ := H
  (try dsimp only at H)
  have A5 := Aside0.mk A50
  clear A50
  replace H := Option.bind_eq_some_iff.mp H
  obtain ⟨t282,A60,H⟩ := H
  (try dsimp only at H)
  have A6 := Aside0.mk A60
  clear A60
  replace H := Option.bind_eq_some_iff.mp H
  obtain ⟨t285,A70,H⟩ := H
  replace H : (impl_PutMan.l0 k t285 l1_3 (l1_3.length : Int) 0) = some r := H
  have A7 := Aside0.mk A70
  clear A70
  have H' := Aside0.mk H
  clear H
  go_enter Try.func29,Try.ntmps29
  try go_wp2_with (first | ((with_reducible refine gate_dst (N := 3) rfl ?_);refine box_event ?hg (N := 3) ?hd (cs := #[.int .i64 a1_0,.int .i64 a1_1,.int .i64 a1_2,.slice A1_3 l1_3.length c1_3]) (t := 31) ?hr ?_;(case hd => rfl);(case hg => rfl);(case hr => first | (go_simp;done) | (go_simp;rfl));intro gb274 hg w8 hbox hb;have n0_ := Aside0.mk (below_step (B_up HB.out) hb);have n1_ := Aside0.mk (hbox);have n2_ := Aside0.mk ((by rw [hg];exact (below_size (B_up HB.out)) : w.heap.size ≤ gb274));have n3_ := Aside0.mk ((by rw [hg];exact (below_size (B_up HB.out)) : w.heap.size ≤ gb274));clear HB;have HB := n0_;have BK274 := n1_;have GW274 := n2_;have GE274 := n3_;clear n0_ n1_ n2_ n3_;clear hb hbox hg;have hcz9_0 : w8.cell? ⟨gb274,0,none⟩ = some (.int .i64 a1_0) := (blk_cell BK274.out 0).trans rfl;have hcz9_1 : w8.cell? ⟨gb274,1,none⟩ = some (.int .i64 a1_1) := (blk_cell BK274.out 1).trans rfl;have hcz9_2 : w8.cell? ⟨gb274,2,none⟩ = some (.int .i64 a1_2) := (blk_cell BK274.out 2).trans rfl;have hcz9_3 : w8.cell? ⟨gb274,3,none⟩ = some (.slice A1_3 l1_3.length c1_3) := (blk_cell BK274.out 3).trans rfl;have hfz9_0 := blk_frozen BK274.out 0;have hfz9_1 := blk_frozen BK274.out 1;have hfz9_2 := blk_frozen BK274.out 2;have hfz9_3 := blk_frozen BK274.out 3) | ((with_reducible refine gate_callee (f := 43) rfl ?_);refine goesL_ (some 9) rfl rfl Try.func43 (by kernel_rfl) rfl #[.agg #[.int .i64 a1_0,.int .i64 a1_1,.int .i64 a1_2,.slice A1_3 l1_3.length c1_3]] rfl eq_up ?_;(with_reducible refine (impl_ManOk.calls k a1_0 a1_1 a1_2 _ _ l1_3 true _ ?side1 ?side2 A3.out).mono ?_);(case side1 => repeat (first | exact (Kd.C_below HR1_3.out HB.out) | (with_reducible refine Kd.C_alloc ?_ _) | (with_reducible refine Kd.C_drewN ?_ _) | (with_reducible refine Kd.C_drew ?_)));(case side2 => exact HC1_3.out);rintro e w10 ⟨rfl,hb⟩;refine ⟨_,rfl,?_⟩;have n0_ := Aside0.mk (blk_below (g := gb274) (o := .cells #[.int .i64 a1_0,.int .i64 a1_1,.int .i64 a1_2,.slice A1_3 l1_3.length c1_3] 31 (0,0)) (blk_up BK274.out) hb);have n1_ := Aside0.mk (below_step (B_set HB.out) hb);clear BK274;clear HB;have BK274 := n0_;have HB := n1_;clear n0_ n1_;(try clear hb);(try clear hb2);(try clear hk);(try clear hi)))
  have n0_ := Aside0.mk (blk_drew BK274.out)
  have n1_ := Aside0.mk (below_drew1 HB.out)
  clear BK274
  clear HB
  have BK274 := n0_
  have HB := n1_
  clear n0_ n1_
  refine start_ (n := 11) (S := fun w' => w'.cell? ⟨gb274,0,none⟩ = some (.int .i64 a1_0) ∧ w'.cell? ⟨gb274,1,none⟩ = some (.int .i64 a1_1) ∧ w'.cell? ⟨gb274,2,none⟩ = some (.int .i64 a1_2) ∧ w'.cell? ⟨gb274,3,none⟩ = some (.slice A1_3 l1_3.length c1_3)) (ds := []) #[false,false,false,false,false,false,false,false,false,false,false] (by kernel_rfl) rfl rfl ⟨(blk_cell BK274.out 0).trans rfl,(blk_cell BK274.out 1).trans rfl,(blk_cell BK274.out 2).trans rfl,(blk_cell BK274.out 3).trans rfl⟩ (fun hHeld => ?_);refine with_tabW impl_PutMan.tab3 impl_PutMan.bits3 (fun HT_ HW_ => ?_)
  generalize w10.drew = w11 at BK274 HB hHeld ⊢
  refine pure_ (i := 0) (N := some 13) (v := ?_) (a' := ?_) #[true,false,false,false,false,false,false,false,false,false,false] rfl rfl (any_of HT_.out (by kernel_rfl)) (fun _ _ _ h => h) (Or.inl ⟨by rfl,?_⟩) ?_ ?_
  rotate_left
  ·intro w'
   go_simp
   with_reducible rfl
  rotate_left
  ·simp only [Act.put,List.setIfInBounds_toArray,List.set_cons_zero,List.set_cons_succ,i64_w,i32_w]
   rfl
  refine pure_ (i := 1) (N := some 14) (v := ?_) (a' := ?_) #[true,true,false,false,false,false,false,false,false,false,false] rfl rfl (any_of HT_.out (by kernel_rfl)) (fun _ _ _ h => h) (Or.inl ⟨by rfl,?_⟩) ?_ ?_
  rotate_left
  ·intro w'
   go_simp
   with_reducible rfl
  rotate_left
  ·simp only [Act.put,List.setIfInBounds_toArray,List.set_cons_zero,List.set_cons_succ,i64_w,i32_w]
   rfl
  refine pure_ (i := 4) (N := some 17) (v := ?_) (a' := ?_) #[true,true,false,false,true,false,false,false,false,false,false] rfl rfl (any_of HT_.out (by kernel_rfl)) (fun _ _ _ h => h) (Or.inl ⟨by rfl,?_⟩) ?_ ?_
  rotate_left
  ·intro w'
   go_simp
   with_reducible rfl
  rotate_left
  ·simp only [Act.put,List.setIfInBounds_toArray,List.set_cons_zero,List.set_cons_succ,i64_w,i32_w]
   rfl
  refine pure_ (i := 7) (N := some 20) (v := ?_) (a' := ?_) #[true,true,false,false,true,false,false,true,false,false,false] rfl rfl (any_of HT_.out (by kernel_rfl)) (fun _ _ _ h => h) (Or.inl ⟨by rfl,?_⟩) ?_ ?_
  rotate_left
  ·intro w'
   go_simp
   with_reducible rfl
  rotate_left
  ·simp only [Act.put,List.setIfInBounds_toArray,List.set_cons_zero,List.set_cons_succ,i64_w,i32_w]
   rfl
  refine take_ (i := 2) (N := some 15) (v := ?_) (a' := ?_) #[true,true,true,false,true,false,false,true,false,false,false] rfl rfl (take_ofW HT_.out HW_.out (by kernel_rfl)) (fun _ _ _ h => h) (Or.inl ⟨by rfl,?_⟩) hHeld ?_ ?_
  rotate_left
  ·rintro w' ⟨s0,s1,s2,s3⟩
   go_simp
   with_reducible rfl
  rotate_left
  ·simp only [Act.put,List.setIfInBounds_toArray,List.set_cons_zero,List.set_cons_succ,i64_w,i32_w]
   rfl
  refine take_ (i := 5) (N := some 18) (v := ?_) (a' := ?_) #[true,true,true,false,true,true,false,true,false,false,false] rfl rfl (take_ofW HT_.out HW_.out (by kernel_rfl)) (fun _ _ _ h => h) (Or.inl ⟨by rfl,?_⟩) hHeld ?_ ?_
  rotate_left
  ·rintro w' ⟨s0,s1,s2,s3⟩
   go_simp
   with_reducible rfl
  rotate_left
  ·simp only [Act.put,List.setIfInBounds_toArray,List.set_cons_zero,List.set_cons_succ,i64_w,i32_w]
   rfl
  refine take_ (i := 8) (N := some 21) (v := ?_) (a' := ?_) #[true,true,true,false,true,true,false,true,true,false,false] rfl rfl (take_ofW HT_.out HW_.out (by kernel_rfl)) (fun _ _ _ h => h) (Or.inl ⟨by rfl,?_⟩) hHeld ?_ ?_
  rotate_left
  ·rintro w' ⟨s0,s1,s2,s3⟩
   go_simp
   with_reducible rfl
  rotate_left
  ·simp only [Act.put,List.setIfInBounds_toArray,List.set_cons_zero,List.set_cons_succ,i64_w,i32_w]
   rfl
  refine one_ (i := 3) (N := some 16) #[true,true,true,true,true,true,false,true,true,false,false] rfl rfl (one_of HT_.out (by kernel_rfl)) (by decide) (fun K hK => ?_)
  refine goes_ Try.func66 (by kernel_rfl) rfl #[.slice A0 l0.length c0,.int .i64 a1_0] (by rfl) rfl rfl eq_up ?_
  with_reducible refine (impl_PutVar.calls k _ _ l0 a1_0 t279 _ ?side1 ?side2 A5.out).mono ?_
  (case side1 => repeat (first | exact (Kd.C_below HR0.out HB.out) | (with_reducible refine Kd.C_alloc ?_ _) | (with_reducible refine Kd.C_drewN ?_ _) | (with_reducible refine Kd.C_drew ?_)))
  (case side2 => exact HC0.out)
  rintro e w12 ⟨v280,rfl,ho0,hb⟩
  refine ⟨_,rfl,?_⟩
  have n0_ := Aside0.mk (Kd.R_lower ho0 (below_size (B_set HB.out)))
  have n1_ := Aside0.mk (blk_below (g := gb274) (o := .cells #[.int .i64 a1_0,.int .i64 a1_1,.int .i64 a1_2,.slice A1_3 l1_3.length c1_3] 31 (0,0)) (blk_up BK274.out) hb)
  have n2_ := Aside0.mk (below_step (B_set HB.out) hb)
  clear BK274
  clear HB
  have HO281 := n0_
  have BK274 := n1_
  have HB := n2_
  clear n0_ n1_ n2_
  (try clear hb)
  (try clear hb2)
  (try clear hk)
  (try clear hi)
  (try clear ho0)
  obtain ⟨Ao13,co13,eo13⟩ := Kd.R_slice HO281.out
  (first | subst eo13 | (injection eo13 with f1_ f2_ f3_;have f4_ := f1_.symm;have f5_ := f3_.symm;clear f1_ f2_ f3_;subst f4_;subst f5_))
  refine hK.out _ _ ⟨(blk_cell BK274.out 0).trans rfl,(blk_cell BK274.out 1).trans rfl,(blk_cell BK274.out 2).trans rfl,(blk_cell BK274.out 3).trans rfl⟩ (fun hHeld => ?_)
  clear hK K
  refine norm_ (a' := ?_) ?_ ?_
  rotate_left
  ·show Act.put _ (some 16) _ = _
   simp only [Act.put,List.setIfInBounds_toArray,List.set_cons_zero,List.set_cons_succ,i64_w,i32_w]
   rfl
  refine one_ (i := 6) (N := some 19) #[true,true,true,true,true,true,true,true,true,false,false] rfl rfl (one_of HT_.out (by kernel_rfl)) (by decide) (fun K hK => ?_)
  refine goes_ Try.func66 (by kernel_rfl) rfl #[.slice Ao13 t279.length co13,.int .i64 a1_1] (by rfl) rfl rfl eq_up ?_
  with_reducible refine (impl_PutVar.calls k _ _ t279 a1_1 t282 _ ?side1 ?side2 A6.out).mono ?_
  (case side1 => exact Kd.C_up (Kd.R_reads' HO281.out).2.2)
  (case side2 => exact (Kd.R_reads' HO281.out).2.1)
  rintro e w14 ⟨v283,rfl,ho0,hb⟩
  refine ⟨_,rfl,?_⟩
  have n0_ := Aside0.mk (Kd.R_elder' (Kd.R_up HO281.out) (Kd.R_base ho0) hb)
  have n1_ := Aside0.mk (Kd.R_lower (Kd.R_new' ho0 (Kd.R_lt (Kd.R_up HO281.out))) (below_size (B_set HB.out)))
  have n2_ := Aside0.mk (blk_below (g := gb274) (o := .cells #[.int .i64 a1_0,.int .i64 a1_1,.int .i64 a1_2,.slice A1_3 l1_3.length c1_3] 31 (0,0)) (blk_up BK274.out) hb)
  have n3_ := Aside0.mk (below_step (B_set HB.out) hb)
  clear HO281
  clear BK274
  clear HB
  have HO281 := n0_
  have HO284 := n1_
  have BK274 := n2_
  have HB := n3_
  clear n0_ n1_ n2_ n3_
  (try clear hb)
  (try clear hb2)
  (try clear hk)
  (try clear hi)
  (try clear ho0)
  obtain ⟨Ao15,co15,eo15⟩ := Kd.R_slice HO284.out
  (first | subst eo15 | (injection eo15 with f1_ f2_ f3_;have f4_ := f1_.symm;have f5_ := f3_.symm;clear f1_ f2_ f3_;subst f4_;subst f5_))
  refine hK.out _ _ ⟨(blk_cell BK274.out 0).trans rfl,(blk_cell BK274.out 1).trans rfl,(blk_cell BK274.out 2).trans rfl,(blk_cell BK274.out 3).trans rfl⟩ (fun hHeld => ?_)
  clear hK K
  refine norm_ (a' := ?_) ?_ ?_
  rotate_left
  ·show Act.put _ (some 19) _ = _
   simp only [Act.put,List.setIfInBounds_toArray,List.set_cons_zero,List.set_cons_succ,i64_w,i32_w]
   rfl
  refine one_ (i := 9) (N := some 22) #[true,true,true,true,true,true,true,true,true,true,false] rfl rfl (one_of HT_.out (by kernel_rfl)) (by decide) (fun K hK => ?_)
  refine goes_ Try.func66 (by kernel_rfl) rfl #[.slice Ao15 t282.length co15,.int .i64 a1_2] (by rfl) rfl rfl eq_up ?_
  with_reducible refine (impl_PutVar.calls k _ _ t282 a1_2 t285 _ ?side1 ?side2 A7.out).mono ?_
  (case side1 => exact Kd.C_up (Kd.R_reads' HO284.out).2.2)
  (case side2 => exact (Kd.R_reads' HO284.out).2.1)
  rintro e w16 ⟨v286,rfl,ho0,hb⟩
  refine ⟨_,rfl,?_⟩
  have n0_ := Aside0.mk (Kd.R_elder' (Kd.R_up HO281.out) (Kd.R_base ho0) hb)
  have n1_ := Aside0.mk (Kd.R_elder' (Kd.R_up HO284.out) (Kd.R_base ho0) hb)
  have n2_ := Aside0.mk (Kd.R_lower (Kd.R_new' (Kd.R_new' ho0 (Kd.R_lt (Kd.R_up HO281.out))) (Kd.R_lt (Kd.R_up HO284.out))) (below_size (B_set HB.out)))
  have n3_ := Aside0.mk (blk_below (g := gb274) (o := .cells #[.int .i64 a1_0,.int .i64 a1_1,.int .i64 a1_2,.slice A1_3 l1_3.length c1_3] 31 (0,0)) (blk_up BK274.out) hb)
  have n4_ := Aside0.mk (below_step (B_set HB.out) hb)
  clear HO281
  clear HO284
  clear BK274
  clear HB
  have HO281 := n0_
  have HO284 := n1_
  have HO287 := n2_
  have BK274 := n3_
  have HB := n4_
  clear n0_ n1_ n2_ n3_ n4_
  (try clear hb)
  (try clear hb2)
  (try clear hk)
  (try clear hi)
  (try clear ho0)
  refine hK.out _ _ ⟨(blk_cell BK274.out 0).trans rfl,(blk_cell BK274.out 1).trans rfl,(blk_cell BK274.out 2).trans rfl,(blk_cell BK274.out 3).trans rfl⟩ (fun hHeld => ?_)
  clear hK K
  refine norm_ (a' := ?_) ?_ ?_
  rotate_left
  ·show Act.put _ (some 22) _ = _
   simp only [Act.put,List.setIfInBounds_toArray,List.set_cons_zero,List.set_cons_succ,i64_w,i32_w]
   rfl
  refine pure_ (i := 10) (N := some 5) (v := ?_) (a' := ?_) #[true,true,true,true,true,true,true,true,true,true,true] rfl rfl (any_of HT_.out (by kernel_rfl)) (fun _ _ _ h => h) (Or.inl ⟨by rfl,?_⟩) ?_ ?_
  rotate_left
  ·intro w'
   go_simp
   with_reducible rfl
  rotate_left
  ·simp only [Act.put,List.setIfInBounds_toArray,List.set_cons_zero,List.set_cons_succ,i64_w,i32_w]
   rfl
  refine done_ (done_of HT_.out (by kernel_rfl)) ?_
  have hcz17_0 : w16.cell? ⟨gb274,0,none⟩ = some (.int .i64 a1_0) := (blk_cell BK274.out 0).trans rfl
  have hcz17_1 : w16.cell? ⟨gb274,1,none⟩ = some (.int .i64 a1_1) := (blk_cell BK274.out 1).trans rfl
  have hcz17_2 : w16.cell? ⟨gb274,2,none⟩ = some (.int .i64 a1_2) := (blk_cell BK274.out 2).trans rfl
  have hcz17_3 : w16.cell? ⟨gb274,3,none⟩ = some (.slice A1_3 l1_3.length c1_3) := (blk_cell BK274.out 3).trans rfl
  have hfz17_0 := blk_frozen BK274.out 0
  have hfz17_1 := blk_frozen BK274.out 1
  have hfz17_2 := blk_frozen BK274.out 2
  have hfz17_3 := blk_frozen BK274.out 3
  try go_wp2
  go_loopg [5,26] k (fun kq v5 v26 w' => ∃ (x5_1 : List Int) (x26_1 : Int),v26 = .int .i64 x26_1 ∧ Aside0 (impl_PutMan.l0 kq x5_1 l1_3 (l1_3.length : Int) x26_1 = some r) ∧ Aside0 (kq ≤ k) ∧ Aside0 (Kd.R (Kd.int .u8) 5 w' w.heap.size (fun _ => True) v5 x5_1) ∧ Aside0 (w'.heap[gb274]? = some (.cells #[.int .i64 a1_0,.int .i64 a1_1,.int .i64 a1_2,(.slice A1_3 l1_3.length c1_3)] 31 (0,0))) ∧ Aside0 (Below w.heap.size w w'))
  case atStart => exact ⟨(t285),(0),(by first | rfl | (simp;done) | (simp [*];done)),H',⟨Nat.le_refl _⟩,⟨by (with_reducible repeat (first | apply Kd.R_alloc | apply Kd.R_drewN | apply Kd.R_drew));exact Kd.R_mono HO287.out (fun _ hk => trivial)⟩,⟨by (with_reducible repeat (first | refine blk_drewN ?_ _ | refine blk_drew ?_ | refine blk_alloc ?_ _));exact BK274.out⟩,⟨by repeat (first | (with_reducible first | exact HB.out | apply below_alloc | apply pw_below_drewN | apply below_drew1 | refine below_set ?_ GE274.out) | exact HB.out)⟩⟩
  case round =>
   clear H'
   try clear c1
   try clear c2
   try clear p2
   try clear c4
   try clear c6
   try clear hcz17_0
   try clear hcz17_1
   try clear hcz17_2
   try clear hcz17_3
   try clear hcz9_0
   try clear hcz9_1
   try clear hcz9_2
   try clear hcz9_3
   try clear hfz17_0
   try clear hfz17_1
   try clear hfz17_2
   try clear hfz17_3
   try clear hfz9_0
   try clear hfz9_1
   try clear hfz9_2
   try clear hfz9_3
   obtain ⟨x5_1,x26_1,rfl,HA,HK1,HO_5,BK274,HB⟩ := hrel
   cases gk with
   | zero => exact absurd HA.out (by simp [impl_PutMan.l0])
   | succ k1 =>
    have H := HA.out
    clear HA
    simp only [impl_PutMan.l0] at H
    by_cases c18 : x26_1 < (l1_3.length : Int)
    ·rw [if_pos c18] at H
     have c18b0 : decide (x26_1 < (l1_3.length : Int)) = true := decide_eq_true c18
     clear c18
     by_cases c19 : 0 ≤ x26_1
     ·rw [if_pos c19] at H
      have c19b0 : decide (0 ≤ x26_1) = true := decide_eq_true c19
      clear c19
      by_cases c20 : x26_1 < (l1_3.length : Int)
      ·rw [if_pos c20] at H
       have c20b0 : decide (x26_1 < (l1_3.length : Int)) = true := decide_eq_true c20
       clear c20
       replace H := Option.bind_eq_some_iff.mp H
       obtain ⟨t290,A210,H⟩ := H
       replace H : (impl_PutMan.l0 k1 t290 l1_3 (l1_3.length : Int) (wrap64 (x26_1 + 1))) = some r := H
       have A21 := Aside0.mk A210
       clear A210
       have H' := Aside0.mk H
       clear H
       have p288 : 0 ≤ (x26_1 : Int) := of_decide_eq_true (by first | (with_reducible assumption) | assumption)
       have q288 : x26_1 < (l1_3.length : Int) := of_decide_eq_true (by first | (with_reducible assumption) | assumption)
       obtain ⟨ad288,e288,hx288_0,hx288_1⟩ := at_T66 HR1_3.out x26_1 p288 q288
       cases e288
       replace hx288_0 := (HB.out.cell (World.block_lt_of_cell? w _ hx288_0)).trans hx288_0
       replace hx288_1 := (HB.out.cell (World.block_lt_of_cell? w _ hx288_1)).trans hx288_1
       replace p288 := eq_true p288
       replace q288 := eq_true q288
       go_wp2_with (first | ((with_reducible refine gate_dst (N := 7) rfl ?_);refine box_event ?hg (N := 7) ?hd (cs := #[.int .i64 0,.int .i64 0]) (t := 66) ?hr ?_;(case hd => rfl);(case hg => rfl);(case hr => first | (go_simp;done) | (go_simp;rfl));intro gb289 hg w22 hbox hb;have n0_ := Aside0.mk (Kd.R_below (Kd.R_up HO_5.out) hb);have n1_ := Aside0.mk (blk_below (g := gb274) (o := .cells #[.int .i64 a1_0,.int .i64 a1_1,.int .i64 a1_2,.slice (some ad288) l1_3.length c1_3] 31 (0,0)) (blk_up BK274.out) hb);have n2_ := Aside0.mk (below_step (B_set HB.out) hb);have n3_ := Aside0.mk (hbox);have n4_ := Aside0.mk ((by rw [hg];exact (below_size (B_set HB.out)) : w.heap.size ≤ gb289));have n5_ := Aside0.mk ((by rw [hg];exact (below_size (B_set HB.out)) : w.heap.size ≤ gb289));have n6_ := Aside0.mk ((by rw [hg];exact Nat.ne_of_lt (blk_lt (g := gb274) (o := .cells #[.int .i64 a1_0,.int .i64 a1_1,.int .i64 a1_2,.slice (some ad288) l1_3.length c1_3] 31 (0,0)) (blk_up BK274.out)) : gb274 ≠ gb289));have n7_ := Aside0.mk ((by rw [hg];exact Nat.ne_of_gt (blk_lt (g := gb274) (o := .cells #[.int .i64 a1_0,.int .i64 a1_1,.int .i64 a1_2,.slice (some ad288) l1_3.length c1_3] 31 (0,0)) (blk_up BK274.out)) : gb289 ≠ gb274));clear HO_5;clear BK274;clear HB;have HO_5 := n0_;have BK274 := n1_;have HB := n2_;have BK289 := n3_;have GW289 := n4_;have GE289 := n5_;have NB274_289 := n6_;have NB289_274 := n7_;clear n0_ n1_ n2_ n3_ n4_ n5_ n6_ n7_;clear hb hbox hg;have hnb23 := NB289_274.out;have hnc23 := NB274_289.out;have hcz24_0 : w22.cell? ⟨gb289,0,none⟩ = some (.int .i64 0) := (blk_cell BK289.out 0).trans rfl;have hcz24_1 : w22.cell? ⟨gb289,1,none⟩ = some (.int .i64 0) := (blk_cell BK289.out 1).trans rfl;have hfz24_0 := blk_frozen BK289.out 0;have hfz24_1 := blk_frozen BK289.out 1) | ((with_reducible refine gate_store (t := 66) (p := 7) rfl ?_);refine store_event (t := 66) (p := 7) (v := ?vo_w25) (w1 := ((w22.setCell ⟨gb289,0,none⟩ (.int .i64 ((rd_T66 l1_3 x26_1).f0))).setCell ⟨gb289,1,none⟩ (.int .i64 ((rd_T66 l1_3 x26_1).f1)))) ?hg ?ho ?hn ?hr ?_;(case ho => rfl);(case hg => rfl);(case hn => rfl);(case hr => first | (go_simp;done) | (go_simp;rfl));intro w25 hw;have n0_ : Aside0 (Kd.R (Kd.int .u8) 5 w25 w.heap.size (fun _ => True) u5 x5_1) := ⟨(by rw [hw];exact (by (with_reducible repeat (first | apply Kd.R_alloc | apply Kd.R_drewN | apply Kd.R_drew));exact Kd.R_mono (Kd.R_far (p := ⟨gb289,1,none⟩) (Kd.R_far (p := ⟨gb289,0,none⟩) (Kd.R_types HO_5.out BK289.out (by decide)) (fun _ hk => hk.2) (.int .i64 ((rd_T66 l1_3 x26_1).f0))) (fun _ hk => hk.2) (.int .i64 ((rd_T66 l1_3 x26_1).f1))) (fun _ hk => trivial)))⟩;have n1_ : Aside0 (w25.heap[gb274]? = some (.cells #[.int .i64 a1_0,.int .i64 a1_1,.int .i64 a1_2,.slice (some ad288) l1_3.length c1_3] 31 (0,0))) := ⟨(by rw [hw];exact (by (with_reducible repeat (first | refine blk_drewN ?_ _ | refine blk_drew ?_ | refine blk_alloc ?_ _));refine blk_far ?_ NB274_289.out _;(with_reducible repeat (first | refine blk_drewN ?_ _ | refine blk_drew ?_ | refine blk_alloc ?_ _));refine blk_far ?_ NB274_289.out _;(with_reducible repeat (first | refine blk_drewN ?_ _ | refine blk_drew ?_ | refine blk_alloc ?_ _));exact BK274.out))⟩;have n2_ : Aside0 (w25.heap[gb289]? = some (.cells #[.int .i64 ((rd_T66 l1_3 x26_1).f0),.int .i64 ((rd_T66 l1_3 x26_1).f1)] 66 (0,0))) := ⟨(by rw [hw];exact (by (with_reducible repeat (first | refine blk_drewN ?_ _ | refine blk_drew ?_ | refine blk_alloc ?_ _));refine blk_put (cs := #[.int .i64 ((rd_T66 l1_3 x26_1).f0),.int .i64 0]) ?_ 1 _ rfl;(with_reducible repeat (first | refine blk_drewN ?_ _ | refine blk_drew ?_ | refine blk_alloc ?_ _));refine blk_put (cs := #[.int .i64 0,.int .i64 0]) ?_ 0 _ rfl;(with_reducible repeat (first | refine blk_drewN ?_ _ | refine blk_drew ?_ | refine blk_alloc ?_ _));exact BK289.out))⟩;have n3_ : Aside0 (Below w.heap.size w w25) := ⟨(by rw [hw];exact (B_set HB.out))⟩;clear hw;clear HO_5;clear BK274;clear BK289;clear HB;have HO_5 := n0_;have BK274 := n1_;have BK289 := n2_;have HB := n3_;clear n0_ n1_ n2_ n3_;have hcz26_0 : w25.cell? ⟨gb289,0,none⟩ = some (.int .i64 ((rd_T66 l1_3 x26_1).f0)) := (blk_cell BK289.out 0).trans rfl;have hcz26_1 : w25.cell? ⟨gb289,1,none⟩ = some (.int .i64 ((rd_T66 l1_3 x26_1).f1)) := (blk_cell BK289.out 1).trans rfl;have hfz26_0 := blk_frozen BK289.out 0;have hfz26_1 := blk_frozen BK289.out 1;obtain ⟨Ao27,co27,eo27⟩ := Kd.R_slice HO_5.out;subst eo27) | ((with_reducible refine gate_callee (f := 67) rfl ?_);refine goesL_ (some 33) rfl rfl Try.func67 (by kernel_rfl) rfl #[.slice Ao27 x5_1.length co27,.int .i64 ((rd_T66 l1_3 x26_1).f1)] rfl eq_up ?_;(with_reducible refine (impl_appendVar.calls k1 (fun k_ => some k_ = (.slice Ao27 x5_1.length co27 : Value).ownBlock) (.slice Ao27 x5_1.length co27) x5_1 ((rd_T66 l1_3 x26_1).f1) t290 w _ ?side1 ?side2 A21.out).mono ?_);(case side1 => repeat (first | (with_reducible first | exact HB.out | apply below_alloc | apply pw_below_drewN | apply below_drew1 | refine below_set ?_ GE274.out | refine below_set ?_ GE289.out) | exact HB.out));(case side2 => exact Kd.R_tight rfl HO_5.out);rintro e w28 ⟨v291,rfl,ho0,hb,hkp⟩;refine ⟨_,rfl,?_⟩;have n0_ := Aside0.mk (blk_kept (blk_up BK274.out) hkp (fun hs_ => (fun e_ => (Kd.R_ne HO_5.out BK274.out (by decide)) e_) hs_));have n1_ := Aside0.mk (blk_kept (blk_up BK289.out) hkp (fun hs_ => (fun e_ => (Kd.R_ne HO_5.out BK289.out (by decide)) e_) hs_));have n2_ := Aside0.mk (Kd.R_mono (ok' := fun k_ => True) ho0 (fun k_ hk_ => trivial));have n3_ := Aside0.mk (hb);clear BK274;clear BK289;clear HB;clear HO_5;have BK274 := n0_;have BK289 := n1_;have HO292 := n2_;have HB := n3_;clear n0_ n1_ n2_ n3_;(try clear hb);(try clear hkp);(try clear ho0)))
       go_roundg k1
       case measure => have := HK1.out;omega
       case rel => exact ⟨(t290),(wrap64 (x26_1 + 1)),(by first | rfl | (simp;done) | (simp [*];done)),H',⟨by have := HK1.out;omega⟩,⟨by (with_reducible repeat (first | apply Kd.R_alloc | apply Kd.R_drewN | apply Kd.R_drew));exact HO292.out⟩,⟨by (with_reducible repeat (first | refine blk_drewN ?_ _ | refine blk_drew ?_ | refine blk_alloc ?_ _));exact BK274.out⟩,⟨by repeat (first | (with_reducible first | exact HB.out | apply below_alloc | apply pw_below_drewN | apply below_drew1 | refine below_set ?_ GE274.out | refine below_set ?_ GE289.out) | exact HB.out)⟩⟩
      ·rw [if_neg c20] at H
       exact absurd H (by simp)
     ·rw [if_neg c19] at H
      exact absurd H (by simp)
    ·rw [if_neg c18] at H
     have c18b0 : decide (x26_1 < (l1_3.length : Int)) = false := decide_eq_false c18
     clear c18
     obtain rfl := Option.some.inj H
     go_wp2
     go_ret
     exact ⟨_,by first | rfl | (simp [errW_none,errW_some] <;> rfl) | (simp [*,errW_none,errW_some] <;> rfl),by (with_reducible repeat (first | apply Kd.R_alloc | apply Kd.R_drewN | apply Kd.R_drew));exact HO_5.out,by repeat (first | (with_reducible first | exact HB.out | apply below_alloc | apply pw_below_drewN | apply below_drew1 | refine below_set ?_ GE274.out) | exact HB.out)⟩
 ·replace c4 := Bool.eq_false_iff.mpr c4
  subst c4
  have H1 : ((impl_cloned.f l0).bind fun t276 => (some t276)) = some r := by rw [if_neg (show ¬ (false = true) by decide)] at H;exact H
  clear H
  have H := H1
  clear H1
  replace H := Option.bind_eq_some_iff.mp H
  obtain ⟨t276,A290,H⟩ := H
  replace H : (some t276) = some r := H
  have A29 := Aside0.mk A290
  clear A290
  obtain rfl := Option.some.inj H
  go_enter Try.func29,Try.ntmps29
  go_wp2_with (first | ((with_reducible refine gate_dst (N := 3) rfl ?_);refine box_event ?hg (N := 3) ?hd (cs := #[.int .i64 a1_0,.int .i64 a1_1,.int .i64 a1_2,.slice A1_3 l1_3.length c1_3]) (t := 31) ?hr ?_;(case hd => rfl);(case hg => rfl);(case hr => first | (go_simp;done) | (go_simp;rfl));intro gb274 hg w30 hbox hb;have n0_ := Aside0.mk (below_step (B_up HB.out) hb);have n1_ := Aside0.mk (hbox);have n2_ := Aside0.mk ((by rw [hg];exact (below_size (B_up HB.out)) : w.heap.size ≤ gb274));have n3_ := Aside0.mk ((by rw [hg];exact (below_size (B_up HB.out)) : w.heap.size ≤ gb274));clear HB;have HB := n0_;have BK274 := n1_;have GW274 := n2_;have GE274 := n3_;clear n0_ n1_ n2_ n3_;clear hb hbox hg;have hcz31_0 : w30.cell? ⟨gb274,0,none⟩ = some (.int .i64 a1_0) := (blk_cell BK274.out 0).trans rfl;have hcz31_1 : w30.cell? ⟨gb274,1,none⟩ = some (.int .i64 a1_1) := (blk_cell BK274.out 1).trans rfl;have hcz31_2 : w30.cell? ⟨gb274,2,none⟩ = some (.int .i64 a1_2) := (blk_cell BK274.out 2).trans rfl;have hcz31_3 : w30.cell? ⟨gb274,3,none⟩ = some (.slice A1_3 l1_3.length c1_3) := (blk_cell BK274.out 3).trans rfl;have hfz31_0 := blk_frozen BK274.out 0;have hfz31_1 := blk_frozen BK274.out 1;have hfz31_2 := blk_frozen BK274.out 2;have hfz31_3 := blk_frozen BK274.out 3) | ((with_reducible refine gate_callee (f := 43) rfl ?_);refine goesL_ (some 9) rfl rfl Try.func43 (by kernel_rfl) rfl #[.agg #[.int .i64 a1_0,.int .i64 a1_1,.int .i64 a1_2,.slice A1_3 l1_3.length c1_3]] rfl eq_up ?_;(with_reducible refine (impl_ManOk.calls k a1_0 a1_1 a1_2 _ _ l1_3 false _ ?side1 ?side2 A3.out).mono ?_);(case side1 => repeat (first | exact (Kd.C_below HR1_3.out HB.out) | (with_reducible refine Kd.C_alloc ?_ _) | (with_reducible refine Kd.C_drewN ?_ _) | (with_reducible refine Kd.C_drew ?_)));(case side2 => exact HC1_3.out);rintro e w32 ⟨rfl,hb⟩;refine ⟨_,rfl,?_⟩;have n0_ := Aside0.mk (blk_below (g := gb274) (o := .cells #[.int .i64 a1_0,.int .i64 a1_1,.int .i64 a1_2,.slice A1_3 l1_3.length c1_3] 31 (0,0)) (blk_up BK274.out) hb);have n1_ := Aside0.mk (below_step (B_set HB.out) hb);clear BK274;clear HB;have BK274 := n0_;have HB := n1_;clear n0_ n1_;(try clear hb);(try clear hb2);(try clear hk);(try clear hi)) | ((with_reducible refine gate_callee (f := 65) rfl ?_);refine goesL_ (some 12) rfl rfl Try.func65 (by kernel_rfl) rfl #[.slice A0 l0.length c0] rfl eq_up ?_;(with_reducible refine (impl_cloned.calls _ _ l0 t276 _ ?side1 ?side2 A29.out).mono ?_);(case side1 => repeat (first | exact (Kd.C_below HR0.out HB.out) | (with_reducible refine Kd.C_alloc ?_ _) | (with_reducible refine Kd.C_drewN ?_ _) | (with_reducible refine Kd.C_drew ?_)));(case side2 => exact HC0.out);rintro e w33 ⟨v277,rfl,ho0,hb⟩;refine ⟨_,rfl,?_⟩;have n0_ := Aside0.mk (Kd.R_lower ho0 (below_size (B_set HB.out)));have n1_ := Aside0.mk (blk_below (g := gb274) (o := .cells #[.int .i64 a1_0,.int .i64 a1_1,.int .i64 a1_2,.slice A1_3 l1_3.length c1_3] 31 (0,0)) (blk_up BK274.out) hb);have n2_ := Aside0.mk (below_step (B_set HB.out) hb);clear BK274;clear HB;have HO278 := n0_;have BK274 := n1_;have HB := n2_;clear n0_ n1_ n2_;(try clear hb);(try clear hb2);(try clear hk);(try clear hi);(try clear ho0)))
  go_ret
  exact ⟨_,by first | rfl | (simp [errW_none,errW_some] <;> rfl) | (simp [*,errW_none,errW_some] <;> rfl),by (with_reducible repeat (first | apply Kd.R_alloc | apply Kd.R_drewN | apply Kd.R_drew));exact HO278.out,by repeat (first | (with_reducible first | exact HB.out | apply below_alloc | apply pw_below_drewN | apply below_drew1 | refine below_set ?_ GE274.out) | exact HB.out)⟩

/-! ### laws_heldByteS: function 30 -/
def laws_heldByteS.l0 : Nat → List Int → Int → Int → Option (Int)
 | 0,_,_,_ => none
 | k + 1,x0,x1,x5 => if x5 < (x0.length : Int) then (if 0 ≤ x5 then (if (rd x0 x5) = ((x1) % 256) then (laws_heldByteS.l0 k x0 (wrap64 (x1 + 1)) (wrap64 (x5 + 1))) else (some (-1))) else (none)) else (some x1)
def laws_heldByteS.f (k : Nat) (l0 : List Int) (a1 : Int) : Option (Int) := laws_heldByteS.l0 k l0 a1 0
theorem laws_heldByteS.mono_l : ∀ k,(∀ y0 y1 y2,LeO (laws_heldByteS.l0 k y0 y1 y2) (laws_heldByteS.l0 (k + 1) y0 y1 y2))
 | 0 => fun _ _ _ r h => by simp [laws_heldByteS.l0] at h
 | k + 1 => by
  have ih0 := laws_heldByteS.mono_l k
  ·intro y0 y1 y2
   unfold laws_heldByteS.l0
   repeat' first
   | (with_reducible exact ih0 _ _ _)
   | (with_reducible exact LeO.refl _)
   | (with_reducible exact LeO.none _)
   | (with_reducible refine LeO.ite ?_ ?_)
   | (with_reducible refine LeO.bind ?_ (fun _ => ?_))
   | exact ih0 _ _ _
   | exact LeO.none _
   | refine LeO.ite ?_ ?_
   | refine LeO.bind ?_ (fun _ => ?_)
theorem laws_heldByteS.mono : ∀ a0 a1 k,LeO (laws_heldByteS.f k a0 a1) (laws_heldByteS.f (k + 1) a0 a1) := by
 intro a0 a1 k
 have ih0 := laws_heldByteS.mono_l k
 unfold laws_heldByteS.f
 repeat' first
   | (with_reducible exact ih0 _ _ _)
   | (with_reducible exact LeO.refl _)
   | (with_reducible exact LeO.none _)
   | (with_reducible refine LeO.ite ?_ ?_)
   | (with_reducible refine LeO.bind ?_ (fun _ => ?_))
   | exact ih0 _ _ _
   | exact LeO.none _
   | refine LeO.ite ?_ ?_
   | refine LeO.bind ?_ (fun _ => ?_)
set_option maxHeartbeats 8000000 in
set_option maxRecDepth 100000 in
theorem laws_heldByteS.calls (k : Nat) (A0 : Option Addr) (c0 : Nat) (l0 : List Int) (a1 : Int) (r : Int) (w : World) (hr0 : Kd.C (Kd.int .u8) w A0 l0.length l0) (hc0 : l0.length ≤ c0) (h : laws_heldByteS.f k l0 a1 = some r) :
  Calls Try.prog 30 #[.slice A0 l0.length c0,.int .i64 a1] w fun e w' => e = .returned (.int .i64 r) ∧ Drawn0 w w' := by
 have HR0 := Aside0.mk hr0
 have HC0 := Aside0.mk hc0
 clear hr0 hc0
 have H : (laws_heldByteS.l0 k l0 a1 0) = some r := h
 clear h
 have H' := Aside0.mk H
 clear H
 go_enter Try.func30,Try.ntmps30
 go_wp2
 go_loopg [1,5] k (fun kq v1 v5 w' => ∃ (x1_1 : Int) (x5_1 : Int),v1 = .int .i64 x1_1 ∧ v5 = .int .i64 x5_1 ∧ Aside0 (laws_heldByteS.l0 kq l0 x1_1 x5_1 = some r) ∧ Aside0 (kq ≤ k) ∧ Drawn0 w w')
 case atStart => exact ⟨(a1),(0),(by first | rfl | (simp;done) | (simp [*];done)),(by first | rfl | (simp;done) | (simp [*];done)),H',⟨Nat.le_refl _⟩,by repeat (first | exact Drawn0.refl _ | apply Drawn0.step)⟩
 case round =>
  clear H'
  try clear p2
  obtain ⟨x1_1,x5_1,rfl,rfl,HA,HK1,⟨m1,rfl⟩⟩ := hrel
  cases gk with
  | zero => exact absurd HA.out (by simp [laws_heldByteS.l0])
  | succ k1 =>
   have H := HA.out
   clear HA
   simp only [laws_heldByteS.l0] at H
   by_cases c3 : x5_1 < (l0.length : Int)
   ·rw [if_pos c3] at H
    have c3b0 : decide (x5_1 < (l0.length : Int)) = true := decide_eq_true c3
    clear c3
    by_cases c4 : 0 ≤ x5_1
    ·rw [if_pos c4] at H
     have c4b0 : decide (0 ≤ x5_1) = true := decide_eq_true c4
     clear c4
     by_cases c5 : (rd l0 x5_1) = ((x1_1) % 256)
     ·rw [if_pos c5] at H
      have c5b0 : ((rd l0 x5_1) == ((x1_1) % 256)) = true := beq_iff_eq.mpr c5
      have c5b1 : ((rd l0 x5_1) != ((x1_1) % 256)) = false := bne_eq_false_iff_eq.mpr c5
      clear c5
      have H' := Aside0.mk H
      clear H
      have p293 : 0 ≤ (x5_1 : Int) := of_decide_eq_true (by first | (with_reducible assumption) | assumption)
      have q293 : x5_1 < (l0.length : Int) := of_decide_eq_true (by first | (with_reducible assumption) | assumption)
      obtain ⟨ad293,e293,hx293_0⟩ := Kd.at_int HR0.out x5_1 p293 q293
      cases e293
      replace p293 := eq_true p293
      replace q293 := eq_true q293
      go_wp2
      go_roundg k1
      case measure => have := HK1.out;omega
      case rel => exact ⟨(wrap64 (x1_1 + 1)),(wrap64 (x5_1 + 1)),(by first | rfl | (simp;done) | (simp [*];done)),(by first | rfl | (simp;done) | (simp [*];done)),H',⟨by have := HK1.out;omega⟩,by repeat (first | exact Drawn0.refl _ | apply Drawn0.step)⟩
     ·rw [if_neg c5] at H
      have c5b0 : ((rd l0 x5_1) == ((x1_1) % 256)) = false := beq_eq_false_iff_ne.mpr c5
      have c5b1 : ((rd l0 x5_1) != ((x1_1) % 256)) = true := bne_iff_ne.mpr c5
      obtain rfl := Option.some.inj H
      have p293 : 0 ≤ (x5_1 : Int) := of_decide_eq_true (by first | (with_reducible assumption) | assumption)
      have q293 : x5_1 < (l0.length : Int) := of_decide_eq_true (by first | (with_reducible assumption) | assumption)
      obtain ⟨ad293,e293,hx293_0⟩ := Kd.at_int HR0.out x5_1 p293 q293
      cases e293
      replace p293 := eq_true p293
      replace q293 := eq_true q293
      go_wp2
      go_ret
      exact ⟨by first | rfl | (simp;done) | (simp [*];done),by repeat (first | exact Drawn0.refl _ | apply Drawn0.step)⟩
    ·rw [if_neg c4] at H
     exact absurd H (by simp)
   ·rw [if_neg c3] at H
    have c3b0 : decide (x5_1 < (l0.length : Int)) = false := decide_eq_false c3
    clear c3
    obtain rfl := Option.some.inj H
    go_wp2
    go_ret
    exact ⟨by first | rfl | (simp;done) | (simp [*];done),by repeat (first | exact Drawn0.refl _ | apply Drawn0.step)⟩

end Go.Proofs.Ytdkgcloempbgpaa.PFnExactPutMan
