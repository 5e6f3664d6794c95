-- by a program of this session (a turned copy of the print: make with a capacity)
import Derived.Test.YtdkgcloempbgpaaMade1
import Derived.Test.YtdkgcloempbgpaaPFnExactPutManx0
import Derived.Test.YtdkgcloempbgpaaPFnExactPutManx2
import Derived.Test.YtdkgcloempbgpaaPFnExactPutManx3
import Derived.Test.YtdkgcloempbgpaaPFnExactPutManx6
import Derived.Test.YtdkgcloempbgpaaPFnExactPutManx9
namespace Go.Proofs.Ytdkgcloempbgpaa.PFnExactPutMan
open Go.RowKit Go.Proofs.YtdkgcloempbgpaaW.PrintWords Go.Proofs.YtdkgcloempbgpaaW.PrintLast Go.Proofs.YtdkgcloempbgpaaW.PrintMore
attribute [local go_sem] max2_int min2_int max_two min_two max_three min_three max_four min_four   -- for this text's walks alone
set_option linter.unusedVariables false
set_option linter.unusedSimpArgs false

/-! ### laws_FnExactPutMan: function 7 -/
def laws_FnExactPutMan.j0 : Nat → List Int → List Int → List Int → Bool → Int → Int → Int → List (S95) → Option (Bool)
 | 0,_,_,_,_,_,_,_,_ => none
 | k + 1,x0,x6,x9,x61,x295000,x295001,x295002,x295003 => if x61 = true then (some false) else ((laws_markByteS.f k x9 1).bind fun bt338 => ((laws_heldByteS.f k bt338.2 1).bind fun t340 => (if t340 < 0 then (some false) else (if t340 = bt338.1 then ((laws_toByteS.f k x0).bind fun t341 => ((laws_toManifest.f k x295000 x295001 x295002 x295003).bind fun bt344 => ((impl_PutMan.f k t341 bt344.1 bt344.2.1 bt344.2.2.1 bt344.2.2.2).bind fun t350 => ((laws_eqByteS.f k t350 x6).bind fun t353 => (if t353 = true then ((laws_heldByteS.f k bt338.2 1).bind fun t354 => (if t354 < 0 then (some false) else (if t354 = bt338.1 then (some true) else (some false)))) else (some false)))))) else (some false)))))
def laws_FnExactPutMan.f (k : Nat) (l0 : List Int) (a1_0 : Int) (a1_1 : Int) (a1_2 : Int) (l1_3 : List (S95)) : Option (Bool) := if (l0.length : Int) > 1048576 then (some true) else ((laws_szManifest.f a1_0 a1_1 a1_2 l1_3 1048576).bind fun t295 => (if t295 < 0 then (some true) else ((laws_toByteS.f k l0).bind fun t296 => ((laws_toManifest.f k a1_0 a1_1 a1_2 l1_3).bind fun bt299 => ((spec_PutMan.f k t296 bt299.1 bt299.2.1 bt299.2.2.1 bt299.2.2.2).bind fun t305 => ((laws_toByteS.f k l0).bind fun t308 => ((laws_toManifest.f k a1_0 a1_1 a1_2 l1_3).bind fun bt311 => ((impl_PutMan.f k t308 bt311.1 bt311.2.1 bt311.2.2.1 bt311.2.2.2).bind fun t318 => ((laws_eqByteS.f k t318 t305).bind fun t321 => (if t321 = true then ((laws_toByteS.f k l0).bind fun t322 => ((laws_eqByteS.f k t308 t322).bind fun t325 => (if t325 = true then ((laws_toManifest.f k a1_0 a1_1 a1_2 l1_3).bind fun bt326 => ((laws_eqManifest.f k bt311.1 bt311.2.1 bt311.2.2.1 bt311.2.2.2 bt326.1 bt326.2.1 bt326.2.2.1 bt326.2.2.2).bind fun t332 => (if t332 = true then ((laws_markByteS.f k t308 1).bind fun bt333 => ((laws_markManifest.f k bt311.1 bt311.2.1 bt311.2.2.1 bt311.2.2.2 bt333.1).bind fun bt335 => (if bt335.1 < 0 then (laws_FnExactPutMan.j0 k l0 t305 t318 true a1_0 a1_1 a1_2 l1_3) else ((laws_eqByteS.f k t318 t305).bind fun t337 => (laws_FnExactPutMan.j0 k l0 t305 t318 (!t337) a1_0 a1_1 a1_2 l1_3))))) else (some false)))) else (some false)))) else (some false)))))))))))
theorem laws_FnExactPutMan.mono_l : ∀ k,(∀ y0 y1 y2 y3 y4 y5 y6 y7,LeO (laws_FnExactPutMan.j0 k y0 y1 y2 y3 y4 y5 y6 y7) (laws_FnExactPutMan.j0 (k + 1) y0 y1 y2 y3 y4 y5 y6 y7))
 | 0 => fun _ _ _ _ _ _ _ _ r h => by simp [laws_FnExactPutMan.j0] at h
 | k + 1 => by
  have ih0 := laws_FnExactPutMan.mono_l k
  ·intro y0 y1 y2 y3 y4 y5 y6 y7
   unfold laws_FnExactPutMan.j0
   repeat' first
   | (with_reducible exact ih0 _ _ _ _ _ _ _ _)
   | (with_reducible exact impl_PutMan.mono _ _ _ _ _ _)
   | (with_reducible exact laws_eqByteS.mono _ _ _)
   | (with_reducible exact laws_eqManifest.mono _ _ _ _ _ _ _ _ _)
   | (with_reducible exact laws_heldByteS.mono _ _ _)
   | (with_reducible exact laws_markByteS.mono _ _ _)
   | (with_reducible exact laws_markManifest.mono _ _ _ _ _ _)
   | (with_reducible exact laws_toByteS.mono _ _)
   | (with_reducible exact laws_toManifest.mono _ _ _ _ _)
   | (with_reducible exact spec_PutMan.mono _ _ _ _ _ _)
   | (with_reducible exact LeO.refl _)
   | (with_reducible exact LeO.none _)
   | (with_reducible refine LeO.ite ?_ ?_)
   | (with_reducible refine LeO.bind ?_ (fun _ => ?_))
   | exact ih0 _ _ _ _ _ _ _ _
   | exact impl_PutMan.mono _ _ _ _ _ _
   | exact laws_eqByteS.mono _ _ _
   | exact laws_eqManifest.mono _ _ _ _ _ _ _ _ _
   | exact laws_heldByteS.mono _ _ _
   | exact laws_markByteS.mono _ _ _
   | exact laws_markManifest.mono _ _ _ _ _ _
   | exact laws_toByteS.mono _ _
   | exact laws_toManifest.mono _ _ _ _ _
   | exact spec_PutMan.mono _ _ _ _ _ _
   | exact LeO.none _
   | refine LeO.ite ?_ ?_
   | refine LeO.bind ?_ (fun _ => ?_)
theorem laws_FnExactPutMan.mono : ∀ a0 a1 a2 a3 a4 k,LeO (laws_FnExactPutMan.f k a0 a1 a2 a3 a4) (laws_FnExactPutMan.f (k + 1) a0 a1 a2 a3 a4) := by
 intro a0 a1 a2 a3 a4 k
 have ih0 := laws_FnExactPutMan.mono_l k
 unfold laws_FnExactPutMan.f
 repeat' first
   | (with_reducible exact ih0 _ _ _ _ _ _ _ _)
   | (with_reducible exact impl_PutMan.mono _ _ _ _ _ _)
   | (with_reducible exact laws_eqByteS.mono _ _ _)
   | (with_reducible exact laws_eqManifest.mono _ _ _ _ _ _ _ _ _)
   | (with_reducible exact laws_heldByteS.mono _ _ _)
   | (with_reducible exact laws_markByteS.mono _ _ _)
   | (with_reducible exact laws_markManifest.mono _ _ _ _ _ _)
   | (with_reducible exact laws_toByteS.mono _ _)
   | (with_reducible exact laws_toManifest.mono _ _ _ _ _)
   | (with_reducible exact spec_PutMan.mono _ _ _ _ _ _)
   | (with_reducible exact LeO.refl _)
   | (with_reducible exact LeO.none _)
   | (with_reducible refine LeO.ite ?_ ?_)
   | (with_reducible refine LeO.bind ?_ (fun _ => ?_))
   | exact ih0 _ _ _ _ _ _ _ _
   | exact impl_PutMan.mono _ _ _ _ _ _
   | exact laws_eqByteS.mono _ _ _
   | exact laws_eqManifest.mono _ _ _ _ _ _ _ _ _
   | exact laws_heldByteS.mono _ _ _
   | exact laws_markByteS.mono _ _ _
   | exact laws_markManifest.mono _ _ _ _ _ _
   | exact laws_toByteS.mono _ _
   | exact laws_toManifest.mono _ _ _ _ _
   | exact spec_PutMan.mono _ _ _ _ _ _
   | exact LeO.none _
   | refine LeO.ite ?_ ?_
   | refine LeO.bind ?_ (fun _ => ?_)
set_option maxHeartbeats 8000000 in
set_option maxRecDepth 100000 in
theorem laws_FnExactPutMan.calls (k : Nat) (A0 : Option Addr) (c0 : Nat) (l0 : List Int) (a1_0 : Int) (a1_1 : Int) (a1_2 : Int) (A1_3 : Option Addr) (c1_3 : Nat) (l1_3 : List (S95)) (r : Bool) (w : World) (hr0 : Kd.C (Kd.int .u8) w A0 l0.length l0) (hc0 : l0.length ≤ c0) (hr1_3 : Kd.C k95 w A1_3 l1_3.length l1_3) (hc1_3 : l1_3.length ≤ c1_3) (h : laws_FnExactPutMan.f k l0 a1_0 a1_1 a1_2 l1_3 = some r) :
  Calls Try.prog 7 #[.slice A0 l0.length c0,.agg #[.int .i64 a1_0,.int .i64 a1_1,.int .i64 a1_2,.slice A1_3 l1_3.length c1_3]] w fun e w' => e = .returned (.bool r) ∧ Below w.heap.size w w' := by
 have hu25 := Try.underlying25
 have hu31 := Try.underlying31
 have HR0 := Aside0.mk hr0
 have HC0 := Aside0.mk hc0
 clear hr0 hc0
 have HR1_3 := Aside0.mk hr1_3
 have HC1_3 := Aside0.mk hc1_3
 clear hr1_3 hc1_3
 have HB := Aside0.mk (Below.refl w.heap.size w)
 have H : (if (l0.length : Int) > 1048576 then (some true) else ((laws_szManifest.f a1_0 a1_1 a1_2 l1_3 1048576).bind fun t295 => (if t295 < 0 then (some true) else ((laws_toByteS.f k l0).bind fun t296 => ((laws_toManifest.f k a1_0 a1_1 a1_2 l1_3).bind fun bt299 => ((spec_PutMan.f k t296 bt299.1 bt299.2.1 bt299.2.2.1 bt299.2.2.2).bind fun t305 => ((laws_toByteS.f k l0).bind fun t308 => ((laws_toManifest.f k a1_0 a1_1 a1_2 l1_3).bind fun bt311 => ((impl_PutMan.f k t308 bt311.1 bt311.2.1 bt311.2.2.1 bt311.2.2.2).bind fun t318 => ((laws_eqByteS.f k t318 t305).bind fun t321 => (if t321 = true then ((laws_toByteS.f k l0).bind fun t322 => ((laws_eqByteS.f k t308 t322).bind fun t325 => (if t325 = true then ((laws_toManifest.f k a1_0 a1_1 a1_2 l1_3).bind fun bt326 => ((laws_eqManifest.f k bt311.1 bt311.2.1 bt311.2.2.1 bt311.2.2.2 bt326.1 bt326.2.1 bt326.2.2.1 bt326.2.2.2).bind fun t332 => (if t332 = true then ((laws_markByteS.f k t308 1).bind fun bt333 => ((laws_markManifest.f k bt311.1 bt311.2.1 bt311.2.2.1 bt311.2.2.2 bt333.1).bind fun bt335 => (if bt335.1 < 0 then (laws_FnExactPutMan.j0 k l0 t305 t318 true a1_0 a1_1 a1_2 l1_3) else ((laws_eqByteS.f k t318 t305).bind fun t337 => (laws_FnExactPutMan.j0 k l0 t305 t318 (!t337) a1_0 a1_1 a1_2 l1_3))))) else (some false)))) else (some false)))) else (some false)))))))))))) = some r := h
 clear h
 by_cases c3 : (l0.length : Int) > 1048576
 ·rw [if_pos c3] at H
  have c3b0 : decide (1048576 < (l0.length : Int)) = true := decide_eq_true c3
  have c3b1 : decide (1048576 < l0.length) = true := decide_eq_true (by omega)
  clear c3
  obtain rfl := Option.some.inj H
  go_enter Try.func7,Try.ntmps7
  go_wp2_with (first | ((with_reducible refine gate_dst (N := 3) rfl ?_);refine box_event ?hg (N := 3) ?hd (cs := #[.int .i64 a1_0,.int .i64 a1_1,.int .i64 a1_2,.slice A1_3 l1_3.length c1_3]) (t := 25) ?hr ?_;(case hd => rfl);(case hg => rfl);(case hr => first | (go_simp;done) | (go_simp;rfl));intro gb294 hg w4 hbox hb;have n0_ := Aside0.mk (below_step (B_up HB.out) hb);have n1_ := Aside0.mk (hbox);have n2_ := Aside0.mk ((by rw [hg];exact (below_size (B_up HB.out)) : w.heap.size ≤ gb294));have n3_ := Aside0.mk ((by rw [hg];exact (below_size (B_up HB.out)) : w.heap.size ≤ gb294));clear HB;have HB := n0_;have BK294 := n1_;have GW294 := n2_;have GE294 := n3_;clear n0_ n1_ n2_ n3_;clear hb hbox hg))
  go_ret
  exact ⟨by first | rfl | (simp [errW_none,errW_some] <;> rfl) | (simp [*,errW_none,errW_some] <;> rfl),by repeat (first | (with_reducible first | exact HB.out | apply below_alloc | apply pw_below_drewN | apply below_drew1 | refine below_set ?_ GE294.out) | exact HB.out)⟩
 ·rw [if_neg c3] at H
  have c3b0 : decide (1048576 < (l0.length : Int)) = false := decide_eq_false c3
  have c3b1 : decide (1048576 < l0.length) = false := decide_eq_false (by omega)
  clear c3
  replace H := Option.bind_eq_some_iff.mp H
  obtain ⟨t295,A50,H⟩ := H
  (try dsimp only at H)
  have A5 := Aside0.mk A50
  clear A50
  by_cases c6 : t295 < 0
  ·rw [if_pos c6] at H
   have c6b0 : decide (t295 < 0) = true := decide_eq_true c6
   clear c6
   obtain rfl := Option.some.inj H
   go_enter Try.func7,Try.ntmps7
   go_wp2_with (first | ((with_reducible refine gate_dst (N := 3) rfl ?_);refine box_event ?hg (N := 3) ?hd (cs := #[.int .i64 a1_0,.int .i64 a1_1,.int .i64 a1_2,.slice A1_3 l1_3.length c1_3]) (t := 25) ?hr ?_;(case hd => rfl);(case hg => rfl);(case hr => first | (go_simp;done) | (go_simp;rfl));intro gb294 hg w7 hbox hb;have n0_ := Aside0.mk (below_step (B_up HB.out) hb);have n1_ := Aside0.mk (hbox);have n2_ := Aside0.mk ((by rw [hg];exact (below_size (B_up HB.out)) : w.heap.size ≤ gb294));have n3_ := Aside0.mk ((by rw [hg];exact (below_size (B_up HB.out)) : w.heap.size ≤ gb294));clear HB;have HB := n0_;have BK294 := n1_;have GW294 := n2_;have GE294 := n3_;clear n0_ n1_ n2_ n3_;clear hb hbox hg;have hcz8_0 : w7.cell? ⟨gb294,0,none⟩ = some (.int .i64 a1_0) := (blk_cell BK294.out 0).trans rfl;have hcz8_1 : w7.cell? ⟨gb294,1,none⟩ = some (.int .i64 a1_1) := (blk_cell BK294.out 1).trans rfl;have hcz8_2 : w7.cell? ⟨gb294,2,none⟩ = some (.int .i64 a1_2) := (blk_cell BK294.out 2).trans rfl;have hcz8_3 : w7.cell? ⟨gb294,3,none⟩ = some (.slice A1_3 l1_3.length c1_3) := (blk_cell BK294.out 3).trans rfl;have hfz8_0 := blk_frozen BK294.out 0;have hfz8_1 := blk_frozen BK294.out 1;have hfz8_2 := blk_frozen BK294.out 2;have hfz8_3 := blk_frozen BK294.out 3) | ((with_reducible refine gate_callee (f := 10) rfl ?_);refine goesL_ (some 19) rfl rfl Try.func10 (by kernel_rfl) rfl #[.agg #[.int .i64 a1_0,.int .i64 a1_1,.int .i64 a1_2,.slice A1_3 l1_3.length c1_3],.int .i64 1048576] rfl eq_up ?_;(with_reducible refine (laws_szManifest.calls a1_0 a1_1 a1_2 _ _ l1_3 1048576 t295 _ ?side1 ?side2 A5.out).mono ?_);(case side1 => repeat (first | exact (Kd.C_below HR1_3.out HB.out) | (with_reducible refine Kd.C_alloc ?_ _) | (with_reducible refine Kd.C_drewN ?_ _) | (with_reducible refine Kd.C_drew ?_)));(case side2 => exact HC1_3.out);rintro e w9 ⟨rfl,hb⟩;refine ⟨_,rfl,?_⟩;have n0_ := Aside0.mk (blk_below (g := gb294) (o := .cells #[.int .i64 a1_0,.int .i64 a1_1,.int .i64 a1_2,.slice A1_3 l1_3.length c1_3] 25 (0,0)) (blk_up BK294.out) hb);have n1_ := Aside0.mk (below_step (B_set HB.out) hb);clear BK294;clear HB;have BK294 := n0_;have HB := n1_;clear n0_ n1_;(try clear hb);(try clear hb2);(try clear hk);(try clear hi)))
   go_ret
   exact ⟨by first | rfl | (simp [errW_none,errW_some] <;> rfl) | (simp [*,errW_none,errW_some] <;> rfl),by repeat (first | (with_reducible first | exact HB.out | apply below_alloc | apply pw_below_drewN | apply below_drew1 | refine below_set ?_ GE294.out) | exact HB.out)⟩
  ·rw [if_neg c6] at H
   have c6b0 : decide (t295 < 0) = false := decide_eq_false c6
   clear c6
   replace H := Option.bind_eq_some_iff.mp H
   obtain ⟨t296,A100,H⟩ := H
   (try dsimp only at H)
   have A10 := Aside0.mk A100
   clear A100
   replace H := Option.bind_eq_some_iff.mp H
   obtain ⟨⟨t299,t300,t301,t302⟩,A110,H⟩ := H
   (try dsimp only at H)
   have A11 := Aside0.mk A110
   clear A110
   replace H := Option.bind_eq_some_iff.mp H
   obtain ⟨t305,A120,H⟩ := H
   (try dsimp only at H)
   have A12 := Aside0.mk A120
   clear A120
   replace H := Option.bind_eq_some_iff.mp H
   obtain ⟨t308,A130,H⟩ := H
   (try dsimp only at H)
   have A13 := Aside0.mk A130
   clear A130
   replace H := Option.bind_eq_some_iff.mp H
   obtain ⟨⟨t311,t312,t313,t314⟩,A140,H⟩ := H
   (try dsimp only at H)
   have A14 := Aside0.mk A140
   clear A140
   replace H := Option.bind_eq_some_iff.mp H
   obtain ⟨t318,A150,H⟩ := H
   (try dsimp only at H)
   have A15 := Aside0.mk A150
   clear A150
   replace H := Option.bind_eq_some_iff.mp H
   obtain ⟨t321,A160,H⟩ := H
   (try dsimp only at H)
   have A16 := Aside0.mk A160
   clear A160
   by_cases c17 : t321 = true
   ·subst c17
    rw [if_pos rfl] at H
    replace H := Option.bind_eq_some_iff.mp H
    obtain ⟨t322,A180,H⟩ := H
    (try dsimp only at H)
    have A18 := Aside0.mk A180
    clear A180
    replace H := Option.bind_eq_some_iff.mp H
    obtain ⟨t325,A190,H⟩ := H
    (try dsimp only at H)
    have A19 := Aside0.mk A190
    clear A190
    by_cases c20 : t325 = true
    ·subst c20
     rw [if_pos rfl] at H
     replace H := Option.bind_eq_some_iff.mp H
     obtain ⟨⟨t326,t327,t328,t329⟩,A210,H⟩ := H
     (try dsimp only at H)
     have A21 := Aside0.mk A210
     clear A210
     replace H := Option.bind_eq_some_iff.mp H
     obtain ⟨t332,A220,H⟩ := H
     (try dsimp only at H)
     have A22 := Aside0.mk A220
     clear A220
     by_cases c23 : t332 = true
     ·subst c23
      rw [if_pos rfl] at H
      replace H := Option.bind_eq_some_iff.mp H
      obtain ⟨⟨t333,t334⟩,A240,H⟩ := H
      (try dsimp only at H)
      have A24 := Aside0.mk A240
      clear A240
      replace H := Option.bind_eq_some_iff.mp H
      obtain ⟨⟨t335,t336⟩,A250,H⟩ := H
      (try dsimp only at H)
      have A25 := Aside0.mk A250
      clear A250
      have HC26 := Aside0.mk H
      clear H
      go_enter Try.func7,Try.ntmps7
      try go_wp2_with (first | ((with_reducible refine gate_dst (N := 3) rfl ?_);refine box_event ?hg (N := 3) ?hd (cs := #[.int .i64 a1_0,.int .i64 a1_1,.int .i64 a1_2,.slice A1_3 l1_3.length c1_3]) (t := 25) ?hr ?_;(case hd => rfl);(case hg => rfl);(case hr => first | (go_simp;done) | (go_simp;rfl));intro gb294 hg w27 hbox hb;have n0_ := Aside0.mk (below_step (B_up HB.out) hb);have n1_ := Aside0.mk (hbox);have n2_ := Aside0.mk ((by rw [hg];exact (below_size (B_up HB.out)) : w.heap.size ≤ gb294));have n3_ := Aside0.mk ((by rw [hg];exact (below_size (B_up HB.out)) : w.heap.size ≤ gb294));clear HB;have HB := n0_;have BK294 := n1_;have GW294 := n2_;have GE294 := n3_;clear n0_ n1_ n2_ n3_;clear hb hbox hg;have hcz28_0 : w27.cell? ⟨gb294,0,none⟩ = some (.int .i64 a1_0) := (blk_cell BK294.out 0).trans rfl;have hcz28_1 : w27.cell? ⟨gb294,1,none⟩ = some (.int .i64 a1_1) := (blk_cell BK294.out 1).trans rfl;have hcz28_2 : w27.cell? ⟨gb294,2,none⟩ = some (.int .i64 a1_2) := (blk_cell BK294.out 2).trans rfl;have hcz28_3 : w27.cell? ⟨gb294,3,none⟩ = some (.slice A1_3 l1_3.length c1_3) := (blk_cell BK294.out 3).trans rfl;have hfz28_0 := blk_frozen BK294.out 0;have hfz28_1 := blk_frozen BK294.out 1;have hfz28_2 := blk_frozen BK294.out 2;have hfz28_3 := blk_frozen BK294.out 3) | ((with_reducible refine gate_callee (f := 10) rfl ?_);refine goesL_ (some 19) rfl rfl Try.func10 (by kernel_rfl) rfl #[.agg #[.int .i64 a1_0,.int .i64 a1_1,.int .i64 a1_2,.slice A1_3 l1_3.length c1_3],.int .i64 1048576] rfl eq_up ?_;(with_reducible refine (laws_szManifest.calls a1_0 a1_1 a1_2 _ _ l1_3 1048576 t295 _ ?side1 ?side2 A5.out).mono ?_);(case side1 => repeat (first | exact (Kd.C_below HR1_3.out HB.out) | (with_reducible refine Kd.C_alloc ?_ _) | (with_reducible refine Kd.C_drewN ?_ _) | (with_reducible refine Kd.C_drew ?_)));(case side2 => exact HC1_3.out);rintro e w29 ⟨rfl,hb⟩;refine ⟨_,rfl,?_⟩;have n0_ := Aside0.mk (blk_below (g := gb294) (o := .cells #[.int .i64 a1_0,.int .i64 a1_1,.int .i64 a1_2,.slice A1_3 l1_3.length c1_3] 25 (0,0)) (blk_up BK294.out) hb);have n1_ := Aside0.mk (below_step (B_set HB.out) hb);clear BK294;clear HB;have BK294 := n0_;have HB := n1_;clear n0_ n1_;(try clear hb);(try clear hb2);(try clear hk);(try clear hi)))
      have n0_ := Aside0.mk (blk_drew BK294.out)
      have n1_ := Aside0.mk (below_drew1 HB.out)
      clear BK294
      clear HB
      have BK294 := n0_
      have HB := n1_
      clear n0_ n1_
      refine start_ (n := 6) (S := fun w' => w'.cell? ⟨gb294,0,none⟩ = some (.int .i64 a1_0) ∧ w'.cell? ⟨gb294,1,none⟩ = some (.int .i64 a1_1) ∧ w'.cell? ⟨gb294,2,none⟩ = some (.int .i64 a1_2) ∧ w'.cell? ⟨gb294,3,none⟩ = some (.slice A1_3 l1_3.length c1_3)) (ds := []) #[false,false,false,false,false,false] (by kernel_rfl) rfl rfl ⟨(blk_cell BK294.out 0).trans rfl,(blk_cell BK294.out 1).trans rfl,(blk_cell BK294.out 2).trans rfl,(blk_cell BK294.out 3).trans rfl⟩ (fun hHeld => ?_)
      generalize w29.drew = w30 at BK294 HB hHeld ⊢
      refine pure_ (i := 0) (N := some 22) (v := ?_) (a' := ?_) #[true,false,false,false,false,false] rfl rfl (by kernel_rfl) (fun _ _ _ h => h) (Or.inl ⟨by rfl,?_⟩) ?_ ?_
      rotate_left
      ·intro w'
       go_simp
       with_reducible rfl
      rotate_left
      ·simp only [Act.put,List.setIfInBounds_toArray,List.set_cons_zero,List.set_cons_succ,i64_w,i32_w]
       rfl
      refine take_ (i := 2) (N := some 24) (v := ?_) (a' := ?_) #[true,false,true,false,false,false] rfl rfl (by kernel_rfl) (fun _ _ _ h => h) (Or.inl ⟨by rfl,?_⟩) hHeld ?_ ?_
      rotate_left
      ·rintro w' ⟨s0,s1,s2,s3⟩
       go_simp
       with_reducible rfl
      rotate_left
      ·simp only [Act.put,List.setIfInBounds_toArray,List.set_cons_zero,List.set_cons_succ,i64_w,i32_w]
       rfl
      refine one_ (i := 1) (N := some 23) #[true,true,true,false,false,false] rfl rfl (by kernel_rfl) (by decide) (fun K hK => ?_)
      refine goes_ Try.func12 (by kernel_rfl) rfl #[.slice A0 l0.length c0] (by rfl) rfl rfl eq_up ?_
      with_reducible refine (laws_toByteS.calls k _ _ l0 t296 _ ?side1 ?side2 A10.out).mono ?_
      (case side1 => repeat (first | exact (Kd.C_below HR0.out HB.out) | (with_reducible refine Kd.C_alloc ?_ _) | (with_reducible refine Kd.C_drewN ?_ _) | (with_reducible refine Kd.C_drew ?_)))
      (case side2 => exact HC0.out)
      rintro e w31 ⟨v297,rfl,ho0,hb⟩
      refine ⟨_,rfl,?_⟩
      have n0_ := Aside0.mk (Kd.R_lower ho0 (below_size (B_set HB.out)))
      have n1_ := Aside0.mk (blk_below (g := gb294) (o := .cells #[.int .i64 a1_0,.int .i64 a1_1,.int .i64 a1_2,.slice A1_3 l1_3.length c1_3] 25 (0,0)) (blk_up BK294.out) hb)
      have n2_ := Aside0.mk (below_step (B_set HB.out) hb)
      clear BK294
      clear HB
      have HO298 := n0_
      have BK294 := n1_
      have HB := n2_
      clear n0_ n1_ n2_
      (try clear hb)
      (try clear hb2)
      (try clear hk)
      (try clear hi)
      (try clear ho0)
      refine hK.out _ _ ⟨(blk_cell BK294.out 0).trans rfl,(blk_cell BK294.out 1).trans rfl,(blk_cell BK294.out 2).trans rfl,(blk_cell BK294.out 3).trans rfl⟩ (fun hHeld => ?_)
      clear hK K
      refine norm_ (a' := ?_) ?_ ?_
      rotate_left
      ·show Act.put _ (some 23) _ = _
       simp only [Act.put,List.setIfInBounds_toArray,List.set_cons_zero,List.set_cons_succ,i64_w,i32_w]
       rfl
      refine one_ (i := 3) (N := some 25) #[true,true,true,true,false,false] rfl rfl (by kernel_rfl) (by decide) (fun K hK => ?_)
      refine goes_ Try.func13 (by kernel_rfl) rfl #[.agg #[.int .i64 a1_0,.int .i64 a1_1,.int .i64 a1_2,.slice A1_3 l1_3.length c1_3]] (by rfl) rfl rfl eq_up ?_
      with_reducible refine (laws_toManifest.calls k a1_0 a1_1 a1_2 _ _ l1_3 t299 t300 t301 t302 _ ?side1 ?side2 A11.out).mono ?_
      (case side1 => repeat (first | exact (Kd.C_below HR1_3.out HB.out) | (with_reducible refine Kd.C_alloc ?_ _) | (with_reducible refine Kd.C_drewN ?_ _) | (with_reducible refine Kd.C_drew ?_)))
      (case side2 => exact HC1_3.out)
      rintro e w32 ⟨v303,rfl,ho0,hb⟩
      refine ⟨_,rfl,?_⟩
      have n0_ := Aside0.mk (Kd.R_below (Kd.R_up HO298.out) hb)
      have n1_ := Aside0.mk (Kd.R_lower ho0 (below_size (B_set HB.out)))
      have n2_ := Aside0.mk (blk_below (g := gb294) (o := .cells #[.int .i64 a1_0,.int .i64 a1_1,.int .i64 a1_2,.slice A1_3 l1_3.length c1_3] 25 (0,0)) (blk_up BK294.out) hb)
      have n3_ := Aside0.mk (below_step (B_set HB.out) hb)
      clear HO298
      clear BK294
      clear HB
      have HO298 := n0_
      have HO304 := n1_
      have BK294 := n2_
      have HB := n3_
      clear n0_ n1_ n2_ n3_
      (try clear hb)
      (try clear hb2)
      (try clear hk)
      (try clear hi)
      (try clear ho0)
      obtain ⟨Ao33,co33,eo33⟩ := Kd.R_slice HO298.out
      (first | subst eo33 | (injection eo33 with f1_ f2_ f3_;have f4_ := f1_.symm;have f5_ := f3_.symm;clear f1_ f2_ f3_;subst f4_;subst f5_))
      obtain ⟨Ao34,co34,eo34⟩ := Kd.R_slice HO304.out
      (first | subst eo34 | (injection eo34 with f1_ f2_ f3_;have f4_ := f1_.symm;have f5_ := f3_.symm;clear f1_ f2_ f3_;subst f4_;subst f5_))
      refine hK.out _ _ ⟨(blk_cell BK294.out 0).trans rfl,(blk_cell BK294.out 1).trans rfl,(blk_cell BK294.out 2).trans rfl,(blk_cell BK294.out 3).trans rfl⟩ (fun hHeld => ?_)
      clear hK K
      refine norm_ (a' := ?_) ?_ ?_
      rotate_left
      ·show Act.put _ (some 25) _ = _
       simp only [Act.put,List.setIfInBounds_toArray,List.set_cons_zero,List.set_cons_succ,i64_w,i32_w]
       rfl
      refine one_ (i := 4) (N := some 26) #[true,true,true,true,true,false] rfl rfl (by kernel_rfl) (by decide) (fun K hK => ?_)
      refine goes_ Try.func28 (by kernel_rfl) rfl #[.slice Ao33 t296.length co33,.agg #[.int .i64 t299,.int .i64 t300,.int .i64 t301,.slice Ao34 t302.length co34]] (by rfl) rfl rfl eq_up ?_
      with_reducible refine (spec_PutMan.calls k _ _ t296 t299 t300 t301 _ _ t302 t305 _ ?side1 ?side2 ?side3 ?side4 A12.out).mono ?_
      (case side1 => exact Kd.C_up (Kd.R_reads' HO298.out).2.2)
      (case side2 => exact (Kd.R_reads' HO298.out).2.1)
      (case side3 => exact Kd.C_up (Kd.R_reads' HO304.out).2.2)
      (case side4 => exact (Kd.R_reads' HO304.out).2.1)
      rintro e w35 ⟨v306,rfl,ho0,hb⟩
      refine ⟨_,rfl,?_⟩
      have n0_ := Aside0.mk (Kd.R_elder' (Kd.R_up HO298.out) (Kd.R_base ho0) hb)
      have n1_ := Aside0.mk (Kd.R_below (Kd.R_up HO304.out) hb)
      have n2_ := Aside0.mk (Kd.R_lower (Kd.R_new' ho0 (Kd.R_lt (Kd.R_up HO298.out))) (below_size (B_set HB.out)))
      have n3_ := Aside0.mk (blk_below (g := gb294) (o := .cells #[.int .i64 a1_0,.int .i64 a1_1,.int .i64 a1_2,.slice A1_3 l1_3.length c1_3] 25 (0,0)) (blk_up BK294.out) hb)
      have n4_ := Aside0.mk (below_step (B_set HB.out) hb)
      clear HO298
      clear HO304
      clear BK294
      clear HB
      have HO298 := n0_
      have HO304 := n1_
      have HO307 := n2_
      have BK294 := n3_
      have HB := n4_
      clear n0_ n1_ n2_ n3_ n4_
      (try clear hb)
      (try clear hb2)
      (try clear hk)
      (try clear hi)
      (try clear ho0)
      refine hK.out _ _ ⟨(blk_cell BK294.out 0).trans rfl,(blk_cell BK294.out 1).trans rfl,(blk_cell BK294.out 2).trans rfl,(blk_cell BK294.out 3).trans rfl⟩ (fun hHeld => ?_)
      clear hK K
      refine norm_ (a' := ?_) ?_ ?_
      rotate_left
      ·show Act.put _ (some 26) _ = _
       simp only [Act.put,List.setIfInBounds_toArray,List.set_cons_zero,List.set_cons_succ,i64_w,i32_w]
       rfl
      refine pure_ (i := 5) (N := some 6) (v := ?_) (a' := ?_) #[true,true,true,true,true,true] rfl rfl (by kernel_rfl) (fun _ _ _ h => h) (Or.inl ⟨by rfl,?_⟩) ?_ ?_
      rotate_left
      ·intro w'
       go_simp
       with_reducible rfl
      rotate_left
      ·simp only [Act.put,List.setIfInBounds_toArray,List.set_cons_zero,List.set_cons_succ,i64_w,i32_w]
       rfl
      refine done_ (by kernel_rfl) ?_
      try go_wp2_with (first | ((with_reducible refine gate_callee (f := 12) rfl ?_);refine goesL_ (some 28) rfl rfl Try.func12 (by kernel_rfl) rfl #[.slice A0 l0.length c0] rfl eq_up ?_;(with_reducible refine (laws_toByteS.calls k _ _ l0 t308 _ ?side1 ?side2 A13.out).mono ?_);(case side1 => repeat (first | exact (Kd.C_below HR0.out HB.out) | (with_reducible refine Kd.C_alloc ?_ _) | (with_reducible refine Kd.C_drewN ?_ _) | (with_reducible refine Kd.C_drew ?_)));(case side2 => exact HC0.out);rintro e w36 ⟨v309,rfl,ho0,hb⟩;refine ⟨_,rfl,?_⟩;have n0_ := Aside0.mk (Kd.R_elder' (Kd.R_up HO298.out) (Kd.R_base ho0) hb);have n1_ := Aside0.mk (Kd.R_below (Kd.R_up HO304.out) hb);have n2_ := Aside0.mk (Kd.R_elder' (Kd.R_up HO307.out) (Kd.R_base ho0) hb);have n3_ := Aside0.mk (Kd.R_lower (Kd.R_new' (Kd.R_new' ho0 (Kd.R_lt (Kd.R_up HO298.out))) (Kd.R_lt (Kd.R_up HO307.out))) (below_size (B_set HB.out)));have n4_ := Aside0.mk (blk_below (g := gb294) (o := .cells #[.int .i64 a1_0,.int .i64 a1_1,.int .i64 a1_2,.slice A1_3 l1_3.length c1_3] 25 (0,0)) (blk_up BK294.out) hb);have n5_ := Aside0.mk (below_step (B_set HB.out) hb);clear HO298;clear HO304;clear HO307;clear BK294;clear HB;have HO298 := n0_;have HO304 := n1_;have HO307 := n2_;have HO310 := n3_;have BK294 := n4_;have HB := n5_;clear n0_ n1_ n2_ n3_ n4_ n5_;(try clear hb);(try clear hb2);(try clear hk);(try clear hi);(try clear ho0);have hcz37_0 : w36.cell? ⟨gb294,0,none⟩ = some (.int .i64 a1_0) := (blk_cell BK294.out 0).trans rfl;have hcz37_1 : w36.cell? ⟨gb294,1,none⟩ = some (.int .i64 a1_1) := (blk_cell BK294.out 1).trans rfl;have hcz37_2 : w36.cell? ⟨gb294,2,none⟩ = some (.int .i64 a1_2) := (blk_cell BK294.out 2).trans rfl;have hcz37_3 : w36.cell? ⟨gb294,3,none⟩ = some (.slice A1_3 l1_3.length c1_3) := (blk_cell BK294.out 3).trans rfl;have hfz37_0 := blk_frozen BK294.out 0;have hfz37_1 := blk_frozen BK294.out 1;have hfz37_2 := blk_frozen BK294.out 2;have hfz37_3 := blk_frozen BK294.out 3) | ((with_reducible refine gate_callee (f := 13) rfl ?_);refine goesL_ (some 30) rfl rfl Try.func13 (by kernel_rfl) rfl #[.agg #[.int .i64 a1_0,.int .i64 a1_1,.int .i64 a1_2,.slice A1_3 l1_3.length c1_3]] rfl eq_up ?_;(with_reducible refine (laws_toManifest.calls k a1_0 a1_1 a1_2 _ _ l1_3 t311 t312 t313 t314 _ ?side1 ?side2 A14.out).mono ?_);(case side1 => repeat (first | exact (Kd.C_below HR1_3.out HB.out) | (with_reducible refine Kd.C_alloc ?_ _) | (with_reducible refine Kd.C_drewN ?_ _) | (with_reducible refine Kd.C_drew ?_)));(case side2 => exact HC1_3.out);rintro e w38 ⟨v315,rfl,ho0,hb⟩;refine ⟨_,rfl,?_⟩;have n0_ := Aside0.mk (Kd.R_below (Kd.R_up HO298.out) hb);have n1_ := Aside0.mk (Kd.R_elder' (Kd.R_up HO304.out) (Kd.R_base ho0) hb);have n2_ := Aside0.mk (Kd.R_below (Kd.R_up HO307.out) hb);have n3_ := Aside0.mk (Kd.R_below (Kd.R_up HO310.out) hb);have n4_ := Aside0.mk (Kd.R_lower (Kd.R_new' ho0 (Kd.R_lt (Kd.R_up HO304.out))) (below_size (B_set HB.out)));have n5_ := Aside0.mk (blk_below (g := gb294) (o := .cells #[.int .i64 a1_0,.int .i64 a1_1,.int .i64 a1_2,.slice A1_3 l1_3.length c1_3] 25 (0,0)) (blk_up BK294.out) hb);have n6_ := Aside0.mk (below_step (B_set HB.out) hb);clear HO298;clear HO304;clear HO307;clear HO310;clear BK294;clear HB;have HO298 := n0_;have HO304 := n1_;have HO307 := n2_;have HO310 := n3_;have HO316 := n4_;have BK294 := n5_;have HB := n6_;clear n0_ n1_ n2_ n3_ n4_ n5_ n6_;(try clear hb);(try clear hb2);(try clear hk);(try clear hi);(try clear ho0)) | ((with_reducible refine gate_dst (N := 8) rfl ?_);refine box_event ?hg (N := 8) ?hd (cs := #[.int .i64 0,.int .i64 0,.int .i64 0,.slice none 0 0]) (t := 31) ?hr ?_;(case hd => rfl);(case hg => rfl);(case hr => first | (go_simp;done) | (go_simp;rfl));intro gb317 hg w39 hbox hb;have n0_ := Aside0.mk (Kd.R_below (Kd.R_up HO298.out) hb);have n1_ := Aside0.mk (Kd.R_below (Kd.R_up HO304.out) hb);have n2_ := Aside0.mk (Kd.R_below (Kd.R_up HO307.out) hb);have n3_ := Aside0.mk (Kd.R_below (Kd.R_up HO310.out) hb);have n4_ := Aside0.mk (Kd.R_below (Kd.R_up HO316.out) hb);have n5_ := Aside0.mk (blk_below (g := gb294) (o := .cells #[.int .i64 a1_0,.int .i64 a1_1,.int .i64 a1_2,.slice A1_3 l1_3.length c1_3] 25 (0,0)) (blk_up BK294.out) hb);have n6_ := Aside0.mk (below_step (B_set HB.out) hb);have n7_ := Aside0.mk (hbox);have n8_ := Aside0.mk ((by rw [hg];exact (below_size (B_set HB.out)) : w.heap.size ≤ gb317));have n9_ := Aside0.mk ((by rw [hg];exact (below_size (B_set HB.out)) : w.heap.size ≤ gb317));have n10_ := Aside0.mk ((by rw [hg];exact Nat.ne_of_lt (blk_lt (g := gb294) (o := .cells #[.int .i64 a1_0,.int .i64 a1_1,.int .i64 a1_2,.slice A1_3 l1_3.length c1_3] 25 (0,0)) (blk_up BK294.out)) : gb294 ≠ gb317));have n11_ := Aside0.mk ((by rw [hg];exact Nat.ne_of_gt (blk_lt (g := gb294) (o := .cells #[.int .i64 a1_0,.int .i64 a1_1,.int .i64 a1_2,.slice A1_3 l1_3.length c1_3] 25 (0,0)) (blk_up BK294.out)) : gb317 ≠ gb294));clear HO298;clear HO304;clear HO307;clear HO310;clear HO316;clear BK294;clear HB;have HO298 := n0_;have HO304 := n1_;have HO307 := n2_;have HO310 := n3_;have HO316 := n4_;have BK294 := n5_;have HB := n6_;have BK317 := n7_;have GW317 := n8_;have GE317 := n9_;have NB294_317 := n10_;have NB317_294 := n11_;clear n0_ n1_ n2_ n3_ n4_ n5_ n6_ n7_ n8_ n9_ n10_ n11_;clear hb hbox hg;have hnb40 := NB317_294.out;have hnc40 := NB294_317.out;have hcz41_0 : w39.cell? ⟨gb317,0,none⟩ = some (.int .i64 0) := (blk_cell BK317.out 0).trans rfl;have hcz41_1 : w39.cell? ⟨gb317,1,none⟩ = some (.int .i64 0) := (blk_cell BK317.out 1).trans rfl;have hcz41_2 : w39.cell? ⟨gb317,2,none⟩ = some (.int .i64 0) := (blk_cell BK317.out 2).trans rfl;have hcz41_3 : w39.cell? ⟨gb317,3,none⟩ = some (.slice none 0 0) := (blk_cell BK317.out 3).trans rfl;have hfz41_0 := blk_frozen BK317.out 0;have hfz41_1 := blk_frozen BK317.out 1;have hfz41_2 := blk_frozen BK317.out 2;have hfz41_3 := blk_frozen BK317.out 3;obtain ⟨Ao42,co42,eo42⟩ := Kd.R_slice HO316.out;subst eo42;obtain ⟨Ao43,co43,eo43⟩ := Kd.R_slice HO310.out;subst eo43) | ((with_reducible refine gate_callee (f := 29) rfl ?_);refine goesL_ (some 33) rfl rfl Try.func29 (by kernel_rfl) rfl #[.slice Ao43 t308.length co43,.agg #[.int .i64 t311,.int .i64 t312,.int .i64 t313,.slice Ao42 t314.length co42]] rfl eq_up ?_;(with_reducible refine (impl_PutMan.calls k _ _ t308 t311 t312 t313 _ _ t314 t318 _ ?side1 ?side2 ?side3 ?side4 A15.out).mono ?_);(case side1 => refine (Kd.R_reads' (e := 5) (base := w.heap.size) (ok := fun k_ => ((True ∧ some k_ ≠ (.slice Ao33 t296.length co33 : Value).ownBlock) ∧ some k_ ≠ (v306 : Value).ownBlock)) (n := t308.length) (c := co43) ?_).2.2;exact (by (with_reducible repeat (first | apply Kd.R_alloc | apply Kd.R_drewN | apply Kd.R_drew));exact (Kd.R_mono (Kd.R_far (p := ⟨gb317,3,none⟩) (Kd.R_far (p := ⟨gb317,2,none⟩) (Kd.R_far (p := ⟨gb317,1,none⟩) (Kd.R_far (p := ⟨gb317,0,none⟩) (Kd.R_types HO310.out BK317.out (by decide)) (fun _ hk => hk.2) (.int .i64 t311)) (fun _ hk => hk.2) (.int .i64 t312)) (fun _ hk => hk.2) (.int .i64 t313)) (fun _ hk => hk.2) (.slice Ao42 t314.length co42)) (fun _ h_ => h_.1))));(case side2 => exact (Kd.R_reads' HO310.out).2.1);(case side3 => refine (Kd.R_reads' (e := 66) (base := w.heap.size) (ok := fun k_ => (True ∧ some k_ ≠ (.slice Ao34 t302.length co34 : Value).ownBlock)) (n := t314.length) (c := co42) ?_).2.2;exact (by (with_reducible repeat (first | apply Kd.R_alloc | apply Kd.R_drewN | apply Kd.R_drew));exact (Kd.R_mono (Kd.R_far (p := ⟨gb317,3,none⟩) (Kd.R_far (p := ⟨gb317,2,none⟩) (Kd.R_far (p := ⟨gb317,1,none⟩) (Kd.R_far (p := ⟨gb317,0,none⟩) (Kd.R_types HO316.out BK317.out (by decide)) (fun _ hk => hk.2) (.int .i64 t311)) (fun _ hk => hk.2) (.int .i64 t312)) (fun _ hk => hk.2) (.int .i64 t313)) (fun _ hk => hk.2) (.slice Ao42 t314.length co42)) (fun _ h_ => h_.1))));(case side4 => exact (Kd.R_reads' HO316.out).2.1);rintro e w44 ⟨v319,rfl,ho0,hb⟩;refine ⟨_,rfl,?_⟩;have n0_ := Aside0.mk (Kd.R_elder' (by (with_reducible repeat (first | apply Kd.R_alloc | apply Kd.R_drewN | apply Kd.R_drew));exact (Kd.R_mono (Kd.R_far (p := ⟨gb317,3,none⟩) (Kd.R_far (p := ⟨gb317,2,none⟩) (Kd.R_far (p := ⟨gb317,1,none⟩) (Kd.R_far (p := ⟨gb317,0,none⟩) (Kd.R_types HO298.out BK317.out (by decide)) (fun _ hk => hk.2) (.int .i64 t311)) (fun _ hk => hk.2) (.int .i64 t312)) (fun _ hk => hk.2) (.int .i64 t313)) (fun _ hk => hk.2) (.slice Ao42 t314.length co42)) (fun _ h_ => h_.1))) (Kd.R_base ho0) hb);have n1_ := Aside0.mk (Kd.R_below (by (with_reducible repeat (first | apply Kd.R_alloc | apply Kd.R_drewN | apply Kd.R_drew));exact (Kd.R_mono (Kd.R_far (p := ⟨gb317,3,none⟩) (Kd.R_far (p := ⟨gb317,2,none⟩) (Kd.R_far (p := ⟨gb317,1,none⟩) (Kd.R_far (p := ⟨gb317,0,none⟩) (Kd.R_types HO304.out BK317.out (by decide)) (fun _ hk => hk.2) (.int .i64 t311)) (fun _ hk => hk.2) (.int .i64 t312)) (fun _ hk => hk.2) (.int .i64 t313)) (fun _ hk => hk.2) (.slice Ao42 t314.length co42)) (fun _ h_ => h_.1))) hb);have n2_ := Aside0.mk (Kd.R_elder' (by (with_reducible repeat (first | apply Kd.R_alloc | apply Kd.R_drewN | apply Kd.R_drew));exact (Kd.R_mono (Kd.R_far (p := ⟨gb317,3,none⟩) (Kd.R_far (p := ⟨gb317,2,none⟩) (Kd.R_far (p := ⟨gb317,1,none⟩) (Kd.R_far (p := ⟨gb317,0,none⟩) (Kd.R_types HO307.out BK317.out (by decide)) (fun _ hk => hk.2) (.int .i64 t311)) (fun _ hk => hk.2) (.int .i64 t312)) (fun _ hk => hk.2) (.int .i64 t313)) (fun _ hk => hk.2) (.slice Ao42 t314.length co42)) (fun _ h_ => h_.1))) (Kd.R_base ho0) hb);have n3_ := Aside0.mk (Kd.R_elder' (by (with_reducible repeat (first | apply Kd.R_alloc | apply Kd.R_drewN | apply Kd.R_drew));exact (Kd.R_mono (Kd.R_far (p := ⟨gb317,3,none⟩) (Kd.R_far (p := ⟨gb317,2,none⟩) (Kd.R_far (p := ⟨gb317,1,none⟩) (Kd.R_far (p := ⟨gb317,0,none⟩) (Kd.R_types HO310.out BK317.out (by decide)) (fun _ hk => hk.2) (.int .i64 t311)) (fun _ hk => hk.2) (.int .i64 t312)) (fun _ hk => hk.2) (.int .i64 t313)) (fun _ hk => hk.2) (.slice Ao42 t314.length co42)) (fun _ h_ => h_.1))) (Kd.R_base ho0) hb);have n4_ := Aside0.mk (Kd.R_below (by (with_reducible repeat (first | apply Kd.R_alloc | apply Kd.R_drewN | apply Kd.R_drew));exact (Kd.R_mono (Kd.R_far (p := ⟨gb317,3,none⟩) (Kd.R_far (p := ⟨gb317,2,none⟩) (Kd.R_far (p := ⟨gb317,1,none⟩) (Kd.R_far (p := ⟨gb317,0,none⟩) (Kd.R_types HO316.out BK317.out (by decide)) (fun _ hk => hk.2) (.int .i64 t311)) (fun _ hk => hk.2) (.int .i64 t312)) (fun _ hk => hk.2) (.int .i64 t313)) (fun _ hk => hk.2) (.slice Ao42 t314.length co42)) (fun _ h_ => h_.1))) hb);have n5_ := Aside0.mk (Kd.R_lower (Kd.R_new' (Kd.R_new' (Kd.R_new' ho0 (Kd.R_lt (by (with_reducible repeat (first | apply Kd.R_alloc | apply Kd.R_drewN | apply Kd.R_drew));exact (Kd.R_mono (Kd.R_far (p := ⟨gb317,3,none⟩) (Kd.R_far (p := ⟨gb317,2,none⟩) (Kd.R_far (p := ⟨gb317,1,none⟩) (Kd.R_far (p := ⟨gb317,0,none⟩) (Kd.R_types HO298.out BK317.out (by decide)) (fun _ hk => hk.2) (.int .i64 t311)) (fun _ hk => hk.2) (.int .i64 t312)) (fun _ hk => hk.2) (.int .i64 t313)) (fun _ hk => hk.2) (.slice Ao42 t314.length co42)) (fun _ h_ => h_.1))))) (Kd.R_lt (by (with_reducible repeat (first | apply Kd.R_alloc | apply Kd.R_drewN | apply Kd.R_drew));exact (Kd.R_mono (Kd.R_far (p := ⟨gb317,3,none⟩) (Kd.R_far (p := ⟨gb317,2,none⟩) (Kd.R_far (p := ⟨gb317,1,none⟩) (Kd.R_far (p := ⟨gb317,0,none⟩) (Kd.R_types HO307.out BK317.out (by decide)) (fun _ hk => hk.2) (.int .i64 t311)) (fun _ hk => hk.2) (.int .i64 t312)) (fun _ hk => hk.2) (.int .i64 t313)) (fun _ hk => hk.2) (.slice Ao42 t314.length co42)) (fun _ h_ => h_.1))))) (Kd.R_lt (by (with_reducible repeat (first | apply Kd.R_alloc | apply Kd.R_drewN | apply Kd.R_drew));exact (Kd.R_mono (Kd.R_far (p := ⟨gb317,3,none⟩) (Kd.R_far (p := ⟨gb317,2,none⟩) (Kd.R_far (p := ⟨gb317,1,none⟩) (Kd.R_far (p := ⟨gb317,0,none⟩) (Kd.R_types HO310.out BK317.out (by decide)) (fun _ hk => hk.2) (.int .i64 t311)) (fun _ hk => hk.2) (.int .i64 t312)) (fun _ hk => hk.2) (.int .i64 t313)) (fun _ hk => hk.2) (.slice Ao42 t314.length co42)) (fun _ h_ => h_.1))))) (below_size (B_set HB.out)));have n6_ := Aside0.mk (blk_below (g := gb294) (o := .cells #[.int .i64 a1_0,.int .i64 a1_1,.int .i64 a1_2,.slice A1_3 l1_3.length c1_3] 25 (0,0)) (by (with_reducible repeat (first | refine blk_drewN ?_ _ | refine blk_drew ?_ | refine blk_alloc ?_ _));refine blk_far ?_ NB294_317.out _;(with_reducible repeat (first | refine blk_drewN ?_ _ | refine blk_drew ?_ | refine blk_alloc ?_ _));refine blk_far ?_ NB294_317.out _;(with_reducible repeat (first | refine blk_drewN ?_ _ | refine blk_drew ?_ | refine blk_alloc ?_ _));refine blk_far ?_ NB294_317.out _;(with_reducible repeat (first | refine blk_drewN ?_ _ | refine blk_drew ?_ | refine blk_alloc ?_ _));refine blk_far ?_ NB294_317.out _;(with_reducible repeat (first | refine blk_drewN ?_ _ | refine blk_drew ?_ | refine blk_alloc ?_ _));exact BK294.out) hb);have n7_ := Aside0.mk (blk_below (g := gb317) (o := .cells #[.int .i64 t311,.int .i64 t312,.int .i64 t313,.slice Ao42 t314.length co42] 31 (0,0)) (by (with_reducible repeat (first | refine blk_drewN ?_ _ | refine blk_drew ?_ | refine blk_alloc ?_ _));refine blk_put (cs := #[.int .i64 t311,.int .i64 t312,.int .i64 t313,.slice none 0 0]) ?_ 3 _ rfl;(with_reducible repeat (first | refine blk_drewN ?_ _ | refine blk_drew ?_ | refine blk_alloc ?_ _));refine blk_put (cs := #[.int .i64 t311,.int .i64 t312,.int .i64 0,.slice none 0 0]) ?_ 2 _ rfl;(with_reducible repeat (first | refine blk_drewN ?_ _ | refine blk_drew ?_ | refine blk_alloc ?_ _));refine blk_put (cs := #[.int .i64 t311,.int .i64 0,.int .i64 0,.slice none 0 0]) ?_ 1 _ rfl;(with_reducible repeat (first | refine blk_drewN ?_ _ | refine blk_drew ?_ | refine blk_alloc ?_ _));refine blk_put (cs := #[.int .i64 0,.int .i64 0,.int .i64 0,.slice none 0 0]) ?_ 0 _ rfl;(with_reducible repeat (first | refine blk_drewN ?_ _ | refine blk_drew ?_ | refine blk_alloc ?_ _));exact BK317.out) hb);have n8_ := Aside0.mk (below_step (B_set HB.out) hb);clear HO298;clear HO304;clear HO307;clear HO310;clear HO316;clear BK294;clear BK317;clear HB;have HO298 := n0_;have HO304 := n1_;have HO307 := n2_;have HO310 := n3_;have HO316 := n4_;have HO320 := n5_;have BK294 := n6_;have BK317 := n7_;have HB := n8_;clear n0_ n1_ n2_ n3_ n4_ n5_ n6_ n7_ n8_;(try clear hb);(try clear hb2);(try clear hk);(try clear hi);(try clear ho0);obtain ⟨Ao45,co45,eo45⟩ := Kd.R_slice HO320.out;subst eo45;obtain ⟨Ao46,co46,eo46⟩ := Kd.R_slice HO307.out;subst eo46) | ((with_reducible refine gate_callee (f := 15) rfl ?_);refine goesL_ (some 36) rfl rfl Try.func15 (by kernel_rfl) rfl #[.slice Ao45 t318.length co45,.slice Ao46 t305.length co46] rfl eq_up ?_;(with_reducible refine (laws_eqByteS.calls k _ _ t318 _ _ t305 true _ ?side1 ?side2 ?side3 ?side4 A16.out).mono ?_);(case side1 => exact Kd.C_up (Kd.R_reads' HO320.out).2.2);(case side2 => exact (Kd.R_reads' HO320.out).2.1);(case side3 => exact Kd.C_up (Kd.R_reads' HO307.out).2.2);(case side4 => exact (Kd.R_reads' HO307.out).2.1);rintro e w' ⟨rfl,⟨nd,rfl⟩⟩;refine ⟨_,rfl,?_⟩) | ((with_reducible refine gate_callee (f := 12) rfl ?_);refine goesL_ (some 40) rfl rfl Try.func12 (by kernel_rfl) rfl #[.slice A0 l0.length c0] rfl eq_up ?_;(with_reducible refine (laws_toByteS.calls k _ _ l0 t322 _ ?side1 ?side2 A18.out).mono ?_);(case side1 => repeat (first | exact (Kd.C_below HR0.out (B_set HB.out)) | (with_reducible refine Kd.C_alloc ?_ _) | (with_reducible refine Kd.C_drewN ?_ _) | (with_reducible refine Kd.C_drew ?_)));(case side2 => exact HC0.out);rintro e w47 ⟨v323,rfl,ho0,hb⟩;refine ⟨_,rfl,?_⟩;have n0_ := Aside0.mk (Kd.R_elder' (Kd.R_up HO298.out) (Kd.R_base ho0) hb);have n1_ := Aside0.mk (Kd.R_below (Kd.R_up HO304.out) hb);have n2_ := Aside0.mk (Kd.R_elder' (Kd.R_up HO307.out) (Kd.R_base ho0) hb);have n3_ := Aside0.mk (Kd.R_elder' (Kd.R_up HO310.out) (Kd.R_base ho0) hb);have n4_ := Aside0.mk (Kd.R_below (Kd.R_up HO316.out) hb);have n5_ := Aside0.mk (Kd.R_elder' (Kd.R_up HO320.out) (Kd.R_base ho0) hb);have n6_ := Aside0.mk (Kd.R_lower (Kd.R_new' (Kd.R_new' (Kd.R_new' (Kd.R_new' ho0 (Kd.R_lt (Kd.R_up HO298.out))) (Kd.R_lt (Kd.R_up HO307.out))) (Kd.R_lt (Kd.R_up HO310.out))) (Kd.R_lt (Kd.R_up HO320.out))) (below_size (B_set HB.out)));have n7_ := Aside0.mk (blk_below (g := gb294) (o := .cells #[.int .i64 a1_0,.int .i64 a1_1,.int .i64 a1_2,.slice A1_3 l1_3.length c1_3] 25 (0,0)) (blk_up BK294.out) hb);have n8_ := Aside0.mk (blk_below (g := gb317) (o := .cells #[.int .i64 t311,.int .i64 t312,.int .i64 t313,.slice Ao42 t314.length co42] 31 (0,0)) (blk_up BK317.out) hb);have n9_ := Aside0.mk (below_step (B_set HB.out) hb);clear HO298;clear HO304;clear HO307;clear HO310;clear HO316;clear HO320;clear BK294;clear BK317;clear HB;have HO298 := n0_;have HO304 := n1_;have HO307 := n2_;have HO310 := n3_;have HO316 := n4_;have HO320 := n5_;have HO324 := n6_;have BK294 := n7_;have BK317 := n8_;have HB := n9_;clear n0_ n1_ n2_ n3_ n4_ n5_ n6_ n7_ n8_ n9_;(try clear hb);(try clear hb2);(try clear hk);(try clear hi);(try clear ho0);obtain ⟨Ao48,co48,eo48⟩ := Kd.R_slice HO324.out;subst eo48) | ((with_reducible refine gate_callee (f := 15) rfl ?_);refine goesL_ (some 41) rfl rfl Try.func15 (by kernel_rfl) rfl #[.slice Ao43 t308.length co43,.slice Ao48 t322.length co48] rfl eq_up ?_;(with_reducible refine (laws_eqByteS.calls k _ _ t308 _ _ t322 true _ ?side1 ?side2 ?side3 ?side4 A19.out).mono ?_);(case side1 => exact Kd.C_up (Kd.R_reads' HO310.out).2.2);(case side2 => exact (Kd.R_reads' HO310.out).2.1);(case side3 => exact Kd.C_up (Kd.R_reads' HO324.out).2.2);(case side4 => exact (Kd.R_reads' HO324.out).2.1);rintro e w' ⟨rfl,⟨nd,rfl⟩⟩;refine ⟨_,rfl,?_⟩))
      (try (rw [drewN_self w47];generalize hq_ : World.drewN w47 _ = w47;have n0_ : Aside0 (Kd.R (Kd.int .u8) 5 w47 w.heap.size (fun k_ => some k_ ≠ (.slice Ao46 t305.length co46 : Value).ownBlock ∧ some k_ ≠ (.slice Ao43 t308.length co43 : Value).ownBlock ∧ some k_ ≠ (.slice Ao45 t318.length co45 : Value).ownBlock ∧ some k_ ≠ (.slice Ao48 t322.length co48 : Value).ownBlock) (.slice Ao33 t296.length co33) t296) := ⟨by rw [← hq_];exact (by (with_reducible repeat (first | apply Kd.R_alloc | apply Kd.R_drewN | apply Kd.R_drew));exact Kd.R_mono HO298.out (fun _ hk => ⟨hk.1.1.1.2,⟨hk.1.1.2,⟨hk.1.2,hk.2⟩⟩⟩))⟩;have n1_ : Aside0 (Kd.R k66 66 w47 w.heap.size (fun k_ => some k_ ≠ (.slice Ao42 t314.length co42 : Value).ownBlock) (.slice Ao34 t302.length co34) t302) := ⟨by rw [← hq_];exact (by (with_reducible repeat (first | apply Kd.R_alloc | apply Kd.R_drewN | apply Kd.R_drew));exact Kd.R_mono HO304.out (fun _ hk => hk.2))⟩;have n2_ : Aside0 (Kd.R (Kd.int .u8) 5 w47 w.heap.size (fun k_ => some k_ ≠ (.slice Ao33 t296.length co33 : Value).ownBlock ∧ some k_ ≠ (.slice Ao43 t308.length co43 : Value).ownBlock ∧ some k_ ≠ (.slice Ao45 t318.length co45 : Value).ownBlock ∧ some k_ ≠ (.slice Ao48 t322.length co48 : Value).ownBlock) (.slice Ao46 t305.length co46) t305) := ⟨by rw [← hq_];exact (by (with_reducible repeat (first | apply Kd.R_alloc | apply Kd.R_drewN | apply Kd.R_drew));exact Kd.R_mono HO307.out (fun _ hk => ⟨hk.1.1.1.2,⟨hk.1.1.2,⟨hk.1.2,hk.2⟩⟩⟩))⟩;have n3_ : Aside0 (Kd.R (Kd.int .u8) 5 w47 w.heap.size (fun k_ => some k_ ≠ (.slice Ao33 t296.length co33 : Value).ownBlock ∧ some k_ ≠ (.slice Ao46 t305.length co46 : Value).ownBlock ∧ some k_ ≠ (.slice Ao45 t318.length co45 : Value).ownBlock ∧ some k_ ≠ (.slice Ao48 t322.length co48 : Value).ownBlock) (.slice Ao43 t308.length co43) t308) := ⟨by rw [← hq_];exact (by (with_reducible repeat (first | apply Kd.R_alloc | apply Kd.R_drewN | apply Kd.R_drew));exact Kd.R_mono HO310.out (fun _ hk => ⟨hk.1.1.1.2,⟨hk.1.1.2,⟨hk.1.2,hk.2⟩⟩⟩))⟩;have n4_ : Aside0 (Kd.R k66 66 w47 w.heap.size (fun k_ => some k_ ≠ (.slice Ao34 t302.length co34 : Value).ownBlock) (.slice Ao42 t314.length co42) t314) := ⟨by rw [← hq_];exact (by (with_reducible repeat (first | apply Kd.R_alloc | apply Kd.R_drewN | apply Kd.R_drew));exact Kd.R_mono HO316.out (fun _ hk => hk.2))⟩;have n5_ : Aside0 (Kd.R (Kd.int .u8) 5 w47 w.heap.size (fun k_ => some k_ ≠ (.slice Ao33 t296.length co33 : Value).ownBlock ∧ some k_ ≠ (.slice Ao46 t305.length co46 : Value).ownBlock ∧ some k_ ≠ (.slice Ao43 t308.length co43 : Value).ownBlock ∧ some k_ ≠ (.slice Ao48 t322.length co48 : Value).ownBlock) (.slice Ao45 t318.length co45) t318) := ⟨by rw [← hq_];exact (by (with_reducible repeat (first | apply Kd.R_alloc | apply Kd.R_drewN | apply Kd.R_drew));exact Kd.R_mono HO320.out (fun _ hk => ⟨hk.1.1.1.2,⟨hk.1.1.2,⟨hk.1.2,hk.2⟩⟩⟩))⟩;have n6_ : Aside0 (Kd.R (Kd.int .u8) 5 w47 w.heap.size (fun k_ => some k_ ≠ (.slice Ao33 t296.length co33 : Value).ownBlock ∧ some k_ ≠ (.slice Ao46 t305.length co46 : Value).ownBlock ∧ some k_ ≠ (.slice Ao43 t308.length co43 : Value).ownBlock ∧ some k_ ≠ (.slice Ao45 t318.length co45 : Value).ownBlock) (.slice Ao48 t322.length co48) t322) := ⟨by rw [← hq_];exact (by (with_reducible repeat (first | apply Kd.R_alloc | apply Kd.R_drewN | apply Kd.R_drew));exact Kd.R_mono HO324.out (fun _ hk => ⟨hk.1.1.1.2,⟨hk.1.1.2,⟨hk.1.2,hk.2⟩⟩⟩))⟩;have n7_ : Aside0 (w47.heap[gb294]? = some (.cells #[.int .i64 a1_0,.int .i64 a1_1,.int .i64 a1_2,.slice A1_3 l1_3.length c1_3] 25 (0,0))) := ⟨by rw [← hq_];exact (blk_up BK294.out)⟩;have n8_ : Aside0 (w47.heap[gb317]? = some (.cells #[.int .i64 t311,.int .i64 t312,.int .i64 t313,.slice Ao42 t314.length co42] 31 (0,0))) := ⟨by rw [← hq_];exact (blk_up BK317.out)⟩;have n9_ : Aside0 (Below w.heap.size w w47) := ⟨by rw [← hq_];exact (B_set HB.out)⟩;clear HO298 HO304 HO307 HO310 HO316 HO320 HO324 BK294 BK317 HB hq_;have HO298 := n0_;have HO304 := n1_;have HO307 := n2_;have HO310 := n3_;have HO316 := n4_;have HO320 := n5_;have HO324 := n6_;have BK294 := n7_;have BK317 := n8_;have HB := n9_;clear n0_ n1_ n2_ n3_ n4_ n5_ n6_ n7_ n8_ n9_))
      have n0_ := Aside0.mk (Kd.R_drew HO298.out)
      have n1_ := Aside0.mk (Kd.R_drew HO304.out)
      have n2_ := Aside0.mk (Kd.R_drew HO307.out)
      have n3_ := Aside0.mk (Kd.R_drew HO310.out)
      have n4_ := Aside0.mk (Kd.R_drew HO316.out)
      have n5_ := Aside0.mk (Kd.R_drew HO320.out)
      have n6_ := Aside0.mk (Kd.R_drew HO324.out)
      have n7_ := Aside0.mk (blk_drew BK294.out)
      have n8_ := Aside0.mk (blk_drew BK317.out)
      have n9_ := Aside0.mk (below_drew1 HB.out)
      clear HO298
      clear HO304
      clear HO307
      clear HO310
      clear HO316
      clear HO320
      clear HO324
      clear BK294
      clear BK317
      clear HB
      have HO298 := n0_
      have HO304 := n1_
      have HO307 := n2_
      have HO310 := n3_
      have HO316 := n4_
      have HO320 := n5_
      have HO324 := n6_
      have BK294 := n7_
      have BK317 := n8_
      have HB := n9_
      clear n0_ n1_ n2_ n3_ n4_ n5_ n6_ n7_ n8_ n9_
      refine start_ (n := 5) (S := fun w' => w'.cell? ⟨gb317,0,none⟩ = some (.int .i64 t311) ∧ w'.cell? ⟨gb317,1,none⟩ = some (.int .i64 t312) ∧ w'.cell? ⟨gb317,2,none⟩ = some (.int .i64 t313) ∧ w'.cell? ⟨gb317,3,none⟩ = some (.slice Ao42 t314.length co42) ∧ w'.cell? ⟨gb294,0,none⟩ = some (.int .i64 a1_0) ∧ w'.cell? ⟨gb294,1,none⟩ = some (.int .i64 a1_1) ∧ w'.cell? ⟨gb294,2,none⟩ = some (.int .i64 a1_2) ∧ w'.cell? ⟨gb294,3,none⟩ = some (.slice A1_3 l1_3.length c1_3)) (ds := []) #[false,false,false,false,false] (by kernel_rfl) rfl rfl ⟨(blk_cell BK317.out 0).trans rfl,(blk_cell BK317.out 1).trans rfl,(blk_cell BK317.out 2).trans rfl,(blk_cell BK317.out 3).trans rfl,(blk_cell BK294.out 0).trans rfl,(blk_cell BK294.out 1).trans rfl,(blk_cell BK294.out 2).trans rfl,(blk_cell BK294.out 3).trans rfl⟩ (fun hHeld => ?_)
      generalize w47.drew = w49 at HO298 HO304 HO307 HO310 HO316 HO320 HO324 BK294 BK317 HB hHeld ⊢
      refine take_ (i := 0) (N := some 43) (v := ?_) (a' := ?_) #[true,false,false,false,false] rfl rfl (by kernel_rfl) (fun _ _ _ h => h) (Or.inl ⟨by rfl,?_⟩) hHeld ?_ ?_
      rotate_left
      ·rintro w' ⟨s0,s1,s2,s3,s4,s5,s6,s7⟩
       go_simp
       with_reducible rfl
      rotate_left
      ·simp only [Act.put,List.setIfInBounds_toArray,List.set_cons_zero,List.set_cons_succ,i64_w,i32_w]
       rfl
      refine take_ (i := 1) (N := some 44) (v := ?_) (a' := ?_) #[true,true,false,false,false] rfl rfl (by kernel_rfl) (fun _ _ _ h => h) (Or.inl ⟨by rfl,?_⟩) hHeld ?_ ?_
      rotate_left
      ·rintro w' ⟨s0,s1,s2,s3,s4,s5,s6,s7⟩
       go_simp
       with_reducible rfl
      rotate_left
      ·simp only [Act.put,List.setIfInBounds_toArray,List.set_cons_zero,List.set_cons_succ,i64_w,i32_w]
       rfl
      refine one_ (i := 2) (N := some 45) #[true,true,true,false,false] rfl rfl (by kernel_rfl) (by decide) (fun K hK => ?_)
      refine goes_ Try.func13 (by kernel_rfl) rfl #[.agg #[.int .i64 a1_0,.int .i64 a1_1,.int .i64 a1_2,.slice A1_3 l1_3.length c1_3]] (by rfl) rfl rfl eq_up ?_
      with_reducible refine (laws_toManifest.calls k a1_0 a1_1 a1_2 _ _ l1_3 t326 t327 t328 t329 _ ?side1 ?side2 A21.out).mono ?_
      (case side1 => repeat (first | exact (Kd.C_below HR1_3.out HB.out) | (with_reducible refine Kd.C_alloc ?_ _) | (with_reducible refine Kd.C_drewN ?_ _) | (with_reducible refine Kd.C_drew ?_)))
      (case side2 => exact HC1_3.out)
      rintro e w50 ⟨v330,rfl,ho0,hb⟩
      refine ⟨_,rfl,?_⟩
      have n0_ := Aside0.mk (Kd.R_below (Kd.R_up HO298.out) hb)
      have n1_ := Aside0.mk (Kd.R_elder' (Kd.R_up HO304.out) (Kd.R_base ho0) hb)
      have n2_ := Aside0.mk (Kd.R_below (Kd.R_up HO307.out) hb)
      have n3_ := Aside0.mk (Kd.R_below (Kd.R_up HO310.out) hb)
      have n4_ := Aside0.mk (Kd.R_elder' (Kd.R_up HO316.out) (Kd.R_base ho0) hb)
      have n5_ := Aside0.mk (Kd.R_below (Kd.R_up HO320.out) hb)
      have n6_ := Aside0.mk (Kd.R_below (Kd.R_up HO324.out) hb)
      have n7_ := Aside0.mk (Kd.R_lower (Kd.R_new' (Kd.R_new' ho0 (Kd.R_lt (Kd.R_up HO304.out))) (Kd.R_lt (Kd.R_up HO316.out))) (below_size (B_set HB.out)))
      have n8_ := Aside0.mk (blk_below (g := gb294) (o := .cells #[.int .i64 a1_0,.int .i64 a1_1,.int .i64 a1_2,.slice A1_3 l1_3.length c1_3] 25 (0,0)) (blk_up BK294.out) hb)
      have n9_ := Aside0.mk (blk_below (g := gb317) (o := .cells #[.int .i64 t311,.int .i64 t312,.int .i64 t313,.slice Ao42 t314.length co42] 31 (0,0)) (blk_up BK317.out) hb)
      have n10_ := Aside0.mk (below_step (B_set HB.out) hb)
      clear HO298
      clear HO304
      clear HO307
      clear HO310
      clear HO316
      clear HO320
      clear HO324
      clear BK294
      clear BK317
      clear HB
      have HO298 := n0_
      have HO304 := n1_
      have HO307 := n2_
      have HO310 := n3_
      have HO316 := n4_
      have HO320 := n5_
      have HO324 := n6_
      have HO331 := n7_
      have BK294 := n8_
      have BK317 := n9_
      have HB := n10_
      clear n0_ n1_ n2_ n3_ n4_ n5_ n6_ n7_ n8_ n9_ n10_
      (try clear hb)
      (try clear hb2)
      (try clear hk)
      (try clear hi)
      (try clear ho0)
      obtain ⟨Ao51,co51,eo51⟩ := Kd.R_slice HO331.out
      (first | subst eo51 | (injection eo51 with f1_ f2_ f3_;have f4_ := f1_.symm;have f5_ := f3_.symm;clear f1_ f2_ f3_;subst f4_;subst f5_))
      refine hK.out _ _ ⟨(blk_cell BK317.out 0).trans rfl,(blk_cell BK317.out 1).trans rfl,(blk_cell BK317.out 2).trans rfl,(blk_cell BK317.out 3).trans rfl,(blk_cell BK294.out 0).trans rfl,(blk_cell BK294.out 1).trans rfl,(blk_cell BK294.out 2).trans rfl,(blk_cell BK294.out 3).trans rfl⟩ (fun hHeld => ?_)
      clear hK K
      refine norm_ (a' := ?_) ?_ ?_
      rotate_left
      ·show Act.put _ (some 45) _ = _
       simp only [Act.put,List.setIfInBounds_toArray,List.set_cons_zero,List.set_cons_succ,i64_w,i32_w]
       rfl
      refine one_ (i := 3) (N := some 46) #[true,true,true,true,false] rfl rfl (by kernel_rfl) (by decide) (fun K hK => ?_)
      refine goes_ Try.func16 (by kernel_rfl) rfl #[.agg #[.int .i64 t311,.int .i64 t312,.int .i64 t313,.slice Ao42 t314.length co42],.agg #[.int .i64 t326,.int .i64 t327,.int .i64 t328,.slice Ao51 t329.length co51]] (by rfl) rfl rfl eq_up ?_
      with_reducible refine (laws_eqManifest.calls k t311 t312 t313 _ _ t314 t326 t327 t328 _ _ t329 true _ ?side1 ?side2 ?side3 ?side4 A22.out).mono ?_
      (case side1 => exact Kd.C_up (Kd.R_reads' HO316.out).2.2)
      (case side2 => exact (Kd.R_reads' HO316.out).2.1)
      (case side3 => exact Kd.C_up (Kd.R_reads' HO331.out).2.2)
      (case side4 => exact (Kd.R_reads' HO331.out).2.1)
      rintro e w52 ⟨rfl,hb⟩
      refine ⟨_,rfl,?_⟩
      have n0_ := Aside0.mk (Kd.R_below (Kd.R_up HO298.out) hb)
      have n1_ := Aside0.mk (Kd.R_below (Kd.R_up HO304.out) hb)
      have n2_ := Aside0.mk (Kd.R_below (Kd.R_up HO307.out) hb)
      have n3_ := Aside0.mk (Kd.R_below (Kd.R_up HO310.out) hb)
      have n4_ := Aside0.mk (Kd.R_below (Kd.R_up HO316.out) hb)
      have n5_ := Aside0.mk (Kd.R_below (Kd.R_up HO320.out) hb)
      have n6_ := Aside0.mk (Kd.R_below (Kd.R_up HO324.out) hb)
      have n7_ := Aside0.mk (Kd.R_below (Kd.R_up HO331.out) hb)
      have n8_ := Aside0.mk (blk_below (g := gb294) (o := .cells #[.int .i64 a1_0,.int .i64 a1_1,.int .i64 a1_2,.slice A1_3 l1_3.length c1_3] 25 (0,0)) (blk_up BK294.out) hb)
      have n9_ := Aside0.mk (blk_below (g := gb317) (o := .cells #[.int .i64 t311,.int .i64 t312,.int .i64 t313,.slice Ao42 t314.length co42] 31 (0,0)) (blk_up BK317.out) hb)
      have n10_ := Aside0.mk (below_step (B_set HB.out) hb)
      clear HO298
      clear HO304
      clear HO307
      clear HO310
      clear HO316
      clear HO320
      clear HO324
      clear HO331
      clear BK294
      clear BK317
      clear HB
      have HO298 := n0_
      have HO304 := n1_
      have HO307 := n2_
      have HO310 := n3_
      have HO316 := n4_
      have HO320 := n5_
      have HO324 := n6_
      have HO331 := n7_
      have BK294 := n8_
      have BK317 := n9_
      have HB := n10_
      clear n0_ n1_ n2_ n3_ n4_ n5_ n6_ n7_ n8_ n9_ n10_
      (try clear hb)
      (try clear hb2)
      (try clear hk)
      (try clear hi)
      refine hK.out _ _ ⟨(blk_cell BK317.out 0).trans rfl,(blk_cell BK317.out 1).trans rfl,(blk_cell BK317.out 2).trans rfl,(blk_cell BK317.out 3).trans rfl,(blk_cell BK294.out 0).trans rfl,(blk_cell BK294.out 1).trans rfl,(blk_cell BK294.out 2).trans rfl,(blk_cell BK294.out 3).trans rfl⟩ (fun hHeld => ?_)
      clear hK K
      refine norm_ (a' := ?_) ?_ ?_
      rotate_left
      ·show Act.put _ (some 46) _ = _
       simp only [Act.put,List.setIfInBounds_toArray,List.set_cons_zero,List.set_cons_succ,i64_w,i32_w]
       rfl
      refine pure_ (i := 4) (N := some 47) (v := ?_) (a' := ?_) #[true,true,true,true,true] rfl rfl (by kernel_rfl) (fun _ _ _ h => h) (Or.inl ⟨by rfl,?_⟩) ?_ ?_
      rotate_left
      ·intro w'
       go_simp
       with_reducible rfl
      rotate_left
      ·simp only [Act.put,List.setIfInBounds_toArray,List.set_cons_zero,List.set_cons_succ,i64_w,i32_w]
       rfl
      refine done_ (by kernel_rfl) ?_
      go_upto_region 20 with (first | ((with_reducible refine gate_callee (f := 24) rfl ?_);refine goesL_ (some 50) rfl rfl Try.func24 (by kernel_rfl) rfl #[.slice Ao43 t308.length co43,.int .i64 1] rfl eq_up ?_;(with_reducible refine (laws_markByteS.calls k (fun k_ => some k_ = (.slice Ao43 t308.length co43 : Value).ownBlock) (.slice Ao43 t308.length co43) t308 1 t333 t334 w _ ?side1 ?side2 A24.out).mono ?_);(case side1 => repeat (first | (with_reducible first | exact HB.out | apply below_alloc | apply pw_below_drewN | apply below_drew1 | refine below_set ?_ GE294.out | refine below_set ?_ GE317.out) | exact HB.out));(case side2 => exact Kd.R_tight rfl HO310.out);rintro e w53 ⟨rfl,hy0,hb,hkp⟩;refine ⟨_,rfl,?_⟩;have n0_ := Aside0.mk (blk_kept (blk_up BK294.out) hkp (fun hs_ => (fun e_ => (Kd.R_ne HO310.out BK294.out (by decide)) e_) hs_));have n1_ := Aside0.mk (Kd.R_mono (ok' := fun k_ => some k_ ≠ (.slice Ao46 t305.length co46 : Value).ownBlock ∧ some k_ ≠ (.slice Ao43 t308.length co43 : Value).ownBlock ∧ some k_ ≠ (.slice Ao45 t318.length co45 : Value).ownBlock ∧ some k_ ≠ (.slice Ao48 t322.length co48 : Value).ownBlock) (Kd.R_keptB (HO298.out) hkp (fun k_ hk_ hs_ => absurd hs_ (by revert hk_;(try simp only [and_imp]);intros;assumption))) (fun k_ hk_ => ⟨(by revert hk_;(try simp only [and_imp]);intros;assumption),(by revert hk_;(try simp only [and_imp]);intros;assumption),(by revert hk_;(try simp only [and_imp]);intros;assumption),(by revert hk_;(try simp only [and_imp]);intros;assumption)⟩));have n2_ := Aside0.mk (Kd.R_mono (ok' := fun k_ => some k_ ≠ (.slice Ao42 t314.length co42 : Value).ownBlock ∧ some k_ ≠ (.slice Ao51 t329.length co51 : Value).ownBlock) (Kd.R_keptB ((Kd.R_apart' HO304.out (Kd.R_typed HO310.out) (by decide))) hkp (fun k_ hk_ hs_ => absurd hs_ (by revert hk_;(try simp only [and_imp]);intros;assumption))) (fun k_ hk_ => ⟨(by revert hk_;(try simp only [and_imp]);intros;assumption),(by revert hk_;(try simp only [and_imp]);intros;assumption)⟩));have n3_ := Aside0.mk (Kd.R_mono (ok' := fun k_ => some k_ ≠ (.slice Ao33 t296.length co33 : Value).ownBlock ∧ some k_ ≠ (.slice Ao43 t308.length co43 : Value).ownBlock ∧ some k_ ≠ (.slice Ao45 t318.length co45 : Value).ownBlock ∧ some k_ ≠ (.slice Ao48 t322.length co48 : Value).ownBlock) (Kd.R_keptB (HO307.out) hkp (fun k_ hk_ hs_ => absurd hs_ (by revert hk_;(try simp only [and_imp]);intros;assumption))) (fun k_ hk_ => ⟨(by revert hk_;(try simp only [and_imp]);intros;assumption),(by revert hk_;(try simp only [and_imp]);intros;assumption),(by revert hk_;(try simp only [and_imp]);intros;assumption),(by revert hk_;(try simp only [and_imp]);intros;assumption)⟩));have n4_ := Aside0.mk (Kd.R_reok rfl hy0 (fun k_ e_ => HO310.out.1 k_ e_));have n5_ := Aside0.mk (Kd.R_mono (ok' := fun k_ => some k_ ≠ (.slice Ao34 t302.length co34 : Value).ownBlock ∧ some k_ ≠ (.slice Ao51 t329.length co51 : Value).ownBlock) (Kd.R_keptB ((Kd.R_apart' HO316.out (Kd.R_typed HO310.out) (by decide))) hkp (fun k_ hk_ hs_ => absurd hs_ (by revert hk_;(try simp only [and_imp]);intros;assumption))) (fun k_ hk_ => ⟨(by revert hk_;(try simp only [and_imp]);intros;assumption),(by revert hk_;(try simp only [and_imp]);intros;assumption)⟩));have n6_ := Aside0.mk (blk_kept (blk_up BK317.out) hkp (fun hs_ => (fun e_ => (Kd.R_ne HO310.out BK317.out (by decide)) e_) hs_));have n7_ := Aside0.mk (Kd.R_mono (ok' := fun k_ => some k_ ≠ (.slice Ao33 t296.length co33 : Value).ownBlock ∧ some k_ ≠ (.slice Ao46 t305.length co46 : Value).ownBlock ∧ some k_ ≠ (.slice Ao43 t308.length co43 : Value).ownBlock ∧ some k_ ≠ (.slice Ao48 t322.length co48 : Value).ownBlock) (Kd.R_keptB (HO320.out) hkp (fun k_ hk_ hs_ => absurd hs_ (by revert hk_;(try simp only [and_imp]);intros;assumption))) (fun k_ hk_ => ⟨(by revert hk_;(try simp only [and_imp]);intros;assumption),(by revert hk_;(try simp only [and_imp]);intros;assumption),(by revert hk_;(try simp only [and_imp]);intros;assumption),(by revert hk_;(try simp only [and_imp]);intros;assumption)⟩));have n8_ := Aside0.mk (Kd.R_mono (ok' := fun k_ => some k_ ≠ (.slice Ao33 t296.length co33 : Value).ownBlock ∧ some k_ ≠ (.slice Ao46 t305.length co46 : Value).ownBlock ∧ some k_ ≠ (.slice Ao43 t308.length co43 : Value).ownBlock ∧ some k_ ≠ (.slice Ao45 t318.length co45 : Value).ownBlock) (Kd.R_keptB (HO324.out) hkp (fun k_ hk_ hs_ => absurd hs_ (by revert hk_;(try simp only [and_imp]);intros;assumption))) (fun k_ hk_ => ⟨(by revert hk_;(try simp only [and_imp]);intros;assumption),(by revert hk_;(try simp only [and_imp]);intros;assumption),(by revert hk_;(try simp only [and_imp]);intros;assumption),(by revert hk_;(try simp only [and_imp]);intros;assumption)⟩));have n9_ := Aside0.mk (Kd.R_mono (ok' := fun k_ => some k_ ≠ (.slice Ao34 t302.length co34 : Value).ownBlock ∧ some k_ ≠ (.slice Ao42 t314.length co42 : Value).ownBlock) (Kd.R_keptB ((Kd.R_apart' HO331.out (Kd.R_typed HO310.out) (by decide))) hkp (fun k_ hk_ hs_ => absurd hs_ (by revert hk_;(try simp only [and_imp]);intros;assumption))) (fun k_ hk_ => ⟨(by revert hk_;(try simp only [and_imp]);intros;assumption),(by revert hk_;(try simp only [and_imp]);intros;assumption)⟩));have n10_ := Aside0.mk (hb);clear BK294;clear HO298;clear HO304;clear HO307;clear HO310;clear HO316;clear BK317;clear HO320;clear HO324;clear HO331;clear HB;have BK294 := n0_;have HO298 := n1_;have HO304 := n2_;have HO307 := n3_;have HO310 := n4_;have HO316 := n5_;have BK317 := n6_;have HO320 := n7_;have HO324 := n8_;have HO331 := n9_;have HB := n10_;clear n0_ n1_ n2_ n3_ n4_ n5_ n6_ n7_ n8_ n9_ n10_;(try clear hb);(try clear hkp);(try clear hy0);have hcz54_0 : w53.cell? ⟨gb317,0,none⟩ = some (.int .i64 t311) := (blk_cell BK317.out 0).trans rfl;have hcz54_1 : w53.cell? ⟨gb317,1,none⟩ = some (.int .i64 t312) := (blk_cell BK317.out 1).trans rfl;have hcz54_2 : w53.cell? ⟨gb317,2,none⟩ = some (.int .i64 t313) := (blk_cell BK317.out 2).trans rfl;have hcz54_3 : w53.cell? ⟨gb317,3,none⟩ = some (.slice Ao42 t314.length co42) := (blk_cell BK317.out 3).trans rfl;have hfz54_0 := blk_frozen BK317.out 0;have hfz54_1 := blk_frozen BK317.out 1;have hfz54_2 := blk_frozen BK317.out 2;have hfz54_3 := blk_frozen BK317.out 3) | ((with_reducible refine gate_callee (f := 25) rfl ?_);refine goesL_ (some 53) rfl rfl Try.func25 (by kernel_rfl) rfl #[.agg #[.int .i64 t311,.int .i64 t312,.int .i64 t313,.slice Ao42 t314.length co42],.int .i64 t333] rfl eq_up ?_;(with_reducible refine (laws_markManifest.calls k t311 t312 t313 (fun k_ => some k_ = (.slice Ao42 t314.length co42 : Value).ownBlock) (.slice Ao42 t314.length co42) t314 t333 t335 t336 w _ ?side1 ?side2 A25.out).mono ?_);(case side1 => repeat (first | (with_reducible first | exact HB.out | apply below_alloc | apply pw_below_drewN | apply below_drew1 | refine below_set ?_ GE294.out | refine below_set ?_ GE317.out) | exact HB.out));(case side2 => exact Kd.R_tight rfl HO316.out);rintro e w55 ⟨rfl,hy0,hb,hkp⟩;refine ⟨_,rfl,?_⟩;have n0_ := Aside0.mk (blk_kept (blk_up BK294.out) hkp (fun hs_ => (fun e_ => (Kd.R_ne HO316.out BK294.out (by decide)) e_) hs_));have n1_ := Aside0.mk (Kd.R_mono (ok' := fun k_ => some k_ ≠ (.slice Ao46 t305.length co46 : Value).ownBlock ∧ some k_ ≠ (.slice Ao43 t308.length co43 : Value).ownBlock ∧ some k_ ≠ (.slice Ao45 t318.length co45 : Value).ownBlock ∧ some k_ ≠ (.slice Ao48 t322.length co48 : Value).ownBlock) (Kd.R_keptB ((Kd.R_apart' HO298.out (Kd.R_typed HO316.out) (by decide))) hkp (fun k_ hk_ hs_ => absurd hs_ (by revert hk_;(try simp only [and_imp]);intros;assumption))) (fun k_ hk_ => ⟨(by revert hk_;(try simp only [and_imp]);intros;assumption),(by revert hk_;(try simp only [and_imp]);intros;assumption),(by revert hk_;(try simp only [and_imp]);intros;assumption),(by revert hk_;(try simp only [and_imp]);intros;assumption)⟩));have n2_ := Aside0.mk (Kd.R_mono (ok' := fun k_ => some k_ ≠ (.slice Ao42 t314.length co42 : Value).ownBlock ∧ some k_ ≠ (.slice Ao51 t329.length co51 : Value).ownBlock) (Kd.R_keptB (HO304.out) hkp (fun k_ hk_ hs_ => absurd hs_ (by revert hk_;(try simp only [and_imp]);intros;assumption))) (fun k_ hk_ => ⟨(by revert hk_;(try simp only [and_imp]);intros;assumption),(by revert hk_;(try simp only [and_imp]);intros;assumption)⟩));have n3_ := Aside0.mk (Kd.R_mono (ok' := fun k_ => some k_ ≠ (.slice Ao33 t296.length co33 : Value).ownBlock ∧ some k_ ≠ (.slice Ao43 t308.length co43 : Value).ownBlock ∧ some k_ ≠ (.slice Ao45 t318.length co45 : Value).ownBlock ∧ some k_ ≠ (.slice Ao48 t322.length co48 : Value).ownBlock) (Kd.R_keptB ((Kd.R_apart' HO307.out (Kd.R_typed HO316.out) (by decide))) hkp (fun k_ hk_ hs_ => absurd hs_ (by revert hk_;(try simp only [and_imp]);intros;assumption))) (fun k_ hk_ => ⟨(by revert hk_;(try simp only [and_imp]);intros;assumption),(by revert hk_;(try simp only [and_imp]);intros;assumption),(by revert hk_;(try simp only [and_imp]);intros;assumption),(by revert hk_;(try simp only [and_imp]);intros;assumption)⟩));have n4_ := Aside0.mk (Kd.R_mono (ok' := fun k_ => some k_ ≠ (.slice Ao33 t296.length co33 : Value).ownBlock ∧ some k_ ≠ (.slice Ao46 t305.length co46 : Value).ownBlock ∧ some k_ ≠ (.slice Ao45 t318.length co45 : Value).ownBlock ∧ some k_ ≠ (.slice Ao48 t322.length co48 : Value).ownBlock) (Kd.R_keptB ((Kd.R_apart' HO310.out (Kd.R_typed HO316.out) (by decide))) hkp (fun k_ hk_ hs_ => absurd hs_ (by revert hk_;(try simp only [and_imp]);intros;assumption))) (fun k_ hk_ => ⟨(by revert hk_;(try simp only [and_imp]);intros;assumption),(by revert hk_;(try simp only [and_imp]);intros;assumption),(by revert hk_;(try simp only [and_imp]);intros;assumption),(by revert hk_;(try simp only [and_imp]);intros;assumption)⟩));have n5_ := Aside0.mk (Kd.R_reok rfl hy0 (fun k_ e_ => HO316.out.1 k_ e_));have n6_ := Aside0.mk (blk_kept (blk_up BK317.out) hkp (fun hs_ => (fun e_ => (Kd.R_ne HO316.out BK317.out (by decide)) e_) hs_));have n7_ := Aside0.mk (Kd.R_mono (ok' := fun k_ => some k_ ≠ (.slice Ao33 t296.length co33 : Value).ownBlock ∧ some k_ ≠ (.slice Ao46 t305.length co46 : Value).ownBlock ∧ some k_ ≠ (.slice Ao43 t308.length co43 : Value).ownBlock ∧ some k_ ≠ (.slice Ao48 t322.length co48 : Value).ownBlock) (Kd.R_keptB ((Kd.R_apart' HO320.out (Kd.R_typed HO316.out) (by decide))) hkp (fun k_ hk_ hs_ => absurd hs_ (by revert hk_;(try simp only [and_imp]);intros;assumption))) (fun k_ hk_ => ⟨(by revert hk_;(try simp only [and_imp]);intros;assumption),(by revert hk_;(try simp only [and_imp]);intros;assumption),(by revert hk_;(try simp only [and_imp]);intros;assumption),(by revert hk_;(try simp only [and_imp]);intros;assumption)⟩));have n8_ := Aside0.mk (Kd.R_mono (ok' := fun k_ => some k_ ≠ (.slice Ao33 t296.length co33 : Value).ownBlock ∧ some k_ ≠ (.slice Ao46 t305.length co46 : Value).ownBlock ∧ some k_ ≠ (.slice Ao43 t308.length co43 : Value).ownBlock ∧ some k_ ≠ (.slice Ao45 t318.length co45 : Value).ownBlock) (Kd.R_keptB ((Kd.R_apart' HO324.out (Kd.R_typed HO316.out) (by decide))) hkp (fun k_ hk_ hs_ => absurd hs_ (by revert hk_;(try simp only [and_imp]);intros;assumption))) (fun k_ hk_ => ⟨(by revert hk_;(try simp only [and_imp]);intros;assumption),(by revert hk_;(try simp only [and_imp]);intros;assumption),(by revert hk_;(try simp only [and_imp]);intros;assumption),(by revert hk_;(try simp only [and_imp]);intros;assumption)⟩));have n9_ := Aside0.mk (Kd.R_mono (ok' := fun k_ => some k_ ≠ (.slice Ao34 t302.length co34 : Value).ownBlock ∧ some k_ ≠ (.slice Ao42 t314.length co42 : Value).ownBlock) (Kd.R_keptB (HO331.out) hkp (fun k_ hk_ hs_ => absurd hs_ (by revert hk_;(try simp only [and_imp]);intros;assumption))) (fun k_ hk_ => ⟨(by revert hk_;(try simp only [and_imp]);intros;assumption),(by revert hk_;(try simp only [and_imp]);intros;assumption)⟩));have n10_ := Aside0.mk (hb);clear BK294;clear HO298;clear HO304;clear HO307;clear HO310;clear HO316;clear BK317;clear HO320;clear HO324;clear HO331;clear HB;have BK294 := n0_;have HO298 := n1_;have HO304 := n2_;have HO307 := n3_;have HO310 := n4_;have HO316 := n5_;have BK317 := n6_;have HO320 := n7_;have HO324 := n8_;have HO331 := n9_;have HB := n10_;clear n0_ n1_ n2_ n3_ n4_ n5_ n6_ n7_ n8_ n9_ n10_;(try clear hb);(try clear hkp);(try clear hy0)))
      (try simp only [Act.put,List.setIfInBounds_toArray,List.set_cons_zero,List.set_cons_succ])
      go_cut [61] (fun v61 wc => ∃ (kq : Nat) (x61_25 : Bool),v61 = .bool x61_25 ∧ Aside0 (laws_FnExactPutMan.j0 kq l0 t305 t318 x61_25 a1_0 a1_1 a1_2 l1_3 = some r) ∧ Aside0 (kq ≤ k) ∧ Aside0 (Kd.R (Kd.int .u8) 5 wc w.heap.size (fun k_ => some k_ ≠ ((.slice Ao45 t318.length co45) : Value).ownBlock) (.slice Ao46 t305.length co46) t305) ∧ Aside0 (Kd.R (Kd.int .u8) 5 wc w.heap.size (fun k_ => some k_ ≠ ((.slice Ao46 t305.length co46) : Value).ownBlock) (.slice Ao45 t318.length co45) t318) ∧ Aside0 (Kd.R k66 66 wc w.heap.size (fun _ => True) (.slice Ao42 t314.length co42) t336) ∧ Aside0 (wc.heap[gb294]? = some (.cells #[.int .i64 a1_0,.int .i64 a1_1,.int .i64 a1_2,(.slice A1_3 l1_3.length c1_3)] 25 (0,0))) ∧ Aside0 (wc.heap[gb317]? = some (.cells #[.int .i64 t311,.int .i64 t312,.int .i64 t313,(.slice Ao42 t314.length co42)] 31 (0,0))) ∧ Aside0 (Below w.heap.size w wc))
      case first =>
       have H := HC26.out
       clear HC26
       by_cases c56 : t335 < 0
       ·rw [if_pos c56] at H
        have c56b0 : decide (t335 < 0) = true := decide_eq_true c56
        clear c56
        (first | rw [c56b0] | (simp only [i64_w,i32_w];rw [c56b0]) | skip)
        have H' := Aside0.mk H
        clear H
        go_wp2
        go_meet
        case rel => exact ⟨_,(true),(by first | rfl | (simp;done) | (simp [*];done)),H',⟨by first | omega | exact Nat.le_refl _⟩,⟨by (with_reducible repeat (first | apply Kd.R_alloc | apply Kd.R_drewN | apply Kd.R_drew));exact Kd.R_mono HO307.out (fun _ hk => hk.2.2.1)⟩,⟨by (with_reducible repeat (first | apply Kd.R_alloc | apply Kd.R_drewN | apply Kd.R_drew));exact Kd.R_mono HO320.out (fun _ hk => hk.2.1)⟩,⟨by (with_reducible repeat (first | apply Kd.R_alloc | apply Kd.R_drewN | apply Kd.R_drew));exact Kd.R_mono HO316.out (fun _ hk => trivial)⟩,⟨by (with_reducible repeat (first | refine blk_drewN ?_ _ | refine blk_drew ?_ | refine blk_alloc ?_ _));exact BK294.out⟩,⟨by (with_reducible repeat (first | refine blk_drewN ?_ _ | refine blk_drew ?_ | refine blk_alloc ?_ _));exact BK317.out⟩,⟨by repeat (first | (with_reducible first | exact HB.out | apply below_alloc | apply pw_below_drewN | apply below_drew1 | refine below_set ?_ GE294.out | refine below_set ?_ GE317.out) | exact HB.out)⟩⟩
       ·rw [if_neg c56] at H
        have c56b0 : decide (t335 < 0) = false := decide_eq_false c56
        clear c56
        (first | rw [c56b0] | (simp only [i64_w,i32_w];rw [c56b0]) | skip)
        replace H := Option.bind_eq_some_iff.mp H
        obtain ⟨t337,A570,H⟩ := H
        replace H : (laws_FnExactPutMan.j0 k l0 t305 t318 (!t337) a1_0 a1_1 a1_2 l1_3) = some r := H
        have A57 := Aside0.mk A570
        clear A570
        have H' := Aside0.mk H
        clear H
        go_wp2_with (first | (go_at_call 15;(with_reducible refine (laws_eqByteS.calls k _ _ t318 _ _ t305 t337 _ ?side1 ?side2 ?side3 ?side4 A57.out).mono ?_);(case side1 => exact Kd.C_up (Kd.R_reads' HO320.out).2.2);(case side2 => exact (Kd.R_reads' HO320.out).2.1);(case side3 => exact Kd.C_up (Kd.R_reads' HO307.out).2.2);(case side4 => exact (Kd.R_reads' HO307.out).2.1);rintro e w' ⟨rfl,⟨nd,rfl⟩⟩))
        go_meet
        case rel => exact ⟨_,(!t337),(by first | rfl | (simp;done) | (simp [*];done)),H',⟨by first | omega | exact Nat.le_refl _⟩,⟨by (with_reducible repeat (first | apply Kd.R_alloc | apply Kd.R_drewN | apply Kd.R_drew));exact Kd.R_mono HO307.out (fun _ hk => hk.2.2.1)⟩,⟨by (with_reducible repeat (first | apply Kd.R_alloc | apply Kd.R_drewN | apply Kd.R_drew));exact Kd.R_mono HO320.out (fun _ hk => hk.2.1)⟩,⟨by (with_reducible repeat (first | apply Kd.R_alloc | apply Kd.R_drewN | apply Kd.R_drew));exact Kd.R_mono HO316.out (fun _ hk => trivial)⟩,⟨by (with_reducible repeat (first | refine blk_drewN ?_ _ | refine blk_drew ?_ | refine blk_alloc ?_ _));exact BK294.out⟩,⟨by (with_reducible repeat (first | refine blk_drewN ?_ _ | refine blk_drew ?_ | refine blk_alloc ?_ _));exact BK317.out⟩,⟨by repeat (first | (with_reducible first | exact HB.out | apply below_alloc | apply pw_below_drewN | apply below_drew1 | refine below_set ?_ GE294.out | refine below_set ?_ GE317.out) | exact HB.out)⟩⟩
      case rest =>
       clear HC26
       try clear c1
       try clear c2
       try clear p2
       try clear c3
       try clear c3b0
       try clear c3b1
       try clear c4
       try clear c5
       try clear c6
       try clear c6b0
       try clear c7
       try clear c10
       try clear c12
       try clear c13
       try clear c15
       try clear c16
       try clear c17
       try clear c20
       try clear c23
       try clear c24
       try clear c25
       try clear c28
       try clear c29
       try clear c40
       try clear c56
       try clear c56b0
       try clear hcz28_0
       try clear hcz28_1
       try clear hcz28_2
       try clear hcz28_3
       try clear hcz37_0
       try clear hcz37_1
       try clear hcz37_2
       try clear hcz37_3
       try clear hcz41_0
       try clear hcz41_1
       try clear hcz41_2
       try clear hcz41_3
       try clear hcz54_0
       try clear hcz54_1
       try clear hcz54_2
       try clear hcz54_3
       try clear hcz8_0
       try clear hcz8_1
       try clear hcz8_2
       try clear hcz8_3
       try clear hfz28_0
       try clear hfz28_1
       try clear hfz28_2
       try clear hfz28_3
       try clear hfz37_0
       try clear hfz37_1
       try clear hfz37_2
       try clear hfz37_3
       try clear hfz41_0
       try clear hfz41_1
       try clear hfz41_2
       try clear hfz41_3
       try clear hfz54_0
       try clear hfz54_1
       try clear hfz54_2
       try clear hfz54_3
       try clear hfz8_0
       try clear hfz8_1
       try clear hfz8_2
       try clear hfz8_3
       obtain ⟨kq,x61_25,rfl,HA,HJ25,HO_6,HO_9,HO_318003,BK294,BK317,HB⟩ := hcut
       have hl318003_25 := (Kd.R_reads' HO_318003.out).1
       rw [hl318003_25] at HO_318003
       (try simp only [hl318003_25])
       (try simp only [hl318003_25] at BK294)
       (try simp only [hl318003_25] at BK317)
       (try simp only [hl318003_25] at HO_6)
       (try simp only [hl318003_25] at HO_9)
       cases kq with
       | zero => exact absurd HA.out (by simp [laws_FnExactPutMan.j0])
       | succ kj25 =>
        have H := HA.out
        clear HA
        simp only [laws_FnExactPutMan.j0] at H
        by_cases c58 : x61_25 = true
        ·subst c58
         rw [if_pos rfl] at H
         obtain rfl := Option.some.inj H
         go_wp2
         go_ret
         exact ⟨by first | rfl | (simp [errW_none,errW_some] <;> rfl) | (simp [*,errW_none,errW_some] <;> rfl),by repeat (first | (with_reducible first | exact HB.out | apply below_alloc | apply pw_below_drewN | apply below_drew1 | refine below_set ?_ GE294.out | refine below_set ?_ GE317.out) | exact HB.out)⟩
        ·replace c58 := Bool.eq_false_iff.mpr c58
         subst c58
         have H1 : ((laws_markByteS.f kj25 t318 1).bind fun bt338 => ((laws_heldByteS.f kj25 bt338.2 1).bind fun t340 => (if t340 < 0 then (some false) else (if t340 = bt338.1 then ((laws_toByteS.f kj25 l0).bind fun t341 => ((laws_toManifest.f kj25 a1_0 a1_1 a1_2 l1_3).bind fun bt344 => ((impl_PutMan.f kj25 t341 bt344.1 bt344.2.1 bt344.2.2.1 bt344.2.2.2).bind fun t350 => ((laws_eqByteS.f kj25 t350 t305).bind fun t353 => (if t353 = true then ((laws_heldByteS.f kj25 bt338.2 1).bind fun t354 => (if t354 < 0 then (some false) else (if t354 = bt338.1 then (some true) else (some false)))) else (some false)))))) else (some false))))) = some r := by rw [if_neg (show ¬ (false = true) by decide)] at H;exact H
         clear H
         have H := H1
         clear H1
         replace H := Option.bind_eq_some_iff.mp H
         obtain ⟨⟨t338,t339⟩,A590,H⟩ := H
         (try dsimp only at H)
         have A59 := Aside0.mk A590
         clear A590
         replace H := Option.bind_eq_some_iff.mp H
         obtain ⟨t340,A600,H⟩ := H
         (try dsimp only at H)
         have A60 := Aside0.mk A600
         clear A600
         by_cases c61 : t340 < 0
         ·rw [if_pos c61] at H
          have c61b0 : decide (t340 < 0) = true := decide_eq_true c61
          clear c61
          obtain rfl := Option.some.inj H
          go_wp2_with (first | ((with_reducible refine gate_callee (f := 24) rfl ?_);refine goesL_ (some 64) rfl rfl Try.func24 (by kernel_rfl) rfl #[.slice Ao45 t318.length co45,.int .i64 1] rfl eq_up ?_;(with_reducible refine (laws_markByteS.calls kj25 (fun k_ => some k_ = (.slice Ao45 t318.length co45 : Value).ownBlock) (.slice Ao45 t318.length co45) t318 1 t338 t339 w _ ?side1 ?side2 A59.out).mono ?_);(case side1 => repeat (first | (with_reducible first | exact HB.out | apply below_alloc | apply pw_below_drewN | apply below_drew1 | refine below_set ?_ GE294.out | refine below_set ?_ GE317.out) | exact HB.out));(case side2 => exact Kd.R_tight rfl HO_9.out);rintro e w62 ⟨rfl,hy0,hb,hkp⟩;refine ⟨_,rfl,?_⟩;have n0_ := Aside0.mk (Kd.R_mono (ok' := fun k_ => some k_ ≠ (.slice Ao45 t318.length co45 : Value).ownBlock) (Kd.R_keptB (HO_6.out) hkp (fun k_ hk_ hs_ => (hk_) hs_)) (fun k_ hk_ => hk_.1));have n1_ := Aside0.mk (Kd.R_reok rfl hy0 (fun k_ e_ => HO_9.out.1 k_ e_));have n2_ := Aside0.mk (Kd.R_mono (ok' := fun k_ => True) (Kd.R_keptB ((Kd.R_apart' HO_318003.out (Kd.R_typed HO_9.out) (by decide))) hkp (fun k_ hk_ hs_ => (hk_.2) hs_)) (fun k_ hk_ => trivial));have n3_ := Aside0.mk (blk_kept (blk_up BK294.out) hkp (fun hs_ => (fun e_ => (Kd.R_ne HO_9.out BK294.out (by decide)) e_) hs_));have n4_ := Aside0.mk (blk_kept (blk_up BK317.out) hkp (fun hs_ => (fun e_ => (Kd.R_ne HO_9.out BK317.out (by decide)) e_) hs_));have n5_ := Aside0.mk (hb);clear HO_6;clear HO_9;clear HO_318003;clear BK294;clear BK317;clear HB;have HO_6 := n0_;have HO_9 := n1_;have HO_318003 := n2_;have BK294 := n3_;have BK317 := n4_;have HB := n5_;clear n0_ n1_ n2_ n3_ n4_ n5_;(try clear hb);(try clear hkp);(try clear hy0)) | ((with_reducible refine gate_callee (f := 30) rfl ?_);refine goesL_ (some 67) rfl rfl Try.func30 (by kernel_rfl) rfl #[.slice Ao45 t339.length co45,.int .i64 1] rfl (by (try simp only [List.map_toArray,List.map_cons,List.map_nil]);first | done | (rw [show t339.length = t318.length from (Kd.R_reads' HO_9.out).1.symm] <;> rfl) | rfl | (simp only [List.length_drop,List.length_take];rfl)) ?_;(with_reducible refine (laws_heldByteS.calls kj25 _ _ t339 1 t340 _ ?side1 ?side2 A60.out).mono ?_);(case side1 => exact Kd.C_up (Kd.R_reads' HO_9.out).2.2);(case side2 => rw [show t339.length = t318.length from (Kd.R_reads' HO_9.out).1.symm];exact (Kd.R_reads' HO_9.out).2.1);rintro e w' ⟨rfl,⟨nd,rfl⟩⟩;refine ⟨_,rfl,?_⟩))
          go_ret
          exact ⟨by first | rfl | (simp [errW_none,errW_some] <;> rfl) | (simp [*,errW_none,errW_some] <;> rfl),by repeat (first | (with_reducible first | exact HB.out | apply below_alloc | apply pw_below_drewN | apply below_drew1 | refine below_set ?_ GE294.out | refine below_set ?_ GE317.out) | exact HB.out)⟩
         ·rw [if_neg c61] at H
          have c61b0 : decide (t340 < 0) = false := decide_eq_false c61
          clear c61
          by_cases c63 : t340 = t338
          ·rw [if_pos c63] at H
           have c63b0 : (t340 == t338) = true := beq_iff_eq.mpr c63
           have c63b1 : (t340 != t338) = false := bne_eq_false_iff_eq.mpr c63
           clear c63
           replace H := Option.bind_eq_some_iff.mp H
           obtain ⟨t341,A640,H⟩ := H
           (try dsimp only at H)
           have A64 := Aside0.mk A640
           clear A640
           replace H := Option.bind_eq_some_iff.mp H
           obtain ⟨⟨t344,t345,t346,t347⟩,A650,H⟩ := H
           (try dsimp only at H)
           have A65 := Aside0.mk A650
           clear A650
           replace H := Option.bind_eq_some_iff.mp H
           obtain ⟨t350,A660,H⟩ := H
           (try dsimp only at H)
           have A66 := Aside0.mk A660
           clear A660
           replace H := Option.bind_eq_some_iff.mp H
           obtain ⟨t353,A670,H⟩ := H
           (try dsimp only at H)
           have A67 := Aside0.mk A670
           clear A670
           by_cases c68 : t353 = true
           ·subst c68
            rw [if_pos rfl] at H
            replace H := Option.bind_eq_some_iff.mp H
            obtain ⟨t354,A690,H⟩ := H
            replace H : (if t354 < 0 then (some false) else (if t354 = t338 then (some true) else (some false))) = some r := H
            have A69 := Aside0.mk A690
            clear A690
            by_cases c70 : t354 < 0
            ·rw [if_pos c70] at H
             have c70b0 : decide (t354 < 0) = true := decide_eq_true c70
             clear c70
             obtain rfl := Option.some.inj H
             try go_wp2_with (first | ((with_reducible refine gate_callee (f := 24) rfl ?_);refine goesL_ (some 64) rfl rfl Try.func24 (by kernel_rfl) rfl #[.slice Ao45 t318.length co45,.int .i64 1] rfl eq_up ?_;(with_reducible refine (laws_markByteS.calls kj25 (fun k_ => some k_ = (.slice Ao45 t318.length co45 : Value).ownBlock) (.slice Ao45 t318.length co45) t318 1 t338 t339 w _ ?side1 ?side2 A59.out).mono ?_);(case side1 => repeat (first | (with_reducible first | exact HB.out | apply below_alloc | apply pw_below_drewN | apply below_drew1 | refine below_set ?_ GE294.out | refine below_set ?_ GE317.out) | exact HB.out));(case side2 => exact Kd.R_tight rfl HO_9.out);rintro e w71 ⟨rfl,hy0,hb,hkp⟩;refine ⟨_,rfl,?_⟩;have n0_ := Aside0.mk (Kd.R_mono (ok' := fun k_ => some k_ ≠ (.slice Ao45 t318.length co45 : Value).ownBlock) (Kd.R_keptB (HO_6.out) hkp (fun k_ hk_ hs_ => (hk_) hs_)) (fun k_ hk_ => hk_.1));have n1_ := Aside0.mk (Kd.R_reok rfl hy0 (fun k_ e_ => HO_9.out.1 k_ e_));have n2_ := Aside0.mk (Kd.R_mono (ok' := fun k_ => True) (Kd.R_keptB ((Kd.R_apart' HO_318003.out (Kd.R_typed HO_9.out) (by decide))) hkp (fun k_ hk_ hs_ => (hk_.2) hs_)) (fun k_ hk_ => trivial));have n3_ := Aside0.mk (blk_kept (blk_up BK294.out) hkp (fun hs_ => (fun e_ => (Kd.R_ne HO_9.out BK294.out (by decide)) e_) hs_));have n4_ := Aside0.mk (blk_kept (blk_up BK317.out) hkp (fun hs_ => (fun e_ => (Kd.R_ne HO_9.out BK317.out (by decide)) e_) hs_));have n5_ := Aside0.mk (hb);clear HO_6;clear HO_9;clear HO_318003;clear BK294;clear BK317;clear HB;have HO_6 := n0_;have HO_9 := n1_;have HO_318003 := n2_;have BK294 := n3_;have BK317 := n4_;have HB := n5_;clear n0_ n1_ n2_ n3_ n4_ n5_;(try clear hb);(try clear hkp);(try clear hy0)) | ((with_reducible refine gate_callee (f := 30) rfl ?_);refine goesL_ (some 67) rfl rfl Try.func30 (by kernel_rfl) rfl #[.slice Ao45 t339.length co45,.int .i64 1] rfl (by (try simp only [List.map_toArray,List.map_cons,List.map_nil]);first | done | (rw [show t339.length = t318.length from (Kd.R_reads' HO_9.out).1.symm] <;> rfl) | rfl | (simp only [List.length_drop,List.length_take];rfl)) ?_;(with_reducible refine (laws_heldByteS.calls kj25 _ _ t339 1 t340 _ ?side1 ?side2 A60.out).mono ?_);(case side1 => exact Kd.C_up (Kd.R_reads' HO_9.out).2.2);(case side2 => rw [show t339.length = t318.length from (Kd.R_reads' HO_9.out).1.symm];exact (Kd.R_reads' HO_9.out).2.1);rintro e w' ⟨rfl,⟨nd,rfl⟩⟩;refine ⟨_,rfl,?_⟩))
             (try (rw [drewN_self w71];generalize hq_ : World.drewN w71 _ = w71;have n0_ : Aside0 (Kd.R k66 66 w71 w.heap.size (fun _ => True) (.slice Ao42 t336.length co42) t336) := ⟨by rw [← hq_];exact (Kd.R_up HO_318003.out)⟩;have n1_ : Aside0 (Kd.R (Kd.int .u8) 5 w71 w.heap.size (fun k_ => some k_ ≠ (.slice Ao45 t318.length co45 : Value).ownBlock) (.slice Ao46 t305.length co46) t305) := ⟨by rw [← hq_];exact (Kd.R_up HO_6.out)⟩;have n2_ : Aside0 (Kd.R (Kd.int .u8) 5 w71 w.heap.size (fun k_ => some k_ ≠ (.slice Ao46 t305.length co46 : Value).ownBlock) (.slice Ao45 t318.length co45) t339) := ⟨by rw [← hq_];exact (Kd.R_up HO_9.out)⟩;have n3_ : Aside0 (w71.heap[gb294]? = some (.cells #[.int .i64 a1_0,.int .i64 a1_1,.int .i64 a1_2,.slice A1_3 l1_3.length c1_3] 25 (0,0))) := ⟨by rw [← hq_];exact (blk_up BK294.out)⟩;have n4_ : Aside0 (w71.heap[gb317]? = some (.cells #[.int .i64 t311,.int .i64 t312,.int .i64 t313,.slice Ao42 t336.length co42] 31 (0,0))) := ⟨by rw [← hq_];exact (blk_up BK317.out)⟩;have n5_ : Aside0 (Below w.heap.size w w71) := ⟨by rw [← hq_];exact (B_set HB.out)⟩;clear HO_318003 HO_6 HO_9 BK294 BK317 HB hq_;have HO_318003 := n0_;have HO_6 := n1_;have HO_9 := n2_;have BK294 := n3_;have BK317 := n4_;have HB := n5_;clear n0_ n1_ n2_ n3_ n4_ n5_))
             have n0_ := Aside0.mk (Kd.R_drew HO_6.out)
             have n1_ := Aside0.mk (Kd.R_drew HO_9.out)
             have n2_ := Aside0.mk (Kd.R_drew HO_318003.out)
             have n3_ := Aside0.mk (blk_drew BK294.out)
             have n4_ := Aside0.mk (blk_drew BK317.out)
             have n5_ := Aside0.mk (below_drew1 HB.out)
             clear HO_6
             clear HO_9
             clear HO_318003
             clear BK294
             clear BK317
             clear HB
             have HO_6 := n0_
             have HO_9 := n1_
             have HO_318003 := n2_
             have BK294 := n3_
             have BK317 := n4_
             have HB := n5_
             clear n0_ n1_ n2_ n3_ n4_ n5_
             refine start_ (n := 6) (S := fun w' => w'.cell? ⟨gb294,0,none⟩ = some (.int .i64 a1_0) ∧ w'.cell? ⟨gb294,1,none⟩ = some (.int .i64 a1_1) ∧ w'.cell? ⟨gb294,2,none⟩ = some (.int .i64 a1_2) ∧ w'.cell? ⟨gb294,3,none⟩ = some (.slice A1_3 l1_3.length c1_3)) (ds := []) #[false,false,false,false,false,false] (by kernel_rfl) rfl rfl ⟨(blk_cell BK294.out 0).trans rfl,(blk_cell BK294.out 1).trans rfl,(blk_cell BK294.out 2).trans rfl,(blk_cell BK294.out 3).trans rfl⟩ (fun hHeld => ?_)
             generalize w71.drew = w72 at HO_6 HO_9 HO_318003 BK294 BK317 HB hHeld ⊢
             refine pure_ (i := 0) (N := some 73) (v := ?_) (a' := ?_) #[true,false,false,false,false,false] rfl rfl (by kernel_rfl) (fun _ _ _ h => h) (Or.inl ⟨by rfl,?_⟩) ?_ ?_
             rotate_left
             ·intro w'
              go_simp
              with_reducible rfl
             rotate_left
             ·simp only [Act.put,List.setIfInBounds_toArray,List.set_cons_zero,List.set_cons_succ,i64_w,i32_w]
              rfl
             refine take_ (i := 2) (N := some 75) (v := ?_) (a' := ?_) #[true,false,true,false,false,false] rfl rfl (by kernel_rfl) (fun _ _ _ h => h) (Or.inl ⟨by rfl,?_⟩) hHeld ?_ ?_
             rotate_left
             ·rintro w' ⟨s0,s1,s2,s3⟩
              go_simp
              with_reducible rfl
             rotate_left
             ·simp only [Act.put,List.setIfInBounds_toArray,List.set_cons_zero,List.set_cons_succ,i64_w,i32_w]
              rfl
             refine one_ (i := 1) (N := some 74) #[true,true,true,false,false,false] rfl rfl (by kernel_rfl) (by decide) (fun K hK => ?_)
             refine goes_ Try.func12 (by kernel_rfl) rfl #[.slice A0 l0.length c0] (by rfl) rfl rfl eq_up ?_
             with_reducible refine (laws_toByteS.calls kj25 _ _ l0 t341 _ ?side1 ?side2 A64.out).mono ?_
             (case side1 => repeat (first | exact (Kd.C_below HR0.out HB.out) | (with_reducible refine Kd.C_alloc ?_ _) | (with_reducible refine Kd.C_drewN ?_ _) | (with_reducible refine Kd.C_drew ?_)))
             (case side2 => exact HC0.out)
             rintro e w73 ⟨v342,rfl,ho0,hb⟩
             refine ⟨_,rfl,?_⟩
             have n0_ := Aside0.mk (Kd.R_elder' (Kd.R_up HO_6.out) (Kd.R_base ho0) hb)
             have n1_ := Aside0.mk (Kd.R_elder' (Kd.R_up HO_9.out) (Kd.R_base ho0) hb)
             have n2_ := Aside0.mk (Kd.R_below (Kd.R_up HO_318003.out) hb)
             have n3_ := Aside0.mk (Kd.R_lower (Kd.R_new' (Kd.R_new' ho0 (Kd.R_lt (Kd.R_up HO_6.out))) (Kd.R_lt (Kd.R_up HO_9.out))) (below_size (B_set HB.out)))
             have n4_ := Aside0.mk (blk_below (g := gb294) (o := .cells #[.int .i64 a1_0,.int .i64 a1_1,.int .i64 a1_2,.slice A1_3 l1_3.length c1_3] 25 (0,0)) (blk_up BK294.out) hb)
             have n5_ := Aside0.mk (blk_below (g := gb317) (o := .cells #[.int .i64 t311,.int .i64 t312,.int .i64 t313,.slice Ao42 t336.length co42] 31 (0,0)) (blk_up BK317.out) hb)
             have n6_ := Aside0.mk (below_step (B_set HB.out) hb)
             clear HO_6
             clear HO_9
             clear HO_318003
             clear BK294
             clear BK317
             clear HB
             have HO_6 := n0_
             have HO_9 := n1_
             have HO_318003 := n2_
             have HO343 := n3_
             have BK294 := n4_
             have BK317 := n5_
             have HB := n6_
             clear n0_ n1_ n2_ n3_ n4_ n5_ n6_
             (try clear hb)
             (try clear hb2)
             (try clear hk)
             (try clear hi)
             (try clear ho0)
             refine hK.out _ _ ⟨(blk_cell BK294.out 0).trans rfl,(blk_cell BK294.out 1).trans rfl,(blk_cell BK294.out 2).trans rfl,(blk_cell BK294.out 3).trans rfl⟩ (fun hHeld => ?_)
             clear hK K
             refine norm_ (a' := ?_) ?_ ?_
             rotate_left
             ·show Act.put _ (some 74) _ = _
              simp only [Act.put,List.setIfInBounds_toArray,List.set_cons_zero,List.set_cons_succ,i64_w,i32_w]
              rfl
             refine one_ (i := 3) (N := some 76) #[true,true,true,true,false,false] rfl rfl (by kernel_rfl) (by decide) (fun K hK => ?_)
             refine goes_ Try.func13 (by kernel_rfl) rfl #[.agg #[.int .i64 a1_0,.int .i64 a1_1,.int .i64 a1_2,.slice A1_3 l1_3.length c1_3]] (by rfl) rfl rfl eq_up ?_
             with_reducible refine (laws_toManifest.calls kj25 a1_0 a1_1 a1_2 _ _ l1_3 t344 t345 t346 t347 _ ?side1 ?side2 A65.out).mono ?_
             (case side1 => repeat (first | exact (Kd.C_below HR1_3.out HB.out) | (with_reducible refine Kd.C_alloc ?_ _) | (with_reducible refine Kd.C_drewN ?_ _) | (with_reducible refine Kd.C_drew ?_)))
             (case side2 => exact HC1_3.out)
             rintro e w74 ⟨v348,rfl,ho0,hb⟩
             refine ⟨_,rfl,?_⟩
             have n0_ := Aside0.mk (Kd.R_below (Kd.R_up HO_6.out) hb)
             have n1_ := Aside0.mk (Kd.R_below (Kd.R_up HO_9.out) hb)
             have n2_ := Aside0.mk (Kd.R_elder' (Kd.R_up HO_318003.out) (Kd.R_base ho0) hb)
             have n3_ := Aside0.mk (Kd.R_below (Kd.R_up HO343.out) hb)
             have n4_ := Aside0.mk (Kd.R_lower (Kd.R_new' ho0 (Kd.R_lt (Kd.R_up HO_318003.out))) (below_size (B_set HB.out)))
             have n5_ := Aside0.mk (blk_below (g := gb294) (o := .cells #[.int .i64 a1_0,.int .i64 a1_1,.int .i64 a1_2,.slice A1_3 l1_3.length c1_3] 25 (0,0)) (blk_up BK294.out) hb)
             have n6_ := Aside0.mk (blk_below (g := gb317) (o := .cells #[.int .i64 t311,.int .i64 t312,.int .i64 t313,.slice Ao42 t336.length co42] 31 (0,0)) (blk_up BK317.out) hb)
             have n7_ := Aside0.mk (below_step (B_set HB.out) hb)
             clear HO_6
             clear HO_9
             clear HO_318003
             clear HO343
             clear BK294
             clear BK317
             clear HB
             have HO_6 := n0_
             have HO_9 := n1_
             have HO_318003 := n2_
             have HO343 := n3_
             have HO349 := n4_
             have BK294 := n5_
             have BK317 := n6_
             have HB := n7_
             clear n0_ n1_ n2_ n3_ n4_ n5_ n6_ n7_
             (try clear hb)
             (try clear hb2)
             (try clear hk)
             (try clear hi)
             (try clear ho0)
             obtain ⟨Ao75,co75,eo75⟩ := Kd.R_slice HO343.out
             (first | subst eo75 | (injection eo75 with f1_ f2_ f3_;have f4_ := f1_.symm;have f5_ := f3_.symm;clear f1_ f2_ f3_;subst f4_;subst f5_))
             obtain ⟨Ao76,co76,eo76⟩ := Kd.R_slice HO349.out
             (first | subst eo76 | (injection eo76 with f1_ f2_ f3_;have f4_ := f1_.symm;have f5_ := f3_.symm;clear f1_ f2_ f3_;subst f4_;subst f5_))
             refine hK.out _ _ ⟨(blk_cell BK294.out 0).trans rfl,(blk_cell BK294.out 1).trans rfl,(blk_cell BK294.out 2).trans rfl,(blk_cell BK294.out 3).trans rfl⟩ (fun hHeld => ?_)
             clear hK K
             refine norm_ (a' := ?_) ?_ ?_
             rotate_left
             ·show Act.put _ (some 76) _ = _
              simp only [Act.put,List.setIfInBounds_toArray,List.set_cons_zero,List.set_cons_succ,i64_w,i32_w]
              rfl
             refine one_ (i := 4) (N := some 77) #[true,true,true,true,true,false] rfl rfl (by kernel_rfl) (by decide) (fun K hK => ?_)
             refine goes_ Try.func29 (by kernel_rfl) rfl #[.slice Ao75 t341.length co75,.agg #[.int .i64 t344,.int .i64 t345,.int .i64 t346,.slice Ao76 t347.length co76]] (by rfl) rfl rfl eq_up ?_
             with_reducible refine (impl_PutMan.calls kj25 _ _ t341 t344 t345 t346 _ _ t347 t350 _ ?side1 ?side2 ?side3 ?side4 A66.out).mono ?_
             (case side1 => exact Kd.C_up (Kd.R_reads' HO343.out).2.2)
             (case side2 => exact (Kd.R_reads' HO343.out).2.1)
             (case side3 => exact Kd.C_up (Kd.R_reads' HO349.out).2.2)
             (case side4 => exact (Kd.R_reads' HO349.out).2.1)
             rintro e w77 ⟨v351,rfl,ho0,hb⟩
             refine ⟨_,rfl,?_⟩
             have n0_ := Aside0.mk (Kd.R_elder' (Kd.R_up HO_6.out) (Kd.R_base ho0) hb)
             have n1_ := Aside0.mk (Kd.R_elder' (Kd.R_up HO_9.out) (Kd.R_base ho0) hb)
             have n2_ := Aside0.mk (Kd.R_below (Kd.R_up HO_318003.out) hb)
             have n3_ := Aside0.mk (Kd.R_elder' (Kd.R_up HO343.out) (Kd.R_base ho0) hb)
             have n4_ := Aside0.mk (Kd.R_below (Kd.R_up HO349.out) hb)
             have n5_ := Aside0.mk (Kd.R_lower (Kd.R_new' (Kd.R_new' (Kd.R_new' ho0 (Kd.R_lt (Kd.R_up HO_6.out))) (Kd.R_lt (Kd.R_up HO_9.out))) (Kd.R_lt (Kd.R_up HO343.out))) (below_size (B_set HB.out)))
             have n6_ := Aside0.mk (blk_below (g := gb294) (o := .cells #[.int .i64 a1_0,.int .i64 a1_1,.int .i64 a1_2,.slice A1_3 l1_3.length c1_3] 25 (0,0)) (blk_up BK294.out) hb)
             have n7_ := Aside0.mk (blk_below (g := gb317) (o := .cells #[.int .i64 t311,.int .i64 t312,.int .i64 t313,.slice Ao42 t336.length co42] 31 (0,0)) (blk_up BK317.out) hb)
             have n8_ := Aside0.mk (below_step (B_set HB.out) hb)
             clear HO_6
             clear HO_9
             clear HO_318003
             clear HO343
             clear HO349
             clear BK294
             clear BK317
             clear HB
             have HO_6 := n0_
             have HO_9 := n1_
             have HO_318003 := n2_
             have HO343 := n3_
             have HO349 := n4_
             have HO352 := n5_
             have BK294 := n6_
             have BK317 := n7_
             have HB := n8_
             clear n0_ n1_ n2_ n3_ n4_ n5_ n6_ n7_ n8_
             (try clear hb)
             (try clear hb2)
             (try clear hk)
             (try clear hi)
             (try clear ho0)
             refine hK.out _ _ ⟨(blk_cell BK294.out 0).trans rfl,(blk_cell BK294.out 1).trans rfl,(blk_cell BK294.out 2).trans rfl,(blk_cell BK294.out 3).trans rfl⟩ (fun hHeld => ?_)
             clear hK K
             refine norm_ (a' := ?_) ?_ ?_
             rotate_left
             ·show Act.put _ (some 77) _ = _
              simp only [Act.put,List.setIfInBounds_toArray,List.set_cons_zero,List.set_cons_succ,i64_w,i32_w]
              rfl
             refine pure_ (i := 5) (N := some 13) (v := ?_) (a' := ?_) #[true,true,true,true,true,true] rfl rfl (by kernel_rfl) (fun _ _ _ h => h) (Or.inl ⟨by rfl,?_⟩) ?_ ?_
             rotate_left
             ·intro w'
              go_simp
              with_reducible rfl
             rotate_left
             ·simp only [Act.put,List.setIfInBounds_toArray,List.set_cons_zero,List.set_cons_succ,i64_w,i32_w]
              rfl
             refine done_ (by kernel_rfl) ?_
             obtain ⟨Ao78,co78,eo78⟩ := Kd.R_slice HO352.out
             subst eo78
             try go_wp2_with (first | ((with_reducible refine gate_callee (f := 15) rfl ?_);refine goesL_ (some 80) rfl rfl Try.func15 (by kernel_rfl) rfl #[.slice Ao78 t350.length co78,.slice Ao46 t305.length co46] rfl eq_up ?_;(with_reducible refine (laws_eqByteS.calls kj25 _ _ t350 _ _ t305 true _ ?side1 ?side2 ?side3 ?side4 A67.out).mono ?_);(case side1 => exact Kd.C_up (Kd.R_reads' HO352.out).2.2);(case side2 => exact (Kd.R_reads' HO352.out).2.1);(case side3 => exact Kd.C_up (Kd.R_reads' HO_6.out).2.2);(case side4 => exact (Kd.R_reads' HO_6.out).2.1);rintro e w' ⟨rfl,⟨nd,rfl⟩⟩;refine ⟨_,rfl,?_⟩) | ((with_reducible refine gate_callee (f := 30) rfl ?_);refine goesL_ (some 84) rfl rfl Try.func30 (by kernel_rfl) rfl #[.slice Ao45 t339.length co45,.int .i64 1] rfl (by (try simp only [List.map_toArray,List.map_cons,List.map_nil]);first | done | (rw [show t339.length = t318.length from (Kd.R_reads' HO_9.out).1.symm] <;> rfl) | rfl | (simp only [List.length_drop,List.length_take];rfl)) ?_;(with_reducible refine (laws_heldByteS.calls kj25 _ _ t339 1 t354 _ ?side1 ?side2 A69.out).mono ?_);(case side1 => exact Kd.C_up (Kd.R_reads' HO_9.out).2.2);(case side2 => rw [show t339.length = t318.length from (Kd.R_reads' HO_9.out).1.symm];exact (Kd.R_reads' HO_9.out).2.1);rintro e w' ⟨rfl,⟨nd,rfl⟩⟩;refine ⟨_,rfl,?_⟩))
             go_ret
             exact ⟨by first | rfl | (simp [errW_none,errW_some] <;> rfl) | (simp [*,errW_none,errW_some] <;> rfl),by repeat (first | (with_reducible first | exact HB.out | apply below_alloc | apply pw_below_drewN | apply below_drew1 | refine below_set ?_ GE294.out | refine below_set ?_ GE317.out) | exact HB.out)⟩
            ·rw [if_neg c70] at H
             have c70b0 : decide (t354 < 0) = false := decide_eq_false c70
             clear c70
             by_cases c79 : t354 = t338
             ·rw [if_pos c79] at H
              have c79b0 : (t354 == t338) = true := beq_iff_eq.mpr c79
              have c79b1 : (t354 != t338) = false := bne_eq_false_iff_eq.mpr c79
              clear c79
              obtain rfl := Option.some.inj H
              try go_wp2_with (first | ((with_reducible refine gate_callee (f := 24) rfl ?_);refine goesL_ (some 64) rfl rfl Try.func24 (by kernel_rfl) rfl #[.slice Ao45 t318.length co45,.int .i64 1] rfl eq_up ?_;(with_reducible refine (laws_markByteS.calls kj25 (fun k_ => some k_ = (.slice Ao45 t318.length co45 : Value).ownBlock) (.slice Ao45 t318.length co45) t318 1 t338 t339 w _ ?side1 ?side2 A59.out).mono ?_);(case side1 => repeat (first | (with_reducible first | exact HB.out | apply below_alloc | apply pw_below_drewN | apply below_drew1 | refine below_set ?_ GE294.out | refine below_set ?_ GE317.out) | exact HB.out));(case side2 => exact Kd.R_tight rfl HO_9.out);rintro e w80 ⟨rfl,hy0,hb,hkp⟩;refine ⟨_,rfl,?_⟩;have n0_ := Aside0.mk (Kd.R_mono (ok' := fun k_ => some k_ ≠ (.slice Ao45 t318.length co45 : Value).ownBlock) (Kd.R_keptB (HO_6.out) hkp (fun k_ hk_ hs_ => (hk_) hs_)) (fun k_ hk_ => hk_.1));have n1_ := Aside0.mk (Kd.R_reok rfl hy0 (fun k_ e_ => HO_9.out.1 k_ e_));have n2_ := Aside0.mk (Kd.R_mono (ok' := fun k_ => True) (Kd.R_keptB ((Kd.R_apart' HO_318003.out (Kd.R_typed HO_9.out) (by decide))) hkp (fun k_ hk_ hs_ => (hk_.2) hs_)) (fun k_ hk_ => trivial));have n3_ := Aside0.mk (blk_kept (blk_up BK294.out) hkp (fun hs_ => (fun e_ => (Kd.R_ne HO_9.out BK294.out (by decide)) e_) hs_));have n4_ := Aside0.mk (blk_kept (blk_up BK317.out) hkp (fun hs_ => (fun e_ => (Kd.R_ne HO_9.out BK317.out (by decide)) e_) hs_));have n5_ := Aside0.mk (hb);clear HO_6;clear HO_9;clear HO_318003;clear BK294;clear BK317;clear HB;have HO_6 := n0_;have HO_9 := n1_;have HO_318003 := n2_;have BK294 := n3_;have BK317 := n4_;have HB := n5_;clear n0_ n1_ n2_ n3_ n4_ n5_;(try clear hb);(try clear hkp);(try clear hy0)) | ((with_reducible refine gate_callee (f := 30) rfl ?_);refine goesL_ (some 67) rfl rfl Try.func30 (by kernel_rfl) rfl #[.slice Ao45 t339.length co45,.int .i64 1] rfl (by (try simp only [List.map_toArray,List.map_cons,List.map_nil]);first | done | (rw [show t339.length = t318.length from (Kd.R_reads' HO_9.out).1.symm] <;> rfl) | rfl | (simp only [List.length_drop,List.length_take];rfl)) ?_;(with_reducible refine (laws_heldByteS.calls kj25 _ _ t339 1 t340 _ ?side1 ?side2 A60.out).mono ?_);(case side1 => exact Kd.C_up (Kd.R_reads' HO_9.out).2.2);(case side2 => rw [show t339.length = t318.length from (Kd.R_reads' HO_9.out).1.symm];exact (Kd.R_reads' HO_9.out).2.1);rintro e w' ⟨rfl,⟨nd,rfl⟩⟩;refine ⟨_,rfl,?_⟩))
              (try (rw [drewN_self w80];generalize hq_ : World.drewN w80 _ = w80;have n0_ : Aside0 (Kd.R k66 66 w80 w.heap.size (fun _ => True) (.slice Ao42 t336.length co42) t336) := ⟨by rw [← hq_];exact (Kd.R_up HO_318003.out)⟩;have n1_ : Aside0 (Kd.R (Kd.int .u8) 5 w80 w.heap.size (fun k_ => some k_ ≠ (.slice Ao45 t318.length co45 : Value).ownBlock) (.slice Ao46 t305.length co46) t305) := ⟨by rw [← hq_];exact (Kd.R_up HO_6.out)⟩;have n2_ : Aside0 (Kd.R (Kd.int .u8) 5 w80 w.heap.size (fun k_ => some k_ ≠ (.slice Ao46 t305.length co46 : Value).ownBlock) (.slice Ao45 t318.length co45) t339) := ⟨by rw [← hq_];exact (Kd.R_up HO_9.out)⟩;have n3_ : Aside0 (w80.heap[gb294]? = some (.cells #[.int .i64 a1_0,.int .i64 a1_1,.int .i64 a1_2,.slice A1_3 l1_3.length c1_3] 25 (0,0))) := ⟨by rw [← hq_];exact (blk_up BK294.out)⟩;have n4_ : Aside0 (w80.heap[gb317]? = some (.cells #[.int .i64 t311,.int .i64 t312,.int .i64 t313,.slice Ao42 t336.length co42] 31 (0,0))) := ⟨by rw [← hq_];exact (blk_up BK317.out)⟩;have n5_ : Aside0 (Below w.heap.size w w80) := ⟨by rw [← hq_];exact (B_set HB.out)⟩;clear HO_318003 HO_6 HO_9 BK294 BK317 HB hq_;have HO_318003 := n0_;have HO_6 := n1_;have HO_9 := n2_;have BK294 := n3_;have BK317 := n4_;have HB := n5_;clear n0_ n1_ n2_ n3_ n4_ n5_))
              have n0_ := Aside0.mk (Kd.R_drew HO_6.out)
              have n1_ := Aside0.mk (Kd.R_drew HO_9.out)
              have n2_ := Aside0.mk (Kd.R_drew HO_318003.out)
              have n3_ := Aside0.mk (blk_drew BK294.out)
              have n4_ := Aside0.mk (blk_drew BK317.out)
              have n5_ := Aside0.mk (below_drew1 HB.out)
              clear HO_6
              clear HO_9
              clear HO_318003
              clear BK294
              clear BK317
              clear HB
              have HO_6 := n0_
              have HO_9 := n1_
              have HO_318003 := n2_
              have BK294 := n3_
              have BK317 := n4_
              have HB := n5_
              clear n0_ n1_ n2_ n3_ n4_ n5_
              refine start_ (n := 6) (S := fun w' => w'.cell? ⟨gb294,0,none⟩ = some (.int .i64 a1_0) ∧ w'.cell? ⟨gb294,1,none⟩ = some (.int .i64 a1_1) ∧ w'.cell? ⟨gb294,2,none⟩ = some (.int .i64 a1_2) ∧ w'.cell? ⟨gb294,3,none⟩ = some (.slice A1_3 l1_3.length c1_3)) (ds := []) #[false,false,false,false,false,false] (by kernel_rfl) rfl rfl ⟨(blk_cell BK294.out 0).trans rfl,(blk_cell BK294.out 1).trans rfl,(blk_cell BK294.out 2).trans rfl,(blk_cell BK294.out 3).trans rfl⟩ (fun hHeld => ?_)
              generalize w80.drew = w81 at HO_6 HO_9 HO_318003 BK294 BK317 HB hHeld ⊢
              refine pure_ (i := 0) (N := some 73) (v := ?_) (a' := ?_) #[true,false,false,false,false,false] rfl rfl (by kernel_rfl) (fun _ _ _ h => h) (Or.inl ⟨by rfl,?_⟩) ?_ ?_
              rotate_left
              ·intro w'
               go_simp
               with_reducible rfl
              rotate_left
              ·simp only [Act.put,List.setIfInBounds_toArray,List.set_cons_zero,List.set_cons_succ,i64_w,i32_w]
               rfl
              refine take_ (i := 2) (N := some 75) (v := ?_) (a' := ?_) #[true,false,true,false,false,false] rfl rfl (by kernel_rfl) (fun _ _ _ h => h) (Or.inl ⟨by rfl,?_⟩) hHeld ?_ ?_
              rotate_left
              ·rintro w' ⟨s0,s1,s2,s3⟩
               go_simp
               with_reducible rfl
              rotate_left
              ·simp only [Act.put,List.setIfInBounds_toArray,List.set_cons_zero,List.set_cons_succ,i64_w,i32_w]
               rfl
              refine one_ (i := 1) (N := some 74) #[true,true,true,false,false,false] rfl rfl (by kernel_rfl) (by decide) (fun K hK => ?_)
              refine goes_ Try.func12 (by kernel_rfl) rfl #[.slice A0 l0.length c0] (by rfl) rfl rfl eq_up ?_
              with_reducible refine (laws_toByteS.calls kj25 _ _ l0 t341 _ ?side1 ?side2 A64.out).mono ?_
              (case side1 => repeat (first | exact (Kd.C_below HR0.out HB.out) | (with_reducible refine Kd.C_alloc ?_ _) | (with_reducible refine Kd.C_drewN ?_ _) | (with_reducible refine Kd.C_drew ?_)))
              (case side2 => exact HC0.out)
              rintro e w82 ⟨v342,rfl,ho0,hb⟩
              refine ⟨_,rfl,?_⟩
              have n0_ := Aside0.mk (Kd.R_elder' (Kd.R_up HO_6.out) (Kd.R_base ho0) hb)
              have n1_ := Aside0.mk (Kd.R_elder' (Kd.R_up HO_9.out) (Kd.R_base ho0) hb)
              have n2_ := Aside0.mk (Kd.R_below (Kd.R_up HO_318003.out) hb)
              have n3_ := Aside0.mk (Kd.R_lower (Kd.R_new' (Kd.R_new' ho0 (Kd.R_lt (Kd.R_up HO_6.out))) (Kd.R_lt (Kd.R_up HO_9.out))) (below_size (B_set HB.out)))
              have n4_ := Aside0.mk (blk_below (g := gb294) (o := .cells #[.int .i64 a1_0,.int .i64 a1_1,.int .i64 a1_2,.slice A1_3 l1_3.length c1_3] 25 (0,0)) (blk_up BK294.out) hb)
              have n5_ := Aside0.mk (blk_below (g := gb317) (o := .cells #[.int .i64 t311,.int .i64 t312,.int .i64 t313,.slice Ao42 t336.length co42] 31 (0,0)) (blk_up BK317.out) hb)
              have n6_ := Aside0.mk (below_step (B_set HB.out) hb)
              clear HO_6
              clear HO_9
              clear HO_318003
              clear BK294
              clear BK317
              clear HB
              have HO_6 := n0_
              have HO_9 := n1_
              have HO_318003 := n2_
              have HO343 := n3_
              have BK294 := n4_
              have BK317 := n5_
              have HB := n6_
              clear n0_ n1_ n2_ n3_ n4_ n5_ n6_
              (try clear hb)
              (try clear hb2)
              (try clear hk)
              (try clear hi)
              (try clear ho0)
              refine hK.out _ _ ⟨(blk_cell BK294.out 0).trans rfl,(blk_cell BK294.out 1).trans rfl,(blk_cell BK294.out 2).trans rfl,(blk_cell BK294.out 3).trans rfl⟩ (fun hHeld => ?_)
              clear hK K
              refine norm_ (a' := ?_) ?_ ?_
              rotate_left
              ·show Act.put _ (some 74) _ = _
               simp only [Act.put,List.setIfInBounds_toArray,List.set_cons_zero,List.set_cons_succ,i64_w,i32_w]
               rfl
              refine one_ (i := 3) (N := some 76) #[true,true,true,true,false,false] rfl rfl (by kernel_rfl) (by decide) (fun K hK => ?_)
              refine goes_ Try.func13 (by kernel_rfl) rfl #[.agg #[.int .i64 a1_0,.int .i64 a1_1,.int .i64 a1_2,.slice A1_3 l1_3.length c1_3]] (by rfl) rfl rfl eq_up ?_
              with_reducible refine (laws_toManifest.calls kj25 a1_0 a1_1 a1_2 _ _ l1_3 t344 t345 t346 t347 _ ?side1 ?side2 A65.out).mono ?_
              (case side1 => repeat (first | exact (Kd.C_below HR1_3.out HB.out) | (with_reducible refine Kd.C_alloc ?_ _) | (with_reducible refine Kd.C_drewN ?_ _) | (with_reducible refine Kd.C_drew ?_)))
              (case side2 => exact HC1_3.out)
              rintro e w83 ⟨v348,rfl,ho0,hb⟩
              refine ⟨_,rfl,?_⟩
              have n0_ := Aside0.mk (Kd.R_below (Kd.R_up HO_6.out) hb)
              have n1_ := Aside0.mk (Kd.R_below (Kd.R_up HO_9.out) hb)
              have n2_ := Aside0.mk (Kd.R_elder' (Kd.R_up HO_318003.out) (Kd.R_base ho0) hb)
              have n3_ := Aside0.mk (Kd.R_below (Kd.R_up HO343.out) hb)
              have n4_ := Aside0.mk (Kd.R_lower (Kd.R_new' ho0 (Kd.R_lt (Kd.R_up HO_318003.out))) (below_size (B_set HB.out)))
              have n5_ := Aside0.mk (blk_below (g := gb294) (o := .cells #[.int .i64 a1_0,.int .i64 a1_1,.int .i64 a1_2,.slice A1_3 l1_3.length c1_3] 25 (0,0)) (blk_up BK294.out) hb)
              have n6_ := Aside0.mk (blk_below (g := gb317) (o := .cells #[.int .i64 t311,.int .i64 t312,.int .i64 t313,.slice Ao42 t336.length co42] 31 (0,0)) (blk_up BK317.out) hb)
              have n7_ := Aside0.mk (below_step (B_set HB.out) hb)
              clear HO_6
              clear HO_9
              clear HO_318003
              clear HO343
              clear BK294
              clear BK317
              clear HB
              have HO_6 := n0_
              have HO_9 := n1_
              have HO_318003 := n2_
              have HO343 := n3_
              have HO349 := n4_
              have BK294 := n5_
              have BK317 := n6_
              have HB := n7_
              clear n0_ n1_ n2_ n3_ n4_ n5_ n6_ n7_
              (try clear hb)
              (try clear hb2)
              (try clear hk)
              (try clear hi)
              (try clear ho0)
              obtain ⟨Ao84,co84,eo84⟩ := Kd.R_slice HO343.out
              (first | subst eo84 | (injection eo84 with f1_ f2_ f3_;have f4_ := f1_.symm;have f5_ := f3_.symm;clear f1_ f2_ f3_;subst f4_;subst f5_))
              obtain ⟨Ao85,co85,eo85⟩ := Kd.R_slice HO349.out
              (first | subst eo85 | (injection eo85 with f1_ f2_ f3_;have f4_ := f1_.symm;have f5_ := f3_.symm;clear f1_ f2_ f3_;subst f4_;subst f5_))
              refine hK.out _ _ ⟨(blk_cell BK294.out 0).trans rfl,(blk_cell BK294.out 1).trans rfl,(blk_cell BK294.out 2).trans rfl,(blk_cell BK294.out 3).trans rfl⟩ (fun hHeld => ?_)
              clear hK K
              refine norm_ (a' := ?_) ?_ ?_
              rotate_left
              ·show Act.put _ (some 76) _ = _
               simp only [Act.put,List.setIfInBounds_toArray,List.set_cons_zero,List.set_cons_succ,i64_w,i32_w]
               rfl
              refine one_ (i := 4) (N := some 77) #[true,true,true,true,true,false] rfl rfl (by kernel_rfl) (by decide) (fun K hK => ?_)
              refine goes_ Try.func29 (by kernel_rfl) rfl #[.slice Ao84 t341.length co84,.agg #[.int .i64 t344,.int .i64 t345,.int .i64 t346,.slice Ao85 t347.length co85]] (by rfl) rfl rfl eq_up ?_
              with_reducible refine (impl_PutMan.calls kj25 _ _ t341 t344 t345 t346 _ _ t347 t350 _ ?side1 ?side2 ?side3 ?side4 A66.out).mono ?_
              (case side1 => exact Kd.C_up (Kd.R_reads' HO343.out).2.2)
              (case side2 => exact (Kd.R_reads' HO343.out).2.1)
              (case side3 => exact Kd.C_up (Kd.R_reads' HO349.out).2.2)
              (case side4 => exact (Kd.R_reads' HO349.out).2.1)
              rintro e w86 ⟨v351,rfl,ho0,hb⟩
              refine ⟨_,rfl,?_⟩
              have n0_ := Aside0.mk (Kd.R_elder' (Kd.R_up HO_6.out) (Kd.R_base ho0) hb)
              have n1_ := Aside0.mk (Kd.R_elder' (Kd.R_up HO_9.out) (Kd.R_base ho0) hb)
              have n2_ := Aside0.mk (Kd.R_below (Kd.R_up HO_318003.out) hb)
              have n3_ := Aside0.mk (Kd.R_elder' (Kd.R_up HO343.out) (Kd.R_base ho0) hb)
              have n4_ := Aside0.mk (Kd.R_below (Kd.R_up HO349.out) hb)
              have n5_ := Aside0.mk (Kd.R_lower (Kd.R_new' (Kd.R_new' (Kd.R_new' ho0 (Kd.R_lt (Kd.R_up HO_6.out))) (Kd.R_lt (Kd.R_up HO_9.out))) (Kd.R_lt (Kd.R_up HO343.out))) (below_size (B_set HB.out)))
              have n6_ := Aside0.mk (blk_below (g := gb294) (o := .cells #[.int .i64 a1_0,.int .i64 a1_1,.int .i64 a1_2,.slice A1_3 l1_3.length c1_3] 25 (0,0)) (blk_up BK294.out) hb)
              have n7_ := Aside0.mk (blk_below (g := gb317) (o := .cells #[.int .i64 t311,.int .i64 t312,.int .i64 t313,.slice Ao42 t336.length co42] 31 (0,0)) (blk_up BK317.out) hb)
              have n8_ := Aside0.mk (below_step (B_set HB.out) hb)
              clear HO_6
              clear HO_9
              clear HO_318003
              clear HO343
              clear HO349
              clear BK294
              clear BK317
              clear HB
              have HO_6 := n0_
              have HO_9 := n1_
              have HO_318003 := n2_
              have HO343 := n3_
              have HO349 := n4_
              have HO352 := n5_
              have BK294 := n6_
              have BK317 := n7_
              have HB := n8_
              clear n0_ n1_ n2_ n3_ n4_ n5_ n6_ n7_ n8_
              (try clear hb)
              (try clear hb2)
              (try clear hk)
              (try clear hi)
              (try clear ho0)
              refine hK.out _ _ ⟨(blk_cell BK294.out 0).trans rfl,(blk_cell BK294.out 1).trans rfl,(blk_cell BK294.out 2).trans rfl,(blk_cell BK294.out 3).trans rfl⟩ (fun hHeld => ?_)
              clear hK K
              refine norm_ (a' := ?_) ?_ ?_
              rotate_left
              ·show Act.put _ (some 77) _ = _
               simp only [Act.put,List.setIfInBounds_toArray,List.set_cons_zero,List.set_cons_succ,i64_w,i32_w]
               rfl
              refine pure_ (i := 5) (N := some 13) (v := ?_) (a' := ?_) #[true,true,true,true,true,true] rfl rfl (by kernel_rfl) (fun _ _ _ h => h) (Or.inl ⟨by rfl,?_⟩) ?_ ?_
              rotate_left
              ·intro w'
               go_simp
               with_reducible rfl
              rotate_left
              ·simp only [Act.put,List.setIfInBounds_toArray,List.set_cons_zero,List.set_cons_succ,i64_w,i32_w]
               rfl
              refine done_ (by kernel_rfl) ?_
              obtain ⟨Ao87,co87,eo87⟩ := Kd.R_slice HO352.out
              subst eo87
              try go_wp2_with (first | ((with_reducible refine gate_callee (f := 15) rfl ?_);refine goesL_ (some 80) rfl rfl Try.func15 (by kernel_rfl) rfl #[.slice Ao87 t350.length co87,.slice Ao46 t305.length co46] rfl eq_up ?_;(with_reducible refine (laws_eqByteS.calls kj25 _ _ t350 _ _ t305 true _ ?side1 ?side2 ?side3 ?side4 A67.out).mono ?_);(case side1 => exact Kd.C_up (Kd.R_reads' HO352.out).2.2);(case side2 => exact (Kd.R_reads' HO352.out).2.1);(case side3 => exact Kd.C_up (Kd.R_reads' HO_6.out).2.2);(case side4 => exact (Kd.R_reads' HO_6.out).2.1);rintro e w' ⟨rfl,⟨nd,rfl⟩⟩;refine ⟨_,rfl,?_⟩) | ((with_reducible refine gate_callee (f := 30) rfl ?_);refine goesL_ (some 84) rfl rfl Try.func30 (by kernel_rfl) rfl #[.slice Ao45 t339.length co45,.int .i64 1] rfl (by (try simp only [List.map_toArray,List.map_cons,List.map_nil]);first | done | (rw [show t339.length = t318.length from (Kd.R_reads' HO_9.out).1.symm] <;> rfl) | rfl | (simp only [List.length_drop,List.length_take];rfl)) ?_;(with_reducible refine (laws_heldByteS.calls kj25 _ _ t339 1 t354 _ ?side1 ?side2 A69.out).mono ?_);(case side1 => exact Kd.C_up (Kd.R_reads' HO_9.out).2.2);(case side2 => rw [show t339.length = t318.length from (Kd.R_reads' HO_9.out).1.symm];exact (Kd.R_reads' HO_9.out).2.1);rintro e w' ⟨rfl,⟨nd,rfl⟩⟩;refine ⟨_,rfl,?_⟩))
              go_ret
              exact ⟨by first | rfl | (simp [errW_none,errW_some] <;> rfl) | (simp [*,errW_none,errW_some] <;> rfl),by repeat (first | (with_reducible first | exact HB.out | apply below_alloc | apply pw_below_drewN | apply below_drew1 | refine below_set ?_ GE294.out | refine below_set ?_ GE317.out) | exact HB.out)⟩
             ·rw [if_neg c79] at H
              have c79b0 : (t354 == t338) = false := beq_eq_false_iff_ne.mpr c79
              have c79b1 : (t354 != t338) = true := bne_iff_ne.mpr c79
              obtain rfl := Option.some.inj H
              try go_wp2_with (first | ((with_reducible refine gate_callee (f := 24) rfl ?_);refine goesL_ (some 64) rfl rfl Try.func24 (by kernel_rfl) rfl #[.slice Ao45 t318.length co45,.int .i64 1] rfl eq_up ?_;(with_reducible refine (laws_markByteS.calls kj25 (fun k_ => some k_ = (.slice Ao45 t318.length co45 : Value).ownBlock) (.slice Ao45 t318.length co45) t318 1 t338 t339 w _ ?side1 ?side2 A59.out).mono ?_);(case side1 => repeat (first | (with_reducible first | exact HB.out | apply below_alloc | apply pw_below_drewN | apply below_drew1 | refine below_set ?_ GE294.out | refine below_set ?_ GE317.out) | exact HB.out));(case side2 => exact Kd.R_tight rfl HO_9.out);rintro e w88 ⟨rfl,hy0,hb,hkp⟩;refine ⟨_,rfl,?_⟩;have n0_ := Aside0.mk (Kd.R_mono (ok' := fun k_ => some k_ ≠ (.slice Ao45 t318.length co45 : Value).ownBlock) (Kd.R_keptB (HO_6.out) hkp (fun k_ hk_ hs_ => (hk_) hs_)) (fun k_ hk_ => hk_.1));have n1_ := Aside0.mk (Kd.R_reok rfl hy0 (fun k_ e_ => HO_9.out.1 k_ e_));have n2_ := Aside0.mk (Kd.R_mono (ok' := fun k_ => True) (Kd.R_keptB ((Kd.R_apart' HO_318003.out (Kd.R_typed HO_9.out) (by decide))) hkp (fun k_ hk_ hs_ => (hk_.2) hs_)) (fun k_ hk_ => trivial));have n3_ := Aside0.mk (blk_kept (blk_up BK294.out) hkp (fun hs_ => (fun e_ => (Kd.R_ne HO_9.out BK294.out (by decide)) e_) hs_));have n4_ := Aside0.mk (blk_kept (blk_up BK317.out) hkp (fun hs_ => (fun e_ => (Kd.R_ne HO_9.out BK317.out (by decide)) e_) hs_));have n5_ := Aside0.mk (hb);clear HO_6;clear HO_9;clear HO_318003;clear BK294;clear BK317;clear HB;have HO_6 := n0_;have HO_9 := n1_;have HO_318003 := n2_;have BK294 := n3_;have BK317 := n4_;have HB := n5_;clear n0_ n1_ n2_ n3_ n4_ n5_;(try clear hb);(try clear hkp);(try clear hy0)) | ((with_reducible refine gate_callee (f := 30) rfl ?_);refine goesL_ (some 67) rfl rfl Try.func30 (by kernel_rfl) rfl #[.slice Ao45 t339.length co45,.int .i64 1] rfl (by (try simp only [List.map_toArray,List.map_cons,List.map_nil]);first | done | (rw [show t339.length = t318.length from (Kd.R_reads' HO_9.out).1.symm] <;> rfl) | rfl | (simp only [List.length_drop,List.length_take];rfl)) ?_;(with_reducible refine (laws_heldByteS.calls kj25 _ _ t339 1 t340 _ ?side1 ?side2 A60.out).mono ?_);(case side1 => exact Kd.C_up (Kd.R_reads' HO_9.out).2.2);(case side2 => rw [show t339.length = t318.length from (Kd.R_reads' HO_9.out).1.symm];exact (Kd.R_reads' HO_9.out).2.1);rintro e w' ⟨rfl,⟨nd,rfl⟩⟩;refine ⟨_,rfl,?_⟩))
              (try (rw [drewN_self w88];generalize hq_ : World.drewN w88 _ = w88;have n0_ : Aside0 (Kd.R k66 66 w88 w.heap.size (fun _ => True) (.slice Ao42 t336.length co42) t336) := ⟨by rw [← hq_];exact (Kd.R_up HO_318003.out)⟩;have n1_ : Aside0 (Kd.R (Kd.int .u8) 5 w88 w.heap.size (fun k_ => some k_ ≠ (.slice Ao45 t318.length co45 : Value).ownBlock) (.slice Ao46 t305.length co46) t305) := ⟨by rw [← hq_];exact (Kd.R_up HO_6.out)⟩;have n2_ : Aside0 (Kd.R (Kd.int .u8) 5 w88 w.heap.size (fun k_ => some k_ ≠ (.slice Ao46 t305.length co46 : Value).ownBlock) (.slice Ao45 t318.length co45) t339) := ⟨by rw [← hq_];exact (Kd.R_up HO_9.out)⟩;have n3_ : Aside0 (w88.heap[gb294]? = some (.cells #[.int .i64 a1_0,.int .i64 a1_1,.int .i64 a1_2,.slice A1_3 l1_3.length c1_3] 25 (0,0))) := ⟨by rw [← hq_];exact (blk_up BK294.out)⟩;have n4_ : Aside0 (w88.heap[gb317]? = some (.cells #[.int .i64 t311,.int .i64 t312,.int .i64 t313,.slice Ao42 t336.length co42] 31 (0,0))) := ⟨by rw [← hq_];exact (blk_up BK317.out)⟩;have n5_ : Aside0 (Below w.heap.size w w88) := ⟨by rw [← hq_];exact (B_set HB.out)⟩;clear HO_318003 HO_6 HO_9 BK294 BK317 HB hq_;have HO_318003 := n0_;have HO_6 := n1_;have HO_9 := n2_;have BK294 := n3_;have BK317 := n4_;have HB := n5_;clear n0_ n1_ n2_ n3_ n4_ n5_))
              have n0_ := Aside0.mk (Kd.R_drew HO_6.out)
              have n1_ := Aside0.mk (Kd.R_drew HO_9.out)
              have n2_ := Aside0.mk (Kd.R_drew HO_318003.out)
              have n3_ := Aside0.mk (blk_drew BK294.out)
              have n4_ := Aside0.mk (blk_drew BK317.out)
              have n5_ := Aside0.mk (below_drew1 HB.out)
              clear HO_6
              clear HO_9
              clear HO_318003
              clear BK294
              clear BK317
              clear HB
              have HO_6 := n0_
              have HO_9 := n1_
              have HO_318003 := n2_
              have BK294 := n3_
              have BK317 := n4_
              have HB := n5_
              clear n0_ n1_ n2_ n3_ n4_ n5_
              refine start_ (n := 6) (S := fun w' => w'.cell? ⟨gb294,0,none⟩ = some (.int .i64 a1_0) ∧ w'.cell? ⟨gb294,1,none⟩ = some (.int .i64 a1_1) ∧ w'.cell? ⟨gb294,2,none⟩ = some (.int .i64 a1_2) ∧ w'.cell? ⟨gb294,3,none⟩ = some (.slice A1_3 l1_3.length c1_3)) (ds := []) #[false,false,false,false,false,false] (by kernel_rfl) rfl rfl ⟨(blk_cell BK294.out 0).trans rfl,(blk_cell BK294.out 1).trans rfl,(blk_cell BK294.out 2).trans rfl,(blk_cell BK294.out 3).trans rfl⟩ (fun hHeld => ?_)
              generalize w88.drew = w89 at HO_6 HO_9 HO_318003 BK294 BK317 HB hHeld ⊢
              refine pure_ (i := 0) (N := some 73) (v := ?_) (a' := ?_) #[true,false,false,false,false,false] rfl rfl (by kernel_rfl) (fun _ _ _ h => h) (Or.inl ⟨by rfl,?_⟩) ?_ ?_
              rotate_left
              ·intro w'
               go_simp
               with_reducible rfl
              rotate_left
              ·simp only [Act.put,List.setIfInBounds_toArray,List.set_cons_zero,List.set_cons_succ,i64_w,i32_w]
               rfl
              refine take_ (i := 2) (N := some 75) (v := ?_) (a' := ?_) #[true,false,true,false,false,false] rfl rfl (by kernel_rfl) (fun _ _ _ h => h) (Or.inl ⟨by rfl,?_⟩) hHeld ?_ ?_
              rotate_left
              ·rintro w' ⟨s0,s1,s2,s3⟩
               go_simp
               with_reducible rfl
              rotate_left
              ·simp only [Act.put,List.setIfInBounds_toArray,List.set_cons_zero,List.set_cons_succ,i64_w,i32_w]
               rfl
              refine one_ (i := 1) (N := some 74) #[true,true,true,false,false,false] rfl rfl (by kernel_rfl) (by decide) (fun K hK => ?_)
              refine goes_ Try.func12 (by kernel_rfl) rfl #[.slice A0 l0.length c0] (by rfl) rfl rfl eq_up ?_
              with_reducible refine (laws_toByteS.calls kj25 _ _ l0 t341 _ ?side1 ?side2 A64.out).mono ?_
              (case side1 => repeat (first | exact (Kd.C_below HR0.out HB.out) | (with_reducible refine Kd.C_alloc ?_ _) | (with_reducible refine Kd.C_drewN ?_ _) | (with_reducible refine Kd.C_drew ?_)))
              (case side2 => exact HC0.out)
              rintro e w90 ⟨v342,rfl,ho0,hb⟩
              refine ⟨_,rfl,?_⟩
              have n0_ := Aside0.mk (Kd.R_elder' (Kd.R_up HO_6.out) (Kd.R_base ho0) hb)
              have n1_ := Aside0.mk (Kd.R_elder' (Kd.R_up HO_9.out) (Kd.R_base ho0) hb)
              have n2_ := Aside0.mk (Kd.R_below (Kd.R_up HO_318003.out) hb)
              have n3_ := Aside0.mk (Kd.R_lower (Kd.R_new' (Kd.R_new' ho0 (Kd.R_lt (Kd.R_up HO_6.out))) (Kd.R_lt (Kd.R_up HO_9.out))) (below_size (B_set HB.out)))
              have n4_ := Aside0.mk (blk_below (g := gb294) (o := .cells #[.int .i64 a1_0,.int .i64 a1_1,.int .i64 a1_2,.slice A1_3 l1_3.length c1_3] 25 (0,0)) (blk_up BK294.out) hb)
              have n5_ := Aside0.mk (blk_below (g := gb317) (o := .cells #[.int .i64 t311,.int .i64 t312,.int .i64 t313,.slice Ao42 t336.length co42] 31 (0,0)) (blk_up BK317.out) hb)
              have n6_ := Aside0.mk (below_step (B_set HB.out) hb)
              clear HO_6
              clear HO_9
              clear HO_318003
              clear BK294
              clear BK317
              clear HB
              have HO_6 := n0_
              have HO_9 := n1_
              have HO_318003 := n2_
              have HO343 := n3_
              have BK294 := n4_
              have BK317 := n5_
              have HB := n6_
              clear n0_ n1_ n2_ n3_ n4_ n5_ n6_
              (try clear hb)
              (try clear hb2)
              (try clear hk)
              (try clear hi)
              (try clear ho0)
              refine hK.out _ _ ⟨(blk_cell BK294.out 0).trans rfl,(blk_cell BK294.out 1).trans rfl,(blk_cell BK294.out 2).trans rfl,(blk_cell BK294.out 3).trans rfl⟩ (fun hHeld => ?_)
              clear hK K
              refine norm_ (a' := ?_) ?_ ?_
              rotate_left
              ·show Act.put _ (some 74) _ = _
               simp only [Act.put,List.setIfInBounds_toArray,List.set_cons_zero,List.set_cons_succ,i64_w,i32_w]
               rfl
              refine one_ (i := 3) (N := some 76) #[true,true,true,true,false,false] rfl rfl (by kernel_rfl) (by decide) (fun K hK => ?_)
              refine goes_ Try.func13 (by kernel_rfl) rfl #[.agg #[.int .i64 a1_0,.int .i64 a1_1,.int .i64 a1_2,.slice A1_3 l1_3.length c1_3]] (by rfl) rfl rfl eq_up ?_
              with_reducible refine (laws_toManifest.calls kj25 a1_0 a1_1 a1_2 _ _ l1_3 t344 t345 t346 t347 _ ?side1 ?side2 A65.out).mono ?_
              (case side1 => repeat (first | exact (Kd.C_below HR1_3.out HB.out) | (with_reducible refine Kd.C_alloc ?_ _) | (with_reducible refine Kd.C_drewN ?_ _) | (with_reducible refine Kd.C_drew ?_)))
              (case side2 => exact HC1_3.out)
              rintro e w91 ⟨v348,rfl,ho0,hb⟩
              refine ⟨_,rfl,?_⟩
              have n0_ := Aside0.mk (Kd.R_below (Kd.R_up HO_6.out) hb)
              have n1_ := Aside0.mk (Kd.R_below (Kd.R_up HO_9.out) hb)
              have n2_ := Aside0.mk (Kd.R_elder' (Kd.R_up HO_318003.out) (Kd.R_base ho0) hb)
              have n3_ := Aside0.mk (Kd.R_below (Kd.R_up HO343.out) hb)
              have n4_ := Aside0.mk (Kd.R_lower (Kd.R_new' ho0 (Kd.R_lt (Kd.R_up HO_318003.out))) (below_size (B_set HB.out)))
              have n5_ := Aside0.mk (blk_below (g := gb294) (o := .cells #[.int .i64 a1_0,.int .i64 a1_1,.int .i64 a1_2,.slice A1_3 l1_3.length c1_3] 25 (0,0)) (blk_up BK294.out) hb)
              have n6_ := Aside0.mk (blk_below (g := gb317) (o := .cells #[.int .i64 t311,.int .i64 t312,.int .i64 t313,.slice Ao42 t336.length co42] 31 (0,0)) (blk_up BK317.out) hb)
              have n7_ := Aside0.mk (below_step (B_set HB.out) hb)
              clear HO_6
              clear HO_9
              clear HO_318003
              clear HO343
              clear BK294
              clear BK317
              clear HB
              have HO_6 := n0_
              have HO_9 := n1_
              have HO_318003 := n2_
              have HO343 := n3_
              have HO349 := n4_
              have BK294 := n5_
              have BK317 := n6_
              have HB := n7_
              clear n0_ n1_ n2_ n3_ n4_ n5_ n6_ n7_
              (try clear hb)
              (try clear hb2)
              (try clear hk)
              (try clear hi)
              (try clear ho0)
              obtain ⟨Ao92,co92,eo92⟩ := Kd.R_slice HO343.out
              (first | subst eo92 | (injection eo92 with f1_ f2_ f3_;have f4_ := f1_.symm;have f5_ := f3_.symm;clear f1_ f2_ f3_;subst f4_;subst f5_))
              obtain ⟨Ao93,co93,eo93⟩ := Kd.R_slice HO349.out
              (first | subst eo93 | (injection eo93 with f1_ f2_ f3_;have f4_ := f1_.symm;have f5_ := f3_.symm;clear f1_ f2_ f3_;subst f4_;subst f5_))
              refine hK.out _ _ ⟨(blk_cell BK294.out 0).trans rfl,(blk_cell BK294.out 1).trans rfl,(blk_cell BK294.out 2).trans rfl,(blk_cell BK294.out 3).trans rfl⟩ (fun hHeld => ?_)
              clear hK K
              refine norm_ (a' := ?_) ?_ ?_
              rotate_left
              ·show Act.put _ (some 76) _ = _
               simp only [Act.put,List.setIfInBounds_toArray,List.set_cons_zero,List.set_cons_succ,i64_w,i32_w]
               rfl
              refine one_ (i := 4) (N := some 77) #[true,true,true,true,true,false] rfl rfl (by kernel_rfl) (by decide) (fun K hK => ?_)
              refine goes_ Try.func29 (by kernel_rfl) rfl #[.slice Ao92 t341.length co92,.agg #[.int .i64 t344,.int .i64 t345,.int .i64 t346,.slice Ao93 t347.length co93]] (by rfl) rfl rfl eq_up ?_
              with_reducible refine (impl_PutMan.calls kj25 _ _ t341 t344 t345 t346 _ _ t347 t350 _ ?side1 ?side2 ?side3 ?side4 A66.out).mono ?_
              (case side1 => exact Kd.C_up (Kd.R_reads' HO343.out).2.2)
              (case side2 => exact (Kd.R_reads' HO343.out).2.1)
              (case side3 => exact Kd.C_up (Kd.R_reads' HO349.out).2.2)
              (case side4 => exact (Kd.R_reads' HO349.out).2.1)
              rintro e w94 ⟨v351,rfl,ho0,hb⟩
              refine ⟨_,rfl,?_⟩
              have n0_ := Aside0.mk (Kd.R_elder' (Kd.R_up HO_6.out) (Kd.R_base ho0) hb)
              have n1_ := Aside0.mk (Kd.R_elder' (Kd.R_up HO_9.out) (Kd.R_base ho0) hb)
              have n2_ := Aside0.mk (Kd.R_below (Kd.R_up HO_318003.out) hb)
              have n3_ := Aside0.mk (Kd.R_elder' (Kd.R_up HO343.out) (Kd.R_base ho0) hb)
              have n4_ := Aside0.mk (Kd.R_below (Kd.R_up HO349.out) hb)
              have n5_ := Aside0.mk (Kd.R_lower (Kd.R_new' (Kd.R_new' (Kd.R_new' ho0 (Kd.R_lt (Kd.R_up HO_6.out))) (Kd.R_lt (Kd.R_up HO_9.out))) (Kd.R_lt (Kd.R_up HO343.out))) (below_size (B_set HB.out)))
              have n6_ := Aside0.mk (blk_below (g := gb294) (o := .cells #[.int .i64 a1_0,.int .i64 a1_1,.int .i64 a1_2,.slice A1_3 l1_3.length c1_3] 25 (0,0)) (blk_up BK294.out) hb)
              have n7_ := Aside0.mk (blk_below (g := gb317) (o := .cells #[.int .i64 t311,.int .i64 t312,.int .i64 t313,.slice Ao42 t336.length co42] 31 (0,0)) (blk_up BK317.out) hb)
              have n8_ := Aside0.mk (below_step (B_set HB.out) hb)
              clear HO_6
              clear HO_9
              clear HO_318003
              clear HO343
              clear HO349
              clear BK294
              clear BK317
              clear HB
              have HO_6 := n0_
              have HO_9 := n1_
              have HO_318003 := n2_
              have HO343 := n3_
              have HO349 := n4_
              have HO352 := n5_
              have BK294 := n6_
              have BK317 := n7_
              have HB := n8_
              clear n0_ n1_ n2_ n3_ n4_ n5_ n6_ n7_ n8_
              (try clear hb)
              (try clear hb2)
              (try clear hk)
              (try clear hi)
              (try clear ho0)
              refine hK.out _ _ ⟨(blk_cell BK294.out 0).trans rfl,(blk_cell BK294.out 1).trans rfl,(blk_cell BK294.out 2).trans rfl,(blk_cell BK294.out 3).trans rfl⟩ (fun hHeld => ?_)
              clear hK K
              refine norm_ (a' := ?_) ?_ ?_
              rotate_left
              ·show Act.put _ (some 77) _ = _
               simp only [Act.put,List.setIfInBounds_toArray,List.set_cons_zero,List.set_cons_succ,i64_w,i32_w]
               rfl
              refine pure_ (i := 5) (N := some 13) (v := ?_) (a' := ?_) #[true,true,true,true,true,true] rfl rfl (by kernel_rfl) (fun _ _ _ h => h) (Or.inl ⟨by rfl,?_⟩) ?_ ?_
              rotate_left
              ·intro w'
               go_simp
               with_reducible rfl
              rotate_left
              ·simp only [Act.put,List.setIfInBounds_toArray,List.set_cons_zero,List.set_cons_succ,i64_w,i32_w]
               rfl
              refine done_ (by kernel_rfl) ?_
              obtain ⟨Ao95,co95,eo95⟩ := Kd.R_slice HO352.out
              subst eo95
              try go_wp2_with (first | ((with_reducible refine gate_callee (f := 15) rfl ?_);refine goesL_ (some 80) rfl rfl Try.func15 (by kernel_rfl) rfl #[.slice Ao95 t350.length co95,.slice Ao46 t305.length co46] rfl eq_up ?_;(with_reducible refine (laws_eqByteS.calls kj25 _ _ t350 _ _ t305 true _ ?side1 ?side2 ?side3 ?side4 A67.out).mono ?_);(case side1 => exact Kd.C_up (Kd.R_reads' HO352.out).2.2);(case side2 => exact (Kd.R_reads' HO352.out).2.1);(case side3 => exact Kd.C_up (Kd.R_reads' HO_6.out).2.2);(case side4 => exact (Kd.R_reads' HO_6.out).2.1);rintro e w' ⟨rfl,⟨nd,rfl⟩⟩;refine ⟨_,rfl,?_⟩) | ((with_reducible refine gate_callee (f := 30) rfl ?_);refine goesL_ (some 84) rfl rfl Try.func30 (by kernel_rfl) rfl #[.slice Ao45 t339.length co45,.int .i64 1] rfl (by (try simp only [List.map_toArray,List.map_cons,List.map_nil]);first | done | (rw [show t339.length = t318.length from (Kd.R_reads' HO_9.out).1.symm] <;> rfl) | rfl | (simp only [List.length_drop,List.length_take];rfl)) ?_;(with_reducible refine (laws_heldByteS.calls kj25 _ _ t339 1 t354 _ ?side1 ?side2 A69.out).mono ?_);(case side1 => exact Kd.C_up (Kd.R_reads' HO_9.out).2.2);(case side2 => rw [show t339.length = t318.length from (Kd.R_reads' HO_9.out).1.symm];exact (Kd.R_reads' HO_9.out).2.1);rintro e w' ⟨rfl,⟨nd,rfl⟩⟩;refine ⟨_,rfl,?_⟩))
              go_ret
              exact ⟨by first | rfl | (simp [errW_none,errW_some] <;> rfl) | (simp [*,errW_none,errW_some] <;> rfl),by repeat (first | (with_reducible first | exact HB.out | apply below_alloc | apply pw_below_drewN | apply below_drew1 | refine below_set ?_ GE294.out | refine below_set ?_ GE317.out) | exact HB.out)⟩
           ·replace c68 := Bool.eq_false_iff.mpr c68
            subst c68
            have H1 : (some false) = some r := by rw [if_neg (show ¬ (false = true) by decide)] at H;exact H
            clear H
            have H := H1
            clear H1
            obtain rfl := Option.some.inj H
            try go_wp2_with (first | ((with_reducible refine gate_callee (f := 24) rfl ?_);refine goesL_ (some 64) rfl rfl Try.func24 (by kernel_rfl) rfl #[.slice Ao45 t318.length co45,.int .i64 1] rfl eq_up ?_;(with_reducible refine (laws_markByteS.calls kj25 (fun k_ => some k_ = (.slice Ao45 t318.length co45 : Value).ownBlock) (.slice Ao45 t318.length co45) t318 1 t338 t339 w _ ?side1 ?side2 A59.out).mono ?_);(case side1 => repeat (first | (with_reducible first | exact HB.out | apply below_alloc | apply pw_below_drewN | apply below_drew1 | refine below_set ?_ GE294.out | refine below_set ?_ GE317.out) | exact HB.out));(case side2 => exact Kd.R_tight rfl HO_9.out);rintro e w96 ⟨rfl,hy0,hb,hkp⟩;refine ⟨_,rfl,?_⟩;have n0_ := Aside0.mk (Kd.R_mono (ok' := fun k_ => some k_ ≠ (.slice Ao45 t318.length co45 : Value).ownBlock) (Kd.R_keptB (HO_6.out) hkp (fun k_ hk_ hs_ => (hk_) hs_)) (fun k_ hk_ => hk_.1));have n1_ := Aside0.mk (Kd.R_reok rfl hy0 (fun k_ e_ => HO_9.out.1 k_ e_));have n2_ := Aside0.mk (Kd.R_mono (ok' := fun k_ => True) (Kd.R_keptB ((Kd.R_apart' HO_318003.out (Kd.R_typed HO_9.out) (by decide))) hkp (fun k_ hk_ hs_ => (hk_.2) hs_)) (fun k_ hk_ => trivial));have n3_ := Aside0.mk (blk_kept (blk_up BK294.out) hkp (fun hs_ => (fun e_ => (Kd.R_ne HO_9.out BK294.out (by decide)) e_) hs_));have n4_ := Aside0.mk (blk_kept (blk_up BK317.out) hkp (fun hs_ => (fun e_ => (Kd.R_ne HO_9.out BK317.out (by decide)) e_) hs_));have n5_ := Aside0.mk (hb);clear HO_6;clear HO_9;clear HO_318003;clear BK294;clear BK317;clear HB;have HO_6 := n0_;have HO_9 := n1_;have HO_318003 := n2_;have BK294 := n3_;have BK317 := n4_;have HB := n5_;clear n0_ n1_ n2_ n3_ n4_ n5_;(try clear hb);(try clear hkp);(try clear hy0)) | ((with_reducible refine gate_callee (f := 30) rfl ?_);refine goesL_ (some 67) rfl rfl Try.func30 (by kernel_rfl) rfl #[.slice Ao45 t339.length co45,.int .i64 1] rfl (by (try simp only [List.map_toArray,List.map_cons,List.map_nil]);first | done | (rw [show t339.length = t318.length from (Kd.R_reads' HO_9.out).1.symm] <;> rfl) | rfl | (simp only [List.length_drop,List.length_take];rfl)) ?_;(with_reducible refine (laws_heldByteS.calls kj25 _ _ t339 1 t340 _ ?side1 ?side2 A60.out).mono ?_);(case side1 => exact Kd.C_up (Kd.R_reads' HO_9.out).2.2);(case side2 => rw [show t339.length = t318.length from (Kd.R_reads' HO_9.out).1.symm];exact (Kd.R_reads' HO_9.out).2.1);rintro e w' ⟨rfl,⟨nd,rfl⟩⟩;refine ⟨_,rfl,?_⟩))
            (try (rw [drewN_self w96];generalize hq_ : World.drewN w96 _ = w96;have n0_ : Aside0 (Kd.R k66 66 w96 w.heap.size (fun _ => True) (.slice Ao42 t336.length co42) t336) := ⟨by rw [← hq_];exact (Kd.R_up HO_318003.out)⟩;have n1_ : Aside0 (Kd.R (Kd.int .u8) 5 w96 w.heap.size (fun k_ => some k_ ≠ (.slice Ao45 t318.length co45 : Value).ownBlock) (.slice Ao46 t305.length co46) t305) := ⟨by rw [← hq_];exact (Kd.R_up HO_6.out)⟩;have n2_ : Aside0 (Kd.R (Kd.int .u8) 5 w96 w.heap.size (fun k_ => some k_ ≠ (.slice Ao46 t305.length co46 : Value).ownBlock) (.slice Ao45 t318.length co45) t339) := ⟨by rw [← hq_];exact (Kd.R_up HO_9.out)⟩;have n3_ : Aside0 (w96.heap[gb294]? = some (.cells #[.int .i64 a1_0,.int .i64 a1_1,.int .i64 a1_2,.slice A1_3 l1_3.length c1_3] 25 (0,0))) := ⟨by rw [← hq_];exact (blk_up BK294.out)⟩;have n4_ : Aside0 (w96.heap[gb317]? = some (.cells #[.int .i64 t311,.int .i64 t312,.int .i64 t313,.slice Ao42 t336.length co42] 31 (0,0))) := ⟨by rw [← hq_];exact (blk_up BK317.out)⟩;have n5_ : Aside0 (Below w.heap.size w w96) := ⟨by rw [← hq_];exact (B_set HB.out)⟩;clear HO_318003 HO_6 HO_9 BK294 BK317 HB hq_;have HO_318003 := n0_;have HO_6 := n1_;have HO_9 := n2_;have BK294 := n3_;have BK317 := n4_;have HB := n5_;clear n0_ n1_ n2_ n3_ n4_ n5_))
            have n0_ := Aside0.mk (Kd.R_drew HO_6.out)
            have n1_ := Aside0.mk (Kd.R_drew HO_9.out)
            have n2_ := Aside0.mk (Kd.R_drew HO_318003.out)
            have n3_ := Aside0.mk (blk_drew BK294.out)
            have n4_ := Aside0.mk (blk_drew BK317.out)
            have n5_ := Aside0.mk (below_drew1 HB.out)
            clear HO_6
            clear HO_9
            clear HO_318003
            clear BK294
            clear BK317
            clear HB
            have HO_6 := n0_
            have HO_9 := n1_
            have HO_318003 := n2_
            have BK294 := n3_
            have BK317 := n4_
            have HB := n5_
            clear n0_ n1_ n2_ n3_ n4_ n5_
            refine start_ (n := 6) (S := fun w' => w'.cell? ⟨gb294,0,none⟩ = some (.int .i64 a1_0) ∧ w'.cell? ⟨gb294,1,none⟩ = some (.int .i64 a1_1) ∧ w'.cell? ⟨gb294,2,none⟩ = some (.int .i64 a1_2) ∧ w'.cell? ⟨gb294,3,none⟩ = some (.slice A1_3 l1_3.length c1_3)) (ds := []) #[false,false,false,false,false,false] (by kernel_rfl) rfl rfl ⟨(blk_cell BK294.out 0).trans rfl,(blk_cell BK294.out 1).trans rfl,(blk_cell BK294.out 2).trans rfl,(blk_cell BK294.out 3).trans rfl⟩ (fun hHeld => ?_)
            generalize w96.drew = w97 at HO_6 HO_9 HO_318003 BK294 BK317 HB hHeld ⊢
            refine pure_ (i := 0) (N := some 73) (v := ?_) (a' := ?_) #[true,false,false,false,false,false] rfl rfl (by kernel_rfl) (fun _ _ _ h => h) (Or.inl ⟨by rfl,?_⟩) ?_ ?_
            rotate_left
            ·intro w'
             go_simp
             with_reducible rfl
            rotate_left
            ·simp only [Act.put,List.setIfInBounds_toArray,List.set_cons_zero,List.set_cons_succ,i64_w,i32_w]
             rfl
            refine take_ (i := 2) (N := some 75) (v := ?_) (a' := ?_) #[true,false,true,false,false,false] rfl rfl (by kernel_rfl) (fun _ _ _ h => h) (Or.inl ⟨by rfl,?_⟩) hHeld ?_ ?_
            rotate_left
            ·rintro w' ⟨s0,s1,s2,s3⟩
             go_simp
             with_reducible rfl
            rotate_left
            ·simp only [Act.put,List.setIfInBounds_toArray,List.set_cons_zero,List.set_cons_succ,i64_w,i32_w]
             rfl
            refine one_ (i := 1) (N := some 74) #[true,true,true,false,false,false] rfl rfl (by kernel_rfl) (by decide) (fun K hK => ?_)
            refine goes_ Try.func12 (by kernel_rfl) rfl #[.slice A0 l0.length c0] (by rfl) rfl rfl eq_up ?_
            with_reducible refine (laws_toByteS.calls kj25 _ _ l0 t341 _ ?side1 ?side2 A64.out).mono ?_
            (case side1 => repeat (first | exact (Kd.C_below HR0.out HB.out) | (with_reducible refine Kd.C_alloc ?_ _) | (with_reducible refine Kd.C_drewN ?_ _) | (with_reducible refine Kd.C_drew ?_)))
            (case side2 => exact HC0.out)
            rintro e w98 ⟨v342,rfl,ho0,hb⟩
            refine ⟨_,rfl,?_⟩
            have n0_ := Aside0.mk (Kd.R_elder' (Kd.R_up HO_6.out) (Kd.R_base ho0) hb)
            have n1_ := Aside0.mk (Kd.R_elder' (Kd.R_up HO_9.out) (Kd.R_base ho0) hb)
            have n2_ := Aside0.mk (Kd.R_below (Kd.R_up HO_318003.out) hb)
            have n3_ := Aside0.mk (Kd.R_lower (Kd.R_new' (Kd.R_new' ho0 (Kd.R_lt (Kd.R_up HO_6.out))) (Kd.R_lt (Kd.R_up HO_9.out))) (below_size (B_set HB.out)))
            have n4_ := Aside0.mk (blk_below (g := gb294) (o := .cells #[.int .i64 a1_0,.int .i64 a1_1,.int .i64 a1_2,.slice A1_3 l1_3.length c1_3] 25 (0,0)) (blk_up BK294.out) hb)
            have n5_ := Aside0.mk (blk_below (g := gb317) (o := .cells #[.int .i64 t311,.int .i64 t312,.int .i64 t313,.slice Ao42 t336.length co42] 31 (0,0)) (blk_up BK317.out) hb)
            have n6_ := Aside0.mk (below_step (B_set HB.out) hb)
            clear HO_6
            clear HO_9
            clear HO_318003
            clear BK294
            clear BK317
            clear HB
            have HO_6 := n0_
            have HO_9 := n1_
            have HO_318003 := n2_
            have HO343 := n3_
            have BK294 := n4_
            have BK317 := n5_
            have HB := n6_
            clear n0_ n1_ n2_ n3_ n4_ n5_ n6_
            (try clear hb)
            (try clear hb2)
            (try clear hk)
            (try clear hi)
            (try clear ho0)
            refine hK.out _ _ ⟨(blk_cell BK294.out 0).trans rfl,(blk_cell BK294.out 1).trans rfl,(blk_cell BK294.out 2).trans rfl,(blk_cell BK294.out 3).trans rfl⟩ (fun hHeld => ?_)
            clear hK K
            refine norm_ (a' := ?_) ?_ ?_
            rotate_left
            ·show Act.put _ (some 74) _ = _
             simp only [Act.put,List.setIfInBounds_toArray,List.set_cons_zero,List.set_cons_succ,i64_w,i32_w]
             rfl
            refine one_ (i := 3) (N := some 76) #[true,true,true,true,false,false] rfl rfl (by kernel_rfl) (by decide) (fun K hK => ?_)
            refine goes_ Try.func13 (by kernel_rfl) rfl #[.agg #[.int .i64 a1_0,.int .i64 a1_1,.int .i64 a1_2,.slice A1_3 l1_3.length c1_3]] (by rfl) rfl rfl eq_up ?_
            with_reducible refine (laws_toManifest.calls kj25 a1_0 a1_1 a1_2 _ _ l1_3 t344 t345 t346 t347 _ ?side1 ?side2 A65.out).mono ?_
            (case side1 => repeat (first | exact (Kd.C_below HR1_3.out HB.out) | (with_reducible refine Kd.C_alloc ?_ _) | (with_reducible refine Kd.C_drewN ?_ _) | (with_reducible refine Kd.C_drew ?_)))
            (case side2 => exact HC1_3.out)
            rintro e w99 ⟨v348,rfl,ho0,hb⟩
            refine ⟨_,rfl,?_⟩
            have n0_ := Aside0.mk (Kd.R_below (Kd.R_up HO_6.out) hb)
            have n1_ := Aside0.mk (Kd.R_below (Kd.R_up HO_9.out) hb)
            have n2_ := Aside0.mk (Kd.R_elder' (Kd.R_up HO_318003.out) (Kd.R_base ho0) hb)
            have n3_ := Aside0.mk (Kd.R_below (Kd.R_up HO343.out) hb)
            have n4_ := Aside0.mk (Kd.R_lower (Kd.R_new' ho0 (Kd.R_lt (Kd.R_up HO_318003.out))) (below_size (B_set HB.out)))
            have n5_ := Aside0.mk (blk_below (g := gb294) (o := .cells #[.int .i64 a1_0,.int .i64 a1_1,.int .i64 a1_2,.slice A1_3 l1_3.length c1_3] 25 (0,0)) (blk_up BK294.out) hb)
            have n6_ := Aside0.mk (blk_below (g := gb317) (o := .cells #[.int .i64 t311,.int .i64 t312,.int .i64 t313,.slice Ao42 t336.length co42] 31 (0,0)) (blk_up BK317.out) hb)
            have n7_ := Aside0.mk (below_step (B_set HB.out) hb)
            clear HO_6
            clear HO_9
            clear HO_318003
            clear HO343
            clear BK294
            clear BK317
            clear HB
            have HO_6 := n0_
            have HO_9 := n1_
            have HO_318003 := n2_
            have HO343 := n3_
            have HO349 := n4_
            have BK294 := n5_
            have BK317 := n6_
            have HB := n7_
            clear n0_ n1_ n2_ n3_ n4_ n5_ n6_ n7_
            (try clear hb)
            (try clear hb2)
            (try clear hk)
            (try clear hi)
            (try clear ho0)
            obtain ⟨Ao100,co100,eo100⟩ := Kd.R_slice HO343.out
            (first | subst eo100 | (injection eo100 with f1_ f2_ f3_;have f4_ := f1_.symm;have f5_ := f3_.symm;clear f1_ f2_ f3_;subst f4_;subst f5_))
            obtain ⟨Ao101,co101,eo101⟩ := Kd.R_slice HO349.out
            (first | subst eo101 | (injection eo101 with f1_ f2_ f3_;have f4_ := f1_.symm;have f5_ := f3_.symm;clear f1_ f2_ f3_;subst f4_;subst f5_))
            refine hK.out _ _ ⟨(blk_cell BK294.out 0).trans rfl,(blk_cell BK294.out 1).trans rfl,(blk_cell BK294.out 2).trans rfl,(blk_cell BK294.out 3).trans rfl⟩ (fun hHeld => ?_)
            clear hK K
            refine norm_ (a' := ?_) ?_ ?_
            rotate_left
            ·show Act.put _ (some 76) _ = _
             simp only [Act.put,List.setIfInBounds_toArray,List.set_cons_zero,List.set_cons_succ,i64_w,i32_w]
             rfl
            refine one_ (i := 4) (N := some 77) #[true,true,true,true,true,false] rfl rfl (by kernel_rfl) (by decide) (fun K hK => ?_)
            refine goes_ Try.func29 (by kernel_rfl) rfl #[.slice Ao100 t341.length co100,.agg #[.int .i64 t344,.int .i64 t345,.int .i64 t346,.slice Ao101 t347.length co101]] (by rfl) rfl rfl eq_up ?_
            with_reducible refine (impl_PutMan.calls kj25 _ _ t341 t344 t345 t346 _ _ t347 t350 _ ?side1 ?side2 ?side3 ?side4 A66.out).mono ?_
            (case side1 => exact Kd.C_up (Kd.R_reads' HO343.out).2.2)
            (case side2 => exact (Kd.R_reads' HO343.out).2.1)
            (case side3 => exact Kd.C_up (Kd.R_reads' HO349.out).2.2)
            (case side4 => exact (Kd.R_reads' HO349.out).2.1)
            rintro e w102 ⟨v351,rfl,ho0,hb⟩
            refine ⟨_,rfl,?_⟩
            have n0_ := Aside0.mk (Kd.R_elder' (Kd.R_up HO_6.out) (Kd.R_base ho0) hb)
            have n1_ := Aside0.mk (Kd.R_elder' (Kd.R_up HO_9.out) (Kd.R_base ho0) hb)
            have n2_ := Aside0.mk (Kd.R_below (Kd.R_up HO_318003.out) hb)
            have n3_ := Aside0.mk (Kd.R_elder' (Kd.R_up HO343.out) (Kd.R_base ho0) hb)
            have n4_ := Aside0.mk (Kd.R_below (Kd.R_up HO349.out) hb)
            have n5_ := Aside0.mk (Kd.R_lower (Kd.R_new' (Kd.R_new' (Kd.R_new' ho0 (Kd.R_lt (Kd.R_up HO_6.out))) (Kd.R_lt (Kd.R_up HO_9.out))) (Kd.R_lt (Kd.R_up HO343.out))) (below_size (B_set HB.out)))
            have n6_ := Aside0.mk (blk_below (g := gb294) (o := .cells #[.int .i64 a1_0,.int .i64 a1_1,.int .i64 a1_2,.slice A1_3 l1_3.length c1_3] 25 (0,0)) (blk_up BK294.out) hb)
            have n7_ := Aside0.mk (blk_below (g := gb317) (o := .cells #[.int .i64 t311,.int .i64 t312,.int .i64 t313,.slice Ao42 t336.length co42] 31 (0,0)) (blk_up BK317.out) hb)
            have n8_ := Aside0.mk (below_step (B_set HB.out) hb)
            clear HO_6
            clear HO_9
            clear HO_318003
            clear HO343
            clear HO349
            clear BK294
            clear BK317
            clear HB
            have HO_6 := n0_
            have HO_9 := n1_
            have HO_318003 := n2_
            have HO343 := n3_
            have HO349 := n4_
            have HO352 := n5_
            have BK294 := n6_
            have BK317 := n7_
            have HB := n8_
            clear n0_ n1_ n2_ n3_ n4_ n5_ n6_ n7_ n8_
            (try clear hb)
            (try clear hb2)
            (try clear hk)
            (try clear hi)
            (try clear ho0)
            refine hK.out _ _ ⟨(blk_cell BK294.out 0).trans rfl,(blk_cell BK294.out 1).trans rfl,(blk_cell BK294.out 2).trans rfl,(blk_cell BK294.out 3).trans rfl⟩ (fun hHeld => ?_)
            clear hK K
            refine norm_ (a' := ?_) ?_ ?_
            rotate_left
            ·show Act.put _ (some 77) _ = _
             simp only [Act.put,List.setIfInBounds_toArray,List.set_cons_zero,List.set_cons_succ,i64_w,i32_w]
             rfl
            refine pure_ (i := 5) (N := some 13) (v := ?_) (a' := ?_) #[true,true,true,true,true,true] rfl rfl (by kernel_rfl) (fun _ _ _ h => h) (Or.inl ⟨by rfl,?_⟩) ?_ ?_
            rotate_left
            ·intro w'
             go_simp
             with_reducible rfl
            rotate_left
            ·simp only [Act.put,List.setIfInBounds_toArray,List.set_cons_zero,List.set_cons_succ,i64_w,i32_w]
             rfl
            refine done_ (by kernel_rfl) ?_
            obtain ⟨Ao103,co103,eo103⟩ := Kd.R_slice HO352.out
            subst eo103
            try go_wp2_with (first | ((with_reducible refine gate_callee (f := 15) rfl ?_);refine goesL_ (some 80) rfl rfl Try.func15 (by kernel_rfl) rfl #[.slice Ao103 t350.length co103,.slice Ao46 t305.length co46] rfl eq_up ?_;(with_reducible refine (laws_eqByteS.calls kj25 _ _ t350 _ _ t305 false _ ?side1 ?side2 ?side3 ?side4 A67.out).mono ?_);(case side1 => exact Kd.C_up (Kd.R_reads' HO352.out).2.2);(case side2 => exact (Kd.R_reads' HO352.out).2.1);(case side3 => exact Kd.C_up (Kd.R_reads' HO_6.out).2.2);(case side4 => exact (Kd.R_reads' HO_6.out).2.1);rintro e w' ⟨rfl,⟨nd,rfl⟩⟩;refine ⟨_,rfl,?_⟩))
            go_ret
            exact ⟨by first | rfl | (simp [errW_none,errW_some] <;> rfl) | (simp [*,errW_none,errW_some] <;> rfl),by repeat (first | (with_reducible first | exact HB.out | apply below_alloc | apply pw_below_drewN | apply below_drew1 | refine below_set ?_ GE294.out | refine below_set ?_ GE317.out) | exact HB.out)⟩
          ·rw [if_neg c63] at H
           have c63b0 : (t340 == t338) = false := beq_eq_false_iff_ne.mpr c63
           have c63b1 : (t340 != t338) = true := bne_iff_ne.mpr c63
           obtain rfl := Option.some.inj H
           go_wp2_with (first | ((with_reducible refine gate_callee (f := 24) rfl ?_);refine goesL_ (some 64) rfl rfl Try.func24 (by kernel_rfl) rfl #[.slice Ao45 t318.length co45,.int .i64 1] rfl eq_up ?_;(with_reducible refine (laws_markByteS.calls kj25 (fun k_ => some k_ = (.slice Ao45 t318.length co45 : Value).ownBlock) (.slice Ao45 t318.length co45) t318 1 t338 t339 w _ ?side1 ?side2 A59.out).mono ?_);(case side1 => repeat (first | (with_reducible first | exact HB.out | apply below_alloc | apply pw_below_drewN | apply below_drew1 | refine below_set ?_ GE294.out | refine below_set ?_ GE317.out) | exact HB.out));(case side2 => exact Kd.R_tight rfl HO_9.out);rintro e w104 ⟨rfl,hy0,hb,hkp⟩;refine ⟨_,rfl,?_⟩;have n0_ := Aside0.mk (Kd.R_mono (ok' := fun k_ => some k_ ≠ (.slice Ao45 t318.length co45 : Value).ownBlock) (Kd.R_keptB (HO_6.out) hkp (fun k_ hk_ hs_ => (hk_) hs_)) (fun k_ hk_ => hk_.1));have n1_ := Aside0.mk (Kd.R_reok rfl hy0 (fun k_ e_ => HO_9.out.1 k_ e_));have n2_ := Aside0.mk (Kd.R_mono (ok' := fun k_ => True) (Kd.R_keptB ((Kd.R_apart' HO_318003.out (Kd.R_typed HO_9.out) (by decide))) hkp (fun k_ hk_ hs_ => (hk_.2) hs_)) (fun k_ hk_ => trivial));have n3_ := Aside0.mk (blk_kept (blk_up BK294.out) hkp (fun hs_ => (fun e_ => (Kd.R_ne HO_9.out BK294.out (by decide)) e_) hs_));have n4_ := Aside0.mk (blk_kept (blk_up BK317.out) hkp (fun hs_ => (fun e_ => (Kd.R_ne HO_9.out BK317.out (by decide)) e_) hs_));have n5_ := Aside0.mk (hb);clear HO_6;clear HO_9;clear HO_318003;clear BK294;clear BK317;clear HB;have HO_6 := n0_;have HO_9 := n1_;have HO_318003 := n2_;have BK294 := n3_;have BK317 := n4_;have HB := n5_;clear n0_ n1_ n2_ n3_ n4_ n5_;(try clear hb);(try clear hkp);(try clear hy0)) | ((with_reducible refine gate_callee (f := 30) rfl ?_);refine goesL_ (some 67) rfl rfl Try.func30 (by kernel_rfl) rfl #[.slice Ao45 t339.length co45,.int .i64 1] rfl (by (try simp only [List.map_toArray,List.map_cons,List.map_nil]);first | done | (rw [show t339.length = t318.length from (Kd.R_reads' HO_9.out).1.symm] <;> rfl) | rfl | (simp only [List.length_drop,List.length_take];rfl)) ?_;(with_reducible refine (laws_heldByteS.calls kj25 _ _ t339 1 t340 _ ?side1 ?side2 A60.out).mono ?_);(case side1 => exact Kd.C_up (Kd.R_reads' HO_9.out).2.2);(case side2 => rw [show t339.length = t318.length from (Kd.R_reads' HO_9.out).1.symm];exact (Kd.R_reads' HO_9.out).2.1);rintro e w' ⟨rfl,⟨nd,rfl⟩⟩;refine ⟨_,rfl,?_⟩))
           go_ret
           exact ⟨by first | rfl | (simp [errW_none,errW_some] <;> rfl) | (simp [*,errW_none,errW_some] <;> rfl),by repeat (first | (with_reducible first | exact HB.out | apply below_alloc | apply pw_below_drewN | apply below_drew1 | refine below_set ?_ GE294.out | refine below_set ?_ GE317.out) | exact HB.out)⟩
     ·replace c23 := Bool.eq_false_iff.mpr c23
      subst c23
      have H1 : (some false) = some r := by rw [if_neg (show ¬ (false = true) by decide)] at H;exact H
      clear H
      have H := H1
      clear H1
      obtain rfl := Option.some.inj H
      go_enter Try.func7,Try.ntmps7
      try go_wp2_with (first | ((with_reducible refine gate_dst (N := 3) rfl ?_);refine box_event ?hg (N := 3) ?hd (cs := #[.int .i64 a1_0,.int .i64 a1_1,.int .i64 a1_2,.slice A1_3 l1_3.length c1_3]) (t := 25) ?hr ?_;(case hd => rfl);(case hg => rfl);(case hr => first | (go_simp;done) | (go_simp;rfl));intro gb294 hg w105 hbox hb;have n0_ := Aside0.mk (below_step (B_up HB.out) hb);have n1_ := Aside0.mk (hbox);have n2_ := Aside0.mk ((by rw [hg];exact (below_size (B_up HB.out)) : w.heap.size ≤ gb294));have n3_ := Aside0.mk ((by rw [hg];exact (below_size (B_up HB.out)) : w.heap.size ≤ gb294));clear HB;have HB := n0_;have BK294 := n1_;have GW294 := n2_;have GE294 := n3_;clear n0_ n1_ n2_ n3_;clear hb hbox hg;have hcz106_0 : w105.cell? ⟨gb294,0,none⟩ = some (.int .i64 a1_0) := (blk_cell BK294.out 0).trans rfl;have hcz106_1 : w105.cell? ⟨gb294,1,none⟩ = some (.int .i64 a1_1) := (blk_cell BK294.out 1).trans rfl;have hcz106_2 : w105.cell? ⟨gb294,2,none⟩ = some (.int .i64 a1_2) := (blk_cell BK294.out 2).trans rfl;have hcz106_3 : w105.cell? ⟨gb294,3,none⟩ = some (.slice A1_3 l1_3.length c1_3) := (blk_cell BK294.out 3).trans rfl;have hfz106_0 := blk_frozen BK294.out 0;have hfz106_1 := blk_frozen BK294.out 1;have hfz106_2 := blk_frozen BK294.out 2;have hfz106_3 := blk_frozen BK294.out 3) | ((with_reducible refine gate_callee (f := 10) rfl ?_);refine goesL_ (some 19) rfl rfl Try.func10 (by kernel_rfl) rfl #[.agg #[.int .i64 a1_0,.int .i64 a1_1,.int .i64 a1_2,.slice A1_3 l1_3.length c1_3],.int .i64 1048576] rfl eq_up ?_;(with_reducible refine (laws_szManifest.calls a1_0 a1_1 a1_2 _ _ l1_3 1048576 t295 _ ?side1 ?side2 A5.out).mono ?_);(case side1 => repeat (first | exact (Kd.C_below HR1_3.out HB.out) | (with_reducible refine Kd.C_alloc ?_ _) | (with_reducible refine Kd.C_drewN ?_ _) | (with_reducible refine Kd.C_drew ?_)));(case side2 => exact HC1_3.out);rintro e w107 ⟨rfl,hb⟩;refine ⟨_,rfl,?_⟩;have n0_ := Aside0.mk (blk_below (g := gb294) (o := .cells #[.int .i64 a1_0,.int .i64 a1_1,.int .i64 a1_2,.slice A1_3 l1_3.length c1_3] 25 (0,0)) (blk_up BK294.out) hb);have n1_ := Aside0.mk (below_step (B_set HB.out) hb);clear BK294;clear HB;have BK294 := n0_;have HB := n1_;clear n0_ n1_;(try clear hb);(try clear hb2);(try clear hk);(try clear hi)))
      have n0_ := Aside0.mk (blk_drew BK294.out)
      have n1_ := Aside0.mk (below_drew1 HB.out)
      clear BK294
      clear HB
      have BK294 := n0_
      have HB := n1_
      clear n0_ n1_
      refine start_ (n := 6) (S := fun w' => w'.cell? ⟨gb294,0,none⟩ = some (.int .i64 a1_0) ∧ w'.cell? ⟨gb294,1,none⟩ = some (.int .i64 a1_1) ∧ w'.cell? ⟨gb294,2,none⟩ = some (.int .i64 a1_2) ∧ w'.cell? ⟨gb294,3,none⟩ = some (.slice A1_3 l1_3.length c1_3)) (ds := []) #[false,false,false,false,false,false] (by kernel_rfl) rfl rfl ⟨(blk_cell BK294.out 0).trans rfl,(blk_cell BK294.out 1).trans rfl,(blk_cell BK294.out 2).trans rfl,(blk_cell BK294.out 3).trans rfl⟩ (fun hHeld => ?_)
      generalize w107.drew = w108 at BK294 HB hHeld ⊢
      refine pure_ (i := 0) (N := some 22) (v := ?_) (a' := ?_) #[true,false,false,false,false,false] rfl rfl (by kernel_rfl) (fun _ _ _ h => h) (Or.inl ⟨by rfl,?_⟩) ?_ ?_
      rotate_left
      ·intro w'
       go_simp
       with_reducible rfl
      rotate_left
      ·simp only [Act.put,List.setIfInBounds_toArray,List.set_cons_zero,List.set_cons_succ,i64_w,i32_w]
       rfl
      refine take_ (i := 2) (N := some 24) (v := ?_) (a' := ?_) #[true,false,true,false,false,false] rfl rfl (by kernel_rfl) (fun _ _ _ h => h) (Or.inl ⟨by rfl,?_⟩) hHeld ?_ ?_
      rotate_left
      ·rintro w' ⟨s0,s1,s2,s3⟩
       go_simp
       with_reducible rfl
      rotate_left
      ·simp only [Act.put,List.setIfInBounds_toArray,List.set_cons_zero,List.set_cons_succ,i64_w,i32_w]
       rfl
      refine one_ (i := 1) (N := some 23) #[true,true,true,false,false,false] rfl rfl (by kernel_rfl) (by decide) (fun K hK => ?_)
      refine goes_ Try.func12 (by kernel_rfl) rfl #[.slice A0 l0.length c0] (by rfl) rfl rfl eq_up ?_
      with_reducible refine (laws_toByteS.calls k _ _ l0 t296 _ ?side1 ?side2 A10.out).mono ?_
      (case side1 => repeat (first | exact (Kd.C_below HR0.out HB.out) | (with_reducible refine Kd.C_alloc ?_ _) | (with_reducible refine Kd.C_drewN ?_ _) | (with_reducible refine Kd.C_drew ?_)))
      (case side2 => exact HC0.out)
      rintro e w109 ⟨v297,rfl,ho0,hb⟩
      refine ⟨_,rfl,?_⟩
      have n0_ := Aside0.mk (Kd.R_lower ho0 (below_size (B_set HB.out)))
      have n1_ := Aside0.mk (blk_below (g := gb294) (o := .cells #[.int .i64 a1_0,.int .i64 a1_1,.int .i64 a1_2,.slice A1_3 l1_3.length c1_3] 25 (0,0)) (blk_up BK294.out) hb)
      have n2_ := Aside0.mk (below_step (B_set HB.out) hb)
      clear BK294
      clear HB
      have HO298 := n0_
      have BK294 := n1_
      have HB := n2_
      clear n0_ n1_ n2_
      (try clear hb)
      (try clear hb2)
      (try clear hk)
      (try clear hi)
      (try clear ho0)
      refine hK.out _ _ ⟨(blk_cell BK294.out 0).trans rfl,(blk_cell BK294.out 1).trans rfl,(blk_cell BK294.out 2).trans rfl,(blk_cell BK294.out 3).trans rfl⟩ (fun hHeld => ?_)
      clear hK K
      refine norm_ (a' := ?_) ?_ ?_
      rotate_left
      ·show Act.put _ (some 23) _ = _
       simp only [Act.put,List.setIfInBounds_toArray,List.set_cons_zero,List.set_cons_succ,i64_w,i32_w]
       rfl
      refine one_ (i := 3) (N := some 25) #[true,true,true,true,false,false] rfl rfl (by kernel_rfl) (by decide) (fun K hK => ?_)
      refine goes_ Try.func13 (by kernel_rfl) rfl #[.agg #[.int .i64 a1_0,.int .i64 a1_1,.int .i64 a1_2,.slice A1_3 l1_3.length c1_3]] (by rfl) rfl rfl eq_up ?_
      with_reducible refine (laws_toManifest.calls k a1_0 a1_1 a1_2 _ _ l1_3 t299 t300 t301 t302 _ ?side1 ?side2 A11.out).mono ?_
      (case side1 => repeat (first | exact (Kd.C_below HR1_3.out HB.out) | (with_reducible refine Kd.C_alloc ?_ _) | (with_reducible refine Kd.C_drewN ?_ _) | (with_reducible refine Kd.C_drew ?_)))
      (case side2 => exact HC1_3.out)
      rintro e w110 ⟨v303,rfl,ho0,hb⟩
      refine ⟨_,rfl,?_⟩
      have n0_ := Aside0.mk (Kd.R_below (Kd.R_up HO298.out) hb)
      have n1_ := Aside0.mk (Kd.R_lower ho0 (below_size (B_set HB.out)))
      have n2_ := Aside0.mk (blk_below (g := gb294) (o := .cells #[.int .i64 a1_0,.int .i64 a1_1,.int .i64 a1_2,.slice A1_3 l1_3.length c1_3] 25 (0,0)) (blk_up BK294.out) hb)
      have n3_ := Aside0.mk (below_step (B_set HB.out) hb)
      clear HO298
      clear BK294
      clear HB
      have HO298 := n0_
      have HO304 := n1_
      have BK294 := n2_
      have HB := n3_
      clear n0_ n1_ n2_ n3_
      (try clear hb)
      (try clear hb2)
      (try clear hk)
      (try clear hi)
      (try clear ho0)
      obtain ⟨Ao111,co111,eo111⟩ := Kd.R_slice HO298.out
      (first | subst eo111 | (injection eo111 with f1_ f2_ f3_;have f4_ := f1_.symm;have f5_ := f3_.symm;clear f1_ f2_ f3_;subst f4_;subst f5_))
      obtain ⟨Ao112,co112,eo112⟩ := Kd.R_slice HO304.out
      (first | subst eo112 | (injection eo112 with f1_ f2_ f3_;have f4_ := f1_.symm;have f5_ := f3_.symm;clear f1_ f2_ f3_;subst f4_;subst f5_))
      refine hK.out _ _ ⟨(blk_cell BK294.out 0).trans rfl,(blk_cell BK294.out 1).trans rfl,(blk_cell BK294.out 2).trans rfl,(blk_cell BK294.out 3).trans rfl⟩ (fun hHeld => ?_)
      clear hK K
      refine norm_ (a' := ?_) ?_ ?_
      rotate_left
      ·show Act.put _ (some 25) _ = _
       simp only [Act.put,List.setIfInBounds_toArray,List.set_cons_zero,List.set_cons_succ,i64_w,i32_w]
       rfl
      refine one_ (i := 4) (N := some 26) #[true,true,true,true,true,false] rfl rfl (by kernel_rfl) (by decide) (fun K hK => ?_)
      refine goes_ Try.func28 (by kernel_rfl) rfl #[.slice Ao111 t296.length co111,.agg #[.int .i64 t299,.int .i64 t300,.int .i64 t301,.slice Ao112 t302.length co112]] (by rfl) rfl rfl eq_up ?_
      with_reducible refine (spec_PutMan.calls k _ _ t296 t299 t300 t301 _ _ t302 t305 _ ?side1 ?side2 ?side3 ?side4 A12.out).mono ?_
      (case side1 => exact Kd.C_up (Kd.R_reads' HO298.out).2.2)
      (case side2 => exact (Kd.R_reads' HO298.out).2.1)
      (case side3 => exact Kd.C_up (Kd.R_reads' HO304.out).2.2)
      (case side4 => exact (Kd.R_reads' HO304.out).2.1)
      rintro e w113 ⟨v306,rfl,ho0,hb⟩
      refine ⟨_,rfl,?_⟩
      have n0_ := Aside0.mk (Kd.R_elder' (Kd.R_up HO298.out) (Kd.R_base ho0) hb)
      have n1_ := Aside0.mk (Kd.R_below (Kd.R_up HO304.out) hb)
      have n2_ := Aside0.mk (Kd.R_lower (Kd.R_new' ho0 (Kd.R_lt (Kd.R_up HO298.out))) (below_size (B_set HB.out)))
      have n3_ := Aside0.mk (blk_below (g := gb294) (o := .cells #[.int .i64 a1_0,.int .i64 a1_1,.int .i64 a1_2,.slice A1_3 l1_3.length c1_3] 25 (0,0)) (blk_up BK294.out) hb)
      have n4_ := Aside0.mk (below_step (B_set HB.out) hb)
      clear HO298
      clear HO304
      clear BK294
      clear HB
      have HO298 := n0_
      have HO304 := n1_
      have HO307 := n2_
      have BK294 := n3_
      have HB := n4_
      clear n0_ n1_ n2_ n3_ n4_
      (try clear hb)
      (try clear hb2)
      (try clear hk)
      (try clear hi)
      (try clear ho0)
      refine hK.out _ _ ⟨(blk_cell BK294.out 0).trans rfl,(blk_cell BK294.out 1).trans rfl,(blk_cell BK294.out 2).trans rfl,(blk_cell BK294.out 3).trans rfl⟩ (fun hHeld => ?_)
      clear hK K
      refine norm_ (a' := ?_) ?_ ?_
      rotate_left
      ·show Act.put _ (some 26) _ = _
       simp only [Act.put,List.setIfInBounds_toArray,List.set_cons_zero,List.set_cons_succ,i64_w,i32_w]
       rfl
      refine pure_ (i := 5) (N := some 6) (v := ?_) (a' := ?_) #[true,true,true,true,true,true] rfl rfl (by kernel_rfl) (fun _ _ _ h => h) (Or.inl ⟨by rfl,?_⟩) ?_ ?_
      rotate_left
      ·intro w'
       go_simp
       with_reducible rfl
      rotate_left
      ·simp only [Act.put,List.setIfInBounds_toArray,List.set_cons_zero,List.set_cons_succ,i64_w,i32_w]
       rfl
      refine done_ (by kernel_rfl) ?_
      try go_wp2_with (first | ((with_reducible refine gate_callee (f := 12) rfl ?_);refine goesL_ (some 28) rfl rfl Try.func12 (by kernel_rfl) rfl #[.slice A0 l0.length c0] rfl eq_up ?_;(with_reducible refine (laws_toByteS.calls k _ _ l0 t308 _ ?side1 ?side2 A13.out).mono ?_);(case side1 => repeat (first | exact (Kd.C_below HR0.out HB.out) | (with_reducible refine Kd.C_alloc ?_ _) | (with_reducible refine Kd.C_drewN ?_ _) | (with_reducible refine Kd.C_drew ?_)));(case side2 => exact HC0.out);rintro e w114 ⟨v309,rfl,ho0,hb⟩;refine ⟨_,rfl,?_⟩;have n0_ := Aside0.mk (Kd.R_elder' (Kd.R_up HO298.out) (Kd.R_base ho0) hb);have n1_ := Aside0.mk (Kd.R_below (Kd.R_up HO304.out) hb);have n2_ := Aside0.mk (Kd.R_elder' (Kd.R_up HO307.out) (Kd.R_base ho0) hb);have n3_ := Aside0.mk (Kd.R_lower (Kd.R_new' (Kd.R_new' ho0 (Kd.R_lt (Kd.R_up HO298.out))) (Kd.R_lt (Kd.R_up HO307.out))) (below_size (B_set HB.out)));have n4_ := Aside0.mk (blk_below (g := gb294) (o := .cells #[.int .i64 a1_0,.int .i64 a1_1,.int .i64 a1_2,.slice A1_3 l1_3.length c1_3] 25 (0,0)) (blk_up BK294.out) hb);have n5_ := Aside0.mk (below_step (B_set HB.out) hb);clear HO298;clear HO304;clear HO307;clear BK294;clear HB;have HO298 := n0_;have HO304 := n1_;have HO307 := n2_;have HO310 := n3_;have BK294 := n4_;have HB := n5_;clear n0_ n1_ n2_ n3_ n4_ n5_;(try clear hb);(try clear hb2);(try clear hk);(try clear hi);(try clear ho0);have hcz115_0 : w114.cell? ⟨gb294,0,none⟩ = some (.int .i64 a1_0) := (blk_cell BK294.out 0).trans rfl;have hcz115_1 : w114.cell? ⟨gb294,1,none⟩ = some (.int .i64 a1_1) := (blk_cell BK294.out 1).trans rfl;have hcz115_2 : w114.cell? ⟨gb294,2,none⟩ = some (.int .i64 a1_2) := (blk_cell BK294.out 2).trans rfl;have hcz115_3 : w114.cell? ⟨gb294,3,none⟩ = some (.slice A1_3 l1_3.length c1_3) := (blk_cell BK294.out 3).trans rfl;have hfz115_0 := blk_frozen BK294.out 0;have hfz115_1 := blk_frozen BK294.out 1;have hfz115_2 := blk_frozen BK294.out 2;have hfz115_3 := blk_frozen BK294.out 3) | ((with_reducible refine gate_callee (f := 13) rfl ?_);refine goesL_ (some 30) rfl rfl Try.func13 (by kernel_rfl) rfl #[.agg #[.int .i64 a1_0,.int .i64 a1_1,.int .i64 a1_2,.slice A1_3 l1_3.length c1_3]] rfl eq_up ?_;(with_reducible refine (laws_toManifest.calls k a1_0 a1_1 a1_2 _ _ l1_3 t311 t312 t313 t314 _ ?side1 ?side2 A14.out).mono ?_);(case side1 => repeat (first | exact (Kd.C_below HR1_3.out HB.out) | (with_reducible refine Kd.C_alloc ?_ _) | (with_reducible refine Kd.C_drewN ?_ _) | (with_reducible refine Kd.C_drew ?_)));(case side2 => exact HC1_3.out);rintro e w116 ⟨v315,rfl,ho0,hb⟩;refine ⟨_,rfl,?_⟩;have n0_ := Aside0.mk (Kd.R_below (Kd.R_up HO298.out) hb);have n1_ := Aside0.mk (Kd.R_elder' (Kd.R_up HO304.out) (Kd.R_base ho0) hb);have n2_ := Aside0.mk (Kd.R_below (Kd.R_up HO307.out) hb);have n3_ := Aside0.mk (Kd.R_below (Kd.R_up HO310.out) hb);have n4_ := Aside0.mk (Kd.R_lower (Kd.R_new' ho0 (Kd.R_lt (Kd.R_up HO304.out))) (below_size (B_set HB.out)));have n5_ := Aside0.mk (blk_below (g := gb294) (o := .cells #[.int .i64 a1_0,.int .i64 a1_1,.int .i64 a1_2,.slice A1_3 l1_3.length c1_3] 25 (0,0)) (blk_up BK294.out) hb);have n6_ := Aside0.mk (below_step (B_set HB.out) hb);clear HO298;clear HO304;clear HO307;clear HO310;clear BK294;clear HB;have HO298 := n0_;have HO304 := n1_;have HO307 := n2_;have HO310 := n3_;have HO316 := n4_;have BK294 := n5_;have HB := n6_;clear n0_ n1_ n2_ n3_ n4_ n5_ n6_;(try clear hb);(try clear hb2);(try clear hk);(try clear hi);(try clear ho0)) | ((with_reducible refine gate_dst (N := 8) rfl ?_);refine box_event ?hg (N := 8) ?hd (cs := #[.int .i64 0,.int .i64 0,.int .i64 0,.slice none 0 0]) (t := 31) ?hr ?_;(case hd => rfl);(case hg => rfl);(case hr => first | (go_simp;done) | (go_simp;rfl));intro gb317 hg w117 hbox hb;have n0_ := Aside0.mk (Kd.R_below (Kd.R_up HO298.out) hb);have n1_ := Aside0.mk (Kd.R_below (Kd.R_up HO304.out) hb);have n2_ := Aside0.mk (Kd.R_below (Kd.R_up HO307.out) hb);have n3_ := Aside0.mk (Kd.R_below (Kd.R_up HO310.out) hb);have n4_ := Aside0.mk (Kd.R_below (Kd.R_up HO316.out) hb);have n5_ := Aside0.mk (blk_below (g := gb294) (o := .cells #[.int .i64 a1_0,.int .i64 a1_1,.int .i64 a1_2,.slice A1_3 l1_3.length c1_3] 25 (0,0)) (blk_up BK294.out) hb);have n6_ := Aside0.mk (below_step (B_set HB.out) hb);have n7_ := Aside0.mk (hbox);have n8_ := Aside0.mk ((by rw [hg];exact (below_size (B_set HB.out)) : w.heap.size ≤ gb317));have n9_ := Aside0.mk ((by rw [hg];exact (below_size (B_set HB.out)) : w.heap.size ≤ gb317));have n10_ := Aside0.mk ((by rw [hg];exact Nat.ne_of_lt (blk_lt (g := gb294) (o := .cells #[.int .i64 a1_0,.int .i64 a1_1,.int .i64 a1_2,.slice A1_3 l1_3.length c1_3] 25 (0,0)) (blk_up BK294.out)) : gb294 ≠ gb317));have n11_ := Aside0.mk ((by rw [hg];exact Nat.ne_of_gt (blk_lt (g := gb294) (o := .cells #[.int .i64 a1_0,.int .i64 a1_1,.int .i64 a1_2,.slice A1_3 l1_3.length c1_3] 25 (0,0)) (blk_up BK294.out)) : gb317 ≠ gb294));clear HO298;clear HO304;clear HO307;clear HO310;clear HO316;clear BK294;clear HB;have HO298 := n0_;have HO304 := n1_;have HO307 := n2_;have HO310 := n3_;have HO316 := n4_;have BK294 := n5_;have HB := n6_;have BK317 := n7_;have GW317 := n8_;have GE317 := n9_;have NB294_317 := n10_;have NB317_294 := n11_;clear n0_ n1_ n2_ n3_ n4_ n5_ n6_ n7_ n8_ n9_ n10_ n11_;clear hb hbox hg;have hnb118 := NB317_294.out;have hnc118 := NB294_317.out;have hcz119_0 : w117.cell? ⟨gb317,0,none⟩ = some (.int .i64 0) := (blk_cell BK317.out 0).trans rfl;have hcz119_1 : w117.cell? ⟨gb317,1,none⟩ = some (.int .i64 0) := (blk_cell BK317.out 1).trans rfl;have hcz119_2 : w117.cell? ⟨gb317,2,none⟩ = some (.int .i64 0) := (blk_cell BK317.out 2).trans rfl;have hcz119_3 : w117.cell? ⟨gb317,3,none⟩ = some (.slice none 0 0) := (blk_cell BK317.out 3).trans rfl;have hfz119_0 := blk_frozen BK317.out 0;have hfz119_1 := blk_frozen BK317.out 1;have hfz119_2 := blk_frozen BK317.out 2;have hfz119_3 := blk_frozen BK317.out 3;obtain ⟨Ao120,co120,eo120⟩ := Kd.R_slice HO316.out;subst eo120;obtain ⟨Ao121,co121,eo121⟩ := Kd.R_slice HO310.out;subst eo121) | ((with_reducible refine gate_callee (f := 29) rfl ?_);refine goesL_ (some 33) rfl rfl Try.func29 (by kernel_rfl) rfl #[.slice Ao121 t308.length co121,.agg #[.int .i64 t311,.int .i64 t312,.int .i64 t313,.slice Ao120 t314.length co120]] rfl eq_up ?_;(with_reducible refine (impl_PutMan.calls k _ _ t308 t311 t312 t313 _ _ t314 t318 _ ?side1 ?side2 ?side3 ?side4 A15.out).mono ?_);(case side1 => refine (Kd.R_reads' (e := 5) (base := w.heap.size) (ok := fun k_ => ((True ∧ some k_ ≠ (.slice Ao111 t296.length co111 : Value).ownBlock) ∧ some k_ ≠ (v306 : Value).ownBlock)) (n := t308.length) (c := co121) ?_).2.2;exact (by (with_reducible repeat (first | apply Kd.R_alloc | apply Kd.R_drewN | apply Kd.R_drew));exact (Kd.R_mono (Kd.R_far (p := ⟨gb317,3,none⟩) (Kd.R_far (p := ⟨gb317,2,none⟩) (Kd.R_far (p := ⟨gb317,1,none⟩) (Kd.R_far (p := ⟨gb317,0,none⟩) (Kd.R_types HO310.out BK317.out (by decide)) (fun _ hk => hk.2) (.int .i64 t311)) (fun _ hk => hk.2) (.int .i64 t312)) (fun _ hk => hk.2) (.int .i64 t313)) (fun _ hk => hk.2) (.slice Ao120 t314.length co120)) (fun _ h_ => h_.1))));(case side2 => exact (Kd.R_reads' HO310.out).2.1);(case side3 => refine (Kd.R_reads' (e := 66) (base := w.heap.size) (ok := fun k_ => (True ∧ some k_ ≠ (.slice Ao112 t302.length co112 : Value).ownBlock)) (n := t314.length) (c := co120) ?_).2.2;exact (by (with_reducible repeat (first | apply Kd.R_alloc | apply Kd.R_drewN | apply Kd.R_drew));exact (Kd.R_mono (Kd.R_far (p := ⟨gb317,3,none⟩) (Kd.R_far (p := ⟨gb317,2,none⟩) (Kd.R_far (p := ⟨gb317,1,none⟩) (Kd.R_far (p := ⟨gb317,0,none⟩) (Kd.R_types HO316.out BK317.out (by decide)) (fun _ hk => hk.2) (.int .i64 t311)) (fun _ hk => hk.2) (.int .i64 t312)) (fun _ hk => hk.2) (.int .i64 t313)) (fun _ hk => hk.2) (.slice Ao120 t314.length co120)) (fun _ h_ => h_.1))));(case side4 => exact (Kd.R_reads' HO316.out).2.1);rintro e w122 ⟨v319,rfl,ho0,hb⟩;refine ⟨_,rfl,?_⟩;have n0_ := Aside0.mk (Kd.R_elder' (by (with_reducible repeat (first | apply Kd.R_alloc | apply Kd.R_drewN | apply Kd.R_drew));exact (Kd.R_mono (Kd.R_far (p := ⟨gb317,3,none⟩) (Kd.R_far (p := ⟨gb317,2,none⟩) (Kd.R_far (p := ⟨gb317,1,none⟩) (Kd.R_far (p := ⟨gb317,0,none⟩) (Kd.R_types HO298.out BK317.out (by decide)) (fun _ hk => hk.2) (.int .i64 t311)) (fun _ hk => hk.2) (.int .i64 t312)) (fun _ hk => hk.2) (.int .i64 t313)) (fun _ hk => hk.2) (.slice Ao120 t314.length co120)) (fun _ h_ => h_.1))) (Kd.R_base ho0) hb);have n1_ := Aside0.mk (Kd.R_below (by (with_reducible repeat (first | apply Kd.R_alloc | apply Kd.R_drewN | apply Kd.R_drew));exact (Kd.R_mono (Kd.R_far (p := ⟨gb317,3,none⟩) (Kd.R_far (p := ⟨gb317,2,none⟩) (Kd.R_far (p := ⟨gb317,1,none⟩) (Kd.R_far (p := ⟨gb317,0,none⟩) (Kd.R_types HO304.out BK317.out (by decide)) (fun _ hk => hk.2) (.int .i64 t311)) (fun _ hk => hk.2) (.int .i64 t312)) (fun _ hk => hk.2) (.int .i64 t313)) (fun _ hk => hk.2) (.slice Ao120 t314.length co120)) (fun _ h_ => h_.1))) hb);have n2_ := Aside0.mk (Kd.R_elder' (by (with_reducible repeat (first | apply Kd.R_alloc | apply Kd.R_drewN | apply Kd.R_drew));exact (Kd.R_mono (Kd.R_far (p := ⟨gb317,3,none⟩) (Kd.R_far (p := ⟨gb317,2,none⟩) (Kd.R_far (p := ⟨gb317,1,none⟩) (Kd.R_far (p := ⟨gb317,0,none⟩) (Kd.R_types HO307.out BK317.out (by decide)) (fun _ hk => hk.2) (.int .i64 t311)) (fun _ hk => hk.2) (.int .i64 t312)) (fun _ hk => hk.2) (.int .i64 t313)) (fun _ hk => hk.2) (.slice Ao120 t314.length co120)) (fun _ h_ => h_.1))) (Kd.R_base ho0) hb);have n3_ := Aside0.mk (Kd.R_elder' (by (with_reducible repeat (first | apply Kd.R_alloc | apply Kd.R_drewN | apply Kd.R_drew));exact (Kd.R_mono (Kd.R_far (p := ⟨gb317,3,none⟩) (Kd.R_far (p := ⟨gb317,2,none⟩) (Kd.R_far (p := ⟨gb317,1,none⟩) (Kd.R_far (p := ⟨gb317,0,none⟩) (Kd.R_types HO310.out BK317.out (by decide)) (fun _ hk => hk.2) (.int .i64 t311)) (fun _ hk => hk.2) (.int .i64 t312)) (fun _ hk => hk.2) (.int .i64 t313)) (fun _ hk => hk.2) (.slice Ao120 t314.length co120)) (fun _ h_ => h_.1))) (Kd.R_base ho0) hb);have n4_ := Aside0.mk (Kd.R_below (by (with_reducible repeat (first | apply Kd.R_alloc | apply Kd.R_drewN | apply Kd.R_drew));exact (Kd.R_mono (Kd.R_far (p := ⟨gb317,3,none⟩) (Kd.R_far (p := ⟨gb317,2,none⟩) (Kd.R_far (p := ⟨gb317,1,none⟩) (Kd.R_far (p := ⟨gb317,0,none⟩) (Kd.R_types HO316.out BK317.out (by decide)) (fun _ hk => hk.2) (.int .i64 t311)) (fun _ hk => hk.2) (.int .i64 t312)) (fun _ hk => hk.2) (.int .i64 t313)) (fun _ hk => hk.2) (.slice Ao120 t314.length co120)) (fun _ h_ => h_.1))) hb);have n5_ := Aside0.mk (Kd.R_lower (Kd.R_new' (Kd.R_new' (Kd.R_new' ho0 (Kd.R_lt (by (with_reducible repeat (first | apply Kd.R_alloc | apply Kd.R_drewN | apply Kd.R_drew));exact (Kd.R_mono (Kd.R_far (p := ⟨gb317,3,none⟩) (Kd.R_far (p := ⟨gb317,2,none⟩) (Kd.R_far (p := ⟨gb317,1,none⟩) (Kd.R_far (p := ⟨gb317,0,none⟩) (Kd.R_types HO298.out BK317.out (by decide)) (fun _ hk => hk.2) (.int .i64 t311)) (fun _ hk => hk.2) (.int .i64 t312)) (fun _ hk => hk.2) (.int .i64 t313)) (fun _ hk => hk.2) (.slice Ao120 t314.length co120)) (fun _ h_ => h_.1))))) (Kd.R_lt (by (with_reducible repeat (first | apply Kd.R_alloc | apply Kd.R_drewN | apply Kd.R_drew));exact (Kd.R_mono (Kd.R_far (p := ⟨gb317,3,none⟩) (Kd.R_far (p := ⟨gb317,2,none⟩) (Kd.R_far (p := ⟨gb317,1,none⟩) (Kd.R_far (p := ⟨gb317,0,none⟩) (Kd.R_types HO307.out BK317.out (by decide)) (fun _ hk => hk.2) (.int .i64 t311)) (fun _ hk => hk.2) (.int .i64 t312)) (fun _ hk => hk.2) (.int .i64 t313)) (fun _ hk => hk.2) (.slice Ao120 t314.length co120)) (fun _ h_ => h_.1))))) (Kd.R_lt (by (with_reducible repeat (first | apply Kd.R_alloc | apply Kd.R_drewN | apply Kd.R_drew));exact (Kd.R_mono (Kd.R_far (p := ⟨gb317,3,none⟩) (Kd.R_far (p := ⟨gb317,2,none⟩) (Kd.R_far (p := ⟨gb317,1,none⟩) (Kd.R_far (p := ⟨gb317,0,none⟩) (Kd.R_types HO310.out BK317.out (by decide)) (fun _ hk => hk.2) (.int .i64 t311)) (fun _ hk => hk.2) (.int .i64 t312)) (fun _ hk => hk.2) (.int .i64 t313)) (fun _ hk => hk.2) (.slice Ao120 t314.length co120)) (fun _ h_ => h_.1))))) (below_size (B_set HB.out)));have n6_ := Aside0.mk (blk_below (g := gb294) (o := .cells #[.int .i64 a1_0,.int .i64 a1_1,.int .i64 a1_2,.slice A1_3 l1_3.length c1_3] 25 (0,0)) (by (with_reducible repeat (first | refine blk_drewN ?_ _ | refine blk_drew ?_ | refine blk_alloc ?_ _));refine blk_far ?_ NB294_317.out _;(with_reducible repeat (first | refine blk_drewN ?_ _ | refine blk_drew ?_ | refine blk_alloc ?_ _));refine blk_far ?_ NB294_317.out _;(with_reducible repeat (first | refine blk_drewN ?_ _ | refine blk_drew ?_ | refine blk_alloc ?_ _));refine blk_far ?_ NB294_317.out _;(with_reducible repeat (first | refine blk_drewN ?_ _ | refine blk_drew ?_ | refine blk_alloc ?_ _));refine blk_far ?_ NB294_317.out _;(with_reducible repeat (first | refine blk_drewN ?_ _ | refine blk_drew ?_ | refine blk_alloc ?_ _));exact BK294.out) hb);have n7_ := Aside0.mk (blk_below (g := gb317) (o := .cells #[.int .i64 t311,.int .i64 t312,.int .i64 t313,.slice Ao120 t314.length co120] 31 (0,0)) (by (with_reducible repeat (first | refine blk_drewN ?_ _ | refine blk_drew ?_ | refine blk_alloc ?_ _));refine blk_put (cs := #[.int .i64 t311,.int .i64 t312,.int .i64 t313,.slice none 0 0]) ?_ 3 _ rfl;(with_reducible repeat (first | refine blk_drewN ?_ _ | refine blk_drew ?_ | refine blk_alloc ?_ _));refine blk_put (cs := #[.int .i64 t311,.int .i64 t312,.int .i64 0,.slice none 0 0]) ?_ 2 _ rfl;(with_reducible repeat (first | refine blk_drewN ?_ _ | refine blk_drew ?_ | refine blk_alloc ?_ _));refine blk_put (cs := #[.int .i64 t311,.int .i64 0,.int .i64 0,.slice none 0 0]) ?_ 1 _ rfl;(with_reducible repeat (first | refine blk_drewN ?_ _ | refine blk_drew ?_ | refine blk_alloc ?_ _));refine blk_put (cs := #[.int .i64 0,.int .i64 0,.int .i64 0,.slice none 0 0]) ?_ 0 _ rfl;(with_reducible repeat (first | refine blk_drewN ?_ _ | refine blk_drew ?_ | refine blk_alloc ?_ _));exact BK317.out) hb);have n8_ := Aside0.mk (below_step (B_set HB.out) hb);clear HO298;clear HO304;clear HO307;clear HO310;clear HO316;clear BK294;clear BK317;clear HB;have HO298 := n0_;have HO304 := n1_;have HO307 := n2_;have HO310 := n3_;have HO316 := n4_;have HO320 := n5_;have BK294 := n6_;have BK317 := n7_;have HB := n8_;clear n0_ n1_ n2_ n3_ n4_ n5_ n6_ n7_ n8_;(try clear hb);(try clear hb2);(try clear hk);(try clear hi);(try clear ho0);obtain ⟨Ao123,co123,eo123⟩ := Kd.R_slice HO320.out;subst eo123;obtain ⟨Ao124,co124,eo124⟩ := Kd.R_slice HO307.out;subst eo124) | ((with_reducible refine gate_callee (f := 15) rfl ?_);refine goesL_ (some 36) rfl rfl Try.func15 (by kernel_rfl) rfl #[.slice Ao123 t318.length co123,.slice Ao124 t305.length co124] rfl eq_up ?_;(with_reducible refine (laws_eqByteS.calls k _ _ t318 _ _ t305 true _ ?side1 ?side2 ?side3 ?side4 A16.out).mono ?_);(case side1 => exact Kd.C_up (Kd.R_reads' HO320.out).2.2);(case side2 => exact (Kd.R_reads' HO320.out).2.1);(case side3 => exact Kd.C_up (Kd.R_reads' HO307.out).2.2);(case side4 => exact (Kd.R_reads' HO307.out).2.1);rintro e w' ⟨rfl,⟨nd,rfl⟩⟩;refine ⟨_,rfl,?_⟩) | ((with_reducible refine gate_callee (f := 12) rfl ?_);refine goesL_ (some 40) rfl rfl Try.func12 (by kernel_rfl) rfl #[.slice A0 l0.length c0] rfl eq_up ?_;(with_reducible refine (laws_toByteS.calls k _ _ l0 t322 _ ?side1 ?side2 A18.out).mono ?_);(case side1 => repeat (first | exact (Kd.C_below HR0.out (B_set HB.out)) | (with_reducible refine Kd.C_alloc ?_ _) | (with_reducible refine Kd.C_drewN ?_ _) | (with_reducible refine Kd.C_drew ?_)));(case side2 => exact HC0.out);rintro e w125 ⟨v323,rfl,ho0,hb⟩;refine ⟨_,rfl,?_⟩;have n0_ := Aside0.mk (Kd.R_elder' (Kd.R_up HO298.out) (Kd.R_base ho0) hb);have n1_ := Aside0.mk (Kd.R_below (Kd.R_up HO304.out) hb);have n2_ := Aside0.mk (Kd.R_elder' (Kd.R_up HO307.out) (Kd.R_base ho0) hb);have n3_ := Aside0.mk (Kd.R_elder' (Kd.R_up HO310.out) (Kd.R_base ho0) hb);have n4_ := Aside0.mk (Kd.R_below (Kd.R_up HO316.out) hb);have n5_ := Aside0.mk (Kd.R_elder' (Kd.R_up HO320.out) (Kd.R_base ho0) hb);have n6_ := Aside0.mk (Kd.R_lower (Kd.R_new' (Kd.R_new' (Kd.R_new' (Kd.R_new' ho0 (Kd.R_lt (Kd.R_up HO298.out))) (Kd.R_lt (Kd.R_up HO307.out))) (Kd.R_lt (Kd.R_up HO310.out))) (Kd.R_lt (Kd.R_up HO320.out))) (below_size (B_set HB.out)));have n7_ := Aside0.mk (blk_below (g := gb294) (o := .cells #[.int .i64 a1_0,.int .i64 a1_1,.int .i64 a1_2,.slice A1_3 l1_3.length c1_3] 25 (0,0)) (blk_up BK294.out) hb);have n8_ := Aside0.mk (blk_below (g := gb317) (o := .cells #[.int .i64 t311,.int .i64 t312,.int .i64 t313,.slice Ao120 t314.length co120] 31 (0,0)) (blk_up BK317.out) hb);have n9_ := Aside0.mk (below_step (B_set HB.out) hb);clear HO298;clear HO304;clear HO307;clear HO310;clear HO316;clear HO320;clear BK294;clear BK317;clear HB;have HO298 := n0_;have HO304 := n1_;have HO307 := n2_;have HO310 := n3_;have HO316 := n4_;have HO320 := n5_;have HO324 := n6_;have BK294 := n7_;have BK317 := n8_;have HB := n9_;clear n0_ n1_ n2_ n3_ n4_ n5_ n6_ n7_ n8_ n9_;(try clear hb);(try clear hb2);(try clear hk);(try clear hi);(try clear ho0);obtain ⟨Ao126,co126,eo126⟩ := Kd.R_slice HO324.out;subst eo126) | ((with_reducible refine gate_callee (f := 15) rfl ?_);refine goesL_ (some 41) rfl rfl Try.func15 (by kernel_rfl) rfl #[.slice Ao121 t308.length co121,.slice Ao126 t322.length co126] rfl eq_up ?_;(with_reducible refine (laws_eqByteS.calls k _ _ t308 _ _ t322 true _ ?side1 ?side2 ?side3 ?side4 A19.out).mono ?_);(case side1 => exact Kd.C_up (Kd.R_reads' HO310.out).2.2);(case side2 => exact (Kd.R_reads' HO310.out).2.1);(case side3 => exact Kd.C_up (Kd.R_reads' HO324.out).2.2);(case side4 => exact (Kd.R_reads' HO324.out).2.1);rintro e w' ⟨rfl,⟨nd,rfl⟩⟩;refine ⟨_,rfl,?_⟩))
      (try (rw [drewN_self w125];generalize hq_ : World.drewN w125 _ = w125;have n0_ : Aside0 (Kd.R (Kd.int .u8) 5 w125 w.heap.size (fun k_ => some k_ ≠ (.slice Ao124 t305.length co124 : Value).ownBlock ∧ some k_ ≠ (.slice Ao121 t308.length co121 : Value).ownBlock ∧ some k_ ≠ (.slice Ao123 t318.length co123 : Value).ownBlock ∧ some k_ ≠ (.slice Ao126 t322.length co126 : Value).ownBlock) (.slice Ao111 t296.length co111) t296) := ⟨by rw [← hq_];exact (by (with_reducible repeat (first | apply Kd.R_alloc | apply Kd.R_drewN | apply Kd.R_drew));exact Kd.R_mono HO298.out (fun _ hk => ⟨hk.1.1.1.2,⟨hk.1.1.2,⟨hk.1.2,hk.2⟩⟩⟩))⟩;have n1_ : Aside0 (Kd.R k66 66 w125 w.heap.size (fun k_ => some k_ ≠ (.slice Ao120 t314.length co120 : Value).ownBlock) (.slice Ao112 t302.length co112) t302) := ⟨by rw [← hq_];exact (by (with_reducible repeat (first | apply Kd.R_alloc | apply Kd.R_drewN | apply Kd.R_drew));exact Kd.R_mono HO304.out (fun _ hk => hk.2))⟩;have n2_ : Aside0 (Kd.R (Kd.int .u8) 5 w125 w.heap.size (fun k_ => some k_ ≠ (.slice Ao111 t296.length co111 : Value).ownBlock ∧ some k_ ≠ (.slice Ao121 t308.length co121 : Value).ownBlock ∧ some k_ ≠ (.slice Ao123 t318.length co123 : Value).ownBlock ∧ some k_ ≠ (.slice Ao126 t322.length co126 : Value).ownBlock) (.slice Ao124 t305.length co124) t305) := ⟨by rw [← hq_];exact (by (with_reducible repeat (first | apply Kd.R_alloc | apply Kd.R_drewN | apply Kd.R_drew));exact Kd.R_mono HO307.out (fun _ hk => ⟨hk.1.1.1.2,⟨hk.1.1.2,⟨hk.1.2,hk.2⟩⟩⟩))⟩;have n3_ : Aside0 (Kd.R (Kd.int .u8) 5 w125 w.heap.size (fun k_ => some k_ ≠ (.slice Ao111 t296.length co111 : Value).ownBlock ∧ some k_ ≠ (.slice Ao124 t305.length co124 : Value).ownBlock ∧ some k_ ≠ (.slice Ao123 t318.length co123 : Value).ownBlock ∧ some k_ ≠ (.slice Ao126 t322.length co126 : Value).ownBlock) (.slice Ao121 t308.length co121) t308) := ⟨by rw [← hq_];exact (by (with_reducible repeat (first | apply Kd.R_alloc | apply Kd.R_drewN | apply Kd.R_drew));exact Kd.R_mono HO310.out (fun _ hk => ⟨hk.1.1.1.2,⟨hk.1.1.2,⟨hk.1.2,hk.2⟩⟩⟩))⟩;have n4_ : Aside0 (Kd.R k66 66 w125 w.heap.size (fun k_ => some k_ ≠ (.slice Ao112 t302.length co112 : Value).ownBlock) (.slice Ao120 t314.length co120) t314) := ⟨by rw [← hq_];exact (by (with_reducible repeat (first | apply Kd.R_alloc | apply Kd.R_drewN | apply Kd.R_drew));exact Kd.R_mono HO316.out (fun _ hk => hk.2))⟩;have n5_ : Aside0 (Kd.R (Kd.int .u8) 5 w125 w.heap.size (fun k_ => some k_ ≠ (.slice Ao111 t296.length co111 : Value).ownBlock ∧ some k_ ≠ (.slice Ao124 t305.length co124 : Value).ownBlock ∧ some k_ ≠ (.slice Ao121 t308.length co121 : Value).ownBlock ∧ some k_ ≠ (.slice Ao126 t322.length co126 : Value).ownBlock) (.slice Ao123 t318.length co123) t318) := ⟨by rw [← hq_];exact (by (with_reducible repeat (first | apply Kd.R_alloc | apply Kd.R_drewN | apply Kd.R_drew));exact Kd.R_mono HO320.out (fun _ hk => ⟨hk.1.1.1.2,⟨hk.1.1.2,⟨hk.1.2,hk.2⟩⟩⟩))⟩;have n6_ : Aside0 (Kd.R (Kd.int .u8) 5 w125 w.heap.size (fun k_ => some k_ ≠ (.slice Ao111 t296.length co111 : Value).ownBlock ∧ some k_ ≠ (.slice Ao124 t305.length co124 : Value).ownBlock ∧ some k_ ≠ (.slice Ao121 t308.length co121 : Value).ownBlock ∧ some k_ ≠ (.slice Ao123 t318.length co123 : Value).ownBlock) (.slice Ao126 t322.length co126) t322) := ⟨by rw [← hq_];exact (by (with_reducible repeat (first | apply Kd.R_alloc | apply Kd.R_drewN | apply Kd.R_drew));exact Kd.R_mono HO324.out (fun _ hk => ⟨hk.1.1.1.2,⟨hk.1.1.2,⟨hk.1.2,hk.2⟩⟩⟩))⟩;have n7_ : Aside0 (w125.heap[gb294]? = some (.cells #[.int .i64 a1_0,.int .i64 a1_1,.int .i64 a1_2,.slice A1_3 l1_3.length c1_3] 25 (0,0))) := ⟨by rw [← hq_];exact (blk_up BK294.out)⟩;have n8_ : Aside0 (w125.heap[gb317]? = some (.cells #[.int .i64 t311,.int .i64 t312,.int .i64 t313,.slice Ao120 t314.length co120] 31 (0,0))) := ⟨by rw [← hq_];exact (blk_up BK317.out)⟩;have n9_ : Aside0 (Below w.heap.size w w125) := ⟨by rw [← hq_];exact (B_set HB.out)⟩;clear HO298 HO304 HO307 HO310 HO316 HO320 HO324 BK294 BK317 HB hq_;have HO298 := n0_;have HO304 := n1_;have HO307 := n2_;have HO310 := n3_;have HO316 := n4_;have HO320 := n5_;have HO324 := n6_;have BK294 := n7_;have BK317 := n8_;have HB := n9_;clear n0_ n1_ n2_ n3_ n4_ n5_ n6_ n7_ n8_ n9_))
      have n0_ := Aside0.mk (Kd.R_drew HO298.out)
      have n1_ := Aside0.mk (Kd.R_drew HO304.out)
      have n2_ := Aside0.mk (Kd.R_drew HO307.out)
      have n3_ := Aside0.mk (Kd.R_drew HO310.out)
      have n4_ := Aside0.mk (Kd.R_drew HO316.out)
      have n5_ := Aside0.mk (Kd.R_drew HO320.out)
      have n6_ := Aside0.mk (Kd.R_drew HO324.out)
      have n7_ := Aside0.mk (blk_drew BK294.out)
      have n8_ := Aside0.mk (blk_drew BK317.out)
      have n9_ := Aside0.mk (below_drew1 HB.out)
      clear HO298
      clear HO304
      clear HO307
      clear HO310
      clear HO316
      clear HO320
      clear HO324
      clear BK294
      clear BK317
      clear HB
      have HO298 := n0_
      have HO304 := n1_
      have HO307 := n2_
      have HO310 := n3_
      have HO316 := n4_
      have HO320 := n5_
      have HO324 := n6_
      have BK294 := n7_
      have BK317 := n8_
      have HB := n9_
      clear n0_ n1_ n2_ n3_ n4_ n5_ n6_ n7_ n8_ n9_
      refine start_ (n := 5) (S := fun w' => w'.cell? ⟨gb317,0,none⟩ = some (.int .i64 t311) ∧ w'.cell? ⟨gb317,1,none⟩ = some (.int .i64 t312) ∧ w'.cell? ⟨gb317,2,none⟩ = some (.int .i64 t313) ∧ w'.cell? ⟨gb317,3,none⟩ = some (.slice Ao120 t314.length co120) ∧ w'.cell? ⟨gb294,0,none⟩ = some (.int .i64 a1_0) ∧ w'.cell? ⟨gb294,1,none⟩ = some (.int .i64 a1_1) ∧ w'.cell? ⟨gb294,2,none⟩ = some (.int .i64 a1_2) ∧ w'.cell? ⟨gb294,3,none⟩ = some (.slice A1_3 l1_3.length c1_3)) (ds := []) #[false,false,false,false,false] (by kernel_rfl) rfl rfl ⟨(blk_cell BK317.out 0).trans rfl,(blk_cell BK317.out 1).trans rfl,(blk_cell BK317.out 2).trans rfl,(blk_cell BK317.out 3).trans rfl,(blk_cell BK294.out 0).trans rfl,(blk_cell BK294.out 1).trans rfl,(blk_cell BK294.out 2).trans rfl,(blk_cell BK294.out 3).trans rfl⟩ (fun hHeld => ?_)
      generalize w125.drew = w127 at HO298 HO304 HO307 HO310 HO316 HO320 HO324 BK294 BK317 HB hHeld ⊢
      refine take_ (i := 0) (N := some 43) (v := ?_) (a' := ?_) #[true,false,false,false,false] rfl rfl (by kernel_rfl) (fun _ _ _ h => h) (Or.inl ⟨by rfl,?_⟩) hHeld ?_ ?_
      rotate_left
      ·rintro w' ⟨s0,s1,s2,s3,s4,s5,s6,s7⟩
       go_simp
       with_reducible rfl
      rotate_left
      ·simp only [Act.put,List.setIfInBounds_toArray,List.set_cons_zero,List.set_cons_succ,i64_w,i32_w]
       rfl
      refine take_ (i := 1) (N := some 44) (v := ?_) (a' := ?_) #[true,true,false,false,false] rfl rfl (by kernel_rfl) (fun _ _ _ h => h) (Or.inl ⟨by rfl,?_⟩) hHeld ?_ ?_
      rotate_left
      ·rintro w' ⟨s0,s1,s2,s3,s4,s5,s6,s7⟩
       go_simp
       with_reducible rfl
      rotate_left
      ·simp only [Act.put,List.setIfInBounds_toArray,List.set_cons_zero,List.set_cons_succ,i64_w,i32_w]
       rfl
      refine one_ (i := 2) (N := some 45) #[true,true,true,false,false] rfl rfl (by kernel_rfl) (by decide) (fun K hK => ?_)
      refine goes_ Try.func13 (by kernel_rfl) rfl #[.agg #[.int .i64 a1_0,.int .i64 a1_1,.int .i64 a1_2,.slice A1_3 l1_3.length c1_3]] (by rfl) rfl rfl eq_up ?_
      with_reducible refine (laws_toManifest.calls k a1_0 a1_1 a1_2 _ _ l1_3 t326 t327 t328 t329 _ ?side1 ?side2 A21.out).mono ?_
      (case side1 => repeat (first | exact (Kd.C_below HR1_3.out HB.out) | (with_reducible refine Kd.C_alloc ?_ _) | (with_reducible refine Kd.C_drewN ?_ _) | (with_reducible refine Kd.C_drew ?_)))
      (case side2 => exact HC1_3.out)
      rintro e w128 ⟨v330,rfl,ho0,hb⟩
      refine ⟨_,rfl,?_⟩
      have n0_ := Aside0.mk (Kd.R_below (Kd.R_up HO298.out) hb)
      have n1_ := Aside0.mk (Kd.R_elder' (Kd.R_up HO304.out) (Kd.R_base ho0) hb)
      have n2_ := Aside0.mk (Kd.R_below (Kd.R_up HO307.out) hb)
      have n3_ := Aside0.mk (Kd.R_below (Kd.R_up HO310.out) hb)
      have n4_ := Aside0.mk (Kd.R_elder' (Kd.R_up HO316.out) (Kd.R_base ho0) hb)
      have n5_ := Aside0.mk (Kd.R_below (Kd.R_up HO320.out) hb)
      have n6_ := Aside0.mk (Kd.R_below (Kd.R_up HO324.out) hb)
      have n7_ := Aside0.mk (Kd.R_lower (Kd.R_new' (Kd.R_new' ho0 (Kd.R_lt (Kd.R_up HO304.out))) (Kd.R_lt (Kd.R_up HO316.out))) (below_size (B_set HB.out)))
      have n8_ := Aside0.mk (blk_below (g := gb294) (o := .cells #[.int .i64 a1_0,.int .i64 a1_1,.int .i64 a1_2,.slice A1_3 l1_3.length c1_3] 25 (0,0)) (blk_up BK294.out) hb)
      have n9_ := Aside0.mk (blk_below (g := gb317) (o := .cells #[.int .i64 t311,.int .i64 t312,.int .i64 t313,.slice Ao120 t314.length co120] 31 (0,0)) (blk_up BK317.out) hb)
      have n10_ := Aside0.mk (below_step (B_set HB.out) hb)
      clear HO298
      clear HO304
      clear HO307
      clear HO310
      clear HO316
      clear HO320
      clear HO324
      clear BK294
      clear BK317
      clear HB
      have HO298 := n0_
      have HO304 := n1_
      have HO307 := n2_
      have HO310 := n3_
      have HO316 := n4_
      have HO320 := n5_
      have HO324 := n6_
      have HO331 := n7_
      have BK294 := n8_
      have BK317 := n9_
      have HB := n10_
      clear n0_ n1_ n2_ n3_ n4_ n5_ n6_ n7_ n8_ n9_ n10_
      (try clear hb)
      (try clear hb2)
      (try clear hk)
      (try clear hi)
      (try clear ho0)
      obtain ⟨Ao129,co129,eo129⟩ := Kd.R_slice HO331.out
      (first | subst eo129 | (injection eo129 with f1_ f2_ f3_;have f4_ := f1_.symm;have f5_ := f3_.symm;clear f1_ f2_ f3_;subst f4_;subst f5_))
      refine hK.out _ _ ⟨(blk_cell BK317.out 0).trans rfl,(blk_cell BK317.out 1).trans rfl,(blk_cell BK317.out 2).trans rfl,(blk_cell BK317.out 3).trans rfl,(blk_cell BK294.out 0).trans rfl,(blk_cell BK294.out 1).trans rfl,(blk_cell BK294.out 2).trans rfl,(blk_cell BK294.out 3).trans rfl⟩ (fun hHeld => ?_)
      clear hK K
      refine norm_ (a' := ?_) ?_ ?_
      rotate_left
      ·show Act.put _ (some 45) _ = _
       simp only [Act.put,List.setIfInBounds_toArray,List.set_cons_zero,List.set_cons_succ,i64_w,i32_w]
       rfl
      refine one_ (i := 3) (N := some 46) #[true,true,true,true,false] rfl rfl (by kernel_rfl) (by decide) (fun K hK => ?_)
      refine goes_ Try.func16 (by kernel_rfl) rfl #[.agg #[.int .i64 t311,.int .i64 t312,.int .i64 t313,.slice Ao120 t314.length co120],.agg #[.int .i64 t326,.int .i64 t327,.int .i64 t328,.slice Ao129 t329.length co129]] (by rfl) rfl rfl eq_up ?_
      with_reducible refine (laws_eqManifest.calls k t311 t312 t313 _ _ t314 t326 t327 t328 _ _ t329 false _ ?side1 ?side2 ?side3 ?side4 A22.out).mono ?_
      (case side1 => exact Kd.C_up (Kd.R_reads' HO316.out).2.2)
      (case side2 => exact (Kd.R_reads' HO316.out).2.1)
      (case side3 => exact Kd.C_up (Kd.R_reads' HO331.out).2.2)
      (case side4 => exact (Kd.R_reads' HO331.out).2.1)
      rintro e w130 ⟨rfl,hb⟩
      refine ⟨_,rfl,?_⟩
      have n0_ := Aside0.mk (Kd.R_below (Kd.R_up HO298.out) hb)
      have n1_ := Aside0.mk (Kd.R_below (Kd.R_up HO304.out) hb)
      have n2_ := Aside0.mk (Kd.R_below (Kd.R_up HO307.out) hb)
      have n3_ := Aside0.mk (Kd.R_below (Kd.R_up HO310.out) hb)
      have n4_ := Aside0.mk (Kd.R_below (Kd.R_up HO316.out) hb)
      have n5_ := Aside0.mk (Kd.R_below (Kd.R_up HO320.out) hb)
      have n6_ := Aside0.mk (Kd.R_below (Kd.R_up HO324.out) hb)
      have n7_ := Aside0.mk (Kd.R_below (Kd.R_up HO331.out) hb)
      have n8_ := Aside0.mk (blk_below (g := gb294) (o := .cells #[.int .i64 a1_0,.int .i64 a1_1,.int .i64 a1_2,.slice A1_3 l1_3.length c1_3] 25 (0,0)) (blk_up BK294.out) hb)
      have n9_ := Aside0.mk (blk_below (g := gb317) (o := .cells #[.int .i64 t311,.int .i64 t312,.int .i64 t313,.slice Ao120 t314.length co120] 31 (0,0)) (blk_up BK317.out) hb)
      have n10_ := Aside0.mk (below_step (B_set HB.out) hb)
      clear HO298
      clear HO304
      clear HO307
      clear HO310
      clear HO316
      clear HO320
      clear HO324
      clear HO331
      clear BK294
      clear BK317
      clear HB
      have HO298 := n0_
      have HO304 := n1_
      have HO307 := n2_
      have HO310 := n3_
      have HO316 := n4_
      have HO320 := n5_
      have HO324 := n6_
      have HO331 := n7_
      have BK294 := n8_
      have BK317 := n9_
      have HB := n10_
      clear n0_ n1_ n2_ n3_ n4_ n5_ n6_ n7_ n8_ n9_ n10_
      (try clear hb)
      (try clear hb2)
      (try clear hk)
      (try clear hi)
      refine hK.out _ _ ⟨(blk_cell BK317.out 0).trans rfl,(blk_cell BK317.out 1).trans rfl,(blk_cell BK317.out 2).trans rfl,(blk_cell BK317.out 3).trans rfl,(blk_cell BK294.out 0).trans rfl,(blk_cell BK294.out 1).trans rfl,(blk_cell BK294.out 2).trans rfl,(blk_cell BK294.out 3).trans rfl⟩ (fun hHeld => ?_)
      clear hK K
      refine norm_ (a' := ?_) ?_ ?_
      rotate_left
      ·show Act.put _ (some 46) _ = _
       simp only [Act.put,List.setIfInBounds_toArray,List.set_cons_zero,List.set_cons_succ,i64_w,i32_w]
       rfl
      refine pure_ (i := 4) (N := some 47) (v := ?_) (a' := ?_) #[true,true,true,true,true] rfl rfl (by kernel_rfl) (fun _ _ _ h => h) (Or.inl ⟨by rfl,?_⟩) ?_ ?_
      rotate_left
      ·intro w'
       go_simp
       with_reducible rfl
      rotate_left
      ·simp only [Act.put,List.setIfInBounds_toArray,List.set_cons_zero,List.set_cons_succ,i64_w,i32_w]
       rfl
      refine done_ (by kernel_rfl) ?_
      try go_wp2
      go_ret
      exact ⟨by first | rfl | (simp [errW_none,errW_some] <;> rfl) | (simp [*,errW_none,errW_some] <;> rfl),by repeat (first | (with_reducible first | exact HB.out | apply below_alloc | apply pw_below_drewN | apply below_drew1 | refine below_set ?_ GE294.out | refine below_set ?_ GE317.out) | exact HB.out)⟩
    ·replace c20 := Bool.eq_false_iff.mpr c20
     subst c20
     have H1 : (some false) = some r := by rw [if_neg (show ¬ (false = true) by decide)] at H;exact H
     clear H
     have H := H1
     clear H1
     obtain rfl := Option.some.inj H
     go_enter Try.func7,Try.ntmps7
     try go_wp2_with (first | ((with_reducible refine gate_dst (N := 3) rfl ?_);refine box_event ?hg (N := 3) ?hd (cs := #[.int .i64 a1_0,.int .i64 a1_1,.int .i64 a1_2,.slice A1_3 l1_3.length c1_3]) (t := 25) ?hr ?_;(case hd => rfl);(case hg => rfl);(case hr => first | (go_simp;done) | (go_simp;rfl));intro gb294 hg w131 hbox hb;have n0_ := Aside0.mk (below_step (B_up HB.out) hb);have n1_ := Aside0.mk (hbox);have n2_ := Aside0.mk ((by rw [hg];exact (below_size (B_up HB.out)) : w.heap.size ≤ gb294));have n3_ := Aside0.mk ((by rw [hg];exact (below_size (B_up HB.out)) : w.heap.size ≤ gb294));clear HB;have HB := n0_;have BK294 := n1_;have GW294 := n2_;have GE294 := n3_;clear n0_ n1_ n2_ n3_;clear hb hbox hg;have hcz132_0 : w131.cell? ⟨gb294,0,none⟩ = some (.int .i64 a1_0) := (blk_cell BK294.out 0).trans rfl;have hcz132_1 : w131.cell? ⟨gb294,1,none⟩ = some (.int .i64 a1_1) := (blk_cell BK294.out 1).trans rfl;have hcz132_2 : w131.cell? ⟨gb294,2,none⟩ = some (.int .i64 a1_2) := (blk_cell BK294.out 2).trans rfl;have hcz132_3 : w131.cell? ⟨gb294,3,none⟩ = some (.slice A1_3 l1_3.length c1_3) := (blk_cell BK294.out 3).trans rfl;have hfz132_0 := blk_frozen BK294.out 0;have hfz132_1 := blk_frozen BK294.out 1;have hfz132_2 := blk_frozen BK294.out 2;have hfz132_3 := blk_frozen BK294.out 3) | ((with_reducible refine gate_callee (f := 10) rfl ?_);refine goesL_ (some 19) rfl rfl Try.func10 (by kernel_rfl) rfl #[.agg #[.int .i64 a1_0,.int .i64 a1_1,.int .i64 a1_2,.slice A1_3 l1_3.length c1_3],.int .i64 1048576] rfl eq_up ?_;(with_reducible refine (laws_szManifest.calls a1_0 a1_1 a1_2 _ _ l1_3 1048576 t295 _ ?side1 ?side2 A5.out).mono ?_);(case side1 => repeat (first | exact (Kd.C_below HR1_3.out HB.out) | (with_reducible refine Kd.C_alloc ?_ _) | (with_reducible refine Kd.C_drewN ?_ _) | (with_reducible refine Kd.C_drew ?_)));(case side2 => exact HC1_3.out);rintro e w133 ⟨rfl,hb⟩;refine ⟨_,rfl,?_⟩;have n0_ := Aside0.mk (blk_below (g := gb294) (o := .cells #[.int .i64 a1_0,.int .i64 a1_1,.int .i64 a1_2,.slice A1_3 l1_3.length c1_3] 25 (0,0)) (blk_up BK294.out) hb);have n1_ := Aside0.mk (below_step (B_set HB.out) hb);clear BK294;clear HB;have BK294 := n0_;have HB := n1_;clear n0_ n1_;(try clear hb);(try clear hb2);(try clear hk);(try clear hi)))
     have n0_ := Aside0.mk (blk_drew BK294.out)
     have n1_ := Aside0.mk (below_drew1 HB.out)
     clear BK294
     clear HB
     have BK294 := n0_
     have HB := n1_
     clear n0_ n1_
     refine start_ (n := 6) (S := fun w' => w'.cell? ⟨gb294,0,none⟩ = some (.int .i64 a1_0) ∧ w'.cell? ⟨gb294,1,none⟩ = some (.int .i64 a1_1) ∧ w'.cell? ⟨gb294,2,none⟩ = some (.int .i64 a1_2) ∧ w'.cell? ⟨gb294,3,none⟩ = some (.slice A1_3 l1_3.length c1_3)) (ds := []) #[false,false,false,false,false,false] (by kernel_rfl) rfl rfl ⟨(blk_cell BK294.out 0).trans rfl,(blk_cell BK294.out 1).trans rfl,(blk_cell BK294.out 2).trans rfl,(blk_cell BK294.out 3).trans rfl⟩ (fun hHeld => ?_)
     generalize w133.drew = w134 at BK294 HB hHeld ⊢
     refine pure_ (i := 0) (N := some 22) (v := ?_) (a' := ?_) #[true,false,false,false,false,false] rfl rfl (by kernel_rfl) (fun _ _ _ h => h) (Or.inl ⟨by rfl,?_⟩) ?_ ?_
     rotate_left
     ·intro w'
      go_simp
      with_reducible rfl
     rotate_left
     ·simp only [Act.put,List.setIfInBounds_toArray,List.set_cons_zero,List.set_cons_succ,i64_w,i32_w]
      rfl
     refine take_ (i := 2) (N := some 24) (v := ?_) (a' := ?_) #[true,false,true,false,false,false] rfl rfl (by kernel_rfl) (fun _ _ _ h => h) (Or.inl ⟨by rfl,?_⟩) hHeld ?_ ?_
     rotate_left
     ·rintro w' ⟨s0,s1,s2,s3⟩
      go_simp
      with_reducible rfl
     rotate_left
     ·simp only [Act.put,List.setIfInBounds_toArray,List.set_cons_zero,List.set_cons_succ,i64_w,i32_w]
      rfl
     refine one_ (i := 1) (N := some 23) #[true,true,true,false,false,false] rfl rfl (by kernel_rfl) (by decide) (fun K hK => ?_)
     refine goes_ Try.func12 (by kernel_rfl) rfl #[.slice A0 l0.length c0] (by rfl) rfl rfl eq_up ?_
     with_reducible refine (laws_toByteS.calls k _ _ l0 t296 _ ?side1 ?side2 A10.out).mono ?_
     (case side1 => repeat (first | exact (Kd.C_below HR0.out HB.out) | (with_reducible refine Kd.C_alloc ?_ _) | (with_reducible refine Kd.C_drewN ?_ _) | (with_reducible refine Kd.C_drew ?_)))
     (case side2 => exact HC0.out)
     rintro e w135 ⟨v297,rfl,ho0,hb⟩
     refine ⟨_,rfl,?_⟩
     have n0_ := Aside0.mk (Kd.R_lower ho0 (below_size (B_set HB.out)))
     have n1_ := Aside0.mk (blk_below (g := gb294) (o := .cells #[.int .i64 a1_0,.int .i64 a1_1,.int .i64 a1_2,.slice A1_3 l1_3.length c1_3] 25 (0,0)) (blk_up BK294.out) hb)
     have n2_ := Aside0.mk (below_step (B_set HB.out) hb)
     clear BK294
     clear HB
     have HO298 := n0_
     have BK294 := n1_
     have HB := n2_
     clear n0_ n1_ n2_
     (try clear hb)
     (try clear hb2)
     (try clear hk)
     (try clear hi)
     (try clear ho0)
     refine hK.out _ _ ⟨(blk_cell BK294.out 0).trans rfl,(blk_cell BK294.out 1).trans rfl,(blk_cell BK294.out 2).trans rfl,(blk_cell BK294.out 3).trans rfl⟩ (fun hHeld => ?_)
     clear hK K
     refine norm_ (a' := ?_) ?_ ?_
     rotate_left
     ·show Act.put _ (some 23) _ = _
      simp only [Act.put,List.setIfInBounds_toArray,List.set_cons_zero,List.set_cons_succ,i64_w,i32_w]
      rfl
     refine one_ (i := 3) (N := some 25) #[true,true,true,true,false,false] rfl rfl (by kernel_rfl) (by decide) (fun K hK => ?_)
     refine goes_ Try.func13 (by kernel_rfl) rfl #[.agg #[.int .i64 a1_0,.int .i64 a1_1,.int .i64 a1_2,.slice A1_3 l1_3.length c1_3]] (by rfl) rfl rfl eq_up ?_
     with_reducible refine (laws_toManifest.calls k a1_0 a1_1 a1_2 _ _ l1_3 t299 t300 t301 t302 _ ?side1 ?side2 A11.out).mono ?_
     (case side1 => repeat (first | exact (Kd.C_below HR1_3.out HB.out) | (with_reducible refine Kd.C_alloc ?_ _) | (with_reducible refine Kd.C_drewN ?_ _) | (with_reducible refine Kd.C_drew ?_)))
     (case side2 => exact HC1_3.out)
     rintro e w136 ⟨v303,rfl,ho0,hb⟩
     refine ⟨_,rfl,?_⟩
     have n0_ := Aside0.mk (Kd.R_below (Kd.R_up HO298.out) hb)
     have n1_ := Aside0.mk (Kd.R_lower ho0 (below_size (B_set HB.out)))
     have n2_ := Aside0.mk (blk_below (g := gb294) (o := .cells #[.int .i64 a1_0,.int .i64 a1_1,.int .i64 a1_2,.slice A1_3 l1_3.length c1_3] 25 (0,0)) (blk_up BK294.out) hb)
     have n3_ := Aside0.mk (below_step (B_set HB.out) hb)
     clear HO298
     clear BK294
     clear HB
     have HO298 := n0_
     have HO304 := n1_
     have BK294 := n2_
     have HB := n3_
     clear n0_ n1_ n2_ n3_
     (try clear hb)
     (try clear hb2)
     (try clear hk)
     (try clear hi)
     (try clear ho0)
     obtain ⟨Ao137,co137,eo137⟩ := Kd.R_slice HO298.out
     (first | subst eo137 | (injection eo137 with f1_ f2_ f3_;have f4_ := f1_.symm;have f5_ := f3_.symm;clear f1_ f2_ f3_;subst f4_;subst f5_))
     obtain ⟨Ao138,co138,eo138⟩ := Kd.R_slice HO304.out
     (first | subst eo138 | (injection eo138 with f1_ f2_ f3_;have f4_ := f1_.symm;have f5_ := f3_.symm;clear f1_ f2_ f3_;subst f4_;subst f5_))
     refine hK.out _ _ ⟨(blk_cell BK294.out 0).trans rfl,(blk_cell BK294.out 1).trans rfl,(blk_cell BK294.out 2).trans rfl,(blk_cell BK294.out 3).trans rfl⟩ (fun hHeld => ?_)
     clear hK K
     refine norm_ (a' := ?_) ?_ ?_
     rotate_left
     ·show Act.put _ (some 25) _ = _
      simp only [Act.put,List.setIfInBounds_toArray,List.set_cons_zero,List.set_cons_succ,i64_w,i32_w]
      rfl
     refine one_ (i := 4) (N := some 26) #[true,true,true,true,true,false] rfl rfl (by kernel_rfl) (by decide) (fun K hK => ?_)
     refine goes_ Try.func28 (by kernel_rfl) rfl #[.slice Ao137 t296.length co137,.agg #[.int .i64 t299,.int .i64 t300,.int .i64 t301,.slice Ao138 t302.length co138]] (by rfl) rfl rfl eq_up ?_
     with_reducible refine (spec_PutMan.calls k _ _ t296 t299 t300 t301 _ _ t302 t305 _ ?side1 ?side2 ?side3 ?side4 A12.out).mono ?_
     (case side1 => exact Kd.C_up (Kd.R_reads' HO298.out).2.2)
     (case side2 => exact (Kd.R_reads' HO298.out).2.1)
     (case side3 => exact Kd.C_up (Kd.R_reads' HO304.out).2.2)
     (case side4 => exact (Kd.R_reads' HO304.out).2.1)
     rintro e w139 ⟨v306,rfl,ho0,hb⟩
     refine ⟨_,rfl,?_⟩
     have n0_ := Aside0.mk (Kd.R_elder' (Kd.R_up HO298.out) (Kd.R_base ho0) hb)
     have n1_ := Aside0.mk (Kd.R_below (Kd.R_up HO304.out) hb)
     have n2_ := Aside0.mk (Kd.R_lower (Kd.R_new' ho0 (Kd.R_lt (Kd.R_up HO298.out))) (below_size (B_set HB.out)))
     have n3_ := Aside0.mk (blk_below (g := gb294) (o := .cells #[.int .i64 a1_0,.int .i64 a1_1,.int .i64 a1_2,.slice A1_3 l1_3.length c1_3] 25 (0,0)) (blk_up BK294.out) hb)
     have n4_ := Aside0.mk (below_step (B_set HB.out) hb)
     clear HO298
     clear HO304
     clear BK294
     clear HB
     have HO298 := n0_
     have HO304 := n1_
     have HO307 := n2_
     have BK294 := n3_
     have HB := n4_
     clear n0_ n1_ n2_ n3_ n4_
     (try clear hb)
     (try clear hb2)
     (try clear hk)
     (try clear hi)
     (try clear ho0)
     refine hK.out _ _ ⟨(blk_cell BK294.out 0).trans rfl,(blk_cell BK294.out 1).trans rfl,(blk_cell BK294.out 2).trans rfl,(blk_cell BK294.out 3).trans rfl⟩ (fun hHeld => ?_)
     clear hK K
     refine norm_ (a' := ?_) ?_ ?_
     rotate_left
     ·show Act.put _ (some 26) _ = _
      simp only [Act.put,List.setIfInBounds_toArray,List.set_cons_zero,List.set_cons_succ,i64_w,i32_w]
      rfl
     refine pure_ (i := 5) (N := some 6) (v := ?_) (a' := ?_) #[true,true,true,true,true,true] rfl rfl (by kernel_rfl) (fun _ _ _ h => h) (Or.inl ⟨by rfl,?_⟩) ?_ ?_
     rotate_left
     ·intro w'
      go_simp
      with_reducible rfl
     rotate_left
     ·simp only [Act.put,List.setIfInBounds_toArray,List.set_cons_zero,List.set_cons_succ,i64_w,i32_w]
      rfl
     refine done_ (by kernel_rfl) ?_
     try go_wp2_with (first | ((with_reducible refine gate_callee (f := 12) rfl ?_);refine goesL_ (some 28) rfl rfl Try.func12 (by kernel_rfl) rfl #[.slice A0 l0.length c0] rfl eq_up ?_;(with_reducible refine (laws_toByteS.calls k _ _ l0 t308 _ ?side1 ?side2 A13.out).mono ?_);(case side1 => repeat (first | exact (Kd.C_below HR0.out HB.out) | (with_reducible refine Kd.C_alloc ?_ _) | (with_reducible refine Kd.C_drewN ?_ _) | (with_reducible refine Kd.C_drew ?_)));(case side2 => exact HC0.out);rintro e w140 ⟨v309,rfl,ho0,hb⟩;refine ⟨_,rfl,?_⟩;have n0_ := Aside0.mk (Kd.R_elder' (Kd.R_up HO298.out) (Kd.R_base ho0) hb);have n1_ := Aside0.mk (Kd.R_below (Kd.R_up HO304.out) hb);have n2_ := Aside0.mk (Kd.R_elder' (Kd.R_up HO307.out) (Kd.R_base ho0) hb);have n3_ := Aside0.mk (Kd.R_lower (Kd.R_new' (Kd.R_new' ho0 (Kd.R_lt (Kd.R_up HO298.out))) (Kd.R_lt (Kd.R_up HO307.out))) (below_size (B_set HB.out)));have n4_ := Aside0.mk (blk_below (g := gb294) (o := .cells #[.int .i64 a1_0,.int .i64 a1_1,.int .i64 a1_2,.slice A1_3 l1_3.length c1_3] 25 (0,0)) (blk_up BK294.out) hb);have n5_ := Aside0.mk (below_step (B_set HB.out) hb);clear HO298;clear HO304;clear HO307;clear BK294;clear HB;have HO298 := n0_;have HO304 := n1_;have HO307 := n2_;have HO310 := n3_;have BK294 := n4_;have HB := n5_;clear n0_ n1_ n2_ n3_ n4_ n5_;(try clear hb);(try clear hb2);(try clear hk);(try clear hi);(try clear ho0);have hcz141_0 : w140.cell? ⟨gb294,0,none⟩ = some (.int .i64 a1_0) := (blk_cell BK294.out 0).trans rfl;have hcz141_1 : w140.cell? ⟨gb294,1,none⟩ = some (.int .i64 a1_1) := (blk_cell BK294.out 1).trans rfl;have hcz141_2 : w140.cell? ⟨gb294,2,none⟩ = some (.int .i64 a1_2) := (blk_cell BK294.out 2).trans rfl;have hcz141_3 : w140.cell? ⟨gb294,3,none⟩ = some (.slice A1_3 l1_3.length c1_3) := (blk_cell BK294.out 3).trans rfl;have hfz141_0 := blk_frozen BK294.out 0;have hfz141_1 := blk_frozen BK294.out 1;have hfz141_2 := blk_frozen BK294.out 2;have hfz141_3 := blk_frozen BK294.out 3) | ((with_reducible refine gate_callee (f := 13) rfl ?_);refine goesL_ (some 30) rfl rfl Try.func13 (by kernel_rfl) rfl #[.agg #[.int .i64 a1_0,.int .i64 a1_1,.int .i64 a1_2,.slice A1_3 l1_3.length c1_3]] rfl eq_up ?_;(with_reducible refine (laws_toManifest.calls k a1_0 a1_1 a1_2 _ _ l1_3 t311 t312 t313 t314 _ ?side1 ?side2 A14.out).mono ?_);(case side1 => repeat (first | exact (Kd.C_below HR1_3.out HB.out) | (with_reducible refine Kd.C_alloc ?_ _) | (with_reducible refine Kd.C_drewN ?_ _) | (with_reducible refine Kd.C_drew ?_)));(case side2 => exact HC1_3.out);rintro e w142 ⟨v315,rfl,ho0,hb⟩;refine ⟨_,rfl,?_⟩;have n0_ := Aside0.mk (Kd.R_below (Kd.R_up HO298.out) hb);have n1_ := Aside0.mk (Kd.R_elder' (Kd.R_up HO304.out) (Kd.R_base ho0) hb);have n2_ := Aside0.mk (Kd.R_below (Kd.R_up HO307.out) hb);have n3_ := Aside0.mk (Kd.R_below (Kd.R_up HO310.out) hb);have n4_ := Aside0.mk (Kd.R_lower (Kd.R_new' ho0 (Kd.R_lt (Kd.R_up HO304.out))) (below_size (B_set HB.out)));have n5_ := Aside0.mk (blk_below (g := gb294) (o := .cells #[.int .i64 a1_0,.int .i64 a1_1,.int .i64 a1_2,.slice A1_3 l1_3.length c1_3] 25 (0,0)) (blk_up BK294.out) hb);have n6_ := Aside0.mk (below_step (B_set HB.out) hb);clear HO298;clear HO304;clear HO307;clear HO310;clear BK294;clear HB;have HO298 := n0_;have HO304 := n1_;have HO307 := n2_;have HO310 := n3_;have HO316 := n4_;have BK294 := n5_;have HB := n6_;clear n0_ n1_ n2_ n3_ n4_ n5_ n6_;(try clear hb);(try clear hb2);(try clear hk);(try clear hi);(try clear ho0)) | ((with_reducible refine gate_dst (N := 8) rfl ?_);refine box_event ?hg (N := 8) ?hd (cs := #[.int .i64 0,.int .i64 0,.int .i64 0,.slice none 0 0]) (t := 31) ?hr ?_;(case hd => rfl);(case hg => rfl);(case hr => first | (go_simp;done) | (go_simp;rfl));intro gb317 hg w143 hbox hb;have n0_ := Aside0.mk (Kd.R_below (Kd.R_up HO298.out) hb);have n1_ := Aside0.mk (Kd.R_below (Kd.R_up HO304.out) hb);have n2_ := Aside0.mk (Kd.R_below (Kd.R_up HO307.out) hb);have n3_ := Aside0.mk (Kd.R_below (Kd.R_up HO310.out) hb);have n4_ := Aside0.mk (Kd.R_below (Kd.R_up HO316.out) hb);have n5_ := Aside0.mk (blk_below (g := gb294) (o := .cells #[.int .i64 a1_0,.int .i64 a1_1,.int .i64 a1_2,.slice A1_3 l1_3.length c1_3] 25 (0,0)) (blk_up BK294.out) hb);have n6_ := Aside0.mk (below_step (B_set HB.out) hb);have n7_ := Aside0.mk (hbox);have n8_ := Aside0.mk ((by rw [hg];exact (below_size (B_set HB.out)) : w.heap.size ≤ gb317));have n9_ := Aside0.mk ((by rw [hg];exact (below_size (B_set HB.out)) : w.heap.size ≤ gb317));have n10_ := Aside0.mk ((by rw [hg];exact Nat.ne_of_lt (blk_lt (g := gb294) (o := .cells #[.int .i64 a1_0,.int .i64 a1_1,.int .i64 a1_2,.slice A1_3 l1_3.length c1_3] 25 (0,0)) (blk_up BK294.out)) : gb294 ≠ gb317));have n11_ := Aside0.mk ((by rw [hg];exact Nat.ne_of_gt (blk_lt (g := gb294) (o := .cells #[.int .i64 a1_0,.int .i64 a1_1,.int .i64 a1_2,.slice A1_3 l1_3.length c1_3] 25 (0,0)) (blk_up BK294.out)) : gb317 ≠ gb294));clear HO298;clear HO304;clear HO307;clear HO310;clear HO316;clear BK294;clear HB;have HO298 := n0_;have HO304 := n1_;have HO307 := n2_;have HO310 := n3_;have HO316 := n4_;have BK294 := n5_;have HB := n6_;have BK317 := n7_;have GW317 := n8_;have GE317 := n9_;have NB294_317 := n10_;have NB317_294 := n11_;clear n0_ n1_ n2_ n3_ n4_ n5_ n6_ n7_ n8_ n9_ n10_ n11_;clear hb hbox hg;have hnb144 := NB317_294.out;have hnc144 := NB294_317.out;have hcz145_0 : w143.cell? ⟨gb317,0,none⟩ = some (.int .i64 0) := (blk_cell BK317.out 0).trans rfl;have hcz145_1 : w143.cell? ⟨gb317,1,none⟩ = some (.int .i64 0) := (blk_cell BK317.out 1).trans rfl;have hcz145_2 : w143.cell? ⟨gb317,2,none⟩ = some (.int .i64 0) := (blk_cell BK317.out 2).trans rfl;have hcz145_3 : w143.cell? ⟨gb317,3,none⟩ = some (.slice none 0 0) := (blk_cell BK317.out 3).trans rfl;have hfz145_0 := blk_frozen BK317.out 0;have hfz145_1 := blk_frozen BK317.out 1;have hfz145_2 := blk_frozen BK317.out 2;have hfz145_3 := blk_frozen BK317.out 3;obtain ⟨Ao146,co146,eo146⟩ := Kd.R_slice HO316.out;subst eo146;obtain ⟨Ao147,co147,eo147⟩ := Kd.R_slice HO310.out;subst eo147) | ((with_reducible refine gate_callee (f := 29) rfl ?_);refine goesL_ (some 33) rfl rfl Try.func29 (by kernel_rfl) rfl #[.slice Ao147 t308.length co147,.agg #[.int .i64 t311,.int .i64 t312,.int .i64 t313,.slice Ao146 t314.length co146]] rfl eq_up ?_;(with_reducible refine (impl_PutMan.calls k _ _ t308 t311 t312 t313 _ _ t314 t318 _ ?side1 ?side2 ?side3 ?side4 A15.out).mono ?_);(case side1 => refine (Kd.R_reads' (e := 5) (base := w.heap.size) (ok := fun k_ => ((True ∧ some k_ ≠ (.slice Ao137 t296.length co137 : Value).ownBlock) ∧ some k_ ≠ (v306 : Value).ownBlock)) (n := t308.length) (c := co147) ?_).2.2;exact (by (with_reducible repeat (first | apply Kd.R_alloc | apply Kd.R_drewN | apply Kd.R_drew));exact (Kd.R_mono (Kd.R_far (p := ⟨gb317,3,none⟩) (Kd.R_far (p := ⟨gb317,2,none⟩) (Kd.R_far (p := ⟨gb317,1,none⟩) (Kd.R_far (p := ⟨gb317,0,none⟩) (Kd.R_types HO310.out BK317.out (by decide)) (fun _ hk => hk.2) (.int .i64 t311)) (fun _ hk => hk.2) (.int .i64 t312)) (fun _ hk => hk.2) (.int .i64 t313)) (fun _ hk => hk.2) (.slice Ao146 t314.length co146)) (fun _ h_ => h_.1))));(case side2 => exact (Kd.R_reads' HO310.out).2.1);(case side3 => refine (Kd.R_reads' (e := 66) (base := w.heap.size) (ok := fun k_ => (True ∧ some k_ ≠ (.slice Ao138 t302.length co138 : Value).ownBlock)) (n := t314.length) (c := co146) ?_).2.2;exact (by (with_reducible repeat (first | apply Kd.R_alloc | apply Kd.R_drewN | apply Kd.R_drew));exact (Kd.R_mono (Kd.R_far (p := ⟨gb317,3,none⟩) (Kd.R_far (p := ⟨gb317,2,none⟩) (Kd.R_far (p := ⟨gb317,1,none⟩) (Kd.R_far (p := ⟨gb317,0,none⟩) (Kd.R_types HO316.out BK317.out (by decide)) (fun _ hk => hk.2) (.int .i64 t311)) (fun _ hk => hk.2) (.int .i64 t312)) (fun _ hk => hk.2) (.int .i64 t313)) (fun _ hk => hk.2) (.slice Ao146 t314.length co146)) (fun _ h_ => h_.1))));(case side4 => exact (Kd.R_reads' HO316.out).2.1);rintro e w148 ⟨v319,rfl,ho0,hb⟩;refine ⟨_,rfl,?_⟩;have n0_ := Aside0.mk (Kd.R_elder' (by (with_reducible repeat (first | apply Kd.R_alloc | apply Kd.R_drewN | apply Kd.R_drew));exact (Kd.R_mono (Kd.R_far (p := ⟨gb317,3,none⟩) (Kd.R_far (p := ⟨gb317,2,none⟩) (Kd.R_far (p := ⟨gb317,1,none⟩) (Kd.R_far (p := ⟨gb317,0,none⟩) (Kd.R_types HO298.out BK317.out (by decide)) (fun _ hk => hk.2) (.int .i64 t311)) (fun _ hk => hk.2) (.int .i64 t312)) (fun _ hk => hk.2) (.int .i64 t313)) (fun _ hk => hk.2) (.slice Ao146 t314.length co146)) (fun _ h_ => h_.1))) (Kd.R_base ho0) hb);have n1_ := Aside0.mk (Kd.R_below (by (with_reducible repeat (first | apply Kd.R_alloc | apply Kd.R_drewN | apply Kd.R_drew));exact (Kd.R_mono (Kd.R_far (p := ⟨gb317,3,none⟩) (Kd.R_far (p := ⟨gb317,2,none⟩) (Kd.R_far (p := ⟨gb317,1,none⟩) (Kd.R_far (p := ⟨gb317,0,none⟩) (Kd.R_types HO304.out BK317.out (by decide)) (fun _ hk => hk.2) (.int .i64 t311)) (fun _ hk => hk.2) (.int .i64 t312)) (fun _ hk => hk.2) (.int .i64 t313)) (fun _ hk => hk.2) (.slice Ao146 t314.length co146)) (fun _ h_ => h_.1))) hb);have n2_ := Aside0.mk (Kd.R_elder' (by (with_reducible repeat (first | apply Kd.R_alloc | apply Kd.R_drewN | apply Kd.R_drew));exact (Kd.R_mono (Kd.R_far (p := ⟨gb317,3,none⟩) (Kd.R_far (p := ⟨gb317,2,none⟩) (Kd.R_far (p := ⟨gb317,1,none⟩) (Kd.R_far (p := ⟨gb317,0,none⟩) (Kd.R_types HO307.out BK317.out (by decide)) (fun _ hk => hk.2) (.int .i64 t311)) (fun _ hk => hk.2) (.int .i64 t312)) (fun _ hk => hk.2) (.int .i64 t313)) (fun _ hk => hk.2) (.slice Ao146 t314.length co146)) (fun _ h_ => h_.1))) (Kd.R_base ho0) hb);have n3_ := Aside0.mk (Kd.R_elder' (by (with_reducible repeat (first | apply Kd.R_alloc | apply Kd.R_drewN | apply Kd.R_drew));exact (Kd.R_mono (Kd.R_far (p := ⟨gb317,3,none⟩) (Kd.R_far (p := ⟨gb317,2,none⟩) (Kd.R_far (p := ⟨gb317,1,none⟩) (Kd.R_far (p := ⟨gb317,0,none⟩) (Kd.R_types HO310.out BK317.out (by decide)) (fun _ hk => hk.2) (.int .i64 t311)) (fun _ hk => hk.2) (.int .i64 t312)) (fun _ hk => hk.2) (.int .i64 t313)) (fun _ hk => hk.2) (.slice Ao146 t314.length co146)) (fun _ h_ => h_.1))) (Kd.R_base ho0) hb);have n4_ := Aside0.mk (Kd.R_below (by (with_reducible repeat (first | apply Kd.R_alloc | apply Kd.R_drewN | apply Kd.R_drew));exact (Kd.R_mono (Kd.R_far (p := ⟨gb317,3,none⟩) (Kd.R_far (p := ⟨gb317,2,none⟩) (Kd.R_far (p := ⟨gb317,1,none⟩) (Kd.R_far (p := ⟨gb317,0,none⟩) (Kd.R_types HO316.out BK317.out (by decide)) (fun _ hk => hk.2) (.int .i64 t311)) (fun _ hk => hk.2) (.int .i64 t312)) (fun _ hk => hk.2) (.int .i64 t313)) (fun _ hk => hk.2) (.slice Ao146 t314.length co146)) (fun _ h_ => h_.1))) hb);have n5_ := Aside0.mk (Kd.R_lower (Kd.R_new' (Kd.R_new' (Kd.R_new' ho0 (Kd.R_lt (by (with_reducible repeat (first | apply Kd.R_alloc | apply Kd.R_drewN | apply Kd.R_drew));exact (Kd.R_mono (Kd.R_far (p := ⟨gb317,3,none⟩) (Kd.R_far (p := ⟨gb317,2,none⟩) (Kd.R_far (p := ⟨gb317,1,none⟩) (Kd.R_far (p := ⟨gb317,0,none⟩) (Kd.R_types HO298.out BK317.out (by decide)) (fun _ hk => hk.2) (.int .i64 t311)) (fun _ hk => hk.2) (.int .i64 t312)) (fun _ hk => hk.2) (.int .i64 t313)) (fun _ hk => hk.2) (.slice Ao146 t314.length co146)) (fun _ h_ => h_.1))))) (Kd.R_lt (by (with_reducible repeat (first | apply Kd.R_alloc | apply Kd.R_drewN | apply Kd.R_drew));exact (Kd.R_mono (Kd.R_far (p := ⟨gb317,3,none⟩) (Kd.R_far (p := ⟨gb317,2,none⟩) (Kd.R_far (p := ⟨gb317,1,none⟩) (Kd.R_far (p := ⟨gb317,0,none⟩) (Kd.R_types HO307.out BK317.out (by decide)) (fun _ hk => hk.2) (.int .i64 t311)) (fun _ hk => hk.2) (.int .i64 t312)) (fun _ hk => hk.2) (.int .i64 t313)) (fun _ hk => hk.2) (.slice Ao146 t314.length co146)) (fun _ h_ => h_.1))))) (Kd.R_lt (by (with_reducible repeat (first | apply Kd.R_alloc | apply Kd.R_drewN | apply Kd.R_drew));exact (Kd.R_mono (Kd.R_far (p := ⟨gb317,3,none⟩) (Kd.R_far (p := ⟨gb317,2,none⟩) (Kd.R_far (p := ⟨gb317,1,none⟩) (Kd.R_far (p := ⟨gb317,0,none⟩) (Kd.R_types HO310.out BK317.out (by decide)) (fun _ hk => hk.2) (.int .i64 t311)) (fun _ hk => hk.2) (.int .i64 t312)) (fun _ hk => hk.2) (.int .i64 t313)) (fun _ hk => hk.2) (.slice Ao146 t314.length co146)) (fun _ h_ => h_.1))))) (below_size (B_set HB.out)));have n6_ := Aside0.mk (blk_below (g := gb294) (o := .cells #[.int .i64 a1_0,.int .i64 a1_1,.int .i64 a1_2,.slice A1_3 l1_3.length c1_3] 25 (0,0)) (by (with_reducible repeat (first | refine blk_drewN ?_ _ | refine blk_drew ?_ | refine blk_alloc ?_ _));refine blk_far ?_ NB294_317.out _;(with_reducible repeat (first | refine blk_drewN ?_ _ | refine blk_drew ?_ | refine blk_alloc ?_ _));refine blk_far ?_ NB294_317.out _;(with_reducible repeat (first | refine blk_drewN ?_ _ | refine blk_drew ?_ | refine blk_alloc ?_ _));refine blk_far ?_ NB294_317.out _;(with_reducible repeat (first | refine blk_drewN ?_ _ | refine blk_drew ?_ | refine blk_alloc ?_ _));refine blk_far ?_ NB294_317.out _;(with_reducible repeat (first | refine blk_drewN ?_ _ | refine blk_drew ?_ | refine blk_alloc ?_ _));exact BK294.out) hb);have n7_ := Aside0.mk (blk_below (g := gb317) (o := .cells #[.int .i64 t311,.int .i64 t312,.int .i64 t313,.slice Ao146 t314.length co146] 31 (0,0)) (by (with_reducible repeat (first | refine blk_drewN ?_ _ | refine blk_drew ?_ | refine blk_alloc ?_ _));refine blk_put (cs := #[.int .i64 t311,.int .i64 t312,.int .i64 t313,.slice none 0 0]) ?_ 3 _ rfl;(with_reducible repeat (first | refine blk_drewN ?_ _ | refine blk_drew ?_ | refine blk_alloc ?_ _));refine blk_put (cs := #[.int .i64 t311,.int .i64 t312,.int .i64 0,.slice none 0 0]) ?_ 2 _ rfl;(with_reducible repeat (first | refine blk_drewN ?_ _ | refine blk_drew ?_ | refine blk_alloc ?_ _));refine blk_put (cs := #[.int .i64 t311,.int .i64 0,.int .i64 0,.slice none 0 0]) ?_ 1 _ rfl;(with_reducible repeat (first | refine blk_drewN ?_ _ | refine blk_drew ?_ | refine blk_alloc ?_ _));refine blk_put (cs := #[.int .i64 0,.int .i64 0,.int .i64 0,.slice none 0 0]) ?_ 0 _ rfl;(with_reducible repeat (first | refine blk_drewN ?_ _ | refine blk_drew ?_ | refine blk_alloc ?_ _));exact BK317.out) hb);have n8_ := Aside0.mk (below_step (B_set HB.out) hb);clear HO298;clear HO304;clear HO307;clear HO310;clear HO316;clear BK294;clear BK317;clear HB;have HO298 := n0_;have HO304 := n1_;have HO307 := n2_;have HO310 := n3_;have HO316 := n4_;have HO320 := n5_;have BK294 := n6_;have BK317 := n7_;have HB := n8_;clear n0_ n1_ n2_ n3_ n4_ n5_ n6_ n7_ n8_;(try clear hb);(try clear hb2);(try clear hk);(try clear hi);(try clear ho0);obtain ⟨Ao149,co149,eo149⟩ := Kd.R_slice HO320.out;subst eo149;obtain ⟨Ao150,co150,eo150⟩ := Kd.R_slice HO307.out;subst eo150) | ((with_reducible refine gate_callee (f := 15) rfl ?_);refine goesL_ (some 36) rfl rfl Try.func15 (by kernel_rfl) rfl #[.slice Ao149 t318.length co149,.slice Ao150 t305.length co150] rfl eq_up ?_;(with_reducible refine (laws_eqByteS.calls k _ _ t318 _ _ t305 true _ ?side1 ?side2 ?side3 ?side4 A16.out).mono ?_);(case side1 => exact Kd.C_up (Kd.R_reads' HO320.out).2.2);(case side2 => exact (Kd.R_reads' HO320.out).2.1);(case side3 => exact Kd.C_up (Kd.R_reads' HO307.out).2.2);(case side4 => exact (Kd.R_reads' HO307.out).2.1);rintro e w' ⟨rfl,⟨nd,rfl⟩⟩;refine ⟨_,rfl,?_⟩) | ((with_reducible refine gate_callee (f := 12) rfl ?_);refine goesL_ (some 40) rfl rfl Try.func12 (by kernel_rfl) rfl #[.slice A0 l0.length c0] rfl eq_up ?_;(with_reducible refine (laws_toByteS.calls k _ _ l0 t322 _ ?side1 ?side2 A18.out).mono ?_);(case side1 => repeat (first | exact (Kd.C_below HR0.out (B_set HB.out)) | (with_reducible refine Kd.C_alloc ?_ _) | (with_reducible refine Kd.C_drewN ?_ _) | (with_reducible refine Kd.C_drew ?_)));(case side2 => exact HC0.out);rintro e w151 ⟨v323,rfl,ho0,hb⟩;refine ⟨_,rfl,?_⟩;have n0_ := Aside0.mk (Kd.R_elder' (Kd.R_up HO298.out) (Kd.R_base ho0) hb);have n1_ := Aside0.mk (Kd.R_below (Kd.R_up HO304.out) hb);have n2_ := Aside0.mk (Kd.R_elder' (Kd.R_up HO307.out) (Kd.R_base ho0) hb);have n3_ := Aside0.mk (Kd.R_elder' (Kd.R_up HO310.out) (Kd.R_base ho0) hb);have n4_ := Aside0.mk (Kd.R_below (Kd.R_up HO316.out) hb);have n5_ := Aside0.mk (Kd.R_elder' (Kd.R_up HO320.out) (Kd.R_base ho0) hb);have n6_ := Aside0.mk (Kd.R_lower (Kd.R_new' (Kd.R_new' (Kd.R_new' (Kd.R_new' ho0 (Kd.R_lt (Kd.R_up HO298.out))) (Kd.R_lt (Kd.R_up HO307.out))) (Kd.R_lt (Kd.R_up HO310.out))) (Kd.R_lt (Kd.R_up HO320.out))) (below_size (B_set HB.out)));have n7_ := Aside0.mk (blk_below (g := gb294) (o := .cells #[.int .i64 a1_0,.int .i64 a1_1,.int .i64 a1_2,.slice A1_3 l1_3.length c1_3] 25 (0,0)) (blk_up BK294.out) hb);have n8_ := Aside0.mk (blk_below (g := gb317) (o := .cells #[.int .i64 t311,.int .i64 t312,.int .i64 t313,.slice Ao146 t314.length co146] 31 (0,0)) (blk_up BK317.out) hb);have n9_ := Aside0.mk (below_step (B_set HB.out) hb);clear HO298;clear HO304;clear HO307;clear HO310;clear HO316;clear HO320;clear BK294;clear BK317;clear HB;have HO298 := n0_;have HO304 := n1_;have HO307 := n2_;have HO310 := n3_;have HO316 := n4_;have HO320 := n5_;have HO324 := n6_;have BK294 := n7_;have BK317 := n8_;have HB := n9_;clear n0_ n1_ n2_ n3_ n4_ n5_ n6_ n7_ n8_ n9_;(try clear hb);(try clear hb2);(try clear hk);(try clear hi);(try clear ho0);obtain ⟨Ao152,co152,eo152⟩ := Kd.R_slice HO324.out;subst eo152) | ((with_reducible refine gate_callee (f := 15) rfl ?_);refine goesL_ (some 41) rfl rfl Try.func15 (by kernel_rfl) rfl #[.slice Ao147 t308.length co147,.slice Ao152 t322.length co152] rfl eq_up ?_;(with_reducible refine (laws_eqByteS.calls k _ _ t308 _ _ t322 false _ ?side1 ?side2 ?side3 ?side4 A19.out).mono ?_);(case side1 => exact Kd.C_up (Kd.R_reads' HO310.out).2.2);(case side2 => exact (Kd.R_reads' HO310.out).2.1);(case side3 => exact Kd.C_up (Kd.R_reads' HO324.out).2.2);(case side4 => exact (Kd.R_reads' HO324.out).2.1);rintro e w' ⟨rfl,⟨nd,rfl⟩⟩;refine ⟨_,rfl,?_⟩))
     go_ret
     exact ⟨by first | rfl | (simp [errW_none,errW_some] <;> rfl) | (simp [*,errW_none,errW_some] <;> rfl),by repeat (first | (with_reducible first | exact HB.out | apply below_alloc | apply pw_below_drewN | apply below_drew1 | refine below_set ?_ GE294.out | refine below_set ?_ GE317.out) | exact HB.out)⟩
   ·replace c17 := Bool.eq_false_iff.mpr c17
    subst c17
    have H1 : (some false) = some r := by rw [if_neg (show ¬ (false = true) by decide)] at H;exact H
    clear H
    have H := H1
    clear H1
    obtain rfl := Option.some.inj H
    go_enter Try.func7,Try.ntmps7
    try go_wp2_with (first | ((with_reducible refine gate_dst (N := 3) rfl ?_);refine box_event ?hg (N := 3) ?hd (cs := #[.int .i64 a1_0,.int .i64 a1_1,.int .i64 a1_2,.slice A1_3 l1_3.length c1_3]) (t := 25) ?hr ?_;(case hd => rfl);(case hg => rfl);(case hr => first | (go_simp;done) | (go_simp;rfl));intro gb294 hg w153 hbox hb;have n0_ := Aside0.mk (below_step (B_up HB.out) hb);have n1_ := Aside0.mk (hbox);have n2_ := Aside0.mk ((by rw [hg];exact (below_size (B_up HB.out)) : w.heap.size ≤ gb294));have n3_ := Aside0.mk ((by rw [hg];exact (below_size (B_up HB.out)) : w.heap.size ≤ gb294));clear HB;have HB := n0_;have BK294 := n1_;have GW294 := n2_;have GE294 := n3_;clear n0_ n1_ n2_ n3_;clear hb hbox hg;have hcz154_0 : w153.cell? ⟨gb294,0,none⟩ = some (.int .i64 a1_0) := (blk_cell BK294.out 0).trans rfl;have hcz154_1 : w153.cell? ⟨gb294,1,none⟩ = some (.int .i64 a1_1) := (blk_cell BK294.out 1).trans rfl;have hcz154_2 : w153.cell? ⟨gb294,2,none⟩ = some (.int .i64 a1_2) := (blk_cell BK294.out 2).trans rfl;have hcz154_3 : w153.cell? ⟨gb294,3,none⟩ = some (.slice A1_3 l1_3.length c1_3) := (blk_cell BK294.out 3).trans rfl;have hfz154_0 := blk_frozen BK294.out 0;have hfz154_1 := blk_frozen BK294.out 1;have hfz154_2 := blk_frozen BK294.out 2;have hfz154_3 := blk_frozen BK294.out 3) | ((with_reducible refine gate_callee (f := 10) rfl ?_);refine goesL_ (some 19) rfl rfl Try.func10 (by kernel_rfl) rfl #[.agg #[.int .i64 a1_0,.int .i64 a1_1,.int .i64 a1_2,.slice A1_3 l1_3.length c1_3],.int .i64 1048576] rfl eq_up ?_;(with_reducible refine (laws_szManifest.calls a1_0 a1_1 a1_2 _ _ l1_3 1048576 t295 _ ?side1 ?side2 A5.out).mono ?_);(case side1 => repeat (first | exact (Kd.C_below HR1_3.out HB.out) | (with_reducible refine Kd.C_alloc ?_ _) | (with_reducible refine Kd.C_drewN ?_ _) | (with_reducible refine Kd.C_drew ?_)));(case side2 => exact HC1_3.out);rintro e w155 ⟨rfl,hb⟩;refine ⟨_,rfl,?_⟩;have n0_ := Aside0.mk (blk_below (g := gb294) (o := .cells #[.int .i64 a1_0,.int .i64 a1_1,.int .i64 a1_2,.slice A1_3 l1_3.length c1_3] 25 (0,0)) (blk_up BK294.out) hb);have n1_ := Aside0.mk (below_step (B_set HB.out) hb);clear BK294;clear HB;have BK294 := n0_;have HB := n1_;clear n0_ n1_;(try clear hb);(try clear hb2);(try clear hk);(try clear hi)))
    have n0_ := Aside0.mk (blk_drew BK294.out)
    have n1_ := Aside0.mk (below_drew1 HB.out)
    clear BK294
    clear HB
    have BK294 := n0_
    have HB := n1_
    clear n0_ n1_
    refine start_ (n := 6) (S := fun w' => w'.cell? ⟨gb294,0,none⟩ = some (.int .i64 a1_0) ∧ w'.cell? ⟨gb294,1,none⟩ = some (.int .i64 a1_1) ∧ w'.cell? ⟨gb294,2,none⟩ = some (.int .i64 a1_2) ∧ w'.cell? ⟨gb294,3,none⟩ = some (.slice A1_3 l1_3.length c1_3)) (ds := []) #[false,false,false,false,false,false] (by kernel_rfl) rfl rfl ⟨(blk_cell BK294.out 0).trans rfl,(blk_cell BK294.out 1).trans rfl,(blk_cell BK294.out 2).trans rfl,(blk_cell BK294.out 3).trans rfl⟩ (fun hHeld => ?_)
    generalize w155.drew = w156 at BK294 HB hHeld ⊢
    refine pure_ (i := 0) (N := some 22) (v := ?_) (a' := ?_) #[true,false,false,false,false,false] rfl rfl (by kernel_rfl) (fun _ _ _ h => h) (Or.inl ⟨by rfl,?_⟩) ?_ ?_
    rotate_left
    ·intro w'
     go_simp
     with_reducible rfl
    rotate_left
    ·simp only [Act.put,List.setIfInBounds_toArray,List.set_cons_zero,List.set_cons_succ,i64_w,i32_w]
     rfl
    refine take_ (i := 2) (N := some 24) (v := ?_) (a' := ?_) #[true,false,true,false,false,false] rfl rfl (by kernel_rfl) (fun _ _ _ h => h) (Or.inl ⟨by rfl,?_⟩) hHeld ?_ ?_
    rotate_left
    ·rintro w' ⟨s0,s1,s2,s3⟩
     go_simp
     with_reducible rfl
    rotate_left
    ·simp only [Act.put,List.setIfInBounds_toArray,List.set_cons_zero,List.set_cons_succ,i64_w,i32_w]
     rfl
    refine one_ (i := 1) (N := some 23) #[true,true,true,false,false,false] rfl rfl (by kernel_rfl) (by decide) (fun K hK => ?_)
    refine goes_ Try.func12 (by kernel_rfl) rfl #[.slice A0 l0.length c0] (by rfl) rfl rfl eq_up ?_
    with_reducible refine (laws_toByteS.calls k _ _ l0 t296 _ ?side1 ?side2 A10.out).mono ?_
    (case side1 => repeat (first | exact (Kd.C_below HR0.out HB.out) | (with_reducible refine Kd.C_alloc ?_ _) | (with_reducible refine Kd.C_drewN ?_ _) | (with_reducible refine Kd.C_drew ?_)))
    (case side2 => exact HC0.out)
    rintro e w157 ⟨v297,rfl,ho0,hb⟩
    refine ⟨_,rfl,?_⟩
    have n0_ := Aside0.mk (Kd.R_lower ho0 (below_size (B_set HB.out)))
    have n1_ := Aside0.mk (blk_below (g := gb294) (o := .cells #[.int .i64 a1_0,.int .i64 a1_1,.int .i64 a1_2,.slice A1_3 l1_3.length c1_3] 25 (0,0)) (blk_up BK294.out) hb)
    have n2_ := Aside0.mk (below_step (B_set HB.out) hb)
    clear BK294
    clear HB
    have HO298 := n0_
    have BK294 := n1_
    have HB := n2_
    clear n0_ n1_ n2_
    (try clear hb)
    (try clear hb2)
    (try clear hk)
    (try clear hi)
    (try clear ho0)
    refine hK.out _ _ ⟨(blk_cell BK294.out 0).trans rfl,(blk_cell BK294.out 1).trans rfl,(blk_cell BK294.out 2).trans rfl,(blk_cell BK294.out 3).trans rfl⟩ (fun hHeld => ?_)
    clear hK K
    refine norm_ (a' := ?_) ?_ ?_
    rotate_left
    ·show Act.put _ (some 23) _ = _
     simp only [Act.put,List.setIfInBounds_toArray,List.set_cons_zero,List.set_cons_succ,i64_w,i32_w]
     rfl
    refine one_ (i := 3) (N := some 25) #[true,true,true,true,false,false] rfl rfl (by kernel_rfl) (by decide) (fun K hK => ?_)
    refine goes_ Try.func13 (by kernel_rfl) rfl #[.agg #[.int .i64 a1_0,.int .i64 a1_1,.int .i64 a1_2,.slice A1_3 l1_3.length c1_3]] (by rfl) rfl rfl eq_up ?_
    with_reducible refine (laws_toManifest.calls k a1_0 a1_1 a1_2 _ _ l1_3 t299 t300 t301 t302 _ ?side1 ?side2 A11.out).mono ?_
    (case side1 => repeat (first | exact (Kd.C_below HR1_3.out HB.out) | (with_reducible refine Kd.C_alloc ?_ _) | (with_reducible refine Kd.C_drewN ?_ _) | (with_reducible refine Kd.C_drew ?_)))
    (case side2 => exact HC1_3.out)
    rintro e w158 ⟨v303,rfl,ho0,hb⟩
    refine ⟨_,rfl,?_⟩
    have n0_ := Aside0.mk (Kd.R_below (Kd.R_up HO298.out) hb)
    have n1_ := Aside0.mk (Kd.R_lower ho0 (below_size (B_set HB.out)))
    have n2_ := Aside0.mk (blk_below (g := gb294) (o := .cells #[.int .i64 a1_0,.int .i64 a1_1,.int .i64 a1_2,.slice A1_3 l1_3.length c1_3] 25 (0,0)) (blk_up BK294.out) hb)
    have n3_ := Aside0.mk (below_step (B_set HB.out) hb)
    clear HO298
    clear BK294
    clear HB
    have HO298 := n0_
    have HO304 := n1_
    have BK294 := n2_
    have HB := n3_
    clear n0_ n1_ n2_ n3_
    (try clear hb)
    (try clear hb2)
    (try clear hk)
    (try clear hi)
    (try clear ho0)
    obtain ⟨Ao159,co159,eo159⟩ := Kd.R_slice HO298.out
    (first | subst eo159 | (injection eo159 with f1_ f2_ f3_;have f4_ := f1_.symm;have f5_ := f3_.symm;clear f1_ f2_ f3_;subst f4_;subst f5_))
    obtain ⟨Ao160,co160,eo160⟩ := Kd.R_slice HO304.out
    (first | subst eo160 | (injection eo160 with f1_ f2_ f3_;have f4_ := f1_.symm;have f5_ := f3_.symm;clear f1_ f2_ f3_;subst f4_;subst f5_))
    refine hK.out _ _ ⟨(blk_cell BK294.out 0).trans rfl,(blk_cell BK294.out 1).trans rfl,(blk_cell BK294.out 2).trans rfl,(blk_cell BK294.out 3).trans rfl⟩ (fun hHeld => ?_)
    clear hK K
    refine norm_ (a' := ?_) ?_ ?_
    rotate_left
    ·show Act.put _ (some 25) _ = _
     simp only [Act.put,List.setIfInBounds_toArray,List.set_cons_zero,List.set_cons_succ,i64_w,i32_w]
     rfl
    refine one_ (i := 4) (N := some 26) #[true,true,true,true,true,false] rfl rfl (by kernel_rfl) (by decide) (fun K hK => ?_)
    refine goes_ Try.func28 (by kernel_rfl) rfl #[.slice Ao159 t296.length co159,.agg #[.int .i64 t299,.int .i64 t300,.int .i64 t301,.slice Ao160 t302.length co160]] (by rfl) rfl rfl eq_up ?_
    with_reducible refine (spec_PutMan.calls k _ _ t296 t299 t300 t301 _ _ t302 t305 _ ?side1 ?side2 ?side3 ?side4 A12.out).mono ?_
    (case side1 => exact Kd.C_up (Kd.R_reads' HO298.out).2.2)
    (case side2 => exact (Kd.R_reads' HO298.out).2.1)
    (case side3 => exact Kd.C_up (Kd.R_reads' HO304.out).2.2)
    (case side4 => exact (Kd.R_reads' HO304.out).2.1)
    rintro e w161 ⟨v306,rfl,ho0,hb⟩
    refine ⟨_,rfl,?_⟩
    have n0_ := Aside0.mk (Kd.R_elder' (Kd.R_up HO298.out) (Kd.R_base ho0) hb)
    have n1_ := Aside0.mk (Kd.R_below (Kd.R_up HO304.out) hb)
    have n2_ := Aside0.mk (Kd.R_lower (Kd.R_new' ho0 (Kd.R_lt (Kd.R_up HO298.out))) (below_size (B_set HB.out)))
    have n3_ := Aside0.mk (blk_below (g := gb294) (o := .cells #[.int .i64 a1_0,.int .i64 a1_1,.int .i64 a1_2,.slice A1_3 l1_3.length c1_3] 25 (0,0)) (blk_up BK294.out) hb)
    have n4_ := Aside0.mk (below_step (B_set HB.out) hb)
    clear HO298
    clear HO304
    clear BK294
    clear HB
    have HO298 := n0_
    have HO304 := n1_
    have HO307 := n2_
    have BK294 := n3_
    have HB := n4_
    clear n0_ n1_ n2_ n3_ n4_
    (try clear hb)
    (try clear hb2)
    (try clear hk)
    (try clear hi)
    (try clear ho0)
    refine hK.out _ _ ⟨(blk_cell BK294.out 0).trans rfl,(blk_cell BK294.out 1).trans rfl,(blk_cell BK294.out 2).trans rfl,(blk_cell BK294.out 3).trans rfl⟩ (fun hHeld => ?_)
    clear hK K
    refine norm_ (a' := ?_) ?_ ?_
    rotate_left
    ·show Act.put _ (some 26) _ = _
     simp only [Act.put,List.setIfInBounds_toArray,List.set_cons_zero,List.set_cons_succ,i64_w,i32_w]
     rfl
    refine pure_ (i := 5) (N := some 6) (v := ?_) (a' := ?_) #[true,true,true,true,true,true] rfl rfl (by kernel_rfl) (fun _ _ _ h => h) (Or.inl ⟨by rfl,?_⟩) ?_ ?_
    rotate_left
    ·intro w'
     go_simp
     with_reducible rfl
    rotate_left
    ·simp only [Act.put,List.setIfInBounds_toArray,List.set_cons_zero,List.set_cons_succ,i64_w,i32_w]
     rfl
    refine done_ (by kernel_rfl) ?_
    try go_wp2_with (first | ((with_reducible refine gate_callee (f := 12) rfl ?_);refine goesL_ (some 28) rfl rfl Try.func12 (by kernel_rfl) rfl #[.slice A0 l0.length c0] rfl eq_up ?_;(with_reducible refine (laws_toByteS.calls k _ _ l0 t308 _ ?side1 ?side2 A13.out).mono ?_);(case side1 => repeat (first | exact (Kd.C_below HR0.out HB.out) | (with_reducible refine Kd.C_alloc ?_ _) | (with_reducible refine Kd.C_drewN ?_ _) | (with_reducible refine Kd.C_drew ?_)));(case side2 => exact HC0.out);rintro e w162 ⟨v309,rfl,ho0,hb⟩;refine ⟨_,rfl,?_⟩;have n0_ := Aside0.mk (Kd.R_elder' (Kd.R_up HO298.out) (Kd.R_base ho0) hb);have n1_ := Aside0.mk (Kd.R_below (Kd.R_up HO304.out) hb);have n2_ := Aside0.mk (Kd.R_elder' (Kd.R_up HO307.out) (Kd.R_base ho0) hb);have n3_ := Aside0.mk (Kd.R_lower (Kd.R_new' (Kd.R_new' ho0 (Kd.R_lt (Kd.R_up HO298.out))) (Kd.R_lt (Kd.R_up HO307.out))) (below_size (B_set HB.out)));have n4_ := Aside0.mk (blk_below (g := gb294) (o := .cells #[.int .i64 a1_0,.int .i64 a1_1,.int .i64 a1_2,.slice A1_3 l1_3.length c1_3] 25 (0,0)) (blk_up BK294.out) hb);have n5_ := Aside0.mk (below_step (B_set HB.out) hb);clear HO298;clear HO304;clear HO307;clear BK294;clear HB;have HO298 := n0_;have HO304 := n1_;have HO307 := n2_;have HO310 := n3_;have BK294 := n4_;have HB := n5_;clear n0_ n1_ n2_ n3_ n4_ n5_;(try clear hb);(try clear hb2);(try clear hk);(try clear hi);(try clear ho0);have hcz163_0 : w162.cell? ⟨gb294,0,none⟩ = some (.int .i64 a1_0) := (blk_cell BK294.out 0).trans rfl;have hcz163_1 : w162.cell? ⟨gb294,1,none⟩ = some (.int .i64 a1_1) := (blk_cell BK294.out 1).trans rfl;have hcz163_2 : w162.cell? ⟨gb294,2,none⟩ = some (.int .i64 a1_2) := (blk_cell BK294.out 2).trans rfl;have hcz163_3 : w162.cell? ⟨gb294,3,none⟩ = some (.slice A1_3 l1_3.length c1_3) := (blk_cell BK294.out 3).trans rfl;have hfz163_0 := blk_frozen BK294.out 0;have hfz163_1 := blk_frozen BK294.out 1;have hfz163_2 := blk_frozen BK294.out 2;have hfz163_3 := blk_frozen BK294.out 3) | ((with_reducible refine gate_callee (f := 13) rfl ?_);refine goesL_ (some 30) rfl rfl Try.func13 (by kernel_rfl) rfl #[.agg #[.int .i64 a1_0,.int .i64 a1_1,.int .i64 a1_2,.slice A1_3 l1_3.length c1_3]] rfl eq_up ?_;(with_reducible refine (laws_toManifest.calls k a1_0 a1_1 a1_2 _ _ l1_3 t311 t312 t313 t314 _ ?side1 ?side2 A14.out).mono ?_);(case side1 => repeat (first | exact (Kd.C_below HR1_3.out HB.out) | (with_reducible refine Kd.C_alloc ?_ _) | (with_reducible refine Kd.C_drewN ?_ _) | (with_reducible refine Kd.C_drew ?_)));(case side2 => exact HC1_3.out);rintro e w164 ⟨v315,rfl,ho0,hb⟩;refine ⟨_,rfl,?_⟩;have n0_ := Aside0.mk (Kd.R_below (Kd.R_up HO298.out) hb);have n1_ := Aside0.mk (Kd.R_elder' (Kd.R_up HO304.out) (Kd.R_base ho0) hb);have n2_ := Aside0.mk (Kd.R_below (Kd.R_up HO307.out) hb);have n3_ := Aside0.mk (Kd.R_below (Kd.R_up HO310.out) hb);have n4_ := Aside0.mk (Kd.R_lower (Kd.R_new' ho0 (Kd.R_lt (Kd.R_up HO304.out))) (below_size (B_set HB.out)));have n5_ := Aside0.mk (blk_below (g := gb294) (o := .cells #[.int .i64 a1_0,.int .i64 a1_1,.int .i64 a1_2,.slice A1_3 l1_3.length c1_3] 25 (0,0)) (blk_up BK294.out) hb);have n6_ := Aside0.mk (below_step (B_set HB.out) hb);clear HO298;clear HO304;clear HO307;clear HO310;clear BK294;clear HB;have HO298 := n0_;have HO304 := n1_;have HO307 := n2_;have HO310 := n3_;have HO316 := n4_;have BK294 := n5_;have HB := n6_;clear n0_ n1_ n2_ n3_ n4_ n5_ n6_;(try clear hb);(try clear hb2);(try clear hk);(try clear hi);(try clear ho0)) | ((with_reducible refine gate_dst (N := 8) rfl ?_);refine box_event ?hg (N := 8) ?hd (cs := #[.int .i64 0,.int .i64 0,.int .i64 0,.slice none 0 0]) (t := 31) ?hr ?_;(case hd => rfl);(case hg => rfl);(case hr => first | (go_simp;done) | (go_simp;rfl));intro gb317 hg w165 hbox hb;have n0_ := Aside0.mk (Kd.R_below (Kd.R_up HO298.out) hb);have n1_ := Aside0.mk (Kd.R_below (Kd.R_up HO304.out) hb);have n2_ := Aside0.mk (Kd.R_below (Kd.R_up HO307.out) hb);have n3_ := Aside0.mk (Kd.R_below (Kd.R_up HO310.out) hb);have n4_ := Aside0.mk (Kd.R_below (Kd.R_up HO316.out) hb);have n5_ := Aside0.mk (blk_below (g := gb294) (o := .cells #[.int .i64 a1_0,.int .i64 a1_1,.int .i64 a1_2,.slice A1_3 l1_3.length c1_3] 25 (0,0)) (blk_up BK294.out) hb);have n6_ := Aside0.mk (below_step (B_set HB.out) hb);have n7_ := Aside0.mk (hbox);have n8_ := Aside0.mk ((by rw [hg];exact (below_size (B_set HB.out)) : w.heap.size ≤ gb317));have n9_ := Aside0.mk ((by rw [hg];exact (below_size (B_set HB.out)) : w.heap.size ≤ gb317));have n10_ := Aside0.mk ((by rw [hg];exact Nat.ne_of_lt (blk_lt (g := gb294) (o := .cells #[.int .i64 a1_0,.int .i64 a1_1,.int .i64 a1_2,.slice A1_3 l1_3.length c1_3] 25 (0,0)) (blk_up BK294.out)) : gb294 ≠ gb317));have n11_ := Aside0.mk ((by rw [hg];exact Nat.ne_of_gt (blk_lt (g := gb294) (o := .cells #[.int .i64 a1_0,.int .i64 a1_1,.int .i64 a1_2,.slice A1_3 l1_3.length c1_3] 25 (0,0)) (blk_up BK294.out)) : gb317 ≠ gb294));clear HO298;clear HO304;clear HO307;clear HO310;clear HO316;clear BK294;clear HB;have HO298 := n0_;have HO304 := n1_;have HO307 := n2_;have HO310 := n3_;have HO316 := n4_;have BK294 := n5_;have HB := n6_;have BK317 := n7_;have GW317 := n8_;have GE317 := n9_;have NB294_317 := n10_;have NB317_294 := n11_;clear n0_ n1_ n2_ n3_ n4_ n5_ n6_ n7_ n8_ n9_ n10_ n11_;clear hb hbox hg;have hnb166 := NB317_294.out;have hnc166 := NB294_317.out;have hcz167_0 : w165.cell? ⟨gb317,0,none⟩ = some (.int .i64 0) := (blk_cell BK317.out 0).trans rfl;have hcz167_1 : w165.cell? ⟨gb317,1,none⟩ = some (.int .i64 0) := (blk_cell BK317.out 1).trans rfl;have hcz167_2 : w165.cell? ⟨gb317,2,none⟩ = some (.int .i64 0) := (blk_cell BK317.out 2).trans rfl;have hcz167_3 : w165.cell? ⟨gb317,3,none⟩ = some (.slice none 0 0) := (blk_cell BK317.out 3).trans rfl;have hfz167_0 := blk_frozen BK317.out 0;have hfz167_1 := blk_frozen BK317.out 1;have hfz167_2 := blk_frozen BK317.out 2;have hfz167_3 := blk_frozen BK317.out 3;obtain ⟨Ao168,co168,eo168⟩ := Kd.R_slice HO316.out;subst eo168;obtain ⟨Ao169,co169,eo169⟩ := Kd.R_slice HO310.out;subst eo169) | ((with_reducible refine gate_callee (f := 29) rfl ?_);refine goesL_ (some 33) rfl rfl Try.func29 (by kernel_rfl) rfl #[.slice Ao169 t308.length co169,.agg #[.int .i64 t311,.int .i64 t312,.int .i64 t313,.slice Ao168 t314.length co168]] rfl eq_up ?_;(with_reducible refine (impl_PutMan.calls k _ _ t308 t311 t312 t313 _ _ t314 t318 _ ?side1 ?side2 ?side3 ?side4 A15.out).mono ?_);(case side1 => refine (Kd.R_reads' (e := 5) (base := w.heap.size) (ok := fun k_ => ((True ∧ some k_ ≠ (.slice Ao159 t296.length co159 : Value).ownBlock) ∧ some k_ ≠ (v306 : Value).ownBlock)) (n := t308.length) (c := co169) ?_).2.2;exact (by (with_reducible repeat (first | apply Kd.R_alloc | apply Kd.R_drewN | apply Kd.R_drew));exact (Kd.R_mono (Kd.R_far (p := ⟨gb317,3,none⟩) (Kd.R_far (p := ⟨gb317,2,none⟩) (Kd.R_far (p := ⟨gb317,1,none⟩) (Kd.R_far (p := ⟨gb317,0,none⟩) (Kd.R_types HO310.out BK317.out (by decide)) (fun _ hk => hk.2) (.int .i64 t311)) (fun _ hk => hk.2) (.int .i64 t312)) (fun _ hk => hk.2) (.int .i64 t313)) (fun _ hk => hk.2) (.slice Ao168 t314.length co168)) (fun _ h_ => h_.1))));(case side2 => exact (Kd.R_reads' HO310.out).2.1);(case side3 => refine (Kd.R_reads' (e := 66) (base := w.heap.size) (ok := fun k_ => (True ∧ some k_ ≠ (.slice Ao160 t302.length co160 : Value).ownBlock)) (n := t314.length) (c := co168) ?_).2.2;exact (by (with_reducible repeat (first | apply Kd.R_alloc | apply Kd.R_drewN | apply Kd.R_drew));exact (Kd.R_mono (Kd.R_far (p := ⟨gb317,3,none⟩) (Kd.R_far (p := ⟨gb317,2,none⟩) (Kd.R_far (p := ⟨gb317,1,none⟩) (Kd.R_far (p := ⟨gb317,0,none⟩) (Kd.R_types HO316.out BK317.out (by decide)) (fun _ hk => hk.2) (.int .i64 t311)) (fun _ hk => hk.2) (.int .i64 t312)) (fun _ hk => hk.2) (.int .i64 t313)) (fun _ hk => hk.2) (.slice Ao168 t314.length co168)) (fun _ h_ => h_.1))));(case side4 => exact (Kd.R_reads' HO316.out).2.1);rintro e w170 ⟨v319,rfl,ho0,hb⟩;refine ⟨_,rfl,?_⟩;have n0_ := Aside0.mk (Kd.R_elder' (by (with_reducible repeat (first | apply Kd.R_alloc | apply Kd.R_drewN | apply Kd.R_drew));exact (Kd.R_mono (Kd.R_far (p := ⟨gb317,3,none⟩) (Kd.R_far (p := ⟨gb317,2,none⟩) (Kd.R_far (p := ⟨gb317,1,none⟩) (Kd.R_far (p := ⟨gb317,0,none⟩) (Kd.R_types HO298.out BK317.out (by decide)) (fun _ hk => hk.2) (.int .i64 t311)) (fun _ hk => hk.2) (.int .i64 t312)) (fun _ hk => hk.2) (.int .i64 t313)) (fun _ hk => hk.2) (.slice Ao168 t314.length co168)) (fun _ h_ => h_.1))) (Kd.R_base ho0) hb);have n1_ := Aside0.mk (Kd.R_below (by (with_reducible repeat (first | apply Kd.R_alloc | apply Kd.R_drewN | apply Kd.R_drew));exact (Kd.R_mono (Kd.R_far (p := ⟨gb317,3,none⟩) (Kd.R_far (p := ⟨gb317,2,none⟩) (Kd.R_far (p := ⟨gb317,1,none⟩) (Kd.R_far (p := ⟨gb317,0,none⟩) (Kd.R_types HO304.out BK317.out (by decide)) (fun _ hk => hk.2) (.int .i64 t311)) (fun _ hk => hk.2) (.int .i64 t312)) (fun _ hk => hk.2) (.int .i64 t313)) (fun _ hk => hk.2) (.slice Ao168 t314.length co168)) (fun _ h_ => h_.1))) hb);have n2_ := Aside0.mk (Kd.R_elder' (by (with_reducible repeat (first | apply Kd.R_alloc | apply Kd.R_drewN | apply Kd.R_drew));exact (Kd.R_mono (Kd.R_far (p := ⟨gb317,3,none⟩) (Kd.R_far (p := ⟨gb317,2,none⟩) (Kd.R_far (p := ⟨gb317,1,none⟩) (Kd.R_far (p := ⟨gb317,0,none⟩) (Kd.R_types HO307.out BK317.out (by decide)) (fun _ hk => hk.2) (.int .i64 t311)) (fun _ hk => hk.2) (.int .i64 t312)) (fun _ hk => hk.2) (.int .i64 t313)) (fun _ hk => hk.2) (.slice Ao168 t314.length co168)) (fun _ h_ => h_.1))) (Kd.R_base ho0) hb);have n3_ := Aside0.mk (Kd.R_elder' (by (with_reducible repeat (first | apply Kd.R_alloc | apply Kd.R_drewN | apply Kd.R_drew));exact (Kd.R_mono (Kd.R_far (p := ⟨gb317,3,none⟩) (Kd.R_far (p := ⟨gb317,2,none⟩) (Kd.R_far (p := ⟨gb317,1,none⟩) (Kd.R_far (p := ⟨gb317,0,none⟩) (Kd.R_types HO310.out BK317.out (by decide)) (fun _ hk => hk.2) (.int .i64 t311)) (fun _ hk => hk.2) (.int .i64 t312)) (fun _ hk => hk.2) (.int .i64 t313)) (fun _ hk => hk.2) (.slice Ao168 t314.length co168)) (fun _ h_ => h_.1))) (Kd.R_base ho0) hb);have n4_ := Aside0.mk (Kd.R_below (by (with_reducible repeat (first | apply Kd.R_alloc | apply Kd.R_drewN | apply Kd.R_drew));exact (Kd.R_mono (Kd.R_far (p := ⟨gb317,3,none⟩) (Kd.R_far (p := ⟨gb317,2,none⟩) (Kd.R_far (p := ⟨gb317,1,none⟩) (Kd.R_far (p := ⟨gb317,0,none⟩) (Kd.R_types HO316.out BK317.out (by decide)) (fun _ hk => hk.2) (.int .i64 t311)) (fun _ hk => hk.2) (.int .i64 t312)) (fun _ hk => hk.2) (.int .i64 t313)) (fun _ hk => hk.2) (.slice Ao168 t314.length co168)) (fun _ h_ => h_.1))) hb);have n5_ := Aside0.mk (Kd.R_lower (Kd.R_new' (Kd.R_new' (Kd.R_new' ho0 (Kd.R_lt (by (with_reducible repeat (first | apply Kd.R_alloc | apply Kd.R_drewN | apply Kd.R_drew));exact (Kd.R_mono (Kd.R_far (p := ⟨gb317,3,none⟩) (Kd.R_far (p := ⟨gb317,2,none⟩) (Kd.R_far (p := ⟨gb317,1,none⟩) (Kd.R_far (p := ⟨gb317,0,none⟩) (Kd.R_types HO298.out BK317.out (by decide)) (fun _ hk => hk.2) (.int .i64 t311)) (fun _ hk => hk.2) (.int .i64 t312)) (fun _ hk => hk.2) (.int .i64 t313)) (fun _ hk => hk.2) (.slice Ao168 t314.length co168)) (fun _ h_ => h_.1))))) (Kd.R_lt (by (with_reducible repeat (first | apply Kd.R_alloc | apply Kd.R_drewN | apply Kd.R_drew));exact (Kd.R_mono (Kd.R_far (p := ⟨gb317,3,none⟩) (Kd.R_far (p := ⟨gb317,2,none⟩) (Kd.R_far (p := ⟨gb317,1,none⟩) (Kd.R_far (p := ⟨gb317,0,none⟩) (Kd.R_types HO307.out BK317.out (by decide)) (fun _ hk => hk.2) (.int .i64 t311)) (fun _ hk => hk.2) (.int .i64 t312)) (fun _ hk => hk.2) (.int .i64 t313)) (fun _ hk => hk.2) (.slice Ao168 t314.length co168)) (fun _ h_ => h_.1))))) (Kd.R_lt (by (with_reducible repeat (first | apply Kd.R_alloc | apply Kd.R_drewN | apply Kd.R_drew));exact (Kd.R_mono (Kd.R_far (p := ⟨gb317,3,none⟩) (Kd.R_far (p := ⟨gb317,2,none⟩) (Kd.R_far (p := ⟨gb317,1,none⟩) (Kd.R_far (p := ⟨gb317,0,none⟩) (Kd.R_types HO310.out BK317.out (by decide)) (fun _ hk => hk.2) (.int .i64 t311)) (fun _ hk => hk.2) (.int .i64 t312)) (fun _ hk => hk.2) (.int .i64 t313)) (fun _ hk => hk.2) (.slice Ao168 t314.length co168)) (fun _ h_ => h_.1))))) (below_size (B_set HB.out)));have n6_ := Aside0.mk (blk_below (g := gb294) (o := .cells #[.int .i64 a1_0,.int .i64 a1_1,.int .i64 a1_2,.slice A1_3 l1_3.length c1_3] 25 (0,0)) (by (with_reducible repeat (first | refine blk_drewN ?_ _ | refine blk_drew ?_ | refine blk_alloc ?_ _));refine blk_far ?_ NB294_317.out _;(with_reducible repeat (first | refine blk_drewN ?_ _ | refine blk_drew ?_ | refine blk_alloc ?_ _));refine blk_far ?_ NB294_317.out _;(with_reducible repeat (first | refine blk_drewN ?_ _ | refine blk_drew ?_ | refine blk_alloc ?_ _));refine blk_far ?_ NB294_317.out _;(with_reducible repeat (first | refine blk_drewN ?_ _ | refine blk_drew ?_ | refine blk_alloc ?_ _));refine blk_far ?_ NB294_317.out _;(with_reducible repeat (first | refine blk_drewN ?_ _ | refine blk_drew ?_ | refine blk_alloc ?_ _));exact BK294.out) hb);have n7_ := Aside0.mk (blk_below (g := gb317) (o := .cells #[.int .i64 t311,.int .i64 t312,.int .i64 t313,.slice Ao168 t314.length co168] 31 (0,0)) (by (with_reducible repeat (first | refine blk_drewN ?_ _ | refine blk_drew ?_ | refine blk_alloc ?_ _));refine blk_put (cs := #[.int .i64 t311,.int .i64 t312,.int .i64 t313,.slice none 0 0]) ?_ 3 _ rfl;(with_reducible repeat (first | refine blk_drewN ?_ _ | refine blk_drew ?_ | refine blk_alloc ?_ _));refine blk_put (cs := #[.int .i64 t311,.int .i64 t312,.int .i64 0,.slice none 0 0]) ?_ 2 _ rfl;(with_reducible repeat (first | refine blk_drewN ?_ _ | refine blk_drew ?_ | refine blk_alloc ?_ _));refine blk_put (cs := #[.int .i64 t311,.int .i64 0,.int .i64 0,.slice none 0 0]) ?_ 1 _ rfl;(with_reducible repeat (first | refine blk_drewN ?_ _ | refine blk_drew ?_ | refine blk_alloc ?_ _));refine blk_put (cs := #[.int .i64 0,.int .i64 0,.int .i64 0,.slice none 0 0]) ?_ 0 _ rfl;(with_reducible repeat (first | refine blk_drewN ?_ _ | refine blk_drew ?_ | refine blk_alloc ?_ _));exact BK317.out) hb);have n8_ := Aside0.mk (below_step (B_set HB.out) hb);clear HO298;clear HO304;clear HO307;clear HO310;clear HO316;clear BK294;clear BK317;clear HB;have HO298 := n0_;have HO304 := n1_;have HO307 := n2_;have HO310 := n3_;have HO316 := n4_;have HO320 := n5_;have BK294 := n6_;have BK317 := n7_;have HB := n8_;clear n0_ n1_ n2_ n3_ n4_ n5_ n6_ n7_ n8_;(try clear hb);(try clear hb2);(try clear hk);(try clear hi);(try clear ho0);obtain ⟨Ao171,co171,eo171⟩ := Kd.R_slice HO320.out;subst eo171;obtain ⟨Ao172,co172,eo172⟩ := Kd.R_slice HO307.out;subst eo172) | ((with_reducible refine gate_callee (f := 15) rfl ?_);refine goesL_ (some 36) rfl rfl Try.func15 (by kernel_rfl) rfl #[.slice Ao171 t318.length co171,.slice Ao172 t305.length co172] rfl eq_up ?_;(with_reducible refine (laws_eqByteS.calls k _ _ t318 _ _ t305 false _ ?side1 ?side2 ?side3 ?side4 A16.out).mono ?_);(case side1 => exact Kd.C_up (Kd.R_reads' HO320.out).2.2);(case side2 => exact (Kd.R_reads' HO320.out).2.1);(case side3 => exact Kd.C_up (Kd.R_reads' HO307.out).2.2);(case side4 => exact (Kd.R_reads' HO307.out).2.1);rintro e w' ⟨rfl,⟨nd,rfl⟩⟩;refine ⟨_,rfl,?_⟩))
    go_ret
    exact ⟨by first | rfl | (simp [errW_none,errW_some] <;> rfl) | (simp [*,errW_none,errW_some] <;> rfl),by repeat (first | (with_reducible first | exact HB.out | apply below_alloc | apply pw_below_drewN | apply below_drew1 | refine below_set ?_ GE294.out | refine below_set ?_ GE317.out) | exact HB.out)⟩

end Go.Proofs.Ytdkgcloempbgpaa.PFnExactPutMan
