-- by a program of this session (a turned copy of the print: make with a capacity)
import Derived.Test.YtdkgcloempbgpaaMade1
import Derived.Test.YtdkgcloempbgpaaPFnExactGetManx0
import Derived.Test.YtdkgcloempbgpaaPFnExactGetManx2
import Derived.Test.YtdkgcloempbgpaaPFnExactGetManx3
import Derived.Test.YtdkgcloempbgpaaPFnExactGetManx6
import Derived.Test.YtdkgcloempbgpaaPFnExactGetManx9
import Derived.Test.YtdkgcloempbgpaaPFnExactGetManx10
namespace Go.Proofs.Ytdkgcloempbgpaa.PFnExactGetMan
open Go.RowKit Go.Proofs.YtdkgcloempbgpaaW.PrintWords Go.Proofs.YtdkgcloempbgpaaW.PrintLast Go.Proofs.YtdkgcloempbgpaaW.PrintMore
attribute [local go_sem] max2_int min2_int max_two min_two max_three min_three max_four min_four   -- for this text's walks alone
set_option linter.unusedVariables false
set_option linter.unusedSimpArgs false

/-! ### laws_FnExactGetMan: function 8 -/
mutual
def laws_FnExactGetMan.j0 : Nat → List Int → Int → Int → Bool → List Int → Int → Bool → Bool → Int → Int → Int → List (S66) → Int → Int → Int → List (S66) → Option (Bool)
 | 0,_,_,_,_,_,_,_,_,_,_,_,_,_,_,_,_ => none
 | k + 1,x0,x1,x6,x7,x8,x10,x11,x51,x283000,x283001,x283002,x283003,x295000,x295001,x295002,x295003 => if x51 = true then (some false) else ((laws_toByteS.f k x0).bind fun t296 => ((laws_eqByteS.f k x8 t296).bind fun t299 => (if t299 = true then ((laws_markByteS.f k x8 1).bind fun bt300 => (if bt300.1 < 0 then (laws_FnExactGetMan.j1 k x0 x1 x6 x7 true x283000 x283001 x283002 x283003 x295000 x295001 x295002 x295003) else ((laws_eqManifest.f k x295000 x295001 x295002 x295003 x283000 x283001 x283002 x283003).bind fun t302 => (if t302 = true then (if x10 = x6 then (laws_FnExactGetMan.j1 k x0 x1 x6 x7 (x11 != x7) x283000 x283001 x283002 x283003 x295000 x295001 x295002 x295003) else (laws_FnExactGetMan.j1 k x0 x1 x6 x7 true x283000 x283001 x283002 x283003 x295000 x295001 x295002 x295003)) else (laws_FnExactGetMan.j1 k x0 x1 x6 x7 true x283000 x283001 x283002 x283003 x295000 x295001 x295002 x295003))))) else (some false))))
def laws_FnExactGetMan.j1 : Nat → List Int → Int → Int → Bool → Bool → Int → Int → Int → List (S66) → Int → Int → Int → List (S66) → Option (Bool)
 | 0,_,_,_,_,_,_,_,_,_,_,_,_,_ => none
 | k + 1,x0,x1,x6,x7,x77,x283000,x283001,x283002,x283003,x295000,x295001,x295002,x295003 => if x77 = true then (some false) else ((laws_markManifest.f k x295000 x295001 x295002 x295003 1).bind fun bt303 => ((laws_heldManifest.f k x295000 x295001 x295002 bt303.2 1).bind fun t305 => (if t305 < 0 then (some false) else (if t305 = bt303.1 then ((laws_toByteS.f k x0).bind fun t306 => ((impl_GetMan.f k t306 x1).bind fun bt309 => ((laws_eqManifest.f k bt309.1 bt309.2.1 bt309.2.2.1 bt309.2.2.2.1 x283000 x283001 x283002 x283003).bind fun t318 => (if t318 = true then (if bt309.2.2.2.2.1 = x6 then (laws_FnExactGetMan.j2 k bt303.1 (bt309.2.2.2.2.2 != x7) x295000 x295001 x295002 bt303.2) else (laws_FnExactGetMan.j2 k bt303.1 true x295000 x295001 x295002 bt303.2)) else (laws_FnExactGetMan.j2 k bt303.1 true x295000 x295001 x295002 bt303.2))))) else (some false)))))
def laws_FnExactGetMan.j2 : Nat → Int → Bool → Int → Int → Int → List (S66) → Option (Bool)
 | 0,_,_,_,_,_,_ => none
 | k + 1,x13,x110,x295000,x295001,x295002,x295003 => if x110 = true then (some false) else ((laws_heldManifest.f k x295000 x295001 x295002 x295003 1).bind fun t319 => (if t319 < 0 then (some false) else (if t319 = x13 then (some true) else (some false))))
end
def laws_FnExactGetMan.f (k : Nat) (l0 : List Int) (a1 : Int) : Option (Bool) := if (l0.length : Int) > 1048576 then (some true) else ((laws_toByteS.f k l0).bind fun t271 => ((spec_GetMan.f k t271 a1).bind fun bt274 => ((laws_toByteS.f k l0).bind fun t283 => ((impl_GetMan.f k t283 a1).bind fun bt286 => ((laws_eqManifest.f k bt286.1 bt286.2.1 bt286.2.2.1 bt286.2.2.2.1 bt274.1 bt274.2.1 bt274.2.2.1 bt274.2.2.2.1).bind fun t295 => (if t295 = true then (if bt286.2.2.2.2.1 = bt274.2.2.2.2.1 then (laws_FnExactGetMan.j0 k l0 a1 bt274.2.2.2.2.1 bt274.2.2.2.2.2 t283 bt286.2.2.2.2.1 bt286.2.2.2.2.2 (bt286.2.2.2.2.2 != bt274.2.2.2.2.2) bt274.1 bt274.2.1 bt274.2.2.1 bt274.2.2.2.1 bt286.1 bt286.2.1 bt286.2.2.1 bt286.2.2.2.1) else (laws_FnExactGetMan.j0 k l0 a1 bt274.2.2.2.2.1 bt274.2.2.2.2.2 t283 bt286.2.2.2.2.1 bt286.2.2.2.2.2 true bt274.1 bt274.2.1 bt274.2.2.1 bt274.2.2.2.1 bt286.1 bt286.2.1 bt286.2.2.1 bt286.2.2.2.1)) else (laws_FnExactGetMan.j0 k l0 a1 bt274.2.2.2.2.1 bt274.2.2.2.2.2 t283 bt286.2.2.2.2.1 bt286.2.2.2.2.2 true bt274.1 bt274.2.1 bt274.2.2.1 bt274.2.2.2.1 bt286.1 bt286.2.1 bt286.2.2.1 bt286.2.2.2.1)))))))
theorem laws_FnExactGetMan.mono_l : ∀ k,(∀ y0 y1 y2 y3 y4 y5 y6 y7 y8 y9 y10 y11 y12 y13 y14 y15,LeO (laws_FnExactGetMan.j0 k y0 y1 y2 y3 y4 y5 y6 y7 y8 y9 y10 y11 y12 y13 y14 y15) (laws_FnExactGetMan.j0 (k + 1) y0 y1 y2 y3 y4 y5 y6 y7 y8 y9 y10 y11 y12 y13 y14 y15)) ∧ (∀ y0 y1 y2 y3 y4 y5 y6 y7 y8 y9 y10 y11 y12,LeO (laws_FnExactGetMan.j1 k y0 y1 y2 y3 y4 y5 y6 y7 y8 y9 y10 y11 y12) (laws_FnExactGetMan.j1 (k + 1) y0 y1 y2 y3 y4 y5 y6 y7 y8 y9 y10 y11 y12)) ∧ (∀ y0 y1 y2 y3 y4 y5,LeO (laws_FnExactGetMan.j2 k y0 y1 y2 y3 y4 y5) (laws_FnExactGetMan.j2 (k + 1) y0 y1 y2 y3 y4 y5))
 | 0 => ⟨fun _ _ _ _ _ _ _ _ _ _ _ _ _ _ _ _ r h => by simp [laws_FnExactGetMan.j0] at h,fun _ _ _ _ _ _ _ _ _ _ _ _ _ r h => by simp [laws_FnExactGetMan.j1] at h,fun _ _ _ _ _ _ r h => by simp [laws_FnExactGetMan.j2] at h⟩
 | k + 1 => by
  obtain ⟨ih0,ih1,ih2⟩ := laws_FnExactGetMan.mono_l k
  refine ⟨?_,?_,?_⟩
  ·intro y0 y1 y2 y3 y4 y5 y6 y7 y8 y9 y10 y11 y12 y13 y14 y15
   unfold laws_FnExactGetMan.j0
   repeat' first
   | (with_reducible exact ih0 _ _ _ _ _ _ _ _ _ _ _ _ _ _ _ _)
   | (with_reducible exact ih1 _ _ _ _ _ _ _ _ _ _ _ _ _)
   | (with_reducible exact ih2 _ _ _ _ _ _)
   | (with_reducible exact impl_GetMan.mono _ _ _)
   | (with_reducible exact laws_eqByteS.mono _ _ _)
   | (with_reducible exact laws_eqManifest.mono _ _ _ _ _ _ _ _ _)
   | (with_reducible exact laws_heldManifest.mono _ _ _ _ _ _)
   | (with_reducible exact laws_markByteS.mono _ _ _)
   | (with_reducible exact laws_markManifest.mono _ _ _ _ _ _)
   | (with_reducible exact laws_toByteS.mono _ _)
   | (with_reducible exact spec_GetMan.mono _ _ _)
   | (with_reducible exact LeO.refl _)
   | (with_reducible exact LeO.none _)
   | (with_reducible refine LeO.ite ?_ ?_)
   | (with_reducible refine LeO.bind ?_ (fun _ => ?_))
   | exact ih0 _ _ _ _ _ _ _ _ _ _ _ _ _ _ _ _
   | exact ih1 _ _ _ _ _ _ _ _ _ _ _ _ _
   | exact ih2 _ _ _ _ _ _
   | exact impl_GetMan.mono _ _ _
   | exact laws_eqByteS.mono _ _ _
   | exact laws_eqManifest.mono _ _ _ _ _ _ _ _ _
   | exact laws_heldManifest.mono _ _ _ _ _ _
   | exact laws_markByteS.mono _ _ _
   | exact laws_markManifest.mono _ _ _ _ _ _
   | exact laws_toByteS.mono _ _
   | exact spec_GetMan.mono _ _ _
   | exact LeO.none _
   | refine LeO.ite ?_ ?_
   | refine LeO.bind ?_ (fun _ => ?_)
  ·intro y0 y1 y2 y3 y4 y5 y6 y7 y8 y9 y10 y11 y12
   unfold laws_FnExactGetMan.j1
   repeat' first
   | (with_reducible exact ih0 _ _ _ _ _ _ _ _ _ _ _ _ _ _ _ _)
   | (with_reducible exact ih1 _ _ _ _ _ _ _ _ _ _ _ _ _)
   | (with_reducible exact ih2 _ _ _ _ _ _)
   | (with_reducible exact impl_GetMan.mono _ _ _)
   | (with_reducible exact laws_eqByteS.mono _ _ _)
   | (with_reducible exact laws_eqManifest.mono _ _ _ _ _ _ _ _ _)
   | (with_reducible exact laws_heldManifest.mono _ _ _ _ _ _)
   | (with_reducible exact laws_markByteS.mono _ _ _)
   | (with_reducible exact laws_markManifest.mono _ _ _ _ _ _)
   | (with_reducible exact laws_toByteS.mono _ _)
   | (with_reducible exact spec_GetMan.mono _ _ _)
   | (with_reducible exact LeO.refl _)
   | (with_reducible exact LeO.none _)
   | (with_reducible refine LeO.ite ?_ ?_)
   | (with_reducible refine LeO.bind ?_ (fun _ => ?_))
   | exact ih0 _ _ _ _ _ _ _ _ _ _ _ _ _ _ _ _
   | exact ih1 _ _ _ _ _ _ _ _ _ _ _ _ _
   | exact ih2 _ _ _ _ _ _
   | exact impl_GetMan.mono _ _ _
   | exact laws_eqByteS.mono _ _ _
   | exact laws_eqManifest.mono _ _ _ _ _ _ _ _ _
   | exact laws_heldManifest.mono _ _ _ _ _ _
   | exact laws_markByteS.mono _ _ _
   | exact laws_markManifest.mono _ _ _ _ _ _
   | exact laws_toByteS.mono _ _
   | exact spec_GetMan.mono _ _ _
   | exact LeO.none _
   | refine LeO.ite ?_ ?_
   | refine LeO.bind ?_ (fun _ => ?_)
  ·intro y0 y1 y2 y3 y4 y5
   unfold laws_FnExactGetMan.j2
   repeat' first
   | (with_reducible exact ih0 _ _ _ _ _ _ _ _ _ _ _ _ _ _ _ _)
   | (with_reducible exact ih1 _ _ _ _ _ _ _ _ _ _ _ _ _)
   | (with_reducible exact ih2 _ _ _ _ _ _)
   | (with_reducible exact impl_GetMan.mono _ _ _)
   | (with_reducible exact laws_eqByteS.mono _ _ _)
   | (with_reducible exact laws_eqManifest.mono _ _ _ _ _ _ _ _ _)
   | (with_reducible exact laws_heldManifest.mono _ _ _ _ _ _)
   | (with_reducible exact laws_markByteS.mono _ _ _)
   | (with_reducible exact laws_markManifest.mono _ _ _ _ _ _)
   | (with_reducible exact laws_toByteS.mono _ _)
   | (with_reducible exact spec_GetMan.mono _ _ _)
   | (with_reducible exact LeO.refl _)
   | (with_reducible exact LeO.none _)
   | (with_reducible refine LeO.ite ?_ ?_)
   | (with_reducible refine LeO.bind ?_ (fun _ => ?_))
   | exact ih0 _ _ _ _ _ _ _ _ _ _ _ _ _ _ _ _
   | exact ih1 _ _ _ _ _ _ _ _ _ _ _ _ _
   | exact ih2 _ _ _ _ _ _
   | exact impl_GetMan.mono _ _ _
   | exact laws_eqByteS.mono _ _ _
   | exact laws_eqManifest.mono _ _ _ _ _ _ _ _ _
   | exact laws_heldManifest.mono _ _ _ _ _ _
   | exact laws_markByteS.mono _ _ _
   | exact laws_markManifest.mono _ _ _ _ _ _
   | exact laws_toByteS.mono _ _
   | exact spec_GetMan.mono _ _ _
   | exact LeO.none _
   | refine LeO.ite ?_ ?_
   | refine LeO.bind ?_ (fun _ => ?_)
theorem laws_FnExactGetMan.mono : ∀ a0 a1 k,LeO (laws_FnExactGetMan.f k a0 a1) (laws_FnExactGetMan.f (k + 1) a0 a1) := by
 intro a0 a1 k
 obtain ⟨ih0,ih1,ih2⟩ := laws_FnExactGetMan.mono_l k
 unfold laws_FnExactGetMan.f
 repeat' first
   | (with_reducible exact ih0 _ _ _ _ _ _ _ _ _ _ _ _ _ _ _ _)
   | (with_reducible exact ih1 _ _ _ _ _ _ _ _ _ _ _ _ _)
   | (with_reducible exact ih2 _ _ _ _ _ _)
   | (with_reducible exact impl_GetMan.mono _ _ _)
   | (with_reducible exact laws_eqByteS.mono _ _ _)
   | (with_reducible exact laws_eqManifest.mono _ _ _ _ _ _ _ _ _)
   | (with_reducible exact laws_heldManifest.mono _ _ _ _ _ _)
   | (with_reducible exact laws_markByteS.mono _ _ _)
   | (with_reducible exact laws_markManifest.mono _ _ _ _ _ _)
   | (with_reducible exact laws_toByteS.mono _ _)
   | (with_reducible exact spec_GetMan.mono _ _ _)
   | (with_reducible exact LeO.refl _)
   | (with_reducible exact LeO.none _)
   | (with_reducible refine LeO.ite ?_ ?_)
   | (with_reducible refine LeO.bind ?_ (fun _ => ?_))
   | exact ih0 _ _ _ _ _ _ _ _ _ _ _ _ _ _ _ _
   | exact ih1 _ _ _ _ _ _ _ _ _ _ _ _ _
   | exact ih2 _ _ _ _ _ _
   | exact impl_GetMan.mono _ _ _
   | exact laws_eqByteS.mono _ _ _
   | exact laws_eqManifest.mono _ _ _ _ _ _ _ _ _
   | exact laws_heldManifest.mono _ _ _ _ _ _
   | exact laws_markByteS.mono _ _ _
   | exact laws_markManifest.mono _ _ _ _ _ _
   | exact laws_toByteS.mono _ _
   | exact spec_GetMan.mono _ _ _
   | exact LeO.none _
   | refine LeO.ite ?_ ?_
   | refine LeO.bind ?_ (fun _ => ?_)
set_option maxHeartbeats 8000000 in
set_option maxRecDepth 100000 in
theorem laws_FnExactGetMan.calls (k : Nat) (A0 : Option Addr) (c0 : Nat) (l0 : List Int) (a1 : Int) (r : Bool) (w : World) (hr0 : Kd.C (Kd.int .u8) w A0 l0.length l0) (hc0 : l0.length ≤ c0) (h : laws_FnExactGetMan.f k l0 a1 = some r) :
  Calls Try.prog 8 #[.slice A0 l0.length c0,.int .i64 a1] w fun e w' => e = .returned (.bool r) ∧ Below w.heap.size w w' := by
 have hu31 := Try.underlying31
 have HR0 := Aside0.mk hr0
 have HC0 := Aside0.mk hc0
 clear hr0 hc0
 have HB := Aside0.mk (Below.refl w.heap.size w)
 have H : (if (l0.length : Int) > 1048576 then (some true) else ((laws_toByteS.f k l0).bind fun t271 => ((spec_GetMan.f k t271 a1).bind fun bt274 => ((laws_toByteS.f k l0).bind fun t283 => ((impl_GetMan.f k t283 a1).bind fun bt286 => ((laws_eqManifest.f k bt286.1 bt286.2.1 bt286.2.2.1 bt286.2.2.2.1 bt274.1 bt274.2.1 bt274.2.2.1 bt274.2.2.2.1).bind fun t295 => (if t295 = true then (if bt286.2.2.2.2.1 = bt274.2.2.2.2.1 then (laws_FnExactGetMan.j0 k l0 a1 bt274.2.2.2.2.1 bt274.2.2.2.2.2 t283 bt286.2.2.2.2.1 bt286.2.2.2.2.2 (bt286.2.2.2.2.2 != bt274.2.2.2.2.2) bt274.1 bt274.2.1 bt274.2.2.1 bt274.2.2.2.1 bt286.1 bt286.2.1 bt286.2.2.1 bt286.2.2.2.1) else (laws_FnExactGetMan.j0 k l0 a1 bt274.2.2.2.2.1 bt274.2.2.2.2.2 t283 bt286.2.2.2.2.1 bt286.2.2.2.2.2 true bt274.1 bt274.2.1 bt274.2.2.1 bt274.2.2.2.1 bt286.1 bt286.2.1 bt286.2.2.1 bt286.2.2.2.1)) else (laws_FnExactGetMan.j0 k l0 a1 bt274.2.2.2.2.1 bt274.2.2.2.2.2 t283 bt286.2.2.2.2.1 bt286.2.2.2.2.2 true bt274.1 bt274.2.1 bt274.2.2.1 bt274.2.2.2.1 bt286.1 bt286.2.1 bt286.2.2.1 bt286.2.2.2.1)))))))) = some r := h
 clear h
 by_cases c3 : (l0.length : Int) > 1048576
 ·rw [if_pos c3] at H
  have c3b0 : decide (1048576 < (l0.length : Int)) = true := decide_eq_true c3
  have c3b1 : decide (1048576 < l0.length) = true := decide_eq_true (by omega)
  clear c3
  obtain rfl := Option.some.inj H
  go_enter Try.func8,Try.ntmps8
  go_wp2
  go_ret
  exact ⟨by first | rfl | (simp [errW_none,errW_some] <;> rfl) | (simp [*,errW_none,errW_some] <;> rfl),by repeat (first | (with_reducible first | exact HB.out | apply below_alloc | apply pw_below_drewN | apply below_drew1) | exact HB.out)⟩
 ·rw [if_neg c3] at H
  have c3b0 : decide (1048576 < (l0.length : Int)) = false := decide_eq_false c3
  have c3b1 : decide (1048576 < l0.length) = false := decide_eq_false (by omega)
  clear c3
  replace H := Option.bind_eq_some_iff.mp H
  obtain ⟨t271,A40,H⟩ := H
  (try dsimp only at H)
  have A4 := Aside0.mk A40
  clear A40
  replace H := Option.bind_eq_some_iff.mp H
  obtain ⟨⟨t274,t275,t276,t277,t280,t281⟩,A50,H⟩ := H
  (try dsimp only at H)
  have A5 := Aside0.mk A50
  clear A50
  replace H := Option.bind_eq_some_iff.mp H
  obtain ⟨t283,A60,H⟩ := H
  (try dsimp only at H)
  have A6 := Aside0.mk A60
  clear A60
  replace H := Option.bind_eq_some_iff.mp H
  obtain ⟨⟨t286,t287,t288,t289,t292,t293⟩,A70,H⟩ := H
  (try dsimp only at H)
  have A7 := Aside0.mk A70
  clear A70
  have HC8 := Aside0.mk H
  clear H
  go_enter Try.func8,Try.ntmps8
  go_upto_region 6 with (first | ((with_reducible refine gate_callee (f := 12) rfl ?_);refine goesL_ (some 23) rfl rfl Try.func12 (by kernel_rfl) rfl #[.slice A0 l0.length c0] rfl eq_up ?_;(with_reducible refine (laws_toByteS.calls k _ _ l0 t271 _ ?side1 ?side2 A4.out).mono ?_);(case side1 => exact Kd.C_up HR0.out);(case side2 => exact HC0.out);rintro e w9 ⟨v272,rfl,ho0,hb⟩;refine ⟨_,rfl,?_⟩;have n0_ := Aside0.mk (Kd.R_lower ho0 (below_size (B_up HB.out)));have n1_ := Aside0.mk (below_step (B_up HB.out) hb);clear HB;have HO273 := n0_;have HB := n1_;clear n0_ n1_;(try clear hb);(try clear hb2);(try clear hk);(try clear hi);(try clear ho0);obtain ⟨Ao10,co10,eo10⟩ := Kd.R_slice HO273.out;subst eo10) | ((with_reducible refine gate_callee (f := 31) rfl ?_);refine goesL_ (some 25) rfl rfl Try.func31 (by kernel_rfl) rfl #[.slice Ao10 t271.length co10,.int .i64 a1] rfl eq_up ?_;(with_reducible refine (spec_GetMan.calls k _ _ t271 a1 t274 t275 t276 t277 t280 t281 _ ?side1 ?side2 A5.out).mono ?_);(case side1 => exact Kd.C_up (Kd.R_reads' HO273.out).2.2);(case side2 => exact (Kd.R_reads' HO273.out).2.1);rintro e w11 ⟨v278,rfl,ho0,hb⟩;refine ⟨_,rfl,?_⟩;have n0_ := Aside0.mk (Kd.R_below (Kd.R_up HO273.out) hb);have n1_ := Aside0.mk (Kd.R_lower ho0 (below_size (B_up HB.out)));have n2_ := Aside0.mk (below_step (B_up HB.out) hb);clear HO273;clear HB;have HO273 := n0_;have HO279 := n1_;have HB := n2_;clear n0_ n1_ n2_;(try clear hb);(try clear hb2);(try clear hk);(try clear hi);(try clear ho0)) | ((with_reducible refine gate_dst (N := 5) rfl ?_);refine box_event ?hg (N := 5) ?hd (cs := #[.int .i64 0,.int .i64 0,.int .i64 0,.slice none 0 0]) (t := 31) ?hr ?_;(case hd => rfl);(case hg => rfl);(case hr => first | (go_simp;done) | (go_simp;rfl));intro gb282 hg w12 hbox hb;have n0_ := Aside0.mk (Kd.R_below (Kd.R_up HO273.out) hb);have n1_ := Aside0.mk (Kd.R_below (Kd.R_up HO279.out) hb);have n2_ := Aside0.mk (below_step (B_up HB.out) hb);have n3_ := Aside0.mk (hbox);have n4_ := Aside0.mk ((by rw [hg];exact (below_size (B_up HB.out)) : w.heap.size ≤ gb282));have n5_ := Aside0.mk ((by rw [hg];exact (below_size (B_up HB.out)) : w.heap.size ≤ gb282));clear HO273;clear HO279;clear HB;have HO273 := n0_;have HO279 := n1_;have HB := n2_;have BK282 := n3_;have GW282 := n4_;have GE282 := n5_;clear n0_ n1_ n2_ n3_ n4_ n5_;clear hb hbox hg;have hcz13_0 : w12.cell? ⟨gb282,0,none⟩ = some (.int .i64 0) := (blk_cell BK282.out 0).trans rfl;have hcz13_1 : w12.cell? ⟨gb282,1,none⟩ = some (.int .i64 0) := (blk_cell BK282.out 1).trans rfl;have hcz13_2 : w12.cell? ⟨gb282,2,none⟩ = some (.int .i64 0) := (blk_cell BK282.out 2).trans rfl;have hcz13_3 : w12.cell? ⟨gb282,3,none⟩ = some (.slice none 0 0) := (blk_cell BK282.out 3).trans rfl;have hfz13_0 := blk_frozen BK282.out 0;have hfz13_1 := blk_frozen BK282.out 1;have hfz13_2 := blk_frozen BK282.out 2;have hfz13_3 := blk_frozen BK282.out 3;obtain ⟨Ao14,co14,eo14⟩ := Kd.R_slice HO279.out;subst eo14) | ((with_reducible refine gate_callee (f := 12) rfl ?_);refine goesL_ (some 30) rfl rfl Try.func12 (by kernel_rfl) rfl #[.slice A0 l0.length c0] rfl eq_up ?_;(with_reducible refine (laws_toByteS.calls k _ _ l0 t283 _ ?side1 ?side2 A6.out).mono ?_);(case side1 => exact Kd.C_below HR0.out (B_set HB.out));(case side2 => exact HC0.out);rintro e w15 ⟨v284,rfl,ho0,hb⟩;refine ⟨_,rfl,?_⟩;have n0_ := Aside0.mk (Kd.R_elder' (by (with_reducible repeat (first | apply Kd.R_alloc | apply Kd.R_drewN | apply Kd.R_drew));exact (Kd.R_mono (Kd.R_far (p := ⟨gb282,3,none⟩) (Kd.R_far (p := ⟨gb282,2,none⟩) (Kd.R_far (p := ⟨gb282,1,none⟩) (Kd.R_far (p := ⟨gb282,0,none⟩) (Kd.R_types HO273.out BK282.out (by decide)) (fun _ hk => hk.2) (.int .i64 t274)) (fun _ hk => hk.2) (.int .i64 t275)) (fun _ hk => hk.2) (.int .i64 t276)) (fun _ hk => hk.2) (.slice Ao14 t277.length co14)) (fun _ h_ => h_.1))) (Kd.R_base ho0) hb);have n1_ := Aside0.mk (Kd.R_below (by (with_reducible repeat (first | apply Kd.R_alloc | apply Kd.R_drewN | apply Kd.R_drew));exact (Kd.R_mono (Kd.R_far (p := ⟨gb282,3,none⟩) (Kd.R_far (p := ⟨gb282,2,none⟩) (Kd.R_far (p := ⟨gb282,1,none⟩) (Kd.R_far (p := ⟨gb282,0,none⟩) (Kd.R_types HO279.out BK282.out (by decide)) (fun _ hk => hk.2) (.int .i64 t274)) (fun _ hk => hk.2) (.int .i64 t275)) (fun _ hk => hk.2) (.int .i64 t276)) (fun _ hk => hk.2) (.slice Ao14 t277.length co14)) (fun _ h_ => h_.1))) hb);have n2_ := Aside0.mk (Kd.R_lower (Kd.R_new' ho0 (Kd.R_lt (by (with_reducible repeat (first | apply Kd.R_alloc | apply Kd.R_drewN | apply Kd.R_drew));exact (Kd.R_mono (Kd.R_far (p := ⟨gb282,3,none⟩) (Kd.R_far (p := ⟨gb282,2,none⟩) (Kd.R_far (p := ⟨gb282,1,none⟩) (Kd.R_far (p := ⟨gb282,0,none⟩) (Kd.R_types HO273.out BK282.out (by decide)) (fun _ hk => hk.2) (.int .i64 t274)) (fun _ hk => hk.2) (.int .i64 t275)) (fun _ hk => hk.2) (.int .i64 t276)) (fun _ hk => hk.2) (.slice Ao14 t277.length co14)) (fun _ h_ => h_.1))))) (below_size (B_set HB.out)));have n3_ := Aside0.mk (blk_below (g := gb282) (o := .cells #[.int .i64 t274,.int .i64 t275,.int .i64 t276,.slice Ao14 t277.length co14] 31 (0,0)) (by (with_reducible repeat (first | refine blk_drewN ?_ _ | refine blk_drew ?_ | refine blk_alloc ?_ _));refine blk_put (cs := #[.int .i64 t274,.int .i64 t275,.int .i64 t276,.slice none 0 0]) ?_ 3 _ rfl;(with_reducible repeat (first | refine blk_drewN ?_ _ | refine blk_drew ?_ | refine blk_alloc ?_ _));refine blk_put (cs := #[.int .i64 t274,.int .i64 t275,.int .i64 0,.slice none 0 0]) ?_ 2 _ rfl;(with_reducible repeat (first | refine blk_drewN ?_ _ | refine blk_drew ?_ | refine blk_alloc ?_ _));refine blk_put (cs := #[.int .i64 t274,.int .i64 0,.int .i64 0,.slice none 0 0]) ?_ 1 _ rfl;(with_reducible repeat (first | refine blk_drewN ?_ _ | refine blk_drew ?_ | refine blk_alloc ?_ _));refine blk_put (cs := #[.int .i64 0,.int .i64 0,.int .i64 0,.slice none 0 0]) ?_ 0 _ rfl;(with_reducible repeat (first | refine blk_drewN ?_ _ | refine blk_drew ?_ | refine blk_alloc ?_ _));exact BK282.out) hb);have n4_ := Aside0.mk (below_step (B_set HB.out) hb);clear HO273;clear HO279;clear BK282;clear HB;have HO273 := n0_;have HO279 := n1_;have HO285 := n2_;have BK282 := n3_;have HB := n4_;clear n0_ n1_ n2_ n3_ n4_;(try clear hb);(try clear hb2);(try clear hk);(try clear hi);(try clear ho0);obtain ⟨Ao16,co16,eo16⟩ := Kd.R_slice HO285.out;subst eo16) | ((with_reducible refine gate_callee (f := 32) rfl ?_);refine goesL_ (some 34) rfl rfl Try.func32 (by kernel_rfl) rfl #[.slice Ao16 t283.length co16,.int .i64 a1] rfl eq_up ?_;(with_reducible refine (impl_GetMan.calls k _ _ t283 a1 t286 t287 t288 t289 t292 t293 _ ?side1 ?side2 A7.out).mono ?_);(case side1 => exact Kd.C_up (Kd.R_reads' HO285.out).2.2);(case side2 => exact (Kd.R_reads' HO285.out).2.1);rintro e w17 ⟨v290,rfl,ho0,hb⟩;refine ⟨_,rfl,?_⟩;have n0_ := Aside0.mk (Kd.R_below (Kd.R_up HO273.out) hb);have n1_ := Aside0.mk (Kd.R_elder' (Kd.R_up HO279.out) (Kd.R_base ho0) hb);have n2_ := Aside0.mk (Kd.R_below (Kd.R_up HO285.out) hb);have n3_ := Aside0.mk (Kd.R_lower (Kd.R_new' ho0 (Kd.R_lt (Kd.R_up HO279.out))) (below_size (B_set HB.out)));have n4_ := Aside0.mk (blk_below (g := gb282) (o := .cells #[.int .i64 t274,.int .i64 t275,.int .i64 t276,.slice Ao14 t277.length co14] 31 (0,0)) (blk_up BK282.out) hb);have n5_ := Aside0.mk (below_step (B_set HB.out) hb);clear HO273;clear HO279;clear HO285;clear BK282;clear HB;have HO273 := n0_;have HO279 := n1_;have HO285 := n2_;have HO291 := n3_;have BK282 := n4_;have HB := n5_;clear n0_ n1_ n2_ n3_ n4_ n5_;(try clear hb);(try clear hb2);(try clear hk);(try clear hi);(try clear ho0)) | ((with_reducible refine gate_dst (N := 9) rfl ?_);refine box_event ?hg (N := 9) ?hd (cs := #[.int .i64 0,.int .i64 0,.int .i64 0,.slice none 0 0]) (t := 31) ?hr ?_;(case hd => rfl);(case hg => rfl);(case hr => first | (go_simp;done) | (go_simp;rfl));intro gb294 hg w18 hbox hb;have n0_ := Aside0.mk (Kd.R_below (Kd.R_up HO273.out) hb);have n1_ := Aside0.mk (Kd.R_below (Kd.R_up HO279.out) hb);have n2_ := Aside0.mk (Kd.R_below (Kd.R_up HO285.out) hb);have n3_ := Aside0.mk (Kd.R_below (Kd.R_up HO291.out) hb);have n4_ := Aside0.mk (blk_below (g := gb282) (o := .cells #[.int .i64 t274,.int .i64 t275,.int .i64 t276,.slice Ao14 t277.length co14] 31 (0,0)) (blk_up BK282.out) hb);have n5_ := Aside0.mk (below_step (B_set HB.out) hb);have n6_ := Aside0.mk (hbox);have n7_ := Aside0.mk ((by rw [hg];exact (below_size (B_set HB.out)) : w.heap.size ≤ gb294));have n8_ := Aside0.mk ((by rw [hg];exact (below_size (B_set HB.out)) : w.heap.size ≤ gb294));have n9_ := Aside0.mk ((by rw [hg];exact Nat.ne_of_lt (blk_lt (g := gb282) (o := .cells #[.int .i64 t274,.int .i64 t275,.int .i64 t276,.slice Ao14 t277.length co14] 31 (0,0)) (blk_up BK282.out)) : gb282 ≠ gb294));have n10_ := Aside0.mk ((by rw [hg];exact Nat.ne_of_gt (blk_lt (g := gb282) (o := .cells #[.int .i64 t274,.int .i64 t275,.int .i64 t276,.slice Ao14 t277.length co14] 31 (0,0)) (blk_up BK282.out)) : gb294 ≠ gb282));clear HO273;clear HO279;clear HO285;clear HO291;clear BK282;clear HB;have HO273 := n0_;have HO279 := n1_;have HO285 := n2_;have HO291 := n3_;have BK282 := n4_;have HB := n5_;have BK294 := n6_;have GW294 := n7_;have GE294 := n8_;have NB282_294 := n9_;have NB294_282 := n10_;clear n0_ n1_ n2_ n3_ n4_ n5_ n6_ n7_ n8_ n9_ n10_;clear hb hbox hg;have hnb19 := NB294_282.out;have hnc19 := NB282_294.out;have hcz20_0 : w18.cell? ⟨gb294,0,none⟩ = some (.int .i64 0) := (blk_cell BK294.out 0).trans rfl;have hcz20_1 : w18.cell? ⟨gb294,1,none⟩ = some (.int .i64 0) := (blk_cell BK294.out 1).trans rfl;have hcz20_2 : w18.cell? ⟨gb294,2,none⟩ = some (.int .i64 0) := (blk_cell BK294.out 2).trans rfl;have hcz20_3 : w18.cell? ⟨gb294,3,none⟩ = some (.slice none 0 0) := (blk_cell BK294.out 3).trans rfl;have hfz20_0 := blk_frozen BK294.out 0;have hfz20_1 := blk_frozen BK294.out 1;have hfz20_2 := blk_frozen BK294.out 2;have hfz20_3 := blk_frozen BK294.out 3;obtain ⟨Ao21,co21,eo21⟩ := Kd.R_slice HO291.out;subst eo21))
  (try simp only [Act.put,List.setIfInBounds_toArray,List.set_cons_zero,List.set_cons_succ])
  go_cut [51] (fun v51 wc => ∃ (kq : Nat) (x51_7 : Bool),v51 = .bool x51_7 ∧ Aside0 (laws_FnExactGetMan.j0 kq l0 a1 t280 t281 t283 t292 t293 x51_7 t274 t275 t276 t277 t286 t287 t288 t289 = some r) ∧ Aside0 (kq ≤ k) ∧ Aside0 (Kd.R (Kd.int .u8) 5 wc w.heap.size (fun _ => True) (.slice Ao16 t283.length co16) t283) ∧ Aside0 (Kd.R k66 66 wc w.heap.size (fun k_ => some k_ ≠ ((.slice Ao21 t289.length co21) : Value).ownBlock) (.slice Ao14 t277.length co14) t277) ∧ Aside0 (Kd.R k66 66 wc w.heap.size (fun k_ => some k_ ≠ ((.slice Ao14 t277.length co14) : Value).ownBlock) (.slice Ao21 t289.length co21) t289) ∧ Aside0 (wc.heap[gb282]? = some (.cells #[.int .i64 t274,.int .i64 t275,.int .i64 t276,(.slice Ao14 t277.length co14)] 31 (0,0))) ∧ Aside0 (wc.heap[gb294]? = some (.cells #[.int .i64 t286,.int .i64 t287,.int .i64 t288,(.slice Ao21 t289.length co21)] 31 (0,0))) ∧ Aside0 (Below w.heap.size w wc))
  case first =>
   have H := HC8.out
   clear HC8
   replace H := Option.bind_eq_some_iff.mp H
   obtain ⟨t295,A220,H⟩ := H
   (try dsimp only at H)
   have A22 := Aside0.mk A220
   clear A220
   by_cases c23 : t295 = true
   ·subst c23
    rw [if_pos rfl] at H
    by_cases c24 : t292 = t280
    ·rw [if_pos c24] at H
     have c24b0 : (t292 == t280) = true := beq_iff_eq.mpr c24
     have c24b1 : (t292 != t280) = false := bne_eq_false_iff_eq.mpr c24
     clear c24
     (first | rw [c24b0] | (simp only [i64_w,i32_w];rw [c24b0]) | skip)
     have H' := Aside0.mk H
     clear H
     have hnb25 := NB294_282.out
     have hnc25 := NB282_294.out
     have hcz26_0 : w18.cell? ⟨gb294,0,none⟩ = some (.int .i64 0) := (blk_cell BK294.out 0).trans rfl
     have hcz26_1 : w18.cell? ⟨gb294,1,none⟩ = some (.int .i64 0) := (blk_cell BK294.out 1).trans rfl
     have hcz26_2 : w18.cell? ⟨gb294,2,none⟩ = some (.int .i64 0) := (blk_cell BK294.out 2).trans rfl
     have hcz26_3 : w18.cell? ⟨gb294,3,none⟩ = some (.slice none 0 0) := (blk_cell BK294.out 3).trans rfl
     have hfz26_0 := blk_frozen BK294.out 0
     have hfz26_1 := blk_frozen BK294.out 1
     have hfz26_2 := blk_frozen BK294.out 2
     have hfz26_3 := blk_frozen BK294.out 3
     have hcz27_0 : w18.cell? ⟨gb282,0,none⟩ = some (.int .i64 t274) := (blk_cell BK282.out 0).trans rfl
     have hcz27_1 : w18.cell? ⟨gb282,1,none⟩ = some (.int .i64 t275) := (blk_cell BK282.out 1).trans rfl
     have hcz27_2 : w18.cell? ⟨gb282,2,none⟩ = some (.int .i64 t276) := (blk_cell BK282.out 2).trans rfl
     have hcz27_3 : w18.cell? ⟨gb282,3,none⟩ = some (.slice Ao14 t277.length co14) := (blk_cell BK282.out 3).trans rfl
     have hfz27_0 := blk_frozen BK282.out 0
     have hfz27_1 := blk_frozen BK282.out 1
     have hfz27_2 := blk_frozen BK282.out 2
     have hfz27_3 := blk_frozen BK282.out 3
     go_wp2_with (first | ((with_reducible refine gate_callee (f := 16) rfl ?_);refine goesL_ (some 40) rfl rfl Try.func16 (by kernel_rfl) rfl #[.agg #[.int .i64 t286,.int .i64 t287,.int .i64 t288,.slice Ao21 t289.length co21],.agg #[.int .i64 t274,.int .i64 t275,.int .i64 t276,.slice Ao14 t277.length co14]] rfl eq_up ?_;(with_reducible refine (laws_eqManifest.calls k t286 t287 t288 _ _ t289 t274 t275 t276 _ _ t277 true _ ?side1 ?side2 ?side3 ?side4 A22.out).mono ?_);(case side1 => refine (Kd.R_reads' (e := 66) (base := w.heap.size) (ok := fun k_ => (True ∧ some k_ ≠ (.slice Ao14 t277.length co14 : Value).ownBlock)) (n := t289.length) (c := co21) ?_).2.2;exact (by (with_reducible repeat (first | apply Kd.R_alloc | apply Kd.R_drewN | apply Kd.R_drew));exact (Kd.R_mono (Kd.R_far (p := ⟨gb294,3,none⟩) (Kd.R_far (p := ⟨gb294,2,none⟩) (Kd.R_far (p := ⟨gb294,1,none⟩) (Kd.R_far (p := ⟨gb294,0,none⟩) (Kd.R_types HO291.out BK294.out (by decide)) (fun _ hk => hk.2) (.int .i64 t286)) (fun _ hk => hk.2) (.int .i64 t287)) (fun _ hk => hk.2) (.int .i64 t288)) (fun _ hk => hk.2) (.slice Ao21 t289.length co21)) (fun _ h_ => h_.1))));(case side2 => exact (Kd.R_reads' HO291.out).2.1);(case side3 => refine (Kd.R_reads' (e := 66) (base := w.heap.size) (ok := fun k_ => (True ∧ some k_ ≠ (.slice Ao21 t289.length co21 : Value).ownBlock)) (n := t277.length) (c := co14) ?_).2.2;exact (by (with_reducible repeat (first | apply Kd.R_alloc | apply Kd.R_drewN | apply Kd.R_drew));exact (Kd.R_mono (Kd.R_far (p := ⟨gb294,3,none⟩) (Kd.R_far (p := ⟨gb294,2,none⟩) (Kd.R_far (p := ⟨gb294,1,none⟩) (Kd.R_far (p := ⟨gb294,0,none⟩) (Kd.R_types HO279.out BK294.out (by decide)) (fun _ hk => hk.2) (.int .i64 t286)) (fun _ hk => hk.2) (.int .i64 t287)) (fun _ hk => hk.2) (.int .i64 t288)) (fun _ hk => hk.2) (.slice Ao21 t289.length co21)) (fun _ h_ => h_.1))));(case side4 => exact (Kd.R_reads' HO279.out).2.1);rintro e w28 ⟨rfl,hb⟩;refine ⟨_,rfl,?_⟩;have n0_ := Aside0.mk (Kd.R_below (by (with_reducible repeat (first | apply Kd.R_alloc | apply Kd.R_drewN | apply Kd.R_drew));exact (Kd.R_mono (Kd.R_far (p := ⟨gb294,3,none⟩) (Kd.R_far (p := ⟨gb294,2,none⟩) (Kd.R_far (p := ⟨gb294,1,none⟩) (Kd.R_far (p := ⟨gb294,0,none⟩) (Kd.R_types HO273.out BK294.out (by decide)) (fun _ hk => hk.2) (.int .i64 t286)) (fun _ hk => hk.2) (.int .i64 t287)) (fun _ hk => hk.2) (.int .i64 t288)) (fun _ hk => hk.2) (.slice Ao21 t289.length co21)) (fun _ h_ => h_.1))) hb);have n1_ := Aside0.mk (Kd.R_below (by (with_reducible repeat (first | apply Kd.R_alloc | apply Kd.R_drewN | apply Kd.R_drew));exact (Kd.R_mono (Kd.R_far (p := ⟨gb294,3,none⟩) (Kd.R_far (p := ⟨gb294,2,none⟩) (Kd.R_far (p := ⟨gb294,1,none⟩) (Kd.R_far (p := ⟨gb294,0,none⟩) (Kd.R_types HO279.out BK294.out (by decide)) (fun _ hk => hk.2) (.int .i64 t286)) (fun _ hk => hk.2) (.int .i64 t287)) (fun _ hk => hk.2) (.int .i64 t288)) (fun _ hk => hk.2) (.slice Ao21 t289.length co21)) (fun _ h_ => h_.1))) hb);have n2_ := Aside0.mk (Kd.R_below (by (with_reducible repeat (first | apply Kd.R_alloc | apply Kd.R_drewN | apply Kd.R_drew));exact (Kd.R_mono (Kd.R_far (p := ⟨gb294,3,none⟩) (Kd.R_far (p := ⟨gb294,2,none⟩) (Kd.R_far (p := ⟨gb294,1,none⟩) (Kd.R_far (p := ⟨gb294,0,none⟩) (Kd.R_types HO285.out BK294.out (by decide)) (fun _ hk => hk.2) (.int .i64 t286)) (fun _ hk => hk.2) (.int .i64 t287)) (fun _ hk => hk.2) (.int .i64 t288)) (fun _ hk => hk.2) (.slice Ao21 t289.length co21)) (fun _ h_ => h_.1))) hb);have n3_ := Aside0.mk (Kd.R_below (by (with_reducible repeat (first | apply Kd.R_alloc | apply Kd.R_drewN | apply Kd.R_drew));exact (Kd.R_mono (Kd.R_far (p := ⟨gb294,3,none⟩) (Kd.R_far (p := ⟨gb294,2,none⟩) (Kd.R_far (p := ⟨gb294,1,none⟩) (Kd.R_far (p := ⟨gb294,0,none⟩) (Kd.R_types HO291.out BK294.out (by decide)) (fun _ hk => hk.2) (.int .i64 t286)) (fun _ hk => hk.2) (.int .i64 t287)) (fun _ hk => hk.2) (.int .i64 t288)) (fun _ hk => hk.2) (.slice Ao21 t289.length co21)) (fun _ h_ => h_.1))) hb);have n4_ := Aside0.mk (blk_below (g := gb282) (o := .cells #[.int .i64 t274,.int .i64 t275,.int .i64 t276,.slice Ao14 t277.length co14] 31 (0,0)) (by (with_reducible repeat (first | refine blk_drewN ?_ _ | refine blk_drew ?_ | refine blk_alloc ?_ _));refine blk_far ?_ NB282_294.out _;(with_reducible repeat (first | refine blk_drewN ?_ _ | refine blk_drew ?_ | refine blk_alloc ?_ _));refine blk_far ?_ NB282_294.out _;(with_reducible repeat (first | refine blk_drewN ?_ _ | refine blk_drew ?_ | refine blk_alloc ?_ _));refine blk_far ?_ NB282_294.out _;(with_reducible repeat (first | refine blk_drewN ?_ _ | refine blk_drew ?_ | refine blk_alloc ?_ _));refine blk_far ?_ NB282_294.out _;(with_reducible repeat (first | refine blk_drewN ?_ _ | refine blk_drew ?_ | refine blk_alloc ?_ _));exact BK282.out) hb);have n5_ := Aside0.mk (blk_below (g := gb294) (o := .cells #[.int .i64 t286,.int .i64 t287,.int .i64 t288,.slice Ao21 t289.length co21] 31 (0,0)) (by (with_reducible repeat (first | refine blk_drewN ?_ _ | refine blk_drew ?_ | refine blk_alloc ?_ _));refine blk_put (cs := #[.int .i64 t286,.int .i64 t287,.int .i64 t288,.slice none 0 0]) ?_ 3 _ rfl;(with_reducible repeat (first | refine blk_drewN ?_ _ | refine blk_drew ?_ | refine blk_alloc ?_ _));refine blk_put (cs := #[.int .i64 t286,.int .i64 t287,.int .i64 0,.slice none 0 0]) ?_ 2 _ rfl;(with_reducible repeat (first | refine blk_drewN ?_ _ | refine blk_drew ?_ | refine blk_alloc ?_ _));refine blk_put (cs := #[.int .i64 t286,.int .i64 0,.int .i64 0,.slice none 0 0]) ?_ 1 _ rfl;(with_reducible repeat (first | refine blk_drewN ?_ _ | refine blk_drew ?_ | refine blk_alloc ?_ _));refine blk_put (cs := #[.int .i64 0,.int .i64 0,.int .i64 0,.slice none 0 0]) ?_ 0 _ rfl;(with_reducible repeat (first | refine blk_drewN ?_ _ | refine blk_drew ?_ | refine blk_alloc ?_ _));exact BK294.out) hb);have n6_ := Aside0.mk (below_step (B_set HB.out) hb);clear HO273;clear HO279;clear HO285;clear HO291;clear BK282;clear BK294;clear HB;have HO273 := n0_;have HO279 := n1_;have HO285 := n2_;have HO291 := n3_;have BK282 := n4_;have BK294 := n5_;have HB := n6_;clear n0_ n1_ n2_ n3_ n4_ n5_ n6_;(try clear hb);(try clear hb2);(try clear hk);(try clear hi)))
     go_meet
     case rel => exact ⟨_,((t293 != t281)),(by first | rfl | (simp;done) | (simp [*];done)),H',⟨by first | omega | exact Nat.le_refl _⟩,⟨by (with_reducible repeat (first | apply Kd.R_alloc | apply Kd.R_drewN | apply Kd.R_drew));exact Kd.R_mono HO285.out (fun _ hk => trivial)⟩,⟨by (with_reducible repeat (first | apply Kd.R_alloc | apply Kd.R_drewN | apply Kd.R_drew));exact Kd.R_mono HO279.out (fun _ hk => hk.2)⟩,⟨by (with_reducible repeat (first | apply Kd.R_alloc | apply Kd.R_drewN | apply Kd.R_drew));exact Kd.R_mono HO291.out (fun _ hk => hk.2)⟩,⟨by (with_reducible repeat (first | refine blk_drewN ?_ _ | refine blk_drew ?_ | refine blk_alloc ?_ _));exact BK282.out⟩,⟨by (with_reducible repeat (first | refine blk_drewN ?_ _ | refine blk_drew ?_ | refine blk_alloc ?_ _));exact BK294.out⟩,⟨by repeat (first | (with_reducible first | exact HB.out | apply below_alloc | apply pw_below_drewN | apply below_drew1 | refine below_set ?_ GE282.out | refine below_set ?_ GE294.out) | exact HB.out)⟩⟩
    ·rw [if_neg c24] at H
     have c24b0 : (t292 == t280) = false := beq_eq_false_iff_ne.mpr c24
     have c24b1 : (t292 != t280) = true := bne_iff_ne.mpr c24
     (first | rw [c24b0] | (simp only [i64_w,i32_w];rw [c24b0]) | skip)
     have H' := Aside0.mk H
     clear H
     have hnb29 := NB294_282.out
     have hnc29 := NB282_294.out
     have hcz30_0 : w18.cell? ⟨gb294,0,none⟩ = some (.int .i64 0) := (blk_cell BK294.out 0).trans rfl
     have hcz30_1 : w18.cell? ⟨gb294,1,none⟩ = some (.int .i64 0) := (blk_cell BK294.out 1).trans rfl
     have hcz30_2 : w18.cell? ⟨gb294,2,none⟩ = some (.int .i64 0) := (blk_cell BK294.out 2).trans rfl
     have hcz30_3 : w18.cell? ⟨gb294,3,none⟩ = some (.slice none 0 0) := (blk_cell BK294.out 3).trans rfl
     have hfz30_0 := blk_frozen BK294.out 0
     have hfz30_1 := blk_frozen BK294.out 1
     have hfz30_2 := blk_frozen BK294.out 2
     have hfz30_3 := blk_frozen BK294.out 3
     have hcz31_0 : w18.cell? ⟨gb282,0,none⟩ = some (.int .i64 t274) := (blk_cell BK282.out 0).trans rfl
     have hcz31_1 : w18.cell? ⟨gb282,1,none⟩ = some (.int .i64 t275) := (blk_cell BK282.out 1).trans rfl
     have hcz31_2 : w18.cell? ⟨gb282,2,none⟩ = some (.int .i64 t276) := (blk_cell BK282.out 2).trans rfl
     have hcz31_3 : w18.cell? ⟨gb282,3,none⟩ = some (.slice Ao14 t277.length co14) := (blk_cell BK282.out 3).trans rfl
     have hfz31_0 := blk_frozen BK282.out 0
     have hfz31_1 := blk_frozen BK282.out 1
     have hfz31_2 := blk_frozen BK282.out 2
     have hfz31_3 := blk_frozen BK282.out 3
     go_wp2_with (first | ((with_reducible refine gate_callee (f := 16) rfl ?_);refine goesL_ (some 40) rfl rfl Try.func16 (by kernel_rfl) rfl #[.agg #[.int .i64 t286,.int .i64 t287,.int .i64 t288,.slice Ao21 t289.length co21],.agg #[.int .i64 t274,.int .i64 t275,.int .i64 t276,.slice Ao14 t277.length co14]] rfl eq_up ?_;(with_reducible refine (laws_eqManifest.calls k t286 t287 t288 _ _ t289 t274 t275 t276 _ _ t277 true _ ?side1 ?side2 ?side3 ?side4 A22.out).mono ?_);(case side1 => refine (Kd.R_reads' (e := 66) (base := w.heap.size) (ok := fun k_ => (True ∧ some k_ ≠ (.slice Ao14 t277.length co14 : Value).ownBlock)) (n := t289.length) (c := co21) ?_).2.2;exact (by (with_reducible repeat (first | apply Kd.R_alloc | apply Kd.R_drewN | apply Kd.R_drew));exact (Kd.R_mono (Kd.R_far (p := ⟨gb294,3,none⟩) (Kd.R_far (p := ⟨gb294,2,none⟩) (Kd.R_far (p := ⟨gb294,1,none⟩) (Kd.R_far (p := ⟨gb294,0,none⟩) (Kd.R_types HO291.out BK294.out (by decide)) (fun _ hk => hk.2) (.int .i64 t286)) (fun _ hk => hk.2) (.int .i64 t287)) (fun _ hk => hk.2) (.int .i64 t288)) (fun _ hk => hk.2) (.slice Ao21 t289.length co21)) (fun _ h_ => h_.1))));(case side2 => exact (Kd.R_reads' HO291.out).2.1);(case side3 => refine (Kd.R_reads' (e := 66) (base := w.heap.size) (ok := fun k_ => (True ∧ some k_ ≠ (.slice Ao21 t289.length co21 : Value).ownBlock)) (n := t277.length) (c := co14) ?_).2.2;exact (by (with_reducible repeat (first | apply Kd.R_alloc | apply Kd.R_drewN | apply Kd.R_drew));exact (Kd.R_mono (Kd.R_far (p := ⟨gb294,3,none⟩) (Kd.R_far (p := ⟨gb294,2,none⟩) (Kd.R_far (p := ⟨gb294,1,none⟩) (Kd.R_far (p := ⟨gb294,0,none⟩) (Kd.R_types HO279.out BK294.out (by decide)) (fun _ hk => hk.2) (.int .i64 t286)) (fun _ hk => hk.2) (.int .i64 t287)) (fun _ hk => hk.2) (.int .i64 t288)) (fun _ hk => hk.2) (.slice Ao21 t289.length co21)) (fun _ h_ => h_.1))));(case side4 => exact (Kd.R_reads' HO279.out).2.1);rintro e w32 ⟨rfl,hb⟩;refine ⟨_,rfl,?_⟩;have n0_ := Aside0.mk (Kd.R_below (by (with_reducible repeat (first | apply Kd.R_alloc | apply Kd.R_drewN | apply Kd.R_drew));exact (Kd.R_mono (Kd.R_far (p := ⟨gb294,3,none⟩) (Kd.R_far (p := ⟨gb294,2,none⟩) (Kd.R_far (p := ⟨gb294,1,none⟩) (Kd.R_far (p := ⟨gb294,0,none⟩) (Kd.R_types HO273.out BK294.out (by decide)) (fun _ hk => hk.2) (.int .i64 t286)) (fun _ hk => hk.2) (.int .i64 t287)) (fun _ hk => hk.2) (.int .i64 t288)) (fun _ hk => hk.2) (.slice Ao21 t289.length co21)) (fun _ h_ => h_.1))) hb);have n1_ := Aside0.mk (Kd.R_below (by (with_reducible repeat (first | apply Kd.R_alloc | apply Kd.R_drewN | apply Kd.R_drew));exact (Kd.R_mono (Kd.R_far (p := ⟨gb294,3,none⟩) (Kd.R_far (p := ⟨gb294,2,none⟩) (Kd.R_far (p := ⟨gb294,1,none⟩) (Kd.R_far (p := ⟨gb294,0,none⟩) (Kd.R_types HO279.out BK294.out (by decide)) (fun _ hk => hk.2) (.int .i64 t286)) (fun _ hk => hk.2) (.int .i64 t287)) (fun _ hk => hk.2) (.int .i64 t288)) (fun _ hk => hk.2) (.slice Ao21 t289.length co21)) (fun _ h_ => h_.1))) hb);have n2_ := Aside0.mk (Kd.R_below (by (with_reducible repeat (first | apply Kd.R_alloc | apply Kd.R_drewN | apply Kd.R_drew));exact (Kd.R_mono (Kd.R_far (p := ⟨gb294,3,none⟩) (Kd.R_far (p := ⟨gb294,2,none⟩) (Kd.R_far (p := ⟨gb294,1,none⟩) (Kd.R_far (p := ⟨gb294,0,none⟩) (Kd.R_types HO285.out BK294.out (by decide)) (fun _ hk => hk.2) (.int .i64 t286)) (fun _ hk => hk.2) (.int .i64 t287)) (fun _ hk => hk.2) (.int .i64 t288)) (fun _ hk => hk.2) (.slice Ao21 t289.length co21)) (fun _ h_ => h_.1))) hb);have n3_ := Aside0.mk (Kd.R_below (by (with_reducible repeat (first | apply Kd.R_alloc | apply Kd.R_drewN | apply Kd.R_drew));exact (Kd.R_mono (Kd.R_far (p := ⟨gb294,3,none⟩) (Kd.R_far (p := ⟨gb294,2,none⟩) (Kd.R_far (p := ⟨gb294,1,none⟩) (Kd.R_far (p := ⟨gb294,0,none⟩) (Kd.R_types HO291.out BK294.out (by decide)) (fun _ hk => hk.2) (.int .i64 t286)) (fun _ hk => hk.2) (.int .i64 t287)) (fun _ hk => hk.2) (.int .i64 t288)) (fun _ hk => hk.2) (.slice Ao21 t289.length co21)) (fun _ h_ => h_.1))) hb);have n4_ := Aside0.mk (blk_below (g := gb282) (o := .cells #[.int .i64 t274,.int .i64 t275,.int .i64 t276,.slice Ao14 t277.length co14] 31 (0,0)) (by (with_reducible repeat (first | refine blk_drewN ?_ _ | refine blk_drew ?_ | refine blk_alloc ?_ _));refine blk_far ?_ NB282_294.out _;(with_reducible repeat (first | refine blk_drewN ?_ _ | refine blk_drew ?_ | refine blk_alloc ?_ _));refine blk_far ?_ NB282_294.out _;(with_reducible repeat (first | refine blk_drewN ?_ _ | refine blk_drew ?_ | refine blk_alloc ?_ _));refine blk_far ?_ NB282_294.out _;(with_reducible repeat (first | refine blk_drewN ?_ _ | refine blk_drew ?_ | refine blk_alloc ?_ _));refine blk_far ?_ NB282_294.out _;(with_reducible repeat (first | refine blk_drewN ?_ _ | refine blk_drew ?_ | refine blk_alloc ?_ _));exact BK282.out) hb);have n5_ := Aside0.mk (blk_below (g := gb294) (o := .cells #[.int .i64 t286,.int .i64 t287,.int .i64 t288,.slice Ao21 t289.length co21] 31 (0,0)) (by (with_reducible repeat (first | refine blk_drewN ?_ _ | refine blk_drew ?_ | refine blk_alloc ?_ _));refine blk_put (cs := #[.int .i64 t286,.int .i64 t287,.int .i64 t288,.slice none 0 0]) ?_ 3 _ rfl;(with_reducible repeat (first | refine blk_drewN ?_ _ | refine blk_drew ?_ | refine blk_alloc ?_ _));refine blk_put (cs := #[.int .i64 t286,.int .i64 t287,.int .i64 0,.slice none 0 0]) ?_ 2 _ rfl;(with_reducible repeat (first | refine blk_drewN ?_ _ | refine blk_drew ?_ | refine blk_alloc ?_ _));refine blk_put (cs := #[.int .i64 t286,.int .i64 0,.int .i64 0,.slice none 0 0]) ?_ 1 _ rfl;(with_reducible repeat (first | refine blk_drewN ?_ _ | refine blk_drew ?_ | refine blk_alloc ?_ _));refine blk_put (cs := #[.int .i64 0,.int .i64 0,.int .i64 0,.slice none 0 0]) ?_ 0 _ rfl;(with_reducible repeat (first | refine blk_drewN ?_ _ | refine blk_drew ?_ | refine blk_alloc ?_ _));exact BK294.out) hb);have n6_ := Aside0.mk (below_step (B_set HB.out) hb);clear HO273;clear HO279;clear HO285;clear HO291;clear BK282;clear BK294;clear HB;have HO273 := n0_;have HO279 := n1_;have HO285 := n2_;have HO291 := n3_;have BK282 := n4_;have BK294 := n5_;have HB := n6_;clear n0_ n1_ n2_ n3_ n4_ n5_ n6_;(try clear hb);(try clear hb2);(try clear hk);(try clear hi)))
     go_meet
     case rel => exact ⟨_,(true),(by first | rfl | (simp;done) | (simp [*];done)),H',⟨by first | omega | exact Nat.le_refl _⟩,⟨by (with_reducible repeat (first | apply Kd.R_alloc | apply Kd.R_drewN | apply Kd.R_drew));exact Kd.R_mono HO285.out (fun _ hk => trivial)⟩,⟨by (with_reducible repeat (first | apply Kd.R_alloc | apply Kd.R_drewN | apply Kd.R_drew));exact Kd.R_mono HO279.out (fun _ hk => hk.2)⟩,⟨by (with_reducible repeat (first | apply Kd.R_alloc | apply Kd.R_drewN | apply Kd.R_drew));exact Kd.R_mono HO291.out (fun _ hk => hk.2)⟩,⟨by (with_reducible repeat (first | refine blk_drewN ?_ _ | refine blk_drew ?_ | refine blk_alloc ?_ _));exact BK282.out⟩,⟨by (with_reducible repeat (first | refine blk_drewN ?_ _ | refine blk_drew ?_ | refine blk_alloc ?_ _));exact BK294.out⟩,⟨by repeat (first | (with_reducible first | exact HB.out | apply below_alloc | apply pw_below_drewN | apply below_drew1 | refine below_set ?_ GE282.out | refine below_set ?_ GE294.out) | exact HB.out)⟩⟩
   ·replace c23 := Bool.eq_false_iff.mpr c23
    subst c23
    have H1 : (laws_FnExactGetMan.j0 k l0 a1 t280 t281 t283 t292 t293 true t274 t275 t276 t277 t286 t287 t288 t289) = some r := by rw [if_neg (show ¬ (false = true) by decide)] at H;exact H
    clear H
    have H := H1
    clear H1
    have H' := Aside0.mk H
    clear H
    have hnb33 := NB294_282.out
    have hnc33 := NB282_294.out
    have hcz34_0 : w18.cell? ⟨gb294,0,none⟩ = some (.int .i64 0) := (blk_cell BK294.out 0).trans rfl
    have hcz34_1 : w18.cell? ⟨gb294,1,none⟩ = some (.int .i64 0) := (blk_cell BK294.out 1).trans rfl
    have hcz34_2 : w18.cell? ⟨gb294,2,none⟩ = some (.int .i64 0) := (blk_cell BK294.out 2).trans rfl
    have hcz34_3 : w18.cell? ⟨gb294,3,none⟩ = some (.slice none 0 0) := (blk_cell BK294.out 3).trans rfl
    have hfz34_0 := blk_frozen BK294.out 0
    have hfz34_1 := blk_frozen BK294.out 1
    have hfz34_2 := blk_frozen BK294.out 2
    have hfz34_3 := blk_frozen BK294.out 3
    have hcz35_0 : w18.cell? ⟨gb282,0,none⟩ = some (.int .i64 t274) := (blk_cell BK282.out 0).trans rfl
    have hcz35_1 : w18.cell? ⟨gb282,1,none⟩ = some (.int .i64 t275) := (blk_cell BK282.out 1).trans rfl
    have hcz35_2 : w18.cell? ⟨gb282,2,none⟩ = some (.int .i64 t276) := (blk_cell BK282.out 2).trans rfl
    have hcz35_3 : w18.cell? ⟨gb282,3,none⟩ = some (.slice Ao14 t277.length co14) := (blk_cell BK282.out 3).trans rfl
    have hfz35_0 := blk_frozen BK282.out 0
    have hfz35_1 := blk_frozen BK282.out 1
    have hfz35_2 := blk_frozen BK282.out 2
    have hfz35_3 := blk_frozen BK282.out 3
    go_wp2_with (first | ((with_reducible refine gate_callee (f := 16) rfl ?_);refine goesL_ (some 40) rfl rfl Try.func16 (by kernel_rfl) rfl #[.agg #[.int .i64 t286,.int .i64 t287,.int .i64 t288,.slice Ao21 t289.length co21],.agg #[.int .i64 t274,.int .i64 t275,.int .i64 t276,.slice Ao14 t277.length co14]] rfl eq_up ?_;(with_reducible refine (laws_eqManifest.calls k t286 t287 t288 _ _ t289 t274 t275 t276 _ _ t277 false _ ?side1 ?side2 ?side3 ?side4 A22.out).mono ?_);(case side1 => refine (Kd.R_reads' (e := 66) (base := w.heap.size) (ok := fun k_ => (True ∧ some k_ ≠ (.slice Ao14 t277.length co14 : Value).ownBlock)) (n := t289.length) (c := co21) ?_).2.2;exact (by (with_reducible repeat (first | apply Kd.R_alloc | apply Kd.R_drewN | apply Kd.R_drew));exact (Kd.R_mono (Kd.R_far (p := ⟨gb294,3,none⟩) (Kd.R_far (p := ⟨gb294,2,none⟩) (Kd.R_far (p := ⟨gb294,1,none⟩) (Kd.R_far (p := ⟨gb294,0,none⟩) (Kd.R_types HO291.out BK294.out (by decide)) (fun _ hk => hk.2) (.int .i64 t286)) (fun _ hk => hk.2) (.int .i64 t287)) (fun _ hk => hk.2) (.int .i64 t288)) (fun _ hk => hk.2) (.slice Ao21 t289.length co21)) (fun _ h_ => h_.1))));(case side2 => exact (Kd.R_reads' HO291.out).2.1);(case side3 => refine (Kd.R_reads' (e := 66) (base := w.heap.size) (ok := fun k_ => (True ∧ some k_ ≠ (.slice Ao21 t289.length co21 : Value).ownBlock)) (n := t277.length) (c := co14) ?_).2.2;exact (by (with_reducible repeat (first | apply Kd.R_alloc | apply Kd.R_drewN | apply Kd.R_drew));exact (Kd.R_mono (Kd.R_far (p := ⟨gb294,3,none⟩) (Kd.R_far (p := ⟨gb294,2,none⟩) (Kd.R_far (p := ⟨gb294,1,none⟩) (Kd.R_far (p := ⟨gb294,0,none⟩) (Kd.R_types HO279.out BK294.out (by decide)) (fun _ hk => hk.2) (.int .i64 t286)) (fun _ hk => hk.2) (.int .i64 t287)) (fun _ hk => hk.2) (.int .i64 t288)) (fun _ hk => hk.2) (.slice Ao21 t289.length co21)) (fun _ h_ => h_.1))));(case side4 => exact (Kd.R_reads' HO279.out).2.1);rintro e w36 ⟨rfl,hb⟩;refine ⟨_,rfl,?_⟩;have n0_ := Aside0.mk (Kd.R_below (by (with_reducible repeat (first | apply Kd.R_alloc | apply Kd.R_drewN | apply Kd.R_drew));exact (Kd.R_mono (Kd.R_far (p := ⟨gb294,3,none⟩) (Kd.R_far (p := ⟨gb294,2,none⟩) (Kd.R_far (p := ⟨gb294,1,none⟩) (Kd.R_far (p := ⟨gb294,0,none⟩) (Kd.R_types HO273.out BK294.out (by decide)) (fun _ hk => hk.2) (.int .i64 t286)) (fun _ hk => hk.2) (.int .i64 t287)) (fun _ hk => hk.2) (.int .i64 t288)) (fun _ hk => hk.2) (.slice Ao21 t289.length co21)) (fun _ h_ => h_.1))) hb);have n1_ := Aside0.mk (Kd.R_below (by (with_reducible repeat (first | apply Kd.R_alloc | apply Kd.R_drewN | apply Kd.R_drew));exact (Kd.R_mono (Kd.R_far (p := ⟨gb294,3,none⟩) (Kd.R_far (p := ⟨gb294,2,none⟩) (Kd.R_far (p := ⟨gb294,1,none⟩) (Kd.R_far (p := ⟨gb294,0,none⟩) (Kd.R_types HO279.out BK294.out (by decide)) (fun _ hk => hk.2) (.int .i64 t286)) (fun _ hk => hk.2) (.int .i64 t287)) (fun _ hk => hk.2) (.int .i64 t288)) (fun _ hk => hk.2) (.slice Ao21 t289.length co21)) (fun _ h_ => h_.1))) hb);have n2_ := Aside0.mk (Kd.R_below (by (with_reducible repeat (first | apply Kd.R_alloc | apply Kd.R_drewN | apply Kd.R_drew));exact (Kd.R_mono (Kd.R_far (p := ⟨gb294,3,none⟩) (Kd.R_far (p := ⟨gb294,2,none⟩) (Kd.R_far (p := ⟨gb294,1,none⟩) (Kd.R_far (p := ⟨gb294,0,none⟩) (Kd.R_types HO285.out BK294.out (by decide)) (fun _ hk => hk.2) (.int .i64 t286)) (fun _ hk => hk.2) (.int .i64 t287)) (fun _ hk => hk.2) (.int .i64 t288)) (fun _ hk => hk.2) (.slice Ao21 t289.length co21)) (fun _ h_ => h_.1))) hb);have n3_ := Aside0.mk (Kd.R_below (by (with_reducible repeat (first | apply Kd.R_alloc | apply Kd.R_drewN | apply Kd.R_drew));exact (Kd.R_mono (Kd.R_far (p := ⟨gb294,3,none⟩) (Kd.R_far (p := ⟨gb294,2,none⟩) (Kd.R_far (p := ⟨gb294,1,none⟩) (Kd.R_far (p := ⟨gb294,0,none⟩) (Kd.R_types HO291.out BK294.out (by decide)) (fun _ hk => hk.2) (.int .i64 t286)) (fun _ hk => hk.2) (.int .i64 t287)) (fun _ hk => hk.2) (.int .i64 t288)) (fun _ hk => hk.2) (.slice Ao21 t289.length co21)) (fun _ h_ => h_.1))) hb);have n4_ := Aside0.mk (blk_below (g := gb282) (o := .cells #[.int .i64 t274,.int .i64 t275,.int .i64 t276,.slice Ao14 t277.length co14] 31 (0,0)) (by (with_reducible repeat (first | refine blk_drewN ?_ _ | refine blk_drew ?_ | refine blk_alloc ?_ _));refine blk_far ?_ NB282_294.out _;(with_reducible repeat (first | refine blk_drewN ?_ _ | refine blk_drew ?_ | refine blk_alloc ?_ _));refine blk_far ?_ NB282_294.out _;(with_reducible repeat (first | refine blk_drewN ?_ _ | refine blk_drew ?_ | refine blk_alloc ?_ _));refine blk_far ?_ NB282_294.out _;(with_reducible repeat (first | refine blk_drewN ?_ _ | refine blk_drew ?_ | refine blk_alloc ?_ _));refine blk_far ?_ NB282_294.out _;(with_reducible repeat (first | refine blk_drewN ?_ _ | refine blk_drew ?_ | refine blk_alloc ?_ _));exact BK282.out) hb);have n5_ := Aside0.mk (blk_below (g := gb294) (o := .cells #[.int .i64 t286,.int .i64 t287,.int .i64 t288,.slice Ao21 t289.length co21] 31 (0,0)) (by (with_reducible repeat (first | refine blk_drewN ?_ _ | refine blk_drew ?_ | refine blk_alloc ?_ _));refine blk_put (cs := #[.int .i64 t286,.int .i64 t287,.int .i64 t288,.slice none 0 0]) ?_ 3 _ rfl;(with_reducible repeat (first | refine blk_drewN ?_ _ | refine blk_drew ?_ | refine blk_alloc ?_ _));refine blk_put (cs := #[.int .i64 t286,.int .i64 t287,.int .i64 0,.slice none 0 0]) ?_ 2 _ rfl;(with_reducible repeat (first | refine blk_drewN ?_ _ | refine blk_drew ?_ | refine blk_alloc ?_ _));refine blk_put (cs := #[.int .i64 t286,.int .i64 0,.int .i64 0,.slice none 0 0]) ?_ 1 _ rfl;(with_reducible repeat (first | refine blk_drewN ?_ _ | refine blk_drew ?_ | refine blk_alloc ?_ _));refine blk_put (cs := #[.int .i64 0,.int .i64 0,.int .i64 0,.slice none 0 0]) ?_ 0 _ rfl;(with_reducible repeat (first | refine blk_drewN ?_ _ | refine blk_drew ?_ | refine blk_alloc ?_ _));exact BK294.out) hb);have n6_ := Aside0.mk (below_step (B_set HB.out) hb);clear HO273;clear HO279;clear HO285;clear HO291;clear BK282;clear BK294;clear HB;have HO273 := n0_;have HO279 := n1_;have HO285 := n2_;have HO291 := n3_;have BK282 := n4_;have BK294 := n5_;have HB := n6_;clear n0_ n1_ n2_ n3_ n4_ n5_ n6_;(try clear hb);(try clear hb2);(try clear hk);(try clear hi)))
    go_meet
    case rel => exact ⟨_,(true),(by first | rfl | (simp;done) | (simp [*];done)),H',⟨by first | omega | exact Nat.le_refl _⟩,⟨by (with_reducible repeat (first | apply Kd.R_alloc | apply Kd.R_drewN | apply Kd.R_drew));exact Kd.R_mono HO285.out (fun _ hk => trivial)⟩,⟨by (with_reducible repeat (first | apply Kd.R_alloc | apply Kd.R_drewN | apply Kd.R_drew));exact Kd.R_mono HO279.out (fun _ hk => hk.2)⟩,⟨by (with_reducible repeat (first | apply Kd.R_alloc | apply Kd.R_drewN | apply Kd.R_drew));exact Kd.R_mono HO291.out (fun _ hk => hk.2)⟩,⟨by (with_reducible repeat (first | refine blk_drewN ?_ _ | refine blk_drew ?_ | refine blk_alloc ?_ _));exact BK282.out⟩,⟨by (with_reducible repeat (first | refine blk_drewN ?_ _ | refine blk_drew ?_ | refine blk_alloc ?_ _));exact BK294.out⟩,⟨by repeat (first | (with_reducible first | exact HB.out | apply below_alloc | apply pw_below_drewN | apply below_drew1 | refine below_set ?_ GE282.out | refine below_set ?_ GE294.out) | exact HB.out)⟩⟩
  case rest =>
   clear HC8
   try clear c1
   try clear c2
   try clear p2
   try clear c3
   try clear c3b0
   try clear c3b1
   try clear c8
   try clear c12
   try clear c16
   try clear c19
   try clear c23
   try clear c24
   try clear c24b0
   try clear c24b1
   try clear c25
   try clear c29
   try clear c31
   try clear c32
   try clear c33
   try clear hcz13_0
   try clear hcz13_1
   try clear hcz13_2
   try clear hcz13_3
   try clear hcz20_0
   try clear hcz20_1
   try clear hcz20_2
   try clear hcz20_3
   try clear hcz26_0
   try clear hcz26_1
   try clear hcz26_2
   try clear hcz26_3
   try clear hcz27_0
   try clear hcz27_1
   try clear hcz27_2
   try clear hcz27_3
   try clear hcz30_0
   try clear hcz30_1
   try clear hcz30_2
   try clear hcz30_3
   try clear hcz31_0
   try clear hcz31_1
   try clear hcz31_2
   try clear hcz31_3
   try clear hcz34_0
   try clear hcz34_1
   try clear hcz34_2
   try clear hcz34_3
   try clear hcz35_0
   try clear hcz35_1
   try clear hcz35_2
   try clear hcz35_3
   try clear hfz13_0
   try clear hfz13_1
   try clear hfz13_2
   try clear hfz13_3
   try clear hfz20_0
   try clear hfz20_1
   try clear hfz20_2
   try clear hfz20_3
   try clear hfz26_0
   try clear hfz26_1
   try clear hfz26_2
   try clear hfz26_3
   try clear hfz27_0
   try clear hfz27_1
   try clear hfz27_2
   try clear hfz27_3
   try clear hfz30_0
   try clear hfz30_1
   try clear hfz30_2
   try clear hfz30_3
   try clear hfz31_0
   try clear hfz31_1
   try clear hfz31_2
   try clear hfz31_3
   try clear hfz34_0
   try clear hfz34_1
   try clear hfz34_2
   try clear hfz34_3
   try clear hfz35_0
   try clear hfz35_1
   try clear hfz35_2
   try clear hfz35_3
   obtain ⟨kq,x51_7,rfl,HA,HJ7,HO_8,HO_283003,HO_295003,BK282,BK294,HB⟩ := hcut
   cases kq with
   | zero => exact absurd HA.out (by simp [laws_FnExactGetMan.j0])
   | succ kj7 =>
    have H := HA.out
    clear HA
    simp only [laws_FnExactGetMan.j0] at H
    by_cases c37 : x51_7 = true
    ·subst c37
     rw [if_pos rfl] at H
     obtain rfl := Option.some.inj H
     go_wp2
     go_ret
     exact ⟨by first | rfl | (simp [errW_none,errW_some] <;> rfl) | (simp [*,errW_none,errW_some] <;> rfl),by repeat (first | (with_reducible first | exact HB.out | apply below_alloc | apply pw_below_drewN | apply below_drew1 | refine below_set ?_ GE282.out | refine below_set ?_ GE294.out) | exact HB.out)⟩
    ·replace c37 := Bool.eq_false_iff.mpr c37
     subst c37
     have H1 : ((laws_toByteS.f kj7 l0).bind fun t296 => ((laws_eqByteS.f kj7 t283 t296).bind fun t299 => (if t299 = true then ((laws_markByteS.f kj7 t283 1).bind fun bt300 => (if bt300.1 < 0 then (laws_FnExactGetMan.j1 kj7 l0 a1 t280 t281 true t274 t275 t276 t277 t286 t287 t288 t289) else ((laws_eqManifest.f kj7 t286 t287 t288 t289 t274 t275 t276 t277).bind fun t302 => (if t302 = true then (if t292 = t280 then (laws_FnExactGetMan.j1 kj7 l0 a1 t280 t281 (t293 != t281) t274 t275 t276 t277 t286 t287 t288 t289) else (laws_FnExactGetMan.j1 kj7 l0 a1 t280 t281 true t274 t275 t276 t277 t286 t287 t288 t289)) else (laws_FnExactGetMan.j1 kj7 l0 a1 t280 t281 true t274 t275 t276 t277 t286 t287 t288 t289))))) else (some false)))) = some r := by rw [if_neg (show ¬ (false = true) by decide)] at H;exact H
     clear H
     have H := H1
     clear H1
     replace H := Option.bind_eq_some_iff.mp H
     obtain ⟨t296,A380,H⟩ := H
     (try dsimp only at H)
     have A38 := Aside0.mk A380
     clear A380
     replace H := Option.bind_eq_some_iff.mp H
     obtain ⟨t299,A390,H⟩ := H
     (try dsimp only at H)
     have A39 := Aside0.mk A390
     clear A390
     by_cases c40 : t299 = true
     ·subst c40
      rw [if_pos rfl] at H
      replace H := Option.bind_eq_some_iff.mp H
      obtain ⟨⟨t300,t301⟩,A410,H⟩ := H
      (try dsimp only at H)
      have A41 := Aside0.mk A410
      clear A410
      have HC42 := Aside0.mk H
      clear H
      go_upto_region 12 with (first | ((with_reducible refine gate_callee (f := 12) rfl ?_);refine goesL_ (some 54) rfl rfl Try.func12 (by kernel_rfl) rfl #[.slice A0 l0.length c0] rfl eq_up ?_;(with_reducible refine (laws_toByteS.calls kj7 _ _ l0 t296 _ ?side1 ?side2 A38.out).mono ?_);(case side1 => repeat (first | exact (Kd.C_below HR0.out HB.out) | (with_reducible refine Kd.C_alloc ?_ _) | (with_reducible refine Kd.C_drewN ?_ _) | (with_reducible refine Kd.C_drew ?_)));(case side2 => exact HC0.out);rintro e w43 ⟨v297,rfl,ho0,hb⟩;refine ⟨_,rfl,?_⟩;have n0_ := Aside0.mk (Kd.R_elder' (Kd.R_up HO_8.out) (Kd.R_base ho0) hb);have n1_ := Aside0.mk (Kd.R_below (Kd.R_up HO_283003.out) hb);have n2_ := Aside0.mk (Kd.R_below (Kd.R_up HO_295003.out) hb);have n3_ := Aside0.mk (Kd.R_lower (Kd.R_new' ho0 (Kd.R_lt (Kd.R_up HO_8.out))) (below_size (B_set HB.out)));have n4_ := Aside0.mk (blk_below (g := gb282) (o := .cells #[.int .i64 t274,.int .i64 t275,.int .i64 t276,.slice Ao14 t277.length co14] 31 (0,0)) (blk_up BK282.out) hb);have n5_ := Aside0.mk (blk_below (g := gb294) (o := .cells #[.int .i64 t286,.int .i64 t287,.int .i64 t288,.slice Ao21 t289.length co21] 31 (0,0)) (blk_up BK294.out) hb);have n6_ := Aside0.mk (below_step (B_set HB.out) hb);clear HO_8;clear HO_283003;clear HO_295003;clear BK282;clear BK294;clear HB;have HO_8 := n0_;have HO_283003 := n1_;have HO_295003 := n2_;have HO298 := n3_;have BK282 := n4_;have BK294 := n5_;have HB := n6_;clear n0_ n1_ n2_ n3_ n4_ n5_ n6_;(try clear hb);(try clear hb2);(try clear hk);(try clear hi);(try clear ho0);obtain ⟨Ao44,co44,eo44⟩ := Kd.R_slice HO298.out;subst eo44) | ((with_reducible refine gate_callee (f := 15) rfl ?_);refine goesL_ (some 55) rfl rfl Try.func15 (by kernel_rfl) rfl #[.slice Ao16 t283.length co16,.slice Ao44 t296.length co44] rfl eq_up ?_;(with_reducible refine (laws_eqByteS.calls kj7 _ _ t283 _ _ t296 true _ ?side1 ?side2 ?side3 ?side4 A39.out).mono ?_);(case side1 => exact Kd.C_up (Kd.R_reads' HO_8.out).2.2);(case side2 => exact (Kd.R_reads' HO_8.out).2.1);(case side3 => exact Kd.C_up (Kd.R_reads' HO298.out).2.2);(case side4 => exact (Kd.R_reads' HO298.out).2.1);rintro e w' ⟨rfl,⟨nd,rfl⟩⟩;refine ⟨_,rfl,?_⟩) | ((with_reducible refine gate_callee (f := 24) rfl ?_);refine goesL_ (some 59) rfl rfl Try.func24 (by kernel_rfl) rfl #[.slice Ao16 t283.length co16,.int .i64 1] rfl eq_up ?_;(with_reducible refine (laws_markByteS.calls kj7 (fun k_ => some k_ = (.slice Ao16 t283.length co16 : Value).ownBlock) (.slice Ao16 t283.length co16) t283 1 t300 t301 w _ ?side1 ?side2 A41.out).mono ?_);(case side1 => repeat (first | (with_reducible first | exact HB.out | apply below_alloc | apply pw_below_drewN | apply below_drew1 | refine below_set ?_ GE282.out | refine below_set ?_ GE294.out) | exact HB.out));(case side2 => exact Kd.R_tight rfl HO_8.out);rintro e w45 ⟨rfl,hy0,hb,hkp⟩;refine ⟨_,rfl,?_⟩;have n0_ := Aside0.mk (Kd.R_reok rfl hy0 (fun k_ e_ => HO_8.out.1 k_ e_));have n1_ := Aside0.mk (Kd.R_mono (ok' := fun k_ => some k_ ≠ (.slice Ao21 t289.length co21 : Value).ownBlock) (Kd.R_keptB ((Kd.R_apart' HO_283003.out (Kd.R_typed HO_8.out) (by decide))) hkp (fun k_ hk_ hs_ => (hk_.2) hs_)) (fun k_ hk_ => hk_.1.1));have n2_ := Aside0.mk (Kd.R_mono (ok' := fun k_ => some k_ ≠ (.slice Ao14 t277.length co14 : Value).ownBlock) (Kd.R_keptB ((Kd.R_apart' HO_295003.out (Kd.R_typed HO_8.out) (by decide))) hkp (fun k_ hk_ hs_ => (hk_.2) hs_)) (fun k_ hk_ => hk_.1.1));have n3_ := Aside0.mk (blk_kept (blk_up BK282.out) hkp (fun hs_ => (fun e_ => (Kd.R_ne HO_8.out BK282.out (by decide)) e_) hs_));have n4_ := Aside0.mk (blk_kept (blk_up BK294.out) hkp (fun hs_ => (fun e_ => (Kd.R_ne HO_8.out BK294.out (by decide)) e_) hs_));have n5_ := Aside0.mk (Kd.R_mono (ok' := fun k_ => some k_ ≠ (.slice Ao16 t283.length co16 : Value).ownBlock) (Kd.R_keptB (HO298.out) hkp (fun k_ hk_ hs_ => (hk_.2) hs_)) (fun k_ hk_ => hk_.1.2));have n6_ := Aside0.mk (hb);clear HO_8;clear HO_283003;clear HO_295003;clear BK282;clear BK294;clear HO298;clear HB;have HO_8 := n0_;have HO_283003 := n1_;have HO_295003 := n2_;have BK282 := n3_;have BK294 := n4_;have HO298 := n5_;have HB := n6_;clear n0_ n1_ n2_ n3_ n4_ n5_ n6_;(try clear hb);(try clear hkp);(try clear hy0)))
      (try simp only [Act.put,List.setIfInBounds_toArray,List.set_cons_zero,List.set_cons_succ])
      go_cut [77] (fun v77 wc => ∃ (kq : Nat) (x77_41 : Bool),v77 = .bool x77_41 ∧ Aside0 (laws_FnExactGetMan.j1 kq l0 a1 t280 t281 x77_41 t274 t275 t276 t277 t286 t287 t288 t289 = some r) ∧ Aside0 (kq ≤ kj7) ∧ Aside0 (Kd.R k66 66 wc w.heap.size (fun k_ => some k_ ≠ ((.slice Ao21 t289.length co21) : Value).ownBlock) (.slice Ao14 t277.length co14) t277) ∧ Aside0 (Kd.R k66 66 wc w.heap.size (fun k_ => some k_ ≠ ((.slice Ao14 t277.length co14) : Value).ownBlock) (.slice Ao21 t289.length co21) t289) ∧ Aside0 (wc.heap[gb282]? = some (.cells #[.int .i64 t274,.int .i64 t275,.int .i64 t276,(.slice Ao14 t277.length co14)] 31 (0,0))) ∧ Aside0 (wc.heap[gb294]? = some (.cells #[.int .i64 t286,.int .i64 t287,.int .i64 t288,(.slice Ao21 t289.length co21)] 31 (0,0))) ∧ Aside0 (Below w.heap.size w wc))
      case first =>
       have H := HC42.out
       clear HC42
       by_cases c46 : t300 < 0
       ·rw [if_pos c46] at H
        have c46b0 : decide (t300 < 0) = true := decide_eq_true c46
        clear c46
        (first | rw [c46b0] | (simp only [i64_w,i32_w];rw [c46b0]) | skip)
        have H' := Aside0.mk H
        clear H
        go_wp2
        go_meet
        case rel => exact ⟨_,(true),(by first | rfl | (simp;done) | (simp [*];done)),H',⟨by have := HJ7.out;first | omega | exact Nat.le_refl _⟩,⟨by (with_reducible repeat (first | apply Kd.R_alloc | apply Kd.R_drewN | apply Kd.R_drew));exact HO_283003.out⟩,⟨by (with_reducible repeat (first | apply Kd.R_alloc | apply Kd.R_drewN | apply Kd.R_drew));exact HO_295003.out⟩,⟨by (with_reducible repeat (first | refine blk_drewN ?_ _ | refine blk_drew ?_ | refine blk_alloc ?_ _));exact BK282.out⟩,⟨by (with_reducible repeat (first | refine blk_drewN ?_ _ | refine blk_drew ?_ | refine blk_alloc ?_ _));exact BK294.out⟩,⟨by repeat (first | (with_reducible first | exact HB.out | apply below_alloc | apply pw_below_drewN | apply below_drew1 | refine below_set ?_ GE282.out | refine below_set ?_ GE294.out) | exact HB.out)⟩⟩
       ·rw [if_neg c46] at H
        have c46b0 : decide (t300 < 0) = false := decide_eq_false c46
        clear c46
        (first | rw [c46b0] | (simp only [i64_w,i32_w];rw [c46b0]) | skip)
        replace H := Option.bind_eq_some_iff.mp H
        obtain ⟨t302,A470,H⟩ := H
        (try dsimp only at H)
        have A47 := Aside0.mk A470
        clear A470
        by_cases c48 : t302 = true
        ·subst c48
         rw [if_pos rfl] at H
         by_cases c49 : t292 = t280
         ·rw [if_pos c49] at H
          have c49b0 : (t292 == t280) = true := beq_iff_eq.mpr c49
          have c49b1 : (t292 != t280) = false := bne_eq_false_iff_eq.mpr c49
          clear c49
          have H' := Aside0.mk H
          clear H
          have hnb50 := NB294_282.out
          have hnc50 := NB282_294.out
          have hcz51_0 : w45.cell? ⟨gb294,0,none⟩ = some (.int .i64 t286) := (blk_cell BK294.out 0).trans rfl
          have hcz51_1 : w45.cell? ⟨gb294,1,none⟩ = some (.int .i64 t287) := (blk_cell BK294.out 1).trans rfl
          have hcz51_2 : w45.cell? ⟨gb294,2,none⟩ = some (.int .i64 t288) := (blk_cell BK294.out 2).trans rfl
          have hcz51_3 : w45.cell? ⟨gb294,3,none⟩ = some (.slice Ao21 t289.length co21) := (blk_cell BK294.out 3).trans rfl
          have hfz51_0 := blk_frozen BK294.out 0
          have hfz51_1 := blk_frozen BK294.out 1
          have hfz51_2 := blk_frozen BK294.out 2
          have hfz51_3 := blk_frozen BK294.out 3
          have hcz52_0 : w45.cell? ⟨gb282,0,none⟩ = some (.int .i64 t274) := (blk_cell BK282.out 0).trans rfl
          have hcz52_1 : w45.cell? ⟨gb282,1,none⟩ = some (.int .i64 t275) := (blk_cell BK282.out 1).trans rfl
          have hcz52_2 : w45.cell? ⟨gb282,2,none⟩ = some (.int .i64 t276) := (blk_cell BK282.out 2).trans rfl
          have hcz52_3 : w45.cell? ⟨gb282,3,none⟩ = some (.slice Ao14 t277.length co14) := (blk_cell BK282.out 3).trans rfl
          have hfz52_0 := blk_frozen BK282.out 0
          have hfz52_1 := blk_frozen BK282.out 1
          have hfz52_2 := blk_frozen BK282.out 2
          have hfz52_3 := blk_frozen BK282.out 3
          go_wp2_with (first | (go_at_call 16;(with_reducible refine (laws_eqManifest.calls kj7 t286 t287 t288 _ _ t289 t274 t275 t276 _ _ t277 true _ ?side1 ?side2 ?side3 ?side4 A47.out).mono ?_);(case side1 => exact Kd.C_up (Kd.R_reads' HO_295003.out).2.2);(case side2 => exact (Kd.R_reads' HO_295003.out).2.1);(case side3 => exact Kd.C_up (Kd.R_reads' HO_283003.out).2.2);(case side4 => exact (Kd.R_reads' HO_283003.out).2.1);rintro e w53 ⟨rfl,hb⟩;have n0_ := Aside0.mk (Kd.R_below (Kd.R_up HO_8.out) hb);have n1_ := Aside0.mk (Kd.R_below (Kd.R_up HO_283003.out) hb);have n2_ := Aside0.mk (Kd.R_below (Kd.R_up HO_295003.out) hb);have n3_ := Aside0.mk (Kd.R_below (Kd.R_up HO298.out) hb);have n4_ := Aside0.mk (blk_below (g := gb282) (o := .cells #[.int .i64 t274,.int .i64 t275,.int .i64 t276,.slice Ao14 t277.length co14] 31 (0,0)) (blk_up BK282.out) hb);have n5_ := Aside0.mk (blk_below (g := gb294) (o := .cells #[.int .i64 t286,.int .i64 t287,.int .i64 t288,.slice Ao21 t289.length co21] 31 (0,0)) (blk_up BK294.out) hb);have n6_ := Aside0.mk (below_step (B_set HB.out) hb);clear HO_8;clear HO_283003;clear HO_295003;clear HO298;clear BK282;clear BK294;clear HB;have HO_8 := n0_;have HO_283003 := n1_;have HO_295003 := n2_;have HO298 := n3_;have BK282 := n4_;have BK294 := n5_;have HB := n6_;clear n0_ n1_ n2_ n3_ n4_ n5_ n6_;(try clear hb);(try clear hb2);(try clear hk);(try clear hi)))
          go_meet
          case rel => exact ⟨_,((t293 != t281)),(by first | rfl | (simp;done) | (simp [*];done)),H',⟨by have := HJ7.out;first | omega | exact Nat.le_refl _⟩,⟨by (with_reducible repeat (first | apply Kd.R_alloc | apply Kd.R_drewN | apply Kd.R_drew));exact HO_283003.out⟩,⟨by (with_reducible repeat (first | apply Kd.R_alloc | apply Kd.R_drewN | apply Kd.R_drew));exact HO_295003.out⟩,⟨by (with_reducible repeat (first | refine blk_drewN ?_ _ | refine blk_drew ?_ | refine blk_alloc ?_ _));exact BK282.out⟩,⟨by (with_reducible repeat (first | refine blk_drewN ?_ _ | refine blk_drew ?_ | refine blk_alloc ?_ _));exact BK294.out⟩,⟨by repeat (first | (with_reducible first | exact HB.out | apply below_alloc | apply pw_below_drewN | apply below_drew1 | refine below_set ?_ GE282.out | refine below_set ?_ GE294.out) | exact HB.out)⟩⟩
         ·rw [if_neg c49] at H
          have c49b0 : (t292 == t280) = false := beq_eq_false_iff_ne.mpr c49
          have c49b1 : (t292 != t280) = true := bne_iff_ne.mpr c49
          have H' := Aside0.mk H
          clear H
          have hnb54 := NB294_282.out
          have hnc54 := NB282_294.out
          have hcz55_0 : w45.cell? ⟨gb294,0,none⟩ = some (.int .i64 t286) := (blk_cell BK294.out 0).trans rfl
          have hcz55_1 : w45.cell? ⟨gb294,1,none⟩ = some (.int .i64 t287) := (blk_cell BK294.out 1).trans rfl
          have hcz55_2 : w45.cell? ⟨gb294,2,none⟩ = some (.int .i64 t288) := (blk_cell BK294.out 2).trans rfl
          have hcz55_3 : w45.cell? ⟨gb294,3,none⟩ = some (.slice Ao21 t289.length co21) := (blk_cell BK294.out 3).trans rfl
          have hfz55_0 := blk_frozen BK294.out 0
          have hfz55_1 := blk_frozen BK294.out 1
          have hfz55_2 := blk_frozen BK294.out 2
          have hfz55_3 := blk_frozen BK294.out 3
          have hcz56_0 : w45.cell? ⟨gb282,0,none⟩ = some (.int .i64 t274) := (blk_cell BK282.out 0).trans rfl
          have hcz56_1 : w45.cell? ⟨gb282,1,none⟩ = some (.int .i64 t275) := (blk_cell BK282.out 1).trans rfl
          have hcz56_2 : w45.cell? ⟨gb282,2,none⟩ = some (.int .i64 t276) := (blk_cell BK282.out 2).trans rfl
          have hcz56_3 : w45.cell? ⟨gb282,3,none⟩ = some (.slice Ao14 t277.length co14) := (blk_cell BK282.out 3).trans rfl
          have hfz56_0 := blk_frozen BK282.out 0
          have hfz56_1 := blk_frozen BK282.out 1
          have hfz56_2 := blk_frozen BK282.out 2
          have hfz56_3 := blk_frozen BK282.out 3
          go_wp2_with (first | (go_at_call 16;(with_reducible refine (laws_eqManifest.calls kj7 t286 t287 t288 _ _ t289 t274 t275 t276 _ _ t277 true _ ?side1 ?side2 ?side3 ?side4 A47.out).mono ?_);(case side1 => exact Kd.C_up (Kd.R_reads' HO_295003.out).2.2);(case side2 => exact (Kd.R_reads' HO_295003.out).2.1);(case side3 => exact Kd.C_up (Kd.R_reads' HO_283003.out).2.2);(case side4 => exact (Kd.R_reads' HO_283003.out).2.1);rintro e w57 ⟨rfl,hb⟩;have n0_ := Aside0.mk (Kd.R_below (Kd.R_up HO_8.out) hb);have n1_ := Aside0.mk (Kd.R_below (Kd.R_up HO_283003.out) hb);have n2_ := Aside0.mk (Kd.R_below (Kd.R_up HO_295003.out) hb);have n3_ := Aside0.mk (Kd.R_below (Kd.R_up HO298.out) hb);have n4_ := Aside0.mk (blk_below (g := gb282) (o := .cells #[.int .i64 t274,.int .i64 t275,.int .i64 t276,.slice Ao14 t277.length co14] 31 (0,0)) (blk_up BK282.out) hb);have n5_ := Aside0.mk (blk_below (g := gb294) (o := .cells #[.int .i64 t286,.int .i64 t287,.int .i64 t288,.slice Ao21 t289.length co21] 31 (0,0)) (blk_up BK294.out) hb);have n6_ := Aside0.mk (below_step (B_set HB.out) hb);clear HO_8;clear HO_283003;clear HO_295003;clear HO298;clear BK282;clear BK294;clear HB;have HO_8 := n0_;have HO_283003 := n1_;have HO_295003 := n2_;have HO298 := n3_;have BK282 := n4_;have BK294 := n5_;have HB := n6_;clear n0_ n1_ n2_ n3_ n4_ n5_ n6_;(try clear hb);(try clear hb2);(try clear hk);(try clear hi)))
          go_meet
          case rel => exact ⟨_,(true),(by first | rfl | (simp;done) | (simp [*];done)),H',⟨by have := HJ7.out;first | omega | exact Nat.le_refl _⟩,⟨by (with_reducible repeat (first | apply Kd.R_alloc | apply Kd.R_drewN | apply Kd.R_drew));exact HO_283003.out⟩,⟨by (with_reducible repeat (first | apply Kd.R_alloc | apply Kd.R_drewN | apply Kd.R_drew));exact HO_295003.out⟩,⟨by (with_reducible repeat (first | refine blk_drewN ?_ _ | refine blk_drew ?_ | refine blk_alloc ?_ _));exact BK282.out⟩,⟨by (with_reducible repeat (first | refine blk_drewN ?_ _ | refine blk_drew ?_ | refine blk_alloc ?_ _));exact BK294.out⟩,⟨by repeat (first | (with_reducible first | exact HB.out | apply below_alloc | apply pw_below_drewN | apply below_drew1 | refine below_set ?_ GE282.out | refine below_set ?_ GE294.out) | exact HB.out)⟩⟩
        ·replace c48 := Bool.eq_false_iff.mpr c48
         subst c48
         have H1 : (laws_FnExactGetMan.j1 kj7 l0 a1 t280 t281 true t274 t275 t276 t277 t286 t287 t288 t289) = some r := by rw [if_neg (show ¬ (false = true) by decide)] at H;exact H
         clear H
         have H := H1
         clear H1
         have H' := Aside0.mk H
         clear H
         have hnb58 := NB294_282.out
         have hnc58 := NB282_294.out
         have hcz59_0 : w45.cell? ⟨gb294,0,none⟩ = some (.int .i64 t286) := (blk_cell BK294.out 0).trans rfl
         have hcz59_1 : w45.cell? ⟨gb294,1,none⟩ = some (.int .i64 t287) := (blk_cell BK294.out 1).trans rfl
         have hcz59_2 : w45.cell? ⟨gb294,2,none⟩ = some (.int .i64 t288) := (blk_cell BK294.out 2).trans rfl
         have hcz59_3 : w45.cell? ⟨gb294,3,none⟩ = some (.slice Ao21 t289.length co21) := (blk_cell BK294.out 3).trans rfl
         have hfz59_0 := blk_frozen BK294.out 0
         have hfz59_1 := blk_frozen BK294.out 1
         have hfz59_2 := blk_frozen BK294.out 2
         have hfz59_3 := blk_frozen BK294.out 3
         have hcz60_0 : w45.cell? ⟨gb282,0,none⟩ = some (.int .i64 t274) := (blk_cell BK282.out 0).trans rfl
         have hcz60_1 : w45.cell? ⟨gb282,1,none⟩ = some (.int .i64 t275) := (blk_cell BK282.out 1).trans rfl
         have hcz60_2 : w45.cell? ⟨gb282,2,none⟩ = some (.int .i64 t276) := (blk_cell BK282.out 2).trans rfl
         have hcz60_3 : w45.cell? ⟨gb282,3,none⟩ = some (.slice Ao14 t277.length co14) := (blk_cell BK282.out 3).trans rfl
         have hfz60_0 := blk_frozen BK282.out 0
         have hfz60_1 := blk_frozen BK282.out 1
         have hfz60_2 := blk_frozen BK282.out 2
         have hfz60_3 := blk_frozen BK282.out 3
         go_wp2_with (first | (go_at_call 16;(with_reducible refine (laws_eqManifest.calls kj7 t286 t287 t288 _ _ t289 t274 t275 t276 _ _ t277 false _ ?side1 ?side2 ?side3 ?side4 A47.out).mono ?_);(case side1 => exact Kd.C_up (Kd.R_reads' HO_295003.out).2.2);(case side2 => exact (Kd.R_reads' HO_295003.out).2.1);(case side3 => exact Kd.C_up (Kd.R_reads' HO_283003.out).2.2);(case side4 => exact (Kd.R_reads' HO_283003.out).2.1);rintro e w61 ⟨rfl,hb⟩;have n0_ := Aside0.mk (Kd.R_below (Kd.R_up HO_8.out) hb);have n1_ := Aside0.mk (Kd.R_below (Kd.R_up HO_283003.out) hb);have n2_ := Aside0.mk (Kd.R_below (Kd.R_up HO_295003.out) hb);have n3_ := Aside0.mk (Kd.R_below (Kd.R_up HO298.out) hb);have n4_ := Aside0.mk (blk_below (g := gb282) (o := .cells #[.int .i64 t274,.int .i64 t275,.int .i64 t276,.slice Ao14 t277.length co14] 31 (0,0)) (blk_up BK282.out) hb);have n5_ := Aside0.mk (blk_below (g := gb294) (o := .cells #[.int .i64 t286,.int .i64 t287,.int .i64 t288,.slice Ao21 t289.length co21] 31 (0,0)) (blk_up BK294.out) hb);have n6_ := Aside0.mk (below_step (B_set HB.out) hb);clear HO_8;clear HO_283003;clear HO_295003;clear HO298;clear BK282;clear BK294;clear HB;have HO_8 := n0_;have HO_283003 := n1_;have HO_295003 := n2_;have HO298 := n3_;have BK282 := n4_;have BK294 := n5_;have HB := n6_;clear n0_ n1_ n2_ n3_ n4_ n5_ n6_;(try clear hb);(try clear hb2);(try clear hk);(try clear hi)))
         go_meet
         case rel => exact ⟨_,(true),(by first | rfl | (simp;done) | (simp [*];done)),H',⟨by have := HJ7.out;first | omega | exact Nat.le_refl _⟩,⟨by (with_reducible repeat (first | apply Kd.R_alloc | apply Kd.R_drewN | apply Kd.R_drew));exact HO_283003.out⟩,⟨by (with_reducible repeat (first | apply Kd.R_alloc | apply Kd.R_drewN | apply Kd.R_drew));exact HO_295003.out⟩,⟨by (with_reducible repeat (first | refine blk_drewN ?_ _ | refine blk_drew ?_ | refine blk_alloc ?_ _));exact BK282.out⟩,⟨by (with_reducible repeat (first | refine blk_drewN ?_ _ | refine blk_drew ?_ | refine blk_alloc ?_ _));exact BK294.out⟩,⟨by repeat (first | (with_reducible first | exact HB.out | apply below_alloc | apply pw_below_drewN | apply below_drew1 | refine below_set ?_ GE282.out | refine below_set ?_ GE294.out) | exact HB.out)⟩⟩
      case rest =>
       clear HC42
       try clear c1
       try clear c2
       try clear p2
       try clear c3
       try clear c3b0
       try clear c3b1
       try clear c4
       try clear c5
       try clear c8
       try clear c12
       try clear c15
       try clear c16
       try clear c19
       try clear c23
       try clear c24
       try clear c24b0
       try clear c24b1
       try clear c25
       try clear c29
       try clear c31
       try clear c32
       try clear c33
       try clear c37
       try clear c40
       try clear c46
       try clear c46b0
       try clear c48
       try clear c49
       try clear c49b0
       try clear c49b1
       try clear c50
       try clear c54
       try clear c58
       try clear hcz13_0
       try clear hcz13_1
       try clear hcz13_2
       try clear hcz13_3
       try clear hcz20_0
       try clear hcz20_1
       try clear hcz20_2
       try clear hcz20_3
       try clear hcz26_0
       try clear hcz26_1
       try clear hcz26_2
       try clear hcz26_3
       try clear hcz27_0
       try clear hcz27_1
       try clear hcz27_2
       try clear hcz27_3
       try clear hcz30_0
       try clear hcz30_1
       try clear hcz30_2
       try clear hcz30_3
       try clear hcz31_0
       try clear hcz31_1
       try clear hcz31_2
       try clear hcz31_3
       try clear hcz34_0
       try clear hcz34_1
       try clear hcz34_2
       try clear hcz34_3
       try clear hcz35_0
       try clear hcz35_1
       try clear hcz35_2
       try clear hcz35_3
       try clear hcz51_0
       try clear hcz51_1
       try clear hcz51_2
       try clear hcz51_3
       try clear hcz52_0
       try clear hcz52_1
       try clear hcz52_2
       try clear hcz52_3
       try clear hcz55_0
       try clear hcz55_1
       try clear hcz55_2
       try clear hcz55_3
       try clear hcz56_0
       try clear hcz56_1
       try clear hcz56_2
       try clear hcz56_3
       try clear hcz59_0
       try clear hcz59_1
       try clear hcz59_2
       try clear hcz59_3
       try clear hcz60_0
       try clear hcz60_1
       try clear hcz60_2
       try clear hcz60_3
       try clear hfz13_0
       try clear hfz13_1
       try clear hfz13_2
       try clear hfz13_3
       try clear hfz20_0
       try clear hfz20_1
       try clear hfz20_2
       try clear hfz20_3
       try clear hfz26_0
       try clear hfz26_1
       try clear hfz26_2
       try clear hfz26_3
       try clear hfz27_0
       try clear hfz27_1
       try clear hfz27_2
       try clear hfz27_3
       try clear hfz30_0
       try clear hfz30_1
       try clear hfz30_2
       try clear hfz30_3
       try clear hfz31_0
       try clear hfz31_1
       try clear hfz31_2
       try clear hfz31_3
       try clear hfz34_0
       try clear hfz34_1
       try clear hfz34_2
       try clear hfz34_3
       try clear hfz35_0
       try clear hfz35_1
       try clear hfz35_2
       try clear hfz35_3
       try clear hfz51_0
       try clear hfz51_1
       try clear hfz51_2
       try clear hfz51_3
       try clear hfz52_0
       try clear hfz52_1
       try clear hfz52_2
       try clear hfz52_3
       try clear hfz55_0
       try clear hfz55_1
       try clear hfz55_2
       try clear hfz55_3
       try clear hfz56_0
       try clear hfz56_1
       try clear hfz56_2
       try clear hfz56_3
       try clear hfz59_0
       try clear hfz59_1
       try clear hfz59_2
       try clear hfz59_3
       try clear hfz60_0
       try clear hfz60_1
       try clear hfz60_2
       try clear hfz60_3
       try clear p2
       obtain ⟨kq,x77_41,rfl,HA,HJ41,HO_283003,HO_295003,BK282,BK294,HB⟩ := hcut
       cases kq with
       | zero => exact absurd HA.out (by simp [laws_FnExactGetMan.j1])
       | succ kj41 =>
        have H := HA.out
        clear HA
        simp only [laws_FnExactGetMan.j1] at H
        by_cases c62 : x77_41 = true
        ·subst c62
         rw [if_pos rfl] at H
         obtain rfl := Option.some.inj H
         go_wp2
         go_ret
         exact ⟨by first | rfl | (simp [errW_none,errW_some] <;> rfl) | (simp [*,errW_none,errW_some] <;> rfl),by repeat (first | (with_reducible first | exact HB.out | apply below_alloc | apply pw_below_drewN | apply below_drew1 | refine below_set ?_ GE282.out | refine below_set ?_ GE294.out) | exact HB.out)⟩
        ·replace c62 := Bool.eq_false_iff.mpr c62
         subst c62
         have H1 : ((laws_markManifest.f kj41 t286 t287 t288 t289 1).bind fun bt303 => ((laws_heldManifest.f kj41 t286 t287 t288 bt303.2 1).bind fun t305 => (if t305 < 0 then (some false) else (if t305 = bt303.1 then ((laws_toByteS.f kj41 l0).bind fun t306 => ((impl_GetMan.f kj41 t306 a1).bind fun bt309 => ((laws_eqManifest.f kj41 bt309.1 bt309.2.1 bt309.2.2.1 bt309.2.2.2.1 t274 t275 t276 t277).bind fun t318 => (if t318 = true then (if bt309.2.2.2.2.1 = t280 then (laws_FnExactGetMan.j2 kj41 bt303.1 (bt309.2.2.2.2.2 != t281) t286 t287 t288 bt303.2) else (laws_FnExactGetMan.j2 kj41 bt303.1 true t286 t287 t288 bt303.2)) else (laws_FnExactGetMan.j2 kj41 bt303.1 true t286 t287 t288 bt303.2))))) else (some false))))) = some r := by rw [if_neg (show ¬ (false = true) by decide)] at H;exact H
         clear H
         have H := H1
         clear H1
         replace H := Option.bind_eq_some_iff.mp H
         obtain ⟨⟨t303,t304⟩,A630,H⟩ := H
         (try dsimp only at H)
         have A63 := Aside0.mk A630
         clear A630
         replace H := Option.bind_eq_some_iff.mp H
         obtain ⟨t305,A640,H⟩ := H
         (try dsimp only at H)
         have A64 := Aside0.mk A640
         clear A640
         by_cases c65 : t305 < 0
         ·rw [if_pos c65] at H
          have c65b0 : decide (t305 < 0) = true := decide_eq_true c65
          clear c65
          obtain rfl := Option.some.inj H
          have hnb66 := NB294_282.out
          have hnc66 := NB282_294.out
          have hcz67_0 : wc.cell? ⟨gb294,0,none⟩ = some (.int .i64 t286) := (blk_cell BK294.out 0).trans rfl
          have hcz67_1 : wc.cell? ⟨gb294,1,none⟩ = some (.int .i64 t287) := (blk_cell BK294.out 1).trans rfl
          have hcz67_2 : wc.cell? ⟨gb294,2,none⟩ = some (.int .i64 t288) := (blk_cell BK294.out 2).trans rfl
          have hcz67_3 : wc.cell? ⟨gb294,3,none⟩ = some (.slice Ao21 t289.length co21) := (blk_cell BK294.out 3).trans rfl
          have hfz67_0 := blk_frozen BK294.out 0
          have hfz67_1 := blk_frozen BK294.out 1
          have hfz67_2 := blk_frozen BK294.out 2
          have hfz67_3 := blk_frozen BK294.out 3
          go_wp2_with (first | ((with_reducible refine gate_callee (f := 25) rfl ?_);refine goesL_ (some 80) rfl rfl Try.func25 (by kernel_rfl) rfl #[.agg #[.int .i64 t286,.int .i64 t287,.int .i64 t288,.slice Ao21 t289.length co21],.int .i64 1] rfl eq_up ?_;(with_reducible refine (laws_markManifest.calls kj41 t286 t287 t288 (fun k_ => some k_ = (.slice Ao21 t289.length co21 : Value).ownBlock) (.slice Ao21 t289.length co21) t289 1 t303 t304 w _ ?side1 ?side2 A63.out).mono ?_);(case side1 => repeat (first | (with_reducible first | exact HB.out | apply below_alloc | apply pw_below_drewN | apply below_drew1 | refine below_set ?_ GE282.out | refine below_set ?_ GE294.out) | exact HB.out));(case side2 => exact Kd.R_tight rfl HO_295003.out);rintro e w68 ⟨rfl,hy0,hb,hkp⟩;refine ⟨_,rfl,?_⟩;have n0_ := Aside0.mk (Kd.R_mono (ok' := fun k_ => some k_ ≠ (.slice Ao21 t289.length co21 : Value).ownBlock) (Kd.R_keptB (HO_283003.out) hkp (fun k_ hk_ hs_ => (hk_) hs_)) (fun k_ hk_ => hk_.1));have n1_ := Aside0.mk (Kd.R_reok rfl hy0 (fun k_ e_ => HO_295003.out.1 k_ e_));have n2_ := Aside0.mk (blk_kept (blk_up BK282.out) hkp (fun hs_ => (fun e_ => (Kd.R_ne HO_295003.out BK282.out (by decide)) e_) hs_));have n3_ := Aside0.mk (blk_kept (blk_up BK294.out) hkp (fun hs_ => (fun e_ => (Kd.R_ne HO_295003.out BK294.out (by decide)) e_) hs_));have n4_ := Aside0.mk (hb);clear HO_283003;clear HO_295003;clear BK282;clear BK294;clear HB;have HO_283003 := n0_;have HO_295003 := n1_;have BK282 := n2_;have BK294 := n3_;have HB := n4_;clear n0_ n1_ n2_ n3_ n4_;(try clear hb);(try clear hkp);(try clear hy0);have hcz69_0 : w68.cell? ⟨gb294,0,none⟩ = some (.int .i64 t286) := (blk_cell BK294.out 0).trans rfl;have hcz69_1 : w68.cell? ⟨gb294,1,none⟩ = some (.int .i64 t287) := (blk_cell BK294.out 1).trans rfl;have hcz69_2 : w68.cell? ⟨gb294,2,none⟩ = some (.int .i64 t288) := (blk_cell BK294.out 2).trans rfl;have hcz69_3 : w68.cell? ⟨gb294,3,none⟩ = some (.slice Ao21 t289.length co21) := (blk_cell BK294.out 3).trans rfl;have hfz69_0 := blk_frozen BK294.out 0;have hfz69_1 := blk_frozen BK294.out 1;have hfz69_2 := blk_frozen BK294.out 2;have hfz69_3 := blk_frozen BK294.out 3) | ((with_reducible refine gate_callee (f := 33) rfl ?_);refine goesL_ (some 83) rfl rfl Try.func33 (by kernel_rfl) rfl #[.agg #[.int .i64 t286,.int .i64 t287,.int .i64 t288,.slice Ao21 t304.length co21],.int .i64 1] rfl (by (try simp only [List.map_toArray,List.map_cons,List.map_nil]);first | done | (rw [show t304.length = t289.length from (Kd.R_reads' HO_295003.out).1.symm] <;> rfl) | rfl | (simp only [List.length_drop,List.length_take];rfl)) ?_;(with_reducible refine (laws_heldManifest.calls kj41 t286 t287 t288 _ _ t304 1 t305 _ ?side1 ?side2 A64.out).mono ?_);(case side1 => exact Kd.C_up (Kd.R_reads' HO_295003.out).2.2);(case side2 => rw [show t304.length = t289.length from (Kd.R_reads' HO_295003.out).1.symm];exact (Kd.R_reads' HO_295003.out).2.1);rintro e w70 ⟨rfl,hb⟩;refine ⟨_,rfl,?_⟩;have n0_ := Aside0.mk (Kd.R_below (Kd.R_up HO_283003.out) hb);have n1_ := Aside0.mk (Kd.R_below (Kd.R_up HO_295003.out) hb);have n2_ := Aside0.mk (blk_below (g := gb282) (o := .cells #[.int .i64 t274,.int .i64 t275,.int .i64 t276,.slice Ao14 t277.length co14] 31 (0,0)) (blk_up BK282.out) hb);have n3_ := Aside0.mk (blk_below (g := gb294) (o := .cells #[.int .i64 t286,.int .i64 t287,.int .i64 t288,.slice Ao21 t289.length co21] 31 (0,0)) (blk_up BK294.out) hb);have n4_ := Aside0.mk (below_step (B_set HB.out) hb);clear HO_283003;clear HO_295003;clear BK282;clear BK294;clear HB;have HO_283003 := n0_;have HO_295003 := n1_;have BK282 := n2_;have BK294 := n3_;have HB := n4_;clear n0_ n1_ n2_ n3_ n4_;(try clear hb);(try clear hb2);(try clear hk);(try clear hi)))
          go_ret
          exact ⟨by first | rfl | (simp [errW_none,errW_some] <;> rfl) | (simp [*,errW_none,errW_some] <;> rfl),by repeat (first | (with_reducible first | exact HB.out | apply below_alloc | apply pw_below_drewN | apply below_drew1 | refine below_set ?_ GE282.out | refine below_set ?_ GE294.out) | exact HB.out)⟩
         ·rw [if_neg c65] at H
          have c65b0 : decide (t305 < 0) = false := decide_eq_false c65
          clear c65
          by_cases c71 : t305 = t303
          ·rw [if_pos c71] at H
           have c71b0 : (t305 == t303) = true := beq_iff_eq.mpr c71
           have c71b1 : (t305 != t303) = false := bne_eq_false_iff_eq.mpr c71
           clear c71
           replace H := Option.bind_eq_some_iff.mp H
           obtain ⟨t306,A720,H⟩ := H
           (try dsimp only at H)
           have A72 := Aside0.mk A720
           clear A720
           replace H := Option.bind_eq_some_iff.mp H
           obtain ⟨⟨t309,t310,t311,t312,t315,t316⟩,A730,H⟩ := H
           (try dsimp only at H)
           have A73 := Aside0.mk A730
           clear A730
           have HC74 := Aside0.mk H
           clear H
           have hnb75 := NB294_282.out
           have hnc75 := NB282_294.out
           have hcz76_0 : wc.cell? ⟨gb294,0,none⟩ = some (.int .i64 t286) := (blk_cell BK294.out 0).trans rfl
           have hcz76_1 : wc.cell? ⟨gb294,1,none⟩ = some (.int .i64 t287) := (blk_cell BK294.out 1).trans rfl
           have hcz76_2 : wc.cell? ⟨gb294,2,none⟩ = some (.int .i64 t288) := (blk_cell BK294.out 2).trans rfl
           have hcz76_3 : wc.cell? ⟨gb294,3,none⟩ = some (.slice Ao21 t289.length co21) := (blk_cell BK294.out 3).trans rfl
           have hfz76_0 := blk_frozen BK294.out 0
           have hfz76_1 := blk_frozen BK294.out 1
           have hfz76_2 := blk_frozen BK294.out 2
           have hfz76_3 := blk_frozen BK294.out 3
           go_upto_region 23 with (first | ((with_reducible refine gate_callee (f := 25) rfl ?_);refine goesL_ (some 80) rfl rfl Try.func25 (by kernel_rfl) rfl #[.agg #[.int .i64 t286,.int .i64 t287,.int .i64 t288,.slice Ao21 t289.length co21],.int .i64 1] rfl eq_up ?_;(with_reducible refine (laws_markManifest.calls kj41 t286 t287 t288 (fun k_ => some k_ = (.slice Ao21 t289.length co21 : Value).ownBlock) (.slice Ao21 t289.length co21) t289 1 t303 t304 w _ ?side1 ?side2 A63.out).mono ?_);(case side1 => repeat (first | (with_reducible first | exact HB.out | apply below_alloc | apply pw_below_drewN | apply below_drew1 | refine below_set ?_ GE282.out | refine below_set ?_ GE294.out) | exact HB.out));(case side2 => exact Kd.R_tight rfl HO_295003.out);rintro e w77 ⟨rfl,hy0,hb,hkp⟩;refine ⟨_,rfl,?_⟩;have n0_ := Aside0.mk (Kd.R_mono (ok' := fun k_ => some k_ ≠ (.slice Ao21 t289.length co21 : Value).ownBlock) (Kd.R_keptB (HO_283003.out) hkp (fun k_ hk_ hs_ => (hk_) hs_)) (fun k_ hk_ => hk_.1));have n1_ := Aside0.mk (Kd.R_reok rfl hy0 (fun k_ e_ => HO_295003.out.1 k_ e_));have n2_ := Aside0.mk (blk_kept (blk_up BK282.out) hkp (fun hs_ => (fun e_ => (Kd.R_ne HO_295003.out BK282.out (by decide)) e_) hs_));have n3_ := Aside0.mk (blk_kept (blk_up BK294.out) hkp (fun hs_ => (fun e_ => (Kd.R_ne HO_295003.out BK294.out (by decide)) e_) hs_));have n4_ := Aside0.mk (hb);clear HO_283003;clear HO_295003;clear BK282;clear BK294;clear HB;have HO_283003 := n0_;have HO_295003 := n1_;have BK282 := n2_;have BK294 := n3_;have HB := n4_;clear n0_ n1_ n2_ n3_ n4_;(try clear hb);(try clear hkp);(try clear hy0);have hcz78_0 : w77.cell? ⟨gb294,0,none⟩ = some (.int .i64 t286) := (blk_cell BK294.out 0).trans rfl;have hcz78_1 : w77.cell? ⟨gb294,1,none⟩ = some (.int .i64 t287) := (blk_cell BK294.out 1).trans rfl;have hcz78_2 : w77.cell? ⟨gb294,2,none⟩ = some (.int .i64 t288) := (blk_cell BK294.out 2).trans rfl;have hcz78_3 : w77.cell? ⟨gb294,3,none⟩ = some (.slice Ao21 t289.length co21) := (blk_cell BK294.out 3).trans rfl;have hfz78_0 := blk_frozen BK294.out 0;have hfz78_1 := blk_frozen BK294.out 1;have hfz78_2 := blk_frozen BK294.out 2;have hfz78_3 := blk_frozen BK294.out 3) | ((with_reducible refine gate_callee (f := 33) rfl ?_);refine goesL_ (some 83) rfl rfl Try.func33 (by kernel_rfl) rfl #[.agg #[.int .i64 t286,.int .i64 t287,.int .i64 t288,.slice Ao21 t304.length co21],.int .i64 1] rfl (by (try simp only [List.map_toArray,List.map_cons,List.map_nil]);first | done | (rw [show t304.length = t289.length from (Kd.R_reads' HO_295003.out).1.symm] <;> rfl) | rfl | (simp only [List.length_drop,List.length_take];rfl)) ?_;(with_reducible refine (laws_heldManifest.calls kj41 t286 t287 t288 _ _ t304 1 t305 _ ?side1 ?side2 A64.out).mono ?_);(case side1 => exact Kd.C_up (Kd.R_reads' HO_295003.out).2.2);(case side2 => rw [show t304.length = t289.length from (Kd.R_reads' HO_295003.out).1.symm];exact (Kd.R_reads' HO_295003.out).2.1);rintro e w79 ⟨rfl,hb⟩;refine ⟨_,rfl,?_⟩;have n0_ := Aside0.mk (Kd.R_below (Kd.R_up HO_283003.out) hb);have n1_ := Aside0.mk (Kd.R_below (Kd.R_up HO_295003.out) hb);have n2_ := Aside0.mk (blk_below (g := gb282) (o := .cells #[.int .i64 t274,.int .i64 t275,.int .i64 t276,.slice Ao14 t277.length co14] 31 (0,0)) (blk_up BK282.out) hb);have n3_ := Aside0.mk (blk_below (g := gb294) (o := .cells #[.int .i64 t286,.int .i64 t287,.int .i64 t288,.slice Ao21 t289.length co21] 31 (0,0)) (blk_up BK294.out) hb);have n4_ := Aside0.mk (below_step (B_set HB.out) hb);clear HO_283003;clear HO_295003;clear BK282;clear BK294;clear HB;have HO_283003 := n0_;have HO_295003 := n1_;have BK282 := n2_;have BK294 := n3_;have HB := n4_;clear n0_ n1_ n2_ n3_ n4_;(try clear hb);(try clear hb2);(try clear hk);(try clear hi)) | ((with_reducible refine gate_callee (f := 12) rfl ?_);refine goesL_ (some 91) rfl rfl Try.func12 (by kernel_rfl) rfl #[.slice A0 l0.length c0] rfl eq_up ?_;(with_reducible refine (laws_toByteS.calls kj41 _ _ l0 t306 _ ?side1 ?side2 A72.out).mono ?_);(case side1 => repeat (first | exact (Kd.C_below HR0.out HB.out) | (with_reducible refine Kd.C_alloc ?_ _) | (with_reducible refine Kd.C_drewN ?_ _) | (with_reducible refine Kd.C_drew ?_)));(case side2 => exact HC0.out);rintro e w80 ⟨v307,rfl,ho0,hb⟩;refine ⟨_,rfl,?_⟩;have n0_ := Aside0.mk (Kd.R_below (Kd.R_up HO_283003.out) hb);have n1_ := Aside0.mk (Kd.R_below (Kd.R_up HO_295003.out) hb);have n2_ := Aside0.mk (Kd.R_lower ho0 (below_size (B_set HB.out)));have n3_ := Aside0.mk (blk_below (g := gb282) (o := .cells #[.int .i64 t274,.int .i64 t275,.int .i64 t276,.slice Ao14 t277.length co14] 31 (0,0)) (blk_up BK282.out) hb);have n4_ := Aside0.mk (blk_below (g := gb294) (o := .cells #[.int .i64 t286,.int .i64 t287,.int .i64 t288,.slice Ao21 t289.length co21] 31 (0,0)) (blk_up BK294.out) hb);have n5_ := Aside0.mk (below_step (B_set HB.out) hb);clear HO_283003;clear HO_295003;clear BK282;clear BK294;clear HB;have HO_283003 := n0_;have HO_295003 := n1_;have HO308 := n2_;have BK282 := n3_;have BK294 := n4_;have HB := n5_;clear n0_ n1_ n2_ n3_ n4_ n5_;(try clear hb);(try clear hb2);(try clear hk);(try clear hi);(try clear ho0);obtain ⟨Ao81,co81,eo81⟩ := Kd.R_slice HO308.out;subst eo81) | ((with_reducible refine gate_callee (f := 32) rfl ?_);refine goesL_ (some 93) rfl rfl Try.func32 (by kernel_rfl) rfl #[.slice Ao81 t306.length co81,.int .i64 a1] rfl eq_up ?_;(with_reducible refine (impl_GetMan.calls kj41 _ _ t306 a1 t309 t310 t311 t312 t315 t316 _ ?side1 ?side2 A73.out).mono ?_);(case side1 => exact Kd.C_up (Kd.R_reads' HO308.out).2.2);(case side2 => exact (Kd.R_reads' HO308.out).2.1);rintro e w82 ⟨v313,rfl,ho0,hb⟩;refine ⟨_,rfl,?_⟩;have n0_ := Aside0.mk (Kd.R_elder' (Kd.R_up HO_283003.out) (Kd.R_base ho0) hb);have n1_ := Aside0.mk (Kd.R_elder' (Kd.R_up HO_295003.out) (Kd.R_base ho0) hb);have n2_ := Aside0.mk (Kd.R_below (Kd.R_up HO308.out) hb);have n3_ := Aside0.mk (Kd.R_lower (Kd.R_new' (Kd.R_new' ho0 (Kd.R_lt (Kd.R_up HO_283003.out))) (Kd.R_lt (Kd.R_up HO_295003.out))) (below_size (B_set HB.out)));have n4_ := Aside0.mk (blk_below (g := gb282) (o := .cells #[.int .i64 t274,.int .i64 t275,.int .i64 t276,.slice Ao14 t277.length co14] 31 (0,0)) (blk_up BK282.out) hb);have n5_ := Aside0.mk (blk_below (g := gb294) (o := .cells #[.int .i64 t286,.int .i64 t287,.int .i64 t288,.slice Ao21 t289.length co21] 31 (0,0)) (blk_up BK294.out) hb);have n6_ := Aside0.mk (below_step (B_set HB.out) hb);clear HO_283003;clear HO_295003;clear HO308;clear BK282;clear BK294;clear HB;have HO_283003 := n0_;have HO_295003 := n1_;have HO308 := n2_;have HO314 := n3_;have BK282 := n4_;have BK294 := n5_;have HB := n6_;clear n0_ n1_ n2_ n3_ n4_ n5_ n6_;(try clear hb);(try clear hb2);(try clear hk);(try clear hi);(try clear ho0)) | ((with_reducible refine gate_dst (N := 15) rfl ?_);refine box_event ?hg (N := 15) ?hd (cs := #[.int .i64 0,.int .i64 0,.int .i64 0,.slice none 0 0]) (t := 31) ?hr ?_;(case hd => rfl);(case hg => rfl);(case hr => first | (go_simp;done) | (go_simp;rfl));intro gb317 hg w83 hbox hb;have n0_ := Aside0.mk (Kd.R_below (Kd.R_up HO_283003.out) hb);have n1_ := Aside0.mk (Kd.R_below (Kd.R_up HO_295003.out) hb);have n2_ := Aside0.mk (Kd.R_below (Kd.R_up HO308.out) hb);have n3_ := Aside0.mk (Kd.R_below (Kd.R_up HO314.out) hb);have n4_ := Aside0.mk (blk_below (g := gb282) (o := .cells #[.int .i64 t274,.int .i64 t275,.int .i64 t276,.slice Ao14 t277.length co14] 31 (0,0)) (blk_up BK282.out) hb);have n5_ := Aside0.mk (blk_below (g := gb294) (o := .cells #[.int .i64 t286,.int .i64 t287,.int .i64 t288,.slice Ao21 t289.length co21] 31 (0,0)) (blk_up BK294.out) hb);have n6_ := Aside0.mk (below_step (B_set HB.out) hb);have n7_ := Aside0.mk (hbox);have n8_ := Aside0.mk ((by rw [hg];exact (below_size (B_set HB.out)) : w.heap.size ≤ gb317));have n9_ := Aside0.mk ((by rw [hg];exact (below_size (B_set HB.out)) : w.heap.size ≤ gb317));have n10_ := Aside0.mk ((by rw [hg];exact Nat.ne_of_lt (blk_lt (g := gb282) (o := .cells #[.int .i64 t274,.int .i64 t275,.int .i64 t276,.slice Ao14 t277.length co14] 31 (0,0)) (blk_up BK282.out)) : gb282 ≠ gb317));have n11_ := Aside0.mk ((by rw [hg];exact Nat.ne_of_gt (blk_lt (g := gb282) (o := .cells #[.int .i64 t274,.int .i64 t275,.int .i64 t276,.slice Ao14 t277.length co14] 31 (0,0)) (blk_up BK282.out)) : gb317 ≠ gb282));have n12_ := Aside0.mk ((by rw [hg];exact Nat.ne_of_lt (blk_lt (g := gb294) (o := .cells #[.int .i64 t286,.int .i64 t287,.int .i64 t288,.slice Ao21 t289.length co21] 31 (0,0)) (blk_up BK294.out)) : gb294 ≠ gb317));have n13_ := Aside0.mk ((by rw [hg];exact Nat.ne_of_gt (blk_lt (g := gb294) (o := .cells #[.int .i64 t286,.int .i64 t287,.int .i64 t288,.slice Ao21 t289.length co21] 31 (0,0)) (blk_up BK294.out)) : gb317 ≠ gb294));clear HO_283003;clear HO_295003;clear HO308;clear HO314;clear BK282;clear BK294;clear HB;have HO_283003 := n0_;have HO_295003 := n1_;have HO308 := n2_;have HO314 := n3_;have BK282 := n4_;have BK294 := n5_;have HB := n6_;have BK317 := n7_;have GW317 := n8_;have GE317 := n9_;have NB282_317 := n10_;have NB317_282 := n11_;have NB294_317 := n12_;have NB317_294 := n13_;clear n0_ n1_ n2_ n3_ n4_ n5_ n6_ n7_ n8_ n9_ n10_ n11_ n12_ n13_;clear hb hbox hg;have hnb84 := NB317_282.out;have hnc84 := NB282_317.out;have hnb85 := NB317_294.out;have hnc85 := NB294_317.out;have hcz86_0 : w83.cell? ⟨gb317,0,none⟩ = some (.int .i64 0) := (blk_cell BK317.out 0).trans rfl;have hcz86_1 : w83.cell? ⟨gb317,1,none⟩ = some (.int .i64 0) := (blk_cell BK317.out 1).trans rfl;have hcz86_2 : w83.cell? ⟨gb317,2,none⟩ = some (.int .i64 0) := (blk_cell BK317.out 2).trans rfl;have hcz86_3 : w83.cell? ⟨gb317,3,none⟩ = some (.slice none 0 0) := (blk_cell BK317.out 3).trans rfl;have hfz86_0 := blk_frozen BK317.out 0;have hfz86_1 := blk_frozen BK317.out 1;have hfz86_2 := blk_frozen BK317.out 2;have hfz86_3 := blk_frozen BK317.out 3;obtain ⟨Ao87,co87,eo87⟩ := Kd.R_slice HO314.out;subst eo87))
           (try simp only [Act.put,List.setIfInBounds_toArray,List.set_cons_zero,List.set_cons_succ])
           go_cut [110] (fun v110 wc => ∃ (kq : Nat) (x110_73 : Bool),v110 = .bool x110_73 ∧ Aside0 (laws_FnExactGetMan.j2 kq t303 x110_73 t286 t287 t288 t304 = some r) ∧ Aside0 (kq ≤ kj41) ∧ Aside0 (Kd.R k66 66 wc w.heap.size (fun k_ => some k_ ≠ ((.slice Ao21 t289.length co21) : Value).ownBlock ∧ some k_ ≠ ((.slice Ao87 t312.length co87) : Value).ownBlock) (.slice Ao14 t277.length co14) t277) ∧ Aside0 (Kd.R k66 66 wc w.heap.size (fun k_ => some k_ ≠ ((.slice Ao14 t277.length co14) : Value).ownBlock ∧ some k_ ≠ ((.slice Ao87 t312.length co87) : Value).ownBlock) (.slice Ao21 t289.length co21) t304) ∧ Aside0 (Kd.R k66 66 wc w.heap.size (fun k_ => some k_ ≠ ((.slice Ao14 t277.length co14) : Value).ownBlock ∧ some k_ ≠ ((.slice Ao21 t289.length co21) : Value).ownBlock) (.slice Ao87 t312.length co87) t312) ∧ Aside0 (wc.heap[gb282]? = some (.cells #[.int .i64 t274,.int .i64 t275,.int .i64 t276,(.slice Ao14 t277.length co14)] 31 (0,0))) ∧ Aside0 (wc.heap[gb294]? = some (.cells #[.int .i64 t286,.int .i64 t287,.int .i64 t288,(.slice Ao21 t289.length co21)] 31 (0,0))) ∧ Aside0 (wc.heap[gb317]? = some (.cells #[.int .i64 t309,.int .i64 t310,.int .i64 t311,(.slice Ao87 t312.length co87)] 31 (0,0))) ∧ Aside0 (Below w.heap.size w wc))
           case first =>
            have H := HC74.out
            clear HC74
            replace H := Option.bind_eq_some_iff.mp H
            obtain ⟨t318,A880,H⟩ := H
            (try dsimp only at H)
            have A88 := Aside0.mk A880
            clear A880
            by_cases c89 : t318 = true
            ·subst c89
             rw [if_pos rfl] at H
             by_cases c90 : t315 = t280
             ·rw [if_pos c90] at H
              have c90b0 : (t315 == t280) = true := beq_iff_eq.mpr c90
              have c90b1 : (t315 != t280) = false := bne_eq_false_iff_eq.mpr c90
              clear c90
              (first | rw [c90b0] | (simp only [i64_w,i32_w];rw [c90b0]) | skip)
              have H' := Aside0.mk H
              clear H
              have hnb91 := NB317_282.out
              have hnc91 := NB282_317.out
              have hnb92 := NB317_294.out
              have hnc92 := NB294_317.out
              have hcz93_0 : w83.cell? ⟨gb317,0,none⟩ = some (.int .i64 0) := (blk_cell BK317.out 0).trans rfl
              have hcz93_1 : w83.cell? ⟨gb317,1,none⟩ = some (.int .i64 0) := (blk_cell BK317.out 1).trans rfl
              have hcz93_2 : w83.cell? ⟨gb317,2,none⟩ = some (.int .i64 0) := (blk_cell BK317.out 2).trans rfl
              have hcz93_3 : w83.cell? ⟨gb317,3,none⟩ = some (.slice none 0 0) := (blk_cell BK317.out 3).trans rfl
              have hfz93_0 := blk_frozen BK317.out 0
              have hfz93_1 := blk_frozen BK317.out 1
              have hfz93_2 := blk_frozen BK317.out 2
              have hfz93_3 := blk_frozen BK317.out 3
              have hnb94 := NB282_294.out
              have hnc94 := NB294_282.out
              have hcz95_0 : w83.cell? ⟨gb282,0,none⟩ = some (.int .i64 t274) := (blk_cell BK282.out 0).trans rfl
              have hcz95_1 : w83.cell? ⟨gb282,1,none⟩ = some (.int .i64 t275) := (blk_cell BK282.out 1).trans rfl
              have hcz95_2 : w83.cell? ⟨gb282,2,none⟩ = some (.int .i64 t276) := (blk_cell BK282.out 2).trans rfl
              have hcz95_3 : w83.cell? ⟨gb282,3,none⟩ = some (.slice Ao14 t277.length co14) := (blk_cell BK282.out 3).trans rfl
              have hfz95_0 := blk_frozen BK282.out 0
              have hfz95_1 := blk_frozen BK282.out 1
              have hfz95_2 := blk_frozen BK282.out 2
              have hfz95_3 := blk_frozen BK282.out 3
              go_wp2_with (first | ((with_reducible refine gate_callee (f := 16) rfl ?_);refine goesL_ (some 99) rfl rfl Try.func16 (by kernel_rfl) rfl #[.agg #[.int .i64 t309,.int .i64 t310,.int .i64 t311,.slice Ao87 t312.length co87],.agg #[.int .i64 t274,.int .i64 t275,.int .i64 t276,.slice Ao14 t277.length co14]] rfl eq_up ?_;(with_reducible refine (laws_eqManifest.calls kj41 t309 t310 t311 _ _ t312 t274 t275 t276 _ _ t277 true _ ?side1 ?side2 ?side3 ?side4 A88.out).mono ?_);(case side1 => refine (Kd.R_reads' (e := 66) (base := w.heap.size) (ok := fun k_ => ((True ∧ some k_ ≠ (.slice Ao14 t277.length co14 : Value).ownBlock) ∧ some k_ ≠ (.slice Ao21 t289.length co21 : Value).ownBlock)) (n := t312.length) (c := co87) ?_).2.2;exact (by (with_reducible repeat (first | apply Kd.R_alloc | apply Kd.R_drewN | apply Kd.R_drew));exact (Kd.R_mono (Kd.R_far (p := ⟨gb317,3,none⟩) (Kd.R_far (p := ⟨gb317,2,none⟩) (Kd.R_far (p := ⟨gb317,1,none⟩) (Kd.R_far (p := ⟨gb317,0,none⟩) (Kd.R_types HO314.out BK317.out (by decide)) (fun _ hk => hk.2) (.int .i64 t309)) (fun _ hk => hk.2) (.int .i64 t310)) (fun _ hk => hk.2) (.int .i64 t311)) (fun _ hk => hk.2) (.slice Ao87 t312.length co87)) (fun _ h_ => h_.1))));(case side2 => exact (Kd.R_reads' HO314.out).2.1);(case side3 => refine (Kd.R_reads' (e := 66) (base := w.heap.size) (ok := fun k_ => (some k_ ≠ (.slice Ao21 t289.length co21 : Value).ownBlock ∧ some k_ ≠ (.slice Ao87 t312.length co87 : Value).ownBlock)) (n := t277.length) (c := co14) ?_).2.2;exact (by (with_reducible repeat (first | apply Kd.R_alloc | apply Kd.R_drewN | apply Kd.R_drew));exact (Kd.R_mono (Kd.R_far (p := ⟨gb317,3,none⟩) (Kd.R_far (p := ⟨gb317,2,none⟩) (Kd.R_far (p := ⟨gb317,1,none⟩) (Kd.R_far (p := ⟨gb317,0,none⟩) (Kd.R_types HO_283003.out BK317.out (by decide)) (fun _ hk => hk.2) (.int .i64 t309)) (fun _ hk => hk.2) (.int .i64 t310)) (fun _ hk => hk.2) (.int .i64 t311)) (fun _ hk => hk.2) (.slice Ao87 t312.length co87)) (fun _ h_ => h_.1))));(case side4 => exact (Kd.R_reads' HO_283003.out).2.1);rintro e w96 ⟨rfl,hb⟩;refine ⟨_,rfl,?_⟩;have n0_ := Aside0.mk (Kd.R_below (by (with_reducible repeat (first | apply Kd.R_alloc | apply Kd.R_drewN | apply Kd.R_drew));exact (Kd.R_mono (Kd.R_far (p := ⟨gb317,3,none⟩) (Kd.R_far (p := ⟨gb317,2,none⟩) (Kd.R_far (p := ⟨gb317,1,none⟩) (Kd.R_far (p := ⟨gb317,0,none⟩) (Kd.R_types HO_283003.out BK317.out (by decide)) (fun _ hk => hk.2) (.int .i64 t309)) (fun _ hk => hk.2) (.int .i64 t310)) (fun _ hk => hk.2) (.int .i64 t311)) (fun _ hk => hk.2) (.slice Ao87 t312.length co87)) (fun _ h_ => h_.1))) hb);have n1_ := Aside0.mk (Kd.R_below (by (with_reducible repeat (first | apply Kd.R_alloc | apply Kd.R_drewN | apply Kd.R_drew));exact (Kd.R_mono (Kd.R_far (p := ⟨gb317,3,none⟩) (Kd.R_far (p := ⟨gb317,2,none⟩) (Kd.R_far (p := ⟨gb317,1,none⟩) (Kd.R_far (p := ⟨gb317,0,none⟩) (Kd.R_types HO_295003.out BK317.out (by decide)) (fun _ hk => hk.2) (.int .i64 t309)) (fun _ hk => hk.2) (.int .i64 t310)) (fun _ hk => hk.2) (.int .i64 t311)) (fun _ hk => hk.2) (.slice Ao87 t312.length co87)) (fun _ h_ => h_.1))) hb);have n2_ := Aside0.mk (Kd.R_below (by (with_reducible repeat (first | apply Kd.R_alloc | apply Kd.R_drewN | apply Kd.R_drew));exact (Kd.R_mono (Kd.R_far (p := ⟨gb317,3,none⟩) (Kd.R_far (p := ⟨gb317,2,none⟩) (Kd.R_far (p := ⟨gb317,1,none⟩) (Kd.R_far (p := ⟨gb317,0,none⟩) (Kd.R_types HO308.out BK317.out (by decide)) (fun _ hk => hk.2) (.int .i64 t309)) (fun _ hk => hk.2) (.int .i64 t310)) (fun _ hk => hk.2) (.int .i64 t311)) (fun _ hk => hk.2) (.slice Ao87 t312.length co87)) (fun _ h_ => h_.1))) hb);have n3_ := Aside0.mk (Kd.R_below (by (with_reducible repeat (first | apply Kd.R_alloc | apply Kd.R_drewN | apply Kd.R_drew));exact (Kd.R_mono (Kd.R_far (p := ⟨gb317,3,none⟩) (Kd.R_far (p := ⟨gb317,2,none⟩) (Kd.R_far (p := ⟨gb317,1,none⟩) (Kd.R_far (p := ⟨gb317,0,none⟩) (Kd.R_types HO314.out BK317.out (by decide)) (fun _ hk => hk.2) (.int .i64 t309)) (fun _ hk => hk.2) (.int .i64 t310)) (fun _ hk => hk.2) (.int .i64 t311)) (fun _ hk => hk.2) (.slice Ao87 t312.length co87)) (fun _ h_ => h_.1))) hb);have n4_ := Aside0.mk (blk_below (g := gb282) (o := .cells #[.int .i64 t274,.int .i64 t275,.int .i64 t276,.slice Ao14 t277.length co14] 31 (0,0)) (by (with_reducible repeat (first | refine blk_drewN ?_ _ | refine blk_drew ?_ | refine blk_alloc ?_ _));refine blk_far ?_ NB282_317.out _;(with_reducible repeat (first | refine blk_drewN ?_ _ | refine blk_drew ?_ | refine blk_alloc ?_ _));refine blk_far ?_ NB282_317.out _;(with_reducible repeat (first | refine blk_drewN ?_ _ | refine blk_drew ?_ | refine blk_alloc ?_ _));refine blk_far ?_ NB282_317.out _;(with_reducible repeat (first | refine blk_drewN ?_ _ | refine blk_drew ?_ | refine blk_alloc ?_ _));refine blk_far ?_ NB282_317.out _;(with_reducible repeat (first | refine blk_drewN ?_ _ | refine blk_drew ?_ | refine blk_alloc ?_ _));exact BK282.out) hb);have n5_ := Aside0.mk (blk_below (g := gb294) (o := .cells #[.int .i64 t286,.int .i64 t287,.int .i64 t288,.slice Ao21 t289.length co21] 31 (0,0)) (by (with_reducible repeat (first | refine blk_drewN ?_ _ | refine blk_drew ?_ | refine blk_alloc ?_ _));refine blk_far ?_ NB294_317.out _;(with_reducible repeat (first | refine blk_drewN ?_ _ | refine blk_drew ?_ | refine blk_alloc ?_ _));refine blk_far ?_ NB294_317.out _;(with_reducible repeat (first | refine blk_drewN ?_ _ | refine blk_drew ?_ | refine blk_alloc ?_ _));refine blk_far ?_ NB294_317.out _;(with_reducible repeat (first | refine blk_drewN ?_ _ | refine blk_drew ?_ | refine blk_alloc ?_ _));refine blk_far ?_ NB294_317.out _;(with_reducible repeat (first | refine blk_drewN ?_ _ | refine blk_drew ?_ | refine blk_alloc ?_ _));exact BK294.out) hb);have n6_ := Aside0.mk (blk_below (g := gb317) (o := .cells #[.int .i64 t309,.int .i64 t310,.int .i64 t311,.slice Ao87 t312.length co87] 31 (0,0)) (by (with_reducible repeat (first | refine blk_drewN ?_ _ | refine blk_drew ?_ | refine blk_alloc ?_ _));refine blk_put (cs := #[.int .i64 t309,.int .i64 t310,.int .i64 t311,.slice none 0 0]) ?_ 3 _ rfl;(with_reducible repeat (first | refine blk_drewN ?_ _ | refine blk_drew ?_ | refine blk_alloc ?_ _));refine blk_put (cs := #[.int .i64 t309,.int .i64 t310,.int .i64 0,.slice none 0 0]) ?_ 2 _ rfl;(with_reducible repeat (first | refine blk_drewN ?_ _ | refine blk_drew ?_ | refine blk_alloc ?_ _));refine blk_put (cs := #[.int .i64 t309,.int .i64 0,.int .i64 0,.slice none 0 0]) ?_ 1 _ rfl;(with_reducible repeat (first | refine blk_drewN ?_ _ | refine blk_drew ?_ | refine blk_alloc ?_ _));refine blk_put (cs := #[.int .i64 0,.int .i64 0,.int .i64 0,.slice none 0 0]) ?_ 0 _ rfl;(with_reducible repeat (first | refine blk_drewN ?_ _ | refine blk_drew ?_ | refine blk_alloc ?_ _));exact BK317.out) hb);have n7_ := Aside0.mk (below_step (B_set HB.out) hb);clear HO_283003;clear HO_295003;clear HO308;clear HO314;clear BK282;clear BK294;clear BK317;clear HB;have HO_283003 := n0_;have HO_295003 := n1_;have HO308 := n2_;have HO314 := n3_;have BK282 := n4_;have BK294 := n5_;have BK317 := n6_;have HB := n7_;clear n0_ n1_ n2_ n3_ n4_ n5_ n6_ n7_;(try clear hb);(try clear hb2);(try clear hk);(try clear hi)))
              go_meet
              case rel => exact ⟨_,((t316 != t281)),(by first | rfl | (simp;done) | (simp [*];done)),H',⟨by have := HJ7.out;have := HJ41.out;first | omega | exact Nat.le_refl _⟩,⟨by (with_reducible repeat (first | apply Kd.R_alloc | apply Kd.R_drewN | apply Kd.R_drew));exact HO_283003.out⟩,⟨by (with_reducible repeat (first | apply Kd.R_alloc | apply Kd.R_drewN | apply Kd.R_drew));exact HO_295003.out⟩,⟨by (with_reducible repeat (first | apply Kd.R_alloc | apply Kd.R_drewN | apply Kd.R_drew));exact Kd.R_mono HO314.out (fun _ hk => ⟨hk.1.2,hk.2⟩)⟩,⟨by (with_reducible repeat (first | refine blk_drewN ?_ _ | refine blk_drew ?_ | refine blk_alloc ?_ _));exact BK282.out⟩,⟨by (with_reducible repeat (first | refine blk_drewN ?_ _ | refine blk_drew ?_ | refine blk_alloc ?_ _));exact BK294.out⟩,⟨by (with_reducible repeat (first | refine blk_drewN ?_ _ | refine blk_drew ?_ | refine blk_alloc ?_ _));exact BK317.out⟩,⟨by repeat (first | (with_reducible first | exact HB.out | apply below_alloc | apply pw_below_drewN | apply below_drew1 | refine below_set ?_ GE282.out | refine below_set ?_ GE294.out | refine below_set ?_ GE317.out) | exact HB.out)⟩⟩
             ·rw [if_neg c90] at H
              have c90b0 : (t315 == t280) = false := beq_eq_false_iff_ne.mpr c90
              have c90b1 : (t315 != t280) = true := bne_iff_ne.mpr c90
              (first | rw [c90b0] | (simp only [i64_w,i32_w];rw [c90b0]) | skip)
              have H' := Aside0.mk H
              clear H
              have hnb97 := NB317_282.out
              have hnc97 := NB282_317.out
              have hnb98 := NB317_294.out
              have hnc98 := NB294_317.out
              have hcz99_0 : w83.cell? ⟨gb317,0,none⟩ = some (.int .i64 0) := (blk_cell BK317.out 0).trans rfl
              have hcz99_1 : w83.cell? ⟨gb317,1,none⟩ = some (.int .i64 0) := (blk_cell BK317.out 1).trans rfl
              have hcz99_2 : w83.cell? ⟨gb317,2,none⟩ = some (.int .i64 0) := (blk_cell BK317.out 2).trans rfl
              have hcz99_3 : w83.cell? ⟨gb317,3,none⟩ = some (.slice none 0 0) := (blk_cell BK317.out 3).trans rfl
              have hfz99_0 := blk_frozen BK317.out 0
              have hfz99_1 := blk_frozen BK317.out 1
              have hfz99_2 := blk_frozen BK317.out 2
              have hfz99_3 := blk_frozen BK317.out 3
              have hnb100 := NB282_294.out
              have hnc100 := NB294_282.out
              have hcz101_0 : w83.cell? ⟨gb282,0,none⟩ = some (.int .i64 t274) := (blk_cell BK282.out 0).trans rfl
              have hcz101_1 : w83.cell? ⟨gb282,1,none⟩ = some (.int .i64 t275) := (blk_cell BK282.out 1).trans rfl
              have hcz101_2 : w83.cell? ⟨gb282,2,none⟩ = some (.int .i64 t276) := (blk_cell BK282.out 2).trans rfl
              have hcz101_3 : w83.cell? ⟨gb282,3,none⟩ = some (.slice Ao14 t277.length co14) := (blk_cell BK282.out 3).trans rfl
              have hfz101_0 := blk_frozen BK282.out 0
              have hfz101_1 := blk_frozen BK282.out 1
              have hfz101_2 := blk_frozen BK282.out 2
              have hfz101_3 := blk_frozen BK282.out 3
              go_wp2_with (first | ((with_reducible refine gate_callee (f := 16) rfl ?_);refine goesL_ (some 99) rfl rfl Try.func16 (by kernel_rfl) rfl #[.agg #[.int .i64 t309,.int .i64 t310,.int .i64 t311,.slice Ao87 t312.length co87],.agg #[.int .i64 t274,.int .i64 t275,.int .i64 t276,.slice Ao14 t277.length co14]] rfl eq_up ?_;(with_reducible refine (laws_eqManifest.calls kj41 t309 t310 t311 _ _ t312 t274 t275 t276 _ _ t277 true _ ?side1 ?side2 ?side3 ?side4 A88.out).mono ?_);(case side1 => refine (Kd.R_reads' (e := 66) (base := w.heap.size) (ok := fun k_ => ((True ∧ some k_ ≠ (.slice Ao14 t277.length co14 : Value).ownBlock) ∧ some k_ ≠ (.slice Ao21 t289.length co21 : Value).ownBlock)) (n := t312.length) (c := co87) ?_).2.2;exact (by (with_reducible repeat (first | apply Kd.R_alloc | apply Kd.R_drewN | apply Kd.R_drew));exact (Kd.R_mono (Kd.R_far (p := ⟨gb317,3,none⟩) (Kd.R_far (p := ⟨gb317,2,none⟩) (Kd.R_far (p := ⟨gb317,1,none⟩) (Kd.R_far (p := ⟨gb317,0,none⟩) (Kd.R_types HO314.out BK317.out (by decide)) (fun _ hk => hk.2) (.int .i64 t309)) (fun _ hk => hk.2) (.int .i64 t310)) (fun _ hk => hk.2) (.int .i64 t311)) (fun _ hk => hk.2) (.slice Ao87 t312.length co87)) (fun _ h_ => h_.1))));(case side2 => exact (Kd.R_reads' HO314.out).2.1);(case side3 => refine (Kd.R_reads' (e := 66) (base := w.heap.size) (ok := fun k_ => (some k_ ≠ (.slice Ao21 t289.length co21 : Value).ownBlock ∧ some k_ ≠ (.slice Ao87 t312.length co87 : Value).ownBlock)) (n := t277.length) (c := co14) ?_).2.2;exact (by (with_reducible repeat (first | apply Kd.R_alloc | apply Kd.R_drewN | apply Kd.R_drew));exact (Kd.R_mono (Kd.R_far (p := ⟨gb317,3,none⟩) (Kd.R_far (p := ⟨gb317,2,none⟩) (Kd.R_far (p := ⟨gb317,1,none⟩) (Kd.R_far (p := ⟨gb317,0,none⟩) (Kd.R_types HO_283003.out BK317.out (by decide)) (fun _ hk => hk.2) (.int .i64 t309)) (fun _ hk => hk.2) (.int .i64 t310)) (fun _ hk => hk.2) (.int .i64 t311)) (fun _ hk => hk.2) (.slice Ao87 t312.length co87)) (fun _ h_ => h_.1))));(case side4 => exact (Kd.R_reads' HO_283003.out).2.1);rintro e w102 ⟨rfl,hb⟩;refine ⟨_,rfl,?_⟩;have n0_ := Aside0.mk (Kd.R_below (by (with_reducible repeat (first | apply Kd.R_alloc | apply Kd.R_drewN | apply Kd.R_drew));exact (Kd.R_mono (Kd.R_far (p := ⟨gb317,3,none⟩) (Kd.R_far (p := ⟨gb317,2,none⟩) (Kd.R_far (p := ⟨gb317,1,none⟩) (Kd.R_far (p := ⟨gb317,0,none⟩) (Kd.R_types HO_283003.out BK317.out (by decide)) (fun _ hk => hk.2) (.int .i64 t309)) (fun _ hk => hk.2) (.int .i64 t310)) (fun _ hk => hk.2) (.int .i64 t311)) (fun _ hk => hk.2) (.slice Ao87 t312.length co87)) (fun _ h_ => h_.1))) hb);have n1_ := Aside0.mk (Kd.R_below (by (with_reducible repeat (first | apply Kd.R_alloc | apply Kd.R_drewN | apply Kd.R_drew));exact (Kd.R_mono (Kd.R_far (p := ⟨gb317,3,none⟩) (Kd.R_far (p := ⟨gb317,2,none⟩) (Kd.R_far (p := ⟨gb317,1,none⟩) (Kd.R_far (p := ⟨gb317,0,none⟩) (Kd.R_types HO_295003.out BK317.out (by decide)) (fun _ hk => hk.2) (.int .i64 t309)) (fun _ hk => hk.2) (.int .i64 t310)) (fun _ hk => hk.2) (.int .i64 t311)) (fun _ hk => hk.2) (.slice Ao87 t312.length co87)) (fun _ h_ => h_.1))) hb);have n2_ := Aside0.mk (Kd.R_below (by (with_reducible repeat (first | apply Kd.R_alloc | apply Kd.R_drewN | apply Kd.R_drew));exact (Kd.R_mono (Kd.R_far (p := ⟨gb317,3,none⟩) (Kd.R_far (p := ⟨gb317,2,none⟩) (Kd.R_far (p := ⟨gb317,1,none⟩) (Kd.R_far (p := ⟨gb317,0,none⟩) (Kd.R_types HO308.out BK317.out (by decide)) (fun _ hk => hk.2) (.int .i64 t309)) (fun _ hk => hk.2) (.int .i64 t310)) (fun _ hk => hk.2) (.int .i64 t311)) (fun _ hk => hk.2) (.slice Ao87 t312.length co87)) (fun _ h_ => h_.1))) hb);have n3_ := Aside0.mk (Kd.R_below (by (with_reducible repeat (first | apply Kd.R_alloc | apply Kd.R_drewN | apply Kd.R_drew));exact (Kd.R_mono (Kd.R_far (p := ⟨gb317,3,none⟩) (Kd.R_far (p := ⟨gb317,2,none⟩) (Kd.R_far (p := ⟨gb317,1,none⟩) (Kd.R_far (p := ⟨gb317,0,none⟩) (Kd.R_types HO314.out BK317.out (by decide)) (fun _ hk => hk.2) (.int .i64 t309)) (fun _ hk => hk.2) (.int .i64 t310)) (fun _ hk => hk.2) (.int .i64 t311)) (fun _ hk => hk.2) (.slice Ao87 t312.length co87)) (fun _ h_ => h_.1))) hb);have n4_ := Aside0.mk (blk_below (g := gb282) (o := .cells #[.int .i64 t274,.int .i64 t275,.int .i64 t276,.slice Ao14 t277.length co14] 31 (0,0)) (by (with_reducible repeat (first | refine blk_drewN ?_ _ | refine blk_drew ?_ | refine blk_alloc ?_ _));refine blk_far ?_ NB282_317.out _;(with_reducible repeat (first | refine blk_drewN ?_ _ | refine blk_drew ?_ | refine blk_alloc ?_ _));refine blk_far ?_ NB282_317.out _;(with_reducible repeat (first | refine blk_drewN ?_ _ | refine blk_drew ?_ | refine blk_alloc ?_ _));refine blk_far ?_ NB282_317.out _;(with_reducible repeat (first | refine blk_drewN ?_ _ | refine blk_drew ?_ | refine blk_alloc ?_ _));refine blk_far ?_ NB282_317.out _;(with_reducible repeat (first | refine blk_drewN ?_ _ | refine blk_drew ?_ | refine blk_alloc ?_ _));exact BK282.out) hb);have n5_ := Aside0.mk (blk_below (g := gb294) (o := .cells #[.int .i64 t286,.int .i64 t287,.int .i64 t288,.slice Ao21 t289.length co21] 31 (0,0)) (by (with_reducible repeat (first | refine blk_drewN ?_ _ | refine blk_drew ?_ | refine blk_alloc ?_ _));refine blk_far ?_ NB294_317.out _;(with_reducible repeat (first | refine blk_drewN ?_ _ | refine blk_drew ?_ | refine blk_alloc ?_ _));refine blk_far ?_ NB294_317.out _;(with_reducible repeat (first | refine blk_drewN ?_ _ | refine blk_drew ?_ | refine blk_alloc ?_ _));refine blk_far ?_ NB294_317.out _;(with_reducible repeat (first | refine blk_drewN ?_ _ | refine blk_drew ?_ | refine blk_alloc ?_ _));refine blk_far ?_ NB294_317.out _;(with_reducible repeat (first | refine blk_drewN ?_ _ | refine blk_drew ?_ | refine blk_alloc ?_ _));exact BK294.out) hb);have n6_ := Aside0.mk (blk_below (g := gb317) (o := .cells #[.int .i64 t309,.int .i64 t310,.int .i64 t311,.slice Ao87 t312.length co87] 31 (0,0)) (by (with_reducible repeat (first | refine blk_drewN ?_ _ | refine blk_drew ?_ | refine blk_alloc ?_ _));refine blk_put (cs := #[.int .i64 t309,.int .i64 t310,.int .i64 t311,.slice none 0 0]) ?_ 3 _ rfl;(with_reducible repeat (first | refine blk_drewN ?_ _ | refine blk_drew ?_ | refine blk_alloc ?_ _));refine blk_put (cs := #[.int .i64 t309,.int .i64 t310,.int .i64 0,.slice none 0 0]) ?_ 2 _ rfl;(with_reducible repeat (first | refine blk_drewN ?_ _ | refine blk_drew ?_ | refine blk_alloc ?_ _));refine blk_put (cs := #[.int .i64 t309,.int .i64 0,.int .i64 0,.slice none 0 0]) ?_ 1 _ rfl;(with_reducible repeat (first | refine blk_drewN ?_ _ | refine blk_drew ?_ | refine blk_alloc ?_ _));refine blk_put (cs := #[.int .i64 0,.int .i64 0,.int .i64 0,.slice none 0 0]) ?_ 0 _ rfl;(with_reducible repeat (first | refine blk_drewN ?_ _ | refine blk_drew ?_ | refine blk_alloc ?_ _));exact BK317.out) hb);have n7_ := Aside0.mk (below_step (B_set HB.out) hb);clear HO_283003;clear HO_295003;clear HO308;clear HO314;clear BK282;clear BK294;clear BK317;clear HB;have HO_283003 := n0_;have HO_295003 := n1_;have HO308 := n2_;have HO314 := n3_;have BK282 := n4_;have BK294 := n5_;have BK317 := n6_;have HB := n7_;clear n0_ n1_ n2_ n3_ n4_ n5_ n6_ n7_;(try clear hb);(try clear hb2);(try clear hk);(try clear hi)))
              go_meet
              case rel => exact ⟨_,(true),(by first | rfl | (simp;done) | (simp [*];done)),H',⟨by have := HJ7.out;have := HJ41.out;first | omega | exact Nat.le_refl _⟩,⟨by (with_reducible repeat (first | apply Kd.R_alloc | apply Kd.R_drewN | apply Kd.R_drew));exact HO_283003.out⟩,⟨by (with_reducible repeat (first | apply Kd.R_alloc | apply Kd.R_drewN | apply Kd.R_drew));exact HO_295003.out⟩,⟨by (with_reducible repeat (first | apply Kd.R_alloc | apply Kd.R_drewN | apply Kd.R_drew));exact Kd.R_mono HO314.out (fun _ hk => ⟨hk.1.2,hk.2⟩)⟩,⟨by (with_reducible repeat (first | refine blk_drewN ?_ _ | refine blk_drew ?_ | refine blk_alloc ?_ _));exact BK282.out⟩,⟨by (with_reducible repeat (first | refine blk_drewN ?_ _ | refine blk_drew ?_ | refine blk_alloc ?_ _));exact BK294.out⟩,⟨by (with_reducible repeat (first | refine blk_drewN ?_ _ | refine blk_drew ?_ | refine blk_alloc ?_ _));exact BK317.out⟩,⟨by repeat (first | (with_reducible first | exact HB.out | apply below_alloc | apply pw_below_drewN | apply below_drew1 | refine below_set ?_ GE282.out | refine below_set ?_ GE294.out | refine below_set ?_ GE317.out) | exact HB.out)⟩⟩
            ·replace c89 := Bool.eq_false_iff.mpr c89
             subst c89
             have H1 : (laws_FnExactGetMan.j2 kj41 t303 true t286 t287 t288 t304) = some r := by rw [if_neg (show ¬ (false = true) by decide)] at H;exact H
             clear H
             have H := H1
             clear H1
             have H' := Aside0.mk H
             clear H
             have hnb103 := NB317_282.out
             have hnc103 := NB282_317.out
             have hnb104 := NB317_294.out
             have hnc104 := NB294_317.out
             have hcz105_0 : w83.cell? ⟨gb317,0,none⟩ = some (.int .i64 0) := (blk_cell BK317.out 0).trans rfl
             have hcz105_1 : w83.cell? ⟨gb317,1,none⟩ = some (.int .i64 0) := (blk_cell BK317.out 1).trans rfl
             have hcz105_2 : w83.cell? ⟨gb317,2,none⟩ = some (.int .i64 0) := (blk_cell BK317.out 2).trans rfl
             have hcz105_3 : w83.cell? ⟨gb317,3,none⟩ = some (.slice none 0 0) := (blk_cell BK317.out 3).trans rfl
             have hfz105_0 := blk_frozen BK317.out 0
             have hfz105_1 := blk_frozen BK317.out 1
             have hfz105_2 := blk_frozen BK317.out 2
             have hfz105_3 := blk_frozen BK317.out 3
             have hnb106 := NB282_294.out
             have hnc106 := NB294_282.out
             have hcz107_0 : w83.cell? ⟨gb282,0,none⟩ = some (.int .i64 t274) := (blk_cell BK282.out 0).trans rfl
             have hcz107_1 : w83.cell? ⟨gb282,1,none⟩ = some (.int .i64 t275) := (blk_cell BK282.out 1).trans rfl
             have hcz107_2 : w83.cell? ⟨gb282,2,none⟩ = some (.int .i64 t276) := (blk_cell BK282.out 2).trans rfl
             have hcz107_3 : w83.cell? ⟨gb282,3,none⟩ = some (.slice Ao14 t277.length co14) := (blk_cell BK282.out 3).trans rfl
             have hfz107_0 := blk_frozen BK282.out 0
             have hfz107_1 := blk_frozen BK282.out 1
             have hfz107_2 := blk_frozen BK282.out 2
             have hfz107_3 := blk_frozen BK282.out 3
             go_wp2_with (first | ((with_reducible refine gate_callee (f := 16) rfl ?_);refine goesL_ (some 99) rfl rfl Try.func16 (by kernel_rfl) rfl #[.agg #[.int .i64 t309,.int .i64 t310,.int .i64 t311,.slice Ao87 t312.length co87],.agg #[.int .i64 t274,.int .i64 t275,.int .i64 t276,.slice Ao14 t277.length co14]] rfl eq_up ?_;(with_reducible refine (laws_eqManifest.calls kj41 t309 t310 t311 _ _ t312 t274 t275 t276 _ _ t277 false _ ?side1 ?side2 ?side3 ?side4 A88.out).mono ?_);(case side1 => refine (Kd.R_reads' (e := 66) (base := w.heap.size) (ok := fun k_ => ((True ∧ some k_ ≠ (.slice Ao14 t277.length co14 : Value).ownBlock) ∧ some k_ ≠ (.slice Ao21 t289.length co21 : Value).ownBlock)) (n := t312.length) (c := co87) ?_).2.2;exact (by (with_reducible repeat (first | apply Kd.R_alloc | apply Kd.R_drewN | apply Kd.R_drew));exact (Kd.R_mono (Kd.R_far (p := ⟨gb317,3,none⟩) (Kd.R_far (p := ⟨gb317,2,none⟩) (Kd.R_far (p := ⟨gb317,1,none⟩) (Kd.R_far (p := ⟨gb317,0,none⟩) (Kd.R_types HO314.out BK317.out (by decide)) (fun _ hk => hk.2) (.int .i64 t309)) (fun _ hk => hk.2) (.int .i64 t310)) (fun _ hk => hk.2) (.int .i64 t311)) (fun _ hk => hk.2) (.slice Ao87 t312.length co87)) (fun _ h_ => h_.1))));(case side2 => exact (Kd.R_reads' HO314.out).2.1);(case side3 => refine (Kd.R_reads' (e := 66) (base := w.heap.size) (ok := fun k_ => (some k_ ≠ (.slice Ao21 t289.length co21 : Value).ownBlock ∧ some k_ ≠ (.slice Ao87 t312.length co87 : Value).ownBlock)) (n := t277.length) (c := co14) ?_).2.2;exact (by (with_reducible repeat (first | apply Kd.R_alloc | apply Kd.R_drewN | apply Kd.R_drew));exact (Kd.R_mono (Kd.R_far (p := ⟨gb317,3,none⟩) (Kd.R_far (p := ⟨gb317,2,none⟩) (Kd.R_far (p := ⟨gb317,1,none⟩) (Kd.R_far (p := ⟨gb317,0,none⟩) (Kd.R_types HO_283003.out BK317.out (by decide)) (fun _ hk => hk.2) (.int .i64 t309)) (fun _ hk => hk.2) (.int .i64 t310)) (fun _ hk => hk.2) (.int .i64 t311)) (fun _ hk => hk.2) (.slice Ao87 t312.length co87)) (fun _ h_ => h_.1))));(case side4 => exact (Kd.R_reads' HO_283003.out).2.1);rintro e w108 ⟨rfl,hb⟩;refine ⟨_,rfl,?_⟩;have n0_ := Aside0.mk (Kd.R_below (by (with_reducible repeat (first | apply Kd.R_alloc | apply Kd.R_drewN | apply Kd.R_drew));exact (Kd.R_mono (Kd.R_far (p := ⟨gb317,3,none⟩) (Kd.R_far (p := ⟨gb317,2,none⟩) (Kd.R_far (p := ⟨gb317,1,none⟩) (Kd.R_far (p := ⟨gb317,0,none⟩) (Kd.R_types HO_283003.out BK317.out (by decide)) (fun _ hk => hk.2) (.int .i64 t309)) (fun _ hk => hk.2) (.int .i64 t310)) (fun _ hk => hk.2) (.int .i64 t311)) (fun _ hk => hk.2) (.slice Ao87 t312.length co87)) (fun _ h_ => h_.1))) hb);have n1_ := Aside0.mk (Kd.R_below (by (with_reducible repeat (first | apply Kd.R_alloc | apply Kd.R_drewN | apply Kd.R_drew));exact (Kd.R_mono (Kd.R_far (p := ⟨gb317,3,none⟩) (Kd.R_far (p := ⟨gb317,2,none⟩) (Kd.R_far (p := ⟨gb317,1,none⟩) (Kd.R_far (p := ⟨gb317,0,none⟩) (Kd.R_types HO_295003.out BK317.out (by decide)) (fun _ hk => hk.2) (.int .i64 t309)) (fun _ hk => hk.2) (.int .i64 t310)) (fun _ hk => hk.2) (.int .i64 t311)) (fun _ hk => hk.2) (.slice Ao87 t312.length co87)) (fun _ h_ => h_.1))) hb);have n2_ := Aside0.mk (Kd.R_below (by (with_reducible repeat (first | apply Kd.R_alloc | apply Kd.R_drewN | apply Kd.R_drew));exact (Kd.R_mono (Kd.R_far (p := ⟨gb317,3,none⟩) (Kd.R_far (p := ⟨gb317,2,none⟩) (Kd.R_far (p := ⟨gb317,1,none⟩) (Kd.R_far (p := ⟨gb317,0,none⟩) (Kd.R_types HO308.out BK317.out (by decide)) (fun _ hk => hk.2) (.int .i64 t309)) (fun _ hk => hk.2) (.int .i64 t310)) (fun _ hk => hk.2) (.int .i64 t311)) (fun _ hk => hk.2) (.slice Ao87 t312.length co87)) (fun _ h_ => h_.1))) hb);have n3_ := Aside0.mk (Kd.R_below (by (with_reducible repeat (first | apply Kd.R_alloc | apply Kd.R_drewN | apply Kd.R_drew));exact (Kd.R_mono (Kd.R_far (p := ⟨gb317,3,none⟩) (Kd.R_far (p := ⟨gb317,2,none⟩) (Kd.R_far (p := ⟨gb317,1,none⟩) (Kd.R_far (p := ⟨gb317,0,none⟩) (Kd.R_types HO314.out BK317.out (by decide)) (fun _ hk => hk.2) (.int .i64 t309)) (fun _ hk => hk.2) (.int .i64 t310)) (fun _ hk => hk.2) (.int .i64 t311)) (fun _ hk => hk.2) (.slice Ao87 t312.length co87)) (fun _ h_ => h_.1))) hb);have n4_ := Aside0.mk (blk_below (g := gb282) (o := .cells #[.int .i64 t274,.int .i64 t275,.int .i64 t276,.slice Ao14 t277.length co14] 31 (0,0)) (by (with_reducible repeat (first | refine blk_drewN ?_ _ | refine blk_drew ?_ | refine blk_alloc ?_ _));refine blk_far ?_ NB282_317.out _;(with_reducible repeat (first | refine blk_drewN ?_ _ | refine blk_drew ?_ | refine blk_alloc ?_ _));refine blk_far ?_ NB282_317.out _;(with_reducible repeat (first | refine blk_drewN ?_ _ | refine blk_drew ?_ | refine blk_alloc ?_ _));refine blk_far ?_ NB282_317.out _;(with_reducible repeat (first | refine blk_drewN ?_ _ | refine blk_drew ?_ | refine blk_alloc ?_ _));refine blk_far ?_ NB282_317.out _;(with_reducible repeat (first | refine blk_drewN ?_ _ | refine blk_drew ?_ | refine blk_alloc ?_ _));exact BK282.out) hb);have n5_ := Aside0.mk (blk_below (g := gb294) (o := .cells #[.int .i64 t286,.int .i64 t287,.int .i64 t288,.slice Ao21 t289.length co21] 31 (0,0)) (by (with_reducible repeat (first | refine blk_drewN ?_ _ | refine blk_drew ?_ | refine blk_alloc ?_ _));refine blk_far ?_ NB294_317.out _;(with_reducible repeat (first | refine blk_drewN ?_ _ | refine blk_drew ?_ | refine blk_alloc ?_ _));refine blk_far ?_ NB294_317.out _;(with_reducible repeat (first | refine blk_drewN ?_ _ | refine blk_drew ?_ | refine blk_alloc ?_ _));refine blk_far ?_ NB294_317.out _;(with_reducible repeat (first | refine blk_drewN ?_ _ | refine blk_drew ?_ | refine blk_alloc ?_ _));refine blk_far ?_ NB294_317.out _;(with_reducible repeat (first | refine blk_drewN ?_ _ | refine blk_drew ?_ | refine blk_alloc ?_ _));exact BK294.out) hb);have n6_ := Aside0.mk (blk_below (g := gb317) (o := .cells #[.int .i64 t309,.int .i64 t310,.int .i64 t311,.slice Ao87 t312.length co87] 31 (0,0)) (by (with_reducible repeat (first | refine blk_drewN ?_ _ | refine blk_drew ?_ | refine blk_alloc ?_ _));refine blk_put (cs := #[.int .i64 t309,.int .i64 t310,.int .i64 t311,.slice none 0 0]) ?_ 3 _ rfl;(with_reducible repeat (first | refine blk_drewN ?_ _ | refine blk_drew ?_ | refine blk_alloc ?_ _));refine blk_put (cs := #[.int .i64 t309,.int .i64 t310,.int .i64 0,.slice none 0 0]) ?_ 2 _ rfl;(with_reducible repeat (first | refine blk_drewN ?_ _ | refine blk_drew ?_ | refine blk_alloc ?_ _));refine blk_put (cs := #[.int .i64 t309,.int .i64 0,.int .i64 0,.slice none 0 0]) ?_ 1 _ rfl;(with_reducible repeat (first | refine blk_drewN ?_ _ | refine blk_drew ?_ | refine blk_alloc ?_ _));refine blk_put (cs := #[.int .i64 0,.int .i64 0,.int .i64 0,.slice none 0 0]) ?_ 0 _ rfl;(with_reducible repeat (first | refine blk_drewN ?_ _ | refine blk_drew ?_ | refine blk_alloc ?_ _));exact BK317.out) hb);have n7_ := Aside0.mk (below_step (B_set HB.out) hb);clear HO_283003;clear HO_295003;clear HO308;clear HO314;clear BK282;clear BK294;clear BK317;clear HB;have HO_283003 := n0_;have HO_295003 := n1_;have HO308 := n2_;have HO314 := n3_;have BK282 := n4_;have BK294 := n5_;have BK317 := n6_;have HB := n7_;clear n0_ n1_ n2_ n3_ n4_ n5_ n6_ n7_;(try clear hb);(try clear hb2);(try clear hk);(try clear hi)))
             go_meet
             case rel => exact ⟨_,(true),(by first | rfl | (simp;done) | (simp [*];done)),H',⟨by have := HJ7.out;have := HJ41.out;first | omega | exact Nat.le_refl _⟩,⟨by (with_reducible repeat (first | apply Kd.R_alloc | apply Kd.R_drewN | apply Kd.R_drew));exact HO_283003.out⟩,⟨by (with_reducible repeat (first | apply Kd.R_alloc | apply Kd.R_drewN | apply Kd.R_drew));exact HO_295003.out⟩,⟨by (with_reducible repeat (first | apply Kd.R_alloc | apply Kd.R_drewN | apply Kd.R_drew));exact Kd.R_mono HO314.out (fun _ hk => ⟨hk.1.2,hk.2⟩)⟩,⟨by (with_reducible repeat (first | refine blk_drewN ?_ _ | refine blk_drew ?_ | refine blk_alloc ?_ _));exact BK282.out⟩,⟨by (with_reducible repeat (first | refine blk_drewN ?_ _ | refine blk_drew ?_ | refine blk_alloc ?_ _));exact BK294.out⟩,⟨by (with_reducible repeat (first | refine blk_drewN ?_ _ | refine blk_drew ?_ | refine blk_alloc ?_ _));exact BK317.out⟩,⟨by repeat (first | (with_reducible first | exact HB.out | apply below_alloc | apply pw_below_drewN | apply below_drew1 | refine below_set ?_ GE282.out | refine below_set ?_ GE294.out | refine below_set ?_ GE317.out) | exact HB.out)⟩⟩
           case rest =>
            clear HC74
            try clear c1
            try clear c2
            try clear p2
            try clear c3
            try clear c3b0
            try clear c3b1
            try clear c4
            try clear c5
            try clear c6
            try clear c7
            try clear c8
            try clear c9
            try clear c10
            try clear c12
            try clear c15
            try clear c16
            try clear c19
            try clear c23
            try clear c24
            try clear c24b0
            try clear c24b1
            try clear c25
            try clear c29
            try clear c31
            try clear c32
            try clear c33
            try clear c37
            try clear c40
            try clear c46
            try clear c46b0
            try clear c48
            try clear c49
            try clear c49b0
            try clear c49b1
            try clear c50
            try clear c54
            try clear c58
            try clear c62
            try clear c65
            try clear c65b0
            try clear c66
            try clear c71
            try clear c71b0
            try clear c71b1
            try clear c75
            try clear c84
            try clear c85
            try clear c89
            try clear c90
            try clear c90b0
            try clear c90b1
            try clear c91
            try clear c92
            try clear c94
            try clear c97
            try clear c98
            try clear c100
            try clear c103
            try clear c104
            try clear c106
            try clear hcz101_0
            try clear hcz101_1
            try clear hcz101_2
            try clear hcz101_3
            try clear hcz105_0
            try clear hcz105_1
            try clear hcz105_2
            try clear hcz105_3
            try clear hcz107_0
            try clear hcz107_1
            try clear hcz107_2
            try clear hcz107_3
            try clear hcz13_0
            try clear hcz13_1
            try clear hcz13_2
            try clear hcz13_3
            try clear hcz20_0
            try clear hcz20_1
            try clear hcz20_2
            try clear hcz20_3
            try clear hcz26_0
            try clear hcz26_1
            try clear hcz26_2
            try clear hcz26_3
            try clear hcz27_0
            try clear hcz27_1
            try clear hcz27_2
            try clear hcz27_3
            try clear hcz30_0
            try clear hcz30_1
            try clear hcz30_2
            try clear hcz30_3
            try clear hcz31_0
            try clear hcz31_1
            try clear hcz31_2
            try clear hcz31_3
            try clear hcz34_0
            try clear hcz34_1
            try clear hcz34_2
            try clear hcz34_3
            try clear hcz35_0
            try clear hcz35_1
            try clear hcz35_2
            try clear hcz35_3
            try clear hcz51_0
            try clear hcz51_1
            try clear hcz51_2
            try clear hcz51_3
            try clear hcz52_0
            try clear hcz52_1
            try clear hcz52_2
            try clear hcz52_3
            try clear hcz55_0
            try clear hcz55_1
            try clear hcz55_2
            try clear hcz55_3
            try clear hcz56_0
            try clear hcz56_1
            try clear hcz56_2
            try clear hcz56_3
            try clear hcz59_0
            try clear hcz59_1
            try clear hcz59_2
            try clear hcz59_3
            try clear hcz60_0
            try clear hcz60_1
            try clear hcz60_2
            try clear hcz60_3
            try clear hcz67_0
            try clear hcz67_1
            try clear hcz67_2
            try clear hcz67_3
            try clear hcz69_0
            try clear hcz69_1
            try clear hcz69_2
            try clear hcz69_3
            try clear hcz76_0
            try clear hcz76_1
            try clear hcz76_2
            try clear hcz76_3
            try clear hcz78_0
            try clear hcz78_1
            try clear hcz78_2
            try clear hcz78_3
            try clear hcz86_0
            try clear hcz86_1
            try clear hcz86_2
            try clear hcz86_3
            try clear hcz93_0
            try clear hcz93_1
            try clear hcz93_2
            try clear hcz93_3
            try clear hcz95_0
            try clear hcz95_1
            try clear hcz95_2
            try clear hcz95_3
            try clear hcz99_0
            try clear hcz99_1
            try clear hcz99_2
            try clear hcz99_3
            try clear hfz101_0
            try clear hfz101_1
            try clear hfz101_2
            try clear hfz101_3
            try clear hfz105_0
            try clear hfz105_1
            try clear hfz105_2
            try clear hfz105_3
            try clear hfz107_0
            try clear hfz107_1
            try clear hfz107_2
            try clear hfz107_3
            try clear hfz13_0
            try clear hfz13_1
            try clear hfz13_2
            try clear hfz13_3
            try clear hfz20_0
            try clear hfz20_1
            try clear hfz20_2
            try clear hfz20_3
            try clear hfz26_0
            try clear hfz26_1
            try clear hfz26_2
            try clear hfz26_3
            try clear hfz27_0
            try clear hfz27_1
            try clear hfz27_2
            try clear hfz27_3
            try clear hfz30_0
            try clear hfz30_1
            try clear hfz30_2
            try clear hfz30_3
            try clear hfz31_0
            try clear hfz31_1
            try clear hfz31_2
            try clear hfz31_3
            try clear hfz34_0
            try clear hfz34_1
            try clear hfz34_2
            try clear hfz34_3
            try clear hfz35_0
            try clear hfz35_1
            try clear hfz35_2
            try clear hfz35_3
            try clear hfz51_0
            try clear hfz51_1
            try clear hfz51_2
            try clear hfz51_3
            try clear hfz52_0
            try clear hfz52_1
            try clear hfz52_2
            try clear hfz52_3
            try clear hfz55_0
            try clear hfz55_1
            try clear hfz55_2
            try clear hfz55_3
            try clear hfz56_0
            try clear hfz56_1
            try clear hfz56_2
            try clear hfz56_3
            try clear hfz59_0
            try clear hfz59_1
            try clear hfz59_2
            try clear hfz59_3
            try clear hfz60_0
            try clear hfz60_1
            try clear hfz60_2
            try clear hfz60_3
            try clear hfz67_0
            try clear hfz67_1
            try clear hfz67_2
            try clear hfz67_3
            try clear hfz69_0
            try clear hfz69_1
            try clear hfz69_2
            try clear hfz69_3
            try clear hfz76_0
            try clear hfz76_1
            try clear hfz76_2
            try clear hfz76_3
            try clear hfz78_0
            try clear hfz78_1
            try clear hfz78_2
            try clear hfz78_3
            try clear hfz86_0
            try clear hfz86_1
            try clear hfz86_2
            try clear hfz86_3
            try clear hfz93_0
            try clear hfz93_1
            try clear hfz93_2
            try clear hfz93_3
            try clear hfz95_0
            try clear hfz95_1
            try clear hfz95_2
            try clear hfz95_3
            try clear hfz99_0
            try clear hfz99_1
            try clear hfz99_2
            try clear hfz99_3
            try clear p2
            obtain ⟨kq,x110_73,rfl,HA,HJ73,HO_283003,HO_295003,HO_318003,BK282,BK294,BK317,HB⟩ := hcut
            have hl295003_73 := (Kd.R_reads' HO_295003.out).1
            rw [hl295003_73] at HO_295003
            (try simp only [hl295003_73])
            (try simp only [hl295003_73] at BK282)
            (try simp only [hl295003_73] at BK294)
            (try simp only [hl295003_73] at BK317)
            (try simp only [hl295003_73] at HO_283003)
            (try simp only [hl295003_73] at HO_318003)
            cases kq with
            | zero => exact absurd HA.out (by simp [laws_FnExactGetMan.j2])
            | succ kj73 =>
             have H := HA.out
             clear HA
             simp only [laws_FnExactGetMan.j2] at H
             by_cases c109 : x110_73 = true
             ·subst c109
              rw [if_pos rfl] at H
              obtain rfl := Option.some.inj H
              go_wp2
              go_ret
              exact ⟨by first | rfl | (simp [errW_none,errW_some] <;> rfl) | (simp [*,errW_none,errW_some] <;> rfl),by repeat (first | (with_reducible first | exact HB.out | apply below_alloc | apply pw_below_drewN | apply below_drew1 | refine below_set ?_ GE282.out | refine below_set ?_ GE294.out | refine below_set ?_ GE317.out) | exact HB.out)⟩
             ·replace c109 := Bool.eq_false_iff.mpr c109
              subst c109
              have H1 : ((laws_heldManifest.f kj73 t286 t287 t288 t304 1).bind fun t319 => (if t319 < 0 then (some false) else (if t319 = t303 then (some true) else (some false)))) = some r := by rw [if_neg (show ¬ (false = true) by decide)] at H;exact H
              clear H
              have H := H1
              clear H1
              replace H := Option.bind_eq_some_iff.mp H
              obtain ⟨t319,A1100,H⟩ := H
              replace H : (if t319 < 0 then (some false) else (if t319 = t303 then (some true) else (some false))) = some r := H
              have A110 := Aside0.mk A1100
              clear A1100
              by_cases c111 : t319 < 0
              ·rw [if_pos c111] at H
               have c111b0 : decide (t319 < 0) = true := decide_eq_true c111
               clear c111
               obtain rfl := Option.some.inj H
               have hnb112 := NB294_282.out
               have hnc112 := NB282_294.out
               have hnb113 := NB294_317.out
               have hnc113 := NB317_294.out
               have hcz114_0 : wc.cell? ⟨gb294,0,none⟩ = some (.int .i64 t286) := (blk_cell BK294.out 0).trans rfl
               have hcz114_1 : wc.cell? ⟨gb294,1,none⟩ = some (.int .i64 t287) := (blk_cell BK294.out 1).trans rfl
               have hcz114_2 : wc.cell? ⟨gb294,2,none⟩ = some (.int .i64 t288) := (blk_cell BK294.out 2).trans rfl
               have hcz114_3 : wc.cell? ⟨gb294,3,none⟩ = some (.slice Ao21 t304.length co21) := (blk_cell BK294.out 3).trans rfl
               have hfz114_0 := blk_frozen BK294.out 0
               have hfz114_1 := blk_frozen BK294.out 1
               have hfz114_2 := blk_frozen BK294.out 2
               have hfz114_3 := blk_frozen BK294.out 3
               go_wp2_with (first | ((with_reducible refine gate_callee (f := 33) rfl ?_);refine goesL_ (some 113) rfl rfl Try.func33 (by kernel_rfl) rfl #[.agg #[.int .i64 t286,.int .i64 t287,.int .i64 t288,.slice Ao21 t304.length co21],.int .i64 1] rfl eq_up ?_;(with_reducible refine (laws_heldManifest.calls kj73 t286 t287 t288 _ _ t304 1 t319 _ ?side1 ?side2 A110.out).mono ?_);(case side1 => exact Kd.C_up (Kd.R_reads' HO_295003.out).2.2);(case side2 => exact (Kd.R_reads' HO_295003.out).2.1);rintro e w115 ⟨rfl,hb⟩;refine ⟨_,rfl,?_⟩;have n0_ := Aside0.mk (Kd.R_below (Kd.R_up HO_283003.out) hb);have n1_ := Aside0.mk (Kd.R_below (Kd.R_up HO_295003.out) hb);have n2_ := Aside0.mk (Kd.R_below (Kd.R_up HO_318003.out) hb);have n3_ := Aside0.mk (blk_below (g := gb282) (o := .cells #[.int .i64 t274,.int .i64 t275,.int .i64 t276,.slice Ao14 t277.length co14] 31 (0,0)) (blk_up BK282.out) hb);have n4_ := Aside0.mk (blk_below (g := gb294) (o := .cells #[.int .i64 t286,.int .i64 t287,.int .i64 t288,.slice Ao21 t304.length co21] 31 (0,0)) (blk_up BK294.out) hb);have n5_ := Aside0.mk (blk_below (g := gb317) (o := .cells #[.int .i64 t309,.int .i64 t310,.int .i64 t311,.slice Ao87 t312.length co87] 31 (0,0)) (blk_up BK317.out) hb);have n6_ := Aside0.mk (below_step (B_set HB.out) hb);clear HO_283003;clear HO_295003;clear HO_318003;clear BK282;clear BK294;clear BK317;clear HB;have HO_283003 := n0_;have HO_295003 := n1_;have HO_318003 := n2_;have BK282 := n3_;have BK294 := n4_;have BK317 := n5_;have HB := n6_;clear n0_ n1_ n2_ n3_ n4_ n5_ n6_;(try clear hb);(try clear hb2);(try clear hk);(try clear hi)))
               go_ret
               exact ⟨by first | rfl | (simp [errW_none,errW_some] <;> rfl) | (simp [*,errW_none,errW_some] <;> rfl),by repeat (first | (with_reducible first | exact HB.out | apply below_alloc | apply pw_below_drewN | apply below_drew1 | refine below_set ?_ GE282.out | refine below_set ?_ GE294.out | refine below_set ?_ GE317.out) | exact HB.out)⟩
              ·rw [if_neg c111] at H
               have c111b0 : decide (t319 < 0) = false := decide_eq_false c111
               clear c111
               by_cases c116 : t319 = t303
               ·rw [if_pos c116] at H
                have c116b0 : (t319 == t303) = true := beq_iff_eq.mpr c116
                have c116b1 : (t319 != t303) = false := bne_eq_false_iff_eq.mpr c116
                clear c116
                obtain rfl := Option.some.inj H
                have hnb117 := NB294_282.out
                have hnc117 := NB282_294.out
                have hnb118 := NB294_317.out
                have hnc118 := NB317_294.out
                have hcz119_0 : wc.cell? ⟨gb294,0,none⟩ = some (.int .i64 t286) := (blk_cell BK294.out 0).trans rfl
                have hcz119_1 : wc.cell? ⟨gb294,1,none⟩ = some (.int .i64 t287) := (blk_cell BK294.out 1).trans rfl
                have hcz119_2 : wc.cell? ⟨gb294,2,none⟩ = some (.int .i64 t288) := (blk_cell BK294.out 2).trans rfl
                have hcz119_3 : wc.cell? ⟨gb294,3,none⟩ = some (.slice Ao21 t304.length co21) := (blk_cell BK294.out 3).trans rfl
                have hfz119_0 := blk_frozen BK294.out 0
                have hfz119_1 := blk_frozen BK294.out 1
                have hfz119_2 := blk_frozen BK294.out 2
                have hfz119_3 := blk_frozen BK294.out 3
                go_wp2_with (first | ((with_reducible refine gate_callee (f := 33) rfl ?_);refine goesL_ (some 113) rfl rfl Try.func33 (by kernel_rfl) rfl #[.agg #[.int .i64 t286,.int .i64 t287,.int .i64 t288,.slice Ao21 t304.length co21],.int .i64 1] rfl eq_up ?_;(with_reducible refine (laws_heldManifest.calls kj73 t286 t287 t288 _ _ t304 1 t319 _ ?side1 ?side2 A110.out).mono ?_);(case side1 => exact Kd.C_up (Kd.R_reads' HO_295003.out).2.2);(case side2 => exact (Kd.R_reads' HO_295003.out).2.1);rintro e w120 ⟨rfl,hb⟩;refine ⟨_,rfl,?_⟩;have n0_ := Aside0.mk (Kd.R_below (Kd.R_up HO_283003.out) hb);have n1_ := Aside0.mk (Kd.R_below (Kd.R_up HO_295003.out) hb);have n2_ := Aside0.mk (Kd.R_below (Kd.R_up HO_318003.out) hb);have n3_ := Aside0.mk (blk_below (g := gb282) (o := .cells #[.int .i64 t274,.int .i64 t275,.int .i64 t276,.slice Ao14 t277.length co14] 31 (0,0)) (blk_up BK282.out) hb);have n4_ := Aside0.mk (blk_below (g := gb294) (o := .cells #[.int .i64 t286,.int .i64 t287,.int .i64 t288,.slice Ao21 t304.length co21] 31 (0,0)) (blk_up BK294.out) hb);have n5_ := Aside0.mk (blk_below (g := gb317) (o := .cells #[.int .i64 t309,.int .i64 t310,.int .i64 t311,.slice Ao87 t312.length co87] 31 (0,0)) (blk_up BK317.out) hb);have n6_ := Aside0.mk (below_step (B_set HB.out) hb);clear HO_283003;clear HO_295003;clear HO_318003;clear BK282;clear BK294;clear BK317;clear HB;have HO_283003 := n0_;have HO_295003 := n1_;have HO_318003 := n2_;have BK282 := n3_;have BK294 := n4_;have BK317 := n5_;have HB := n6_;clear n0_ n1_ n2_ n3_ n4_ n5_ n6_;(try clear hb);(try clear hb2);(try clear hk);(try clear hi)))
                go_ret
                exact ⟨by first | rfl | (simp [errW_none,errW_some] <;> rfl) | (simp [*,errW_none,errW_some] <;> rfl),by repeat (first | (with_reducible first | exact HB.out | apply below_alloc | apply pw_below_drewN | apply below_drew1 | refine below_set ?_ GE282.out | refine below_set ?_ GE294.out | refine below_set ?_ GE317.out) | exact HB.out)⟩
               ·rw [if_neg c116] at H
                have c116b0 : (t319 == t303) = false := beq_eq_false_iff_ne.mpr c116
                have c116b1 : (t319 != t303) = true := bne_iff_ne.mpr c116
                obtain rfl := Option.some.inj H
                have hnb121 := NB294_282.out
                have hnc121 := NB282_294.out
                have hnb122 := NB294_317.out
                have hnc122 := NB317_294.out
                have hcz123_0 : wc.cell? ⟨gb294,0,none⟩ = some (.int .i64 t286) := (blk_cell BK294.out 0).trans rfl
                have hcz123_1 : wc.cell? ⟨gb294,1,none⟩ = some (.int .i64 t287) := (blk_cell BK294.out 1).trans rfl
                have hcz123_2 : wc.cell? ⟨gb294,2,none⟩ = some (.int .i64 t288) := (blk_cell BK294.out 2).trans rfl
                have hcz123_3 : wc.cell? ⟨gb294,3,none⟩ = some (.slice Ao21 t304.length co21) := (blk_cell BK294.out 3).trans rfl
                have hfz123_0 := blk_frozen BK294.out 0
                have hfz123_1 := blk_frozen BK294.out 1
                have hfz123_2 := blk_frozen BK294.out 2
                have hfz123_3 := blk_frozen BK294.out 3
                go_wp2_with (first | ((with_reducible refine gate_callee (f := 33) rfl ?_);refine goesL_ (some 113) rfl rfl Try.func33 (by kernel_rfl) rfl #[.agg #[.int .i64 t286,.int .i64 t287,.int .i64 t288,.slice Ao21 t304.length co21],.int .i64 1] rfl eq_up ?_;(with_reducible refine (laws_heldManifest.calls kj73 t286 t287 t288 _ _ t304 1 t319 _ ?side1 ?side2 A110.out).mono ?_);(case side1 => exact Kd.C_up (Kd.R_reads' HO_295003.out).2.2);(case side2 => exact (Kd.R_reads' HO_295003.out).2.1);rintro e w124 ⟨rfl,hb⟩;refine ⟨_,rfl,?_⟩;have n0_ := Aside0.mk (Kd.R_below (Kd.R_up HO_283003.out) hb);have n1_ := Aside0.mk (Kd.R_below (Kd.R_up HO_295003.out) hb);have n2_ := Aside0.mk (Kd.R_below (Kd.R_up HO_318003.out) hb);have n3_ := Aside0.mk (blk_below (g := gb282) (o := .cells #[.int .i64 t274,.int .i64 t275,.int .i64 t276,.slice Ao14 t277.length co14] 31 (0,0)) (blk_up BK282.out) hb);have n4_ := Aside0.mk (blk_below (g := gb294) (o := .cells #[.int .i64 t286,.int .i64 t287,.int .i64 t288,.slice Ao21 t304.length co21] 31 (0,0)) (blk_up BK294.out) hb);have n5_ := Aside0.mk (blk_below (g := gb317) (o := .cells #[.int .i64 t309,.int .i64 t310,.int .i64 t311,.slice Ao87 t312.length co87] 31 (0,0)) (blk_up BK317.out) hb);have n6_ := Aside0.mk (below_step (B_set HB.out) hb);clear HO_283003;clear HO_295003;clear HO_318003;clear BK282;clear BK294;clear BK317;clear HB;have HO_283003 := n0_;have HO_295003 := n1_;have HO_318003 := n2_;have BK282 := n3_;have BK294 := n4_;have BK317 := n5_;have HB := n6_;clear n0_ n1_ n2_ n3_ n4_ n5_ n6_;(try clear hb);(try clear hb2);(try clear hk);(try clear hi)))
                go_ret
                exact ⟨by first | rfl | (simp [errW_none,errW_some] <;> rfl) | (simp [*,errW_none,errW_some] <;> rfl),by repeat (first | (with_reducible first | exact HB.out | apply below_alloc | apply pw_below_drewN | apply below_drew1 | refine below_set ?_ GE282.out | refine below_set ?_ GE294.out | refine below_set ?_ GE317.out) | exact HB.out)⟩
          ·rw [if_neg c71] at H
           have c71b0 : (t305 == t303) = false := beq_eq_false_iff_ne.mpr c71
           have c71b1 : (t305 != t303) = true := bne_iff_ne.mpr c71
           obtain rfl := Option.some.inj H
           have hnb125 := NB294_282.out
           have hnc125 := NB282_294.out
           have hcz126_0 : wc.cell? ⟨gb294,0,none⟩ = some (.int .i64 t286) := (blk_cell BK294.out 0).trans rfl
           have hcz126_1 : wc.cell? ⟨gb294,1,none⟩ = some (.int .i64 t287) := (blk_cell BK294.out 1).trans rfl
           have hcz126_2 : wc.cell? ⟨gb294,2,none⟩ = some (.int .i64 t288) := (blk_cell BK294.out 2).trans rfl
           have hcz126_3 : wc.cell? ⟨gb294,3,none⟩ = some (.slice Ao21 t289.length co21) := (blk_cell BK294.out 3).trans rfl
           have hfz126_0 := blk_frozen BK294.out 0
           have hfz126_1 := blk_frozen BK294.out 1
           have hfz126_2 := blk_frozen BK294.out 2
           have hfz126_3 := blk_frozen BK294.out 3
           go_wp2_with (first | ((with_reducible refine gate_callee (f := 25) rfl ?_);refine goesL_ (some 80) rfl rfl Try.func25 (by kernel_rfl) rfl #[.agg #[.int .i64 t286,.int .i64 t287,.int .i64 t288,.slice Ao21 t289.length co21],.int .i64 1] rfl eq_up ?_;(with_reducible refine (laws_markManifest.calls kj41 t286 t287 t288 (fun k_ => some k_ = (.slice Ao21 t289.length co21 : Value).ownBlock) (.slice Ao21 t289.length co21) t289 1 t303 t304 w _ ?side1 ?side2 A63.out).mono ?_);(case side1 => repeat (first | (with_reducible first | exact HB.out | apply below_alloc | apply pw_below_drewN | apply below_drew1 | refine below_set ?_ GE282.out | refine below_set ?_ GE294.out) | exact HB.out));(case side2 => exact Kd.R_tight rfl HO_295003.out);rintro e w127 ⟨rfl,hy0,hb,hkp⟩;refine ⟨_,rfl,?_⟩;have n0_ := Aside0.mk (Kd.R_mono (ok' := fun k_ => some k_ ≠ (.slice Ao21 t289.length co21 : Value).ownBlock) (Kd.R_keptB (HO_283003.out) hkp (fun k_ hk_ hs_ => (hk_) hs_)) (fun k_ hk_ => hk_.1));have n1_ := Aside0.mk (Kd.R_reok rfl hy0 (fun k_ e_ => HO_295003.out.1 k_ e_));have n2_ := Aside0.mk (blk_kept (blk_up BK282.out) hkp (fun hs_ => (fun e_ => (Kd.R_ne HO_295003.out BK282.out (by decide)) e_) hs_));have n3_ := Aside0.mk (blk_kept (blk_up BK294.out) hkp (fun hs_ => (fun e_ => (Kd.R_ne HO_295003.out BK294.out (by decide)) e_) hs_));have n4_ := Aside0.mk (hb);clear HO_283003;clear HO_295003;clear BK282;clear BK294;clear HB;have HO_283003 := n0_;have HO_295003 := n1_;have BK282 := n2_;have BK294 := n3_;have HB := n4_;clear n0_ n1_ n2_ n3_ n4_;(try clear hb);(try clear hkp);(try clear hy0);have hcz128_0 : w127.cell? ⟨gb294,0,none⟩ = some (.int .i64 t286) := (blk_cell BK294.out 0).trans rfl;have hcz128_1 : w127.cell? ⟨gb294,1,none⟩ = some (.int .i64 t287) := (blk_cell BK294.out 1).trans rfl;have hcz128_2 : w127.cell? ⟨gb294,2,none⟩ = some (.int .i64 t288) := (blk_cell BK294.out 2).trans rfl;have hcz128_3 : w127.cell? ⟨gb294,3,none⟩ = some (.slice Ao21 t289.length co21) := (blk_cell BK294.out 3).trans rfl;have hfz128_0 := blk_frozen BK294.out 0;have hfz128_1 := blk_frozen BK294.out 1;have hfz128_2 := blk_frozen BK294.out 2;have hfz128_3 := blk_frozen BK294.out 3) | ((with_reducible refine gate_callee (f := 33) rfl ?_);refine goesL_ (some 83) rfl rfl Try.func33 (by kernel_rfl) rfl #[.agg #[.int .i64 t286,.int .i64 t287,.int .i64 t288,.slice Ao21 t304.length co21],.int .i64 1] rfl (by (try simp only [List.map_toArray,List.map_cons,List.map_nil]);first | done | (rw [show t304.length = t289.length from (Kd.R_reads' HO_295003.out).1.symm] <;> rfl) | rfl | (simp only [List.length_drop,List.length_take];rfl)) ?_;(with_reducible refine (laws_heldManifest.calls kj41 t286 t287 t288 _ _ t304 1 t305 _ ?side1 ?side2 A64.out).mono ?_);(case side1 => exact Kd.C_up (Kd.R_reads' HO_295003.out).2.2);(case side2 => rw [show t304.length = t289.length from (Kd.R_reads' HO_295003.out).1.symm];exact (Kd.R_reads' HO_295003.out).2.1);rintro e w129 ⟨rfl,hb⟩;refine ⟨_,rfl,?_⟩;have n0_ := Aside0.mk (Kd.R_below (Kd.R_up HO_283003.out) hb);have n1_ := Aside0.mk (Kd.R_below (Kd.R_up HO_295003.out) hb);have n2_ := Aside0.mk (blk_below (g := gb282) (o := .cells #[.int .i64 t274,.int .i64 t275,.int .i64 t276,.slice Ao14 t277.length co14] 31 (0,0)) (blk_up BK282.out) hb);have n3_ := Aside0.mk (blk_below (g := gb294) (o := .cells #[.int .i64 t286,.int .i64 t287,.int .i64 t288,.slice Ao21 t289.length co21] 31 (0,0)) (blk_up BK294.out) hb);have n4_ := Aside0.mk (below_step (B_set HB.out) hb);clear HO_283003;clear HO_295003;clear BK282;clear BK294;clear HB;have HO_283003 := n0_;have HO_295003 := n1_;have BK282 := n2_;have BK294 := n3_;have HB := n4_;clear n0_ n1_ n2_ n3_ n4_;(try clear hb);(try clear hb2);(try clear hk);(try clear hi)))
           go_ret
           exact ⟨by first | rfl | (simp [errW_none,errW_some] <;> rfl) | (simp [*,errW_none,errW_some] <;> rfl),by repeat (first | (with_reducible first | exact HB.out | apply below_alloc | apply pw_below_drewN | apply below_drew1 | refine below_set ?_ GE282.out | refine below_set ?_ GE294.out) | exact HB.out)⟩
     ·replace c40 := Bool.eq_false_iff.mpr c40
      subst c40
      have H1 : (some false) = some r := by rw [if_neg (show ¬ (false = true) by decide)] at H;exact H
      clear H
      have H := H1
      clear H1
      obtain rfl := Option.some.inj H
      go_wp2_with (first | ((with_reducible refine gate_callee (f := 12) rfl ?_);refine goesL_ (some 54) rfl rfl Try.func12 (by kernel_rfl) rfl #[.slice A0 l0.length c0] rfl eq_up ?_;(with_reducible refine (laws_toByteS.calls kj7 _ _ l0 t296 _ ?side1 ?side2 A38.out).mono ?_);(case side1 => repeat (first | exact (Kd.C_below HR0.out HB.out) | (with_reducible refine Kd.C_alloc ?_ _) | (with_reducible refine Kd.C_drewN ?_ _) | (with_reducible refine Kd.C_drew ?_)));(case side2 => exact HC0.out);rintro e w130 ⟨v297,rfl,ho0,hb⟩;refine ⟨_,rfl,?_⟩;have n0_ := Aside0.mk (Kd.R_elder' (Kd.R_up HO_8.out) (Kd.R_base ho0) hb);have n1_ := Aside0.mk (Kd.R_below (Kd.R_up HO_283003.out) hb);have n2_ := Aside0.mk (Kd.R_below (Kd.R_up HO_295003.out) hb);have n3_ := Aside0.mk (Kd.R_lower (Kd.R_new' ho0 (Kd.R_lt (Kd.R_up HO_8.out))) (below_size (B_set HB.out)));have n4_ := Aside0.mk (blk_below (g := gb282) (o := .cells #[.int .i64 t274,.int .i64 t275,.int .i64 t276,.slice Ao14 t277.length co14] 31 (0,0)) (blk_up BK282.out) hb);have n5_ := Aside0.mk (blk_below (g := gb294) (o := .cells #[.int .i64 t286,.int .i64 t287,.int .i64 t288,.slice Ao21 t289.length co21] 31 (0,0)) (blk_up BK294.out) hb);have n6_ := Aside0.mk (below_step (B_set HB.out) hb);clear HO_8;clear HO_283003;clear HO_295003;clear BK282;clear BK294;clear HB;have HO_8 := n0_;have HO_283003 := n1_;have HO_295003 := n2_;have HO298 := n3_;have BK282 := n4_;have BK294 := n5_;have HB := n6_;clear n0_ n1_ n2_ n3_ n4_ n5_ n6_;(try clear hb);(try clear hb2);(try clear hk);(try clear hi);(try clear ho0);obtain ⟨Ao131,co131,eo131⟩ := Kd.R_slice HO298.out;subst eo131) | ((with_reducible refine gate_callee (f := 15) rfl ?_);refine goesL_ (some 55) rfl rfl Try.func15 (by kernel_rfl) rfl #[.slice Ao16 t283.length co16,.slice Ao131 t296.length co131] rfl eq_up ?_;(with_reducible refine (laws_eqByteS.calls kj7 _ _ t283 _ _ t296 false _ ?side1 ?side2 ?side3 ?side4 A39.out).mono ?_);(case side1 => exact Kd.C_up (Kd.R_reads' HO_8.out).2.2);(case side2 => exact (Kd.R_reads' HO_8.out).2.1);(case side3 => exact Kd.C_up (Kd.R_reads' HO298.out).2.2);(case side4 => exact (Kd.R_reads' HO298.out).2.1);rintro e w' ⟨rfl,⟨nd,rfl⟩⟩;refine ⟨_,rfl,?_⟩))
      go_ret
      exact ⟨by first | rfl | (simp [errW_none,errW_some] <;> rfl) | (simp [*,errW_none,errW_some] <;> rfl),by repeat (first | (with_reducible first | exact HB.out | apply below_alloc | apply pw_below_drewN | apply below_drew1 | refine below_set ?_ GE282.out | refine below_set ?_ GE294.out) | exact HB.out)⟩

/-- THE ONE PURE STATEMENT of laws_FnExactGetMan: yours. -/
def laws_FnExactGetMan.Pure : Prop := ∀ (l0 : List Int) (a1 : Int),l0.length ≤ maxLen → l0.length * 1 ≤ 140737488351232 → (∀ x ∈ l0,(Lit.int .u8 x).wf = true) → (Lit.int .i64 a1).wf = true → ∃ k,laws_FnExactGetMan.f k l0 a1 = some true
theorem laws_FnExactGetMan.walk (P : laws_FnExactGetMan.Pure) (a0 : Option Addr) (len0 cap0 : Nat) (z0 : List Int) (a1 : Int) (w : World) (w0 : (a0 = none ∧ len0 = 0 ∧ cap0 = 0 ∧ z0 = []) ∨ ∃ x,a0 = some x ∧ len0 ≤ cap0 ∧ cap0 ≤ maxLen ∧ z0.length = cap0 ∧ (∀ i,i < z0.length → w.cell? (x.add i) = some (.int .u8 (z0.getD i 0))) ∧ ∀ n ∈ z0,(Lit.int .u8 n).wf = true) (y0 : len0 * 1 ≤ 140737488351232) (w1 : (Lit.int .i64 a1).wf = true) :
  Calls Try.prog 8 #[.slice a0 len0 cap0,.int .i64 a1] w fun e w' => e = .returned (.bool true) ∧ Below w.heap.size w w' := by
 obtain ⟨l0,rfl,hr0,hm0,hw0,hc0⟩ := ReadsInt.ofRowC w0
 obtain ⟨k,h⟩ := P l0 a1 hm0 y0 hw0 w1
 refine (laws_FnExactGetMan.calls k _ _ l0 a1 true w (Kd.C_of_reads (d := (0 : Int)) (h1 := fun _ => rfl) hr0) hc0 h).mono ?_
 rintro e w' ⟨rfl,hd⟩
 exact ⟨rfl,hd⟩

end Go.Proofs.Ytdkgcloempbgpaa.PFnExactGetMan
