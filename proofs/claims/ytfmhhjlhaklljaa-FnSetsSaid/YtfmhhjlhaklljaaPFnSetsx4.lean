-- by a program of this session (a turned copy of the print: make with a capacity)
import Derived.Test.YtfmhhjlhaklljaaPFnSetsx0
import Derived.Test.YtfmhhjlhaklljaaPFnSetsx1
import Derived.Test.YtfmhhjlhaklljaaPFnSetsx2
import Derived.Test.YtfmhhjlhaklljaaPFnSetsx3
import Derived.Test.YtfmhhjlhaklljaaEqFnSets
namespace Go.Proofs.Ytfmhhjlhaklljaa.PFnSets
open Go.RowKit Go.Proofs.YtfmhhjlhaklljaaW.PrintWords Go.Proofs.YtfmhhjlhaklljaaW.PrintLast Go.Proofs.YtfmhhjlhaklljaaW.PrintMore
attribute [local go_sem] max2_int min2_int max_two min_two max_three min_three max_four min_four   -- for this text's walks alone
set_option linter.unusedVariables false
set_option linter.unusedSimpArgs false

/-! ### laws_FnSets: function 8 -/
mutual
def laws_FnSets.j0 : Nat → Int → Int → Bool → Option (Bool)
 | 0, _, _, _ => none
 | k + 1, x3, x4, x111 => if x111 = true then (some false) else ((impl_SetOk.f x3).bind fun t288 => (if t288 = true then (if x4 < 0 then (laws_FnSets.j1 k x3 x4 true) else (laws_FnSets.j1 k x3 x4 (decide (x4 ≥ 40)))) else (laws_FnSets.j1 k x3 x4 true)))
def laws_FnSets.j1 : Nat → Int → Int → Bool → Option (Bool)
 | 0, _, _, _ => none
 | k + 1, x3, x4, x122 => if x122 = true then ((impl_WithPart.f x3 x4).bind fun t289 => (some (t289 == x3))) else ((impl_WithPart.f x3 x4).bind fun t290 => ((impl_InSet.f t290 x4).bind fun t291 => (if t291 = true then ((impl_WithoutPart.f x3 x4).bind fun t292 => ((impl_InSet.f t292 x4).bind fun t293 => (if t293 = true then (some false) else ((impl_WithPart.f 0 x4).bind fun t294 => ((impl_Without.f x3 t294).bind fun t295 => ((impl_WithPart.f 0 x4).bind fun t296 => ((impl_Union.f t295 t296).bind fun t297 => ((impl_WithPart.f x3 x4).bind fun t298 => (if t297 = t298 then ((impl_FirstOf.f k x3 2).bind fun t299 => ((impl_CountSet.f t299).bind fun t300 => (if t300 ≤ 2 then ((impl_FirstOf.f k x3 2).bind fun t301 => ((impl_Without.f t301 x3).bind fun t302 => (some (t302 == 0)))) else (some false)))) else (some false)))))))))) else (some false))))
end
def laws_FnSets.f (k : Nat) (l0 : List Int) : Option (Bool) := (laws_big.f l0).bind fun t256 => (if t256 = true then (some true) else ((spec_DrawInSet.f k l0).bind fun bt257 => ((spec_DrawUnion.f k l0).bind fun bt259 => ((spec_DrawFirstOf.f k l0).bind fun bt261 => ((spec_DrawFullSet.f k l0).bind fun t263 => ((impl_PartsIn.f k bt257.1).bind fun t264 => ((impl_InSet.f bt257.1 bt257.2).bind fun t267 => ((spec_InSet.f bt257.1 bt257.2).bind fun t268 => (if (t267 != t268) = true then (laws_FnSets.j0 k bt257.1 bt257.2 true) else ((impl_WithPart.f bt257.1 bt257.2).bind fun t269 => ((spec_WithPart.f bt257.1 bt257.2).bind fun t270 => (if t269 = t270 then ((impl_WithoutPart.f bt257.1 bt257.2).bind fun t271 => ((spec_WithoutPart.f bt257.1 bt257.2).bind fun t272 => (if t271 = t272 then ((impl_Union.f bt259.1 bt259.2).bind fun t273 => ((spec_Union.f bt259.1 bt259.2).bind fun t274 => (if t273 = t274 then ((impl_Without.f bt259.1 bt259.2).bind fun t275 => ((spec_Without.f bt259.1 bt259.2).bind fun t276 => (if t275 = t276 then ((impl_FirstOf.f k bt261.1 bt261.2).bind fun t277 => ((spec_FirstOf.f k bt261.1 bt261.2).bind fun t278 => (if t277 = t278 then ((impl_FullSet.f t263).bind fun t279 => ((spec_FullSet.f t263).bind fun t280 => (if t279 = t280 then ((spec_PartsIn.f k bt257.1).bind fun t281 => ((laws_sameInts.f k t264 t281).bind fun t284 => (if t284 = true then ((impl_CountSet.f bt257.1).bind fun t285 => (if t285 = (t264.length : Int) then ((impl_SetOk.f bt257.1).bind fun t286 => ((spec_SetOk.f bt257.1).bind fun t287 => (laws_FnSets.j0 k bt257.1 bt257.2 (t286 != t287)))) else (laws_FnSets.j0 k bt257.1 bt257.2 true))) else (laws_FnSets.j0 k bt257.1 bt257.2 true)))) else (laws_FnSets.j0 k bt257.1 bt257.2 true)))) else (laws_FnSets.j0 k bt257.1 bt257.2 true)))) else (laws_FnSets.j0 k bt257.1 bt257.2 true)))) else (laws_FnSets.j0 k bt257.1 bt257.2 true)))) else (laws_FnSets.j0 k bt257.1 bt257.2 true)))) else (laws_FnSets.j0 k bt257.1 bt257.2 true)))))))))))))
theorem laws_FnSets.mono_l : ∀ k, (∀ y0 y1 y2, LeO (laws_FnSets.j0 k y0 y1 y2) (laws_FnSets.j0 (k + 1) y0 y1 y2)) ∧ (∀ y0 y1 y2, LeO (laws_FnSets.j1 k y0 y1 y2) (laws_FnSets.j1 (k + 1) y0 y1 y2))
 | 0 => ⟨fun _ _ _ r h => by simp [laws_FnSets.j0] at h, fun _ _ _ r h => by simp [laws_FnSets.j1] at h⟩
 | k + 1 => by
  obtain ⟨ih0, ih1⟩ := laws_FnSets.mono_l k
  refine ⟨?_, ?_⟩
  ·intro y0 y1 y2
   unfold laws_FnSets.j0
   repeat' first
   | (with_reducible exact ih0 _ _ _)
   | (with_reducible exact ih1 _ _ _)
   | (with_reducible exact impl_FirstOf.mono _ _ _)
   | (with_reducible exact impl_PartsIn.mono _ _)
   | (with_reducible exact laws_sameInts.mono _ _ _)
   | (with_reducible exact spec_DrawFirstOf.mono _ _)
   | (with_reducible exact spec_DrawFullSet.mono _ _)
   | (with_reducible exact spec_DrawInSet.mono _ _)
   | (with_reducible exact spec_DrawUnion.mono _ _)
   | (with_reducible exact spec_FirstOf.mono _ _ _)
   | (with_reducible exact spec_PartsIn.mono _ _)
   | (with_reducible exact LeO.refl _)
   | (with_reducible exact LeO.none _)
   | (with_reducible refine LeO.ite ?_ ?_)
   | (with_reducible refine LeO.bind ?_ (fun _ => ?_))
   | exact ih0 _ _ _
   | exact ih1 _ _ _
   | exact impl_FirstOf.mono _ _ _
   | exact impl_PartsIn.mono _ _
   | exact laws_sameInts.mono _ _ _
   | exact spec_DrawFirstOf.mono _ _
   | exact spec_DrawFullSet.mono _ _
   | exact spec_DrawInSet.mono _ _
   | exact spec_DrawUnion.mono _ _
   | exact spec_FirstOf.mono _ _ _
   | exact spec_PartsIn.mono _ _
   | exact LeO.none _
   | refine LeO.ite ?_ ?_
   | refine LeO.bind ?_ (fun _ => ?_)
  ·intro y0 y1 y2
   unfold laws_FnSets.j1
   repeat' first
   | (with_reducible exact ih0 _ _ _)
   | (with_reducible exact ih1 _ _ _)
   | (with_reducible exact impl_FirstOf.mono _ _ _)
   | (with_reducible exact impl_PartsIn.mono _ _)
   | (with_reducible exact laws_sameInts.mono _ _ _)
   | (with_reducible exact spec_DrawFirstOf.mono _ _)
   | (with_reducible exact spec_DrawFullSet.mono _ _)
   | (with_reducible exact spec_DrawInSet.mono _ _)
   | (with_reducible exact spec_DrawUnion.mono _ _)
   | (with_reducible exact spec_FirstOf.mono _ _ _)
   | (with_reducible exact spec_PartsIn.mono _ _)
   | (with_reducible exact LeO.refl _)
   | (with_reducible exact LeO.none _)
   | (with_reducible refine LeO.ite ?_ ?_)
   | (with_reducible refine LeO.bind ?_ (fun _ => ?_))
   | exact ih0 _ _ _
   | exact ih1 _ _ _
   | exact impl_FirstOf.mono _ _ _
   | exact impl_PartsIn.mono _ _
   | exact laws_sameInts.mono _ _ _
   | exact spec_DrawFirstOf.mono _ _
   | exact spec_DrawFullSet.mono _ _
   | exact spec_DrawInSet.mono _ _
   | exact spec_DrawUnion.mono _ _
   | exact spec_FirstOf.mono _ _ _
   | exact spec_PartsIn.mono _ _
   | exact LeO.none _
   | refine LeO.ite ?_ ?_
   | refine LeO.bind ?_ (fun _ => ?_)
theorem laws_FnSets.mono : ∀ a0 k, LeO (laws_FnSets.f k a0) (laws_FnSets.f (k + 1) a0) := by
 intro a0 k
 obtain ⟨ih0, ih1⟩ := laws_FnSets.mono_l k
 unfold laws_FnSets.f
 repeat' first
   | (with_reducible exact ih0 _ _ _)
   | (with_reducible exact ih1 _ _ _)
   | (with_reducible exact impl_FirstOf.mono _ _ _)
   | (with_reducible exact impl_PartsIn.mono _ _)
   | (with_reducible exact laws_sameInts.mono _ _ _)
   | (with_reducible exact spec_DrawFirstOf.mono _ _)
   | (with_reducible exact spec_DrawFullSet.mono _ _)
   | (with_reducible exact spec_DrawInSet.mono _ _)
   | (with_reducible exact spec_DrawUnion.mono _ _)
   | (with_reducible exact spec_FirstOf.mono _ _ _)
   | (with_reducible exact spec_PartsIn.mono _ _)
   | (with_reducible exact LeO.refl _)
   | (with_reducible exact LeO.none _)
   | (with_reducible refine LeO.ite ?_ ?_)
   | (with_reducible refine LeO.bind ?_ (fun _ => ?_))
   | exact ih0 _ _ _
   | exact ih1 _ _ _
   | exact impl_FirstOf.mono _ _ _
   | exact impl_PartsIn.mono _ _
   | exact laws_sameInts.mono _ _ _
   | exact spec_DrawFirstOf.mono _ _
   | exact spec_DrawFullSet.mono _ _
   | exact spec_DrawInSet.mono _ _
   | exact spec_DrawUnion.mono _ _
   | exact spec_FirstOf.mono _ _ _
   | exact spec_PartsIn.mono _ _
   | exact LeO.none _
   | refine LeO.ite ?_ ?_
   | refine LeO.bind ?_ (fun _ => ?_)
set_option maxHeartbeats 8000000 in
set_option maxRecDepth 100000 in
theorem laws_FnSets.calls (k : Nat) (A0 : Option Addr) (c0 : Nat) (l0 : List Int) (r : Bool) (w : World) (hr0 : Kd.C (Kd.int .u8) w A0 l0.length l0) (hc0 : l0.length ≤ c0) (h : laws_FnSets.f k l0 = some r) :
  Calls Try.prog 8 #[.slice A0 l0.length c0] w fun e w' => e = .returned (.bool r) ∧ Below w.heap.size w w' := by
 have HR0 := Aside0.mk hr0
 have HC0 := Aside0.mk hc0
 clear hr0 hc0
 have HB := Aside0.mk (Below.refl w.heap.size w)
 have H : ((laws_big.f l0).bind fun t256 => (if t256 = true then (some true) else ((spec_DrawInSet.f k l0).bind fun bt257 => ((spec_DrawUnion.f k l0).bind fun bt259 => ((spec_DrawFirstOf.f k l0).bind fun bt261 => ((spec_DrawFullSet.f k l0).bind fun t263 => ((impl_PartsIn.f k bt257.1).bind fun t264 => ((impl_InSet.f bt257.1 bt257.2).bind fun t267 => ((spec_InSet.f bt257.1 bt257.2).bind fun t268 => (if (t267 != t268) = true then (laws_FnSets.j0 k bt257.1 bt257.2 true) else ((impl_WithPart.f bt257.1 bt257.2).bind fun t269 => ((spec_WithPart.f bt257.1 bt257.2).bind fun t270 => (if t269 = t270 then ((impl_WithoutPart.f bt257.1 bt257.2).bind fun t271 => ((spec_WithoutPart.f bt257.1 bt257.2).bind fun t272 => (if t271 = t272 then ((impl_Union.f bt259.1 bt259.2).bind fun t273 => ((spec_Union.f bt259.1 bt259.2).bind fun t274 => (if t273 = t274 then ((impl_Without.f bt259.1 bt259.2).bind fun t275 => ((spec_Without.f bt259.1 bt259.2).bind fun t276 => (if t275 = t276 then ((impl_FirstOf.f k bt261.1 bt261.2).bind fun t277 => ((spec_FirstOf.f k bt261.1 bt261.2).bind fun t278 => (if t277 = t278 then ((impl_FullSet.f t263).bind fun t279 => ((spec_FullSet.f t263).bind fun t280 => (if t279 = t280 then ((spec_PartsIn.f k bt257.1).bind fun t281 => ((laws_sameInts.f k t264 t281).bind fun t284 => (if t284 = true then ((impl_CountSet.f bt257.1).bind fun t285 => (if t285 = (t264.length : Int) then ((impl_SetOk.f bt257.1).bind fun t286 => ((spec_SetOk.f bt257.1).bind fun t287 => (laws_FnSets.j0 k bt257.1 bt257.2 (t286 != t287)))) else (laws_FnSets.j0 k bt257.1 bt257.2 true))) else (laws_FnSets.j0 k bt257.1 bt257.2 true)))) else (laws_FnSets.j0 k bt257.1 bt257.2 true)))) else (laws_FnSets.j0 k bt257.1 bt257.2 true)))) else (laws_FnSets.j0 k bt257.1 bt257.2 true)))) else (laws_FnSets.j0 k bt257.1 bt257.2 true)))) else (laws_FnSets.j0 k bt257.1 bt257.2 true)))) else (laws_FnSets.j0 k bt257.1 bt257.2 true)))))))))))))) = some r := h
 clear h
 replace H := Option.bind_eq_some_iff.mp H
 obtain ⟨t256, A20, H⟩ := H
 (try dsimp only at H)
 have A2 := Aside0.mk A20
 clear A20
 by_cases c3 : t256 = true
 ·subst c3
  rw [if_pos rfl] at H
  obtain rfl := Option.some.inj H
  go_enter Try.func8, Try.ntmps8
  go_wp2_with (first | (go_at_call 12; (with_reducible refine (laws_big.calls _ _ l0 true _ ?side1 ?side2 A2.out).mono ?_); (case side1 => exact Kd.C_up HR0.out); (case side2 => exact HC0.out); rintro e w' ⟨rfl, ⟨nd, rfl⟩⟩))
  go_ret
  exact ⟨by first | rfl | (simp [errW_none, errW_some] <;> rfl) | (simp [*, errW_none, errW_some] <;> rfl), by repeat (first | (with_reducible first | exact HB.out | apply below_alloc | apply pw_below_drewN | apply below_drew1) | exact HB.out)⟩
 ·replace c3 := Bool.eq_false_iff.mpr c3
  subst c3
  have H1 : ((spec_DrawInSet.f k l0).bind fun bt257 => ((spec_DrawUnion.f k l0).bind fun bt259 => ((spec_DrawFirstOf.f k l0).bind fun bt261 => ((spec_DrawFullSet.f k l0).bind fun t263 => ((impl_PartsIn.f k bt257.1).bind fun t264 => ((impl_InSet.f bt257.1 bt257.2).bind fun t267 => ((spec_InSet.f bt257.1 bt257.2).bind fun t268 => (if (t267 != t268) = true then (laws_FnSets.j0 k bt257.1 bt257.2 true) else ((impl_WithPart.f bt257.1 bt257.2).bind fun t269 => ((spec_WithPart.f bt257.1 bt257.2).bind fun t270 => (if t269 = t270 then ((impl_WithoutPart.f bt257.1 bt257.2).bind fun t271 => ((spec_WithoutPart.f bt257.1 bt257.2).bind fun t272 => (if t271 = t272 then ((impl_Union.f bt259.1 bt259.2).bind fun t273 => ((spec_Union.f bt259.1 bt259.2).bind fun t274 => (if t273 = t274 then ((impl_Without.f bt259.1 bt259.2).bind fun t275 => ((spec_Without.f bt259.1 bt259.2).bind fun t276 => (if t275 = t276 then ((impl_FirstOf.f k bt261.1 bt261.2).bind fun t277 => ((spec_FirstOf.f k bt261.1 bt261.2).bind fun t278 => (if t277 = t278 then ((impl_FullSet.f t263).bind fun t279 => ((spec_FullSet.f t263).bind fun t280 => (if t279 = t280 then ((spec_PartsIn.f k bt257.1).bind fun t281 => ((laws_sameInts.f k t264 t281).bind fun t284 => (if t284 = true then ((impl_CountSet.f bt257.1).bind fun t285 => (if t285 = (t264.length : Int) then ((impl_SetOk.f bt257.1).bind fun t286 => ((spec_SetOk.f bt257.1).bind fun t287 => (laws_FnSets.j0 k bt257.1 bt257.2 (t286 != t287)))) else (laws_FnSets.j0 k bt257.1 bt257.2 true))) else (laws_FnSets.j0 k bt257.1 bt257.2 true)))) else (laws_FnSets.j0 k bt257.1 bt257.2 true)))) else (laws_FnSets.j0 k bt257.1 bt257.2 true)))) else (laws_FnSets.j0 k bt257.1 bt257.2 true)))) else (laws_FnSets.j0 k bt257.1 bt257.2 true)))) else (laws_FnSets.j0 k bt257.1 bt257.2 true)))) else (laws_FnSets.j0 k bt257.1 bt257.2 true)))))))))))) = some r := by rw [if_neg (show ¬ (false = true) by decide)] at H; exact H
  clear H
  have H := H1
  clear H1
  replace H := Option.bind_eq_some_iff.mp H
  obtain ⟨⟨t257, t258⟩, A40, H⟩ := H
  (try dsimp only at H)
  have A4 := Aside0.mk A40
  clear A40
  replace H := Option.bind_eq_some_iff.mp H
  obtain ⟨⟨t259, t260⟩, A50, H⟩ := H
  (try dsimp only at H)
  have A5 := Aside0.mk A50
  clear A50
  replace H := Option.bind_eq_some_iff.mp H
  obtain ⟨⟨t261, t262⟩, A60, H⟩ := H
  (try dsimp only at H)
  have A6 := Aside0.mk A60
  clear A60
  replace H := Option.bind_eq_some_iff.mp H
  obtain ⟨t263, A70, H⟩ := H
  (try dsimp only at H)
  have A7 := Aside0.mk A70
  clear A70
  replace H := Option.bind_eq_some_iff.mp H
  obtain ⟨t264, A80, H⟩ := H
  (try dsimp only at H)
  have A8 := Aside0.mk A80
  clear A80
  have HC9 := Aside0.mk H
  clear H
  go_enter Try.func8, Try.ntmps8
  go_upto_region 8 with (first | ((with_reducible refine gate_callee (f := 12) rfl ?_); refine goesL_ (some 12) rfl rfl Try.func12 (by kernel_rfl) rfl #[.slice A0 l0.length c0] rfl (by (try simp only [List.map_toArray, List.map_cons, List.map_nil]); first | done | rfl | (simp only [List.length_drop, List.length_take]; rfl)) ?_; (with_reducible refine (laws_big.calls _ _ l0 false _ ?side1 ?side2 A2.out).mono ?_); (case side1 => exact Kd.C_up HR0.out); (case side2 => exact HC0.out); rintro e w' ⟨rfl, ⟨nd, rfl⟩⟩; refine ⟨_, rfl, ?_⟩) | ((with_reducible refine gate_callee (f := 62) rfl ?_); refine goesL_ (some 15) rfl rfl Try.func62 (by kernel_rfl) rfl #[.slice A0 l0.length c0] rfl (by (try simp only [List.map_toArray, List.map_cons, List.map_nil]); first | done | rfl | (simp only [List.length_drop, List.length_take]; rfl)) ?_; (with_reducible refine (spec_DrawInSet.calls k _ _ l0 t257 t258 _ ?side1 ?side2 A4.out).mono ?_); (case side1 => exact Kd.C_up HR0.out); (case side2 => exact HC0.out); rintro e w10 ⟨rfl, hb⟩; refine ⟨_, rfl, ?_⟩; have n0_ := Aside0.mk (below_step (B_up HB.out) hb); clear HB; have HB := n0_; clear n0_; (try clear hb); (try clear hb2); (try clear hk); (try clear hi)) | ((with_reducible refine gate_callee (f := 63) rfl ?_); refine goesL_ (some 20) rfl rfl Try.func63 (by kernel_rfl) rfl #[.slice A0 l0.length c0] rfl (by (try simp only [List.map_toArray, List.map_cons, List.map_nil]); first | done | rfl | (simp only [List.length_drop, List.length_take]; rfl)) ?_; (with_reducible refine (spec_DrawUnion.calls k _ _ l0 t259 t260 _ ?side1 ?side2 A5.out).mono ?_); (case side1 => repeat (first | exact (Kd.C_below HR0.out HB.out) | (with_reducible refine Kd.C_alloc ?_ _) | (with_reducible refine Kd.C_drewN ?_ _) | (with_reducible refine Kd.C_drew ?_))); (case side2 => exact HC0.out); rintro e w11 ⟨rfl, hb⟩; refine ⟨_, rfl, ?_⟩; have n0_ := Aside0.mk (below_step (B_up HB.out) hb); clear HB; have HB := n0_; clear n0_; (try clear hb); (try clear hb2); (try clear hk); (try clear hi)) | ((with_reducible refine gate_callee (f := 64) rfl ?_); refine goesL_ (some 25) rfl rfl Try.func64 (by kernel_rfl) rfl #[.slice A0 l0.length c0] rfl (by (try simp only [List.map_toArray, List.map_cons, List.map_nil]); first | done | rfl | (simp only [List.length_drop, List.length_take]; rfl)) ?_; (with_reducible refine (spec_DrawFirstOf.calls k _ _ l0 t261 t262 _ ?side1 ?side2 A6.out).mono ?_); (case side1 => repeat (first | exact (Kd.C_below HR0.out HB.out) | (with_reducible refine Kd.C_alloc ?_ _) | (with_reducible refine Kd.C_drewN ?_ _) | (with_reducible refine Kd.C_drew ?_))); (case side2 => exact HC0.out); rintro e w12 ⟨rfl, hb⟩; refine ⟨_, rfl, ?_⟩; have n0_ := Aside0.mk (below_step (B_up HB.out) hb); clear HB; have HB := n0_; clear n0_; (try clear hb); (try clear hb2); (try clear hk); (try clear hi)) | ((with_reducible refine gate_callee (f := 65) rfl ?_); refine goesL_ (some 29) rfl rfl Try.func65 (by kernel_rfl) rfl #[.slice A0 l0.length c0] rfl (by (try simp only [List.map_toArray, List.map_cons, List.map_nil]); first | done | rfl | (simp only [List.length_drop, List.length_take]; rfl)) ?_; (with_reducible refine (spec_DrawFullSet.calls k _ _ l0 t263 _ ?side1 ?side2 A7.out).mono ?_); (case side1 => repeat (first | exact (Kd.C_below HR0.out HB.out) | (with_reducible refine Kd.C_alloc ?_ _) | (with_reducible refine Kd.C_drewN ?_ _) | (with_reducible refine Kd.C_drew ?_))); (case side2 => exact HC0.out); rintro e w13 ⟨rfl, hb⟩; refine ⟨_, rfl, ?_⟩; have n0_ := Aside0.mk (below_step (B_up HB.out) hb); clear HB; have HB := n0_; clear n0_; (try clear hb); (try clear hb2); (try clear hk); (try clear hi)) | ((with_reducible refine gate_callee (f := 66) rfl ?_); refine goesL_ (some 31) rfl rfl Try.func66 (by kernel_rfl) rfl #[.int .i64 t257] rfl (by (try simp only [List.map_toArray, List.map_cons, List.map_nil]); first | done | rfl | (simp only [List.length_drop, List.length_take]; rfl)) ?_; (with_reducible refine (impl_PartsIn.calls k t257 t264 _ A8.out).mono ?_); rintro e w14 ⟨v265, rfl, ho0, hb⟩; refine ⟨_, rfl, ?_⟩; have n0_ := Aside0.mk (Kd.R_lower ho0 (below_size (B_up HB.out))); have n1_ := Aside0.mk (below_step (B_up HB.out) hb); clear HB; have HO266 := n0_; have HB := n1_; clear n0_ n1_; (try clear hb); (try clear hb2); (try clear hk); (try clear hi); (try clear ho0)))
  (try simp only [Act.put, List.setIfInBounds_toArray, List.set_cons_zero, List.set_cons_succ])
  go_cut [111] (fun v111 wc => ∃ (kq : Nat) (x111_8 : Bool), v111 = .bool x111_8 ∧ Aside0 (laws_FnSets.j0 kq t257 t258 x111_8 = some r) ∧ Aside0 (kq ≤ k) ∧ Aside0 (Below w.heap.size w wc))
  case first => as_aux_lemma =>
   have H := HC9.out
   clear HC9
   replace H := Option.bind_eq_some_iff.mp H
   obtain ⟨t267, A150, H⟩ := H
   (try dsimp only at H)
   have A15 := Aside0.mk A150
   clear A150
   replace H := Option.bind_eq_some_iff.mp H
   obtain ⟨t268, A160, H⟩ := H
   (try dsimp only at H)
   have A16 := Aside0.mk A160
   clear A160
   by_cases c17 : (t267 != t268) = true
   ·exact absurd c17 (by rw [Pure.d_InSet A15.out A16.out]; simp)
   ·rw [if_neg c17] at H
    have c17b0 : (t267 != t268) = false := by simpa using c17
    (try (have c17b1 : decide (t267 = t268) = true := by simpa using c17))
    (try (have c17b2 : (t267 == t268) = true := by simpa using c17))
    clear c17
    (first | rw [c17b0] | (simp only [i64_w, i32_w]; rw [c17b0]) | skip)
    replace H := Option.bind_eq_some_iff.mp H
    obtain ⟨t269, A180, H⟩ := H
    (try dsimp only at H)
    have A18 := Aside0.mk A180
    clear A180
    replace H := Option.bind_eq_some_iff.mp H
    obtain ⟨t270, A190, H⟩ := H
    (try dsimp only at H)
    have A19 := Aside0.mk A190
    clear A190
    by_cases c20 : t269 = t270
    ·rw [if_pos c20] at H
     have c20b0 : (t269 == t270) = true := beq_iff_eq.mpr c20
     have c20b1 : (t269 != t270) = false := bne_eq_false_iff_eq.mpr c20
     clear c20
     replace H := Option.bind_eq_some_iff.mp H
     obtain ⟨t271, A210, H⟩ := H
     (try dsimp only at H)
     have A21 := Aside0.mk A210
     clear A210
     replace H := Option.bind_eq_some_iff.mp H
     obtain ⟨t272, A220, H⟩ := H
     (try dsimp only at H)
     have A22 := Aside0.mk A220
     clear A220
     by_cases c23 : t271 = t272
     ·rw [if_pos c23] at H
      have c23b0 : (t271 == t272) = true := beq_iff_eq.mpr c23
      have c23b1 : (t271 != t272) = false := bne_eq_false_iff_eq.mpr c23
      clear c23
      replace H := Option.bind_eq_some_iff.mp H
      obtain ⟨t273, A240, H⟩ := H
      (try dsimp only at H)
      have A24 := Aside0.mk A240
      clear A240
      replace H := Option.bind_eq_some_iff.mp H
      obtain ⟨t274, A250, H⟩ := H
      (try dsimp only at H)
      have A25 := Aside0.mk A250
      clear A250
      by_cases c26 : t273 = t274
      ·rw [if_pos c26] at H
       have c26b0 : (t273 == t274) = true := beq_iff_eq.mpr c26
       have c26b1 : (t273 != t274) = false := bne_eq_false_iff_eq.mpr c26
       clear c26
       replace H := Option.bind_eq_some_iff.mp H
       obtain ⟨t275, A270, H⟩ := H
       (try dsimp only at H)
       have A27 := Aside0.mk A270
       clear A270
       replace H := Option.bind_eq_some_iff.mp H
       obtain ⟨t276, A280, H⟩ := H
       (try dsimp only at H)
       have A28 := Aside0.mk A280
       clear A280
       by_cases c29 : t275 = t276
       ·rw [if_pos c29] at H
        have c29b0 : (t275 == t276) = true := beq_iff_eq.mpr c29
        have c29b1 : (t275 != t276) = false := bne_eq_false_iff_eq.mpr c29
        clear c29
        replace H := Option.bind_eq_some_iff.mp H
        obtain ⟨t277, A300, H⟩ := H
        (try dsimp only at H)
        have A30 := Aside0.mk A300
        clear A300
        replace H := Option.bind_eq_some_iff.mp H
        obtain ⟨t278, A310, H⟩ := H
        (try dsimp only at H)
        have A31 := Aside0.mk A310
        clear A310
        by_cases c32 : t277 = t278
        ·rw [if_pos c32] at H
         have c32b0 : (t277 == t278) = true := beq_iff_eq.mpr c32
         have c32b1 : (t277 != t278) = false := bne_eq_false_iff_eq.mpr c32
         clear c32
         replace H := Option.bind_eq_some_iff.mp H
         obtain ⟨t279, A330, H⟩ := H
         (try dsimp only at H)
         have A33 := Aside0.mk A330
         clear A330
         replace H := Option.bind_eq_some_iff.mp H
         obtain ⟨t280, A340, H⟩ := H
         (try dsimp only at H)
         have A34 := Aside0.mk A340
         clear A340
         by_cases c35 : t279 = t280
         ·rw [if_pos c35] at H
          have c35b0 : (t279 == t280) = true := beq_iff_eq.mpr c35
          have c35b1 : (t279 != t280) = false := bne_eq_false_iff_eq.mpr c35
          clear c35
          replace H := Option.bind_eq_some_iff.mp H
          obtain ⟨t281, A360, H⟩ := H
          (try dsimp only at H)
          have A36 := Aside0.mk A360
          clear A360
          replace H := Option.bind_eq_some_iff.mp H
          obtain ⟨t284, A370, H⟩ := H
          (try dsimp only at H)
          have A37 := Aside0.mk A370
          clear A370
          by_cases c38 : t284 = true
          ·subst c38
           rw [if_pos rfl] at H
           replace H := Option.bind_eq_some_iff.mp H
           obtain ⟨t285, A390, H⟩ := H
           (try dsimp only at H)
           have A39 := Aside0.mk A390
           clear A390
           by_cases c40 : t285 = (t264.length : Int)
           ·rw [if_pos c40] at H
            have c40b0 : (t285 == (t264.length : Int)) = true := beq_iff_eq.mpr c40
            have c40b1 : (t285 != (t264.length : Int)) = false := bne_eq_false_iff_eq.mpr c40
            clear c40
            replace H := Option.bind_eq_some_iff.mp H
            obtain ⟨t286, A410, H⟩ := H
            replace H : ((spec_SetOk.f t257).bind fun t287 => (laws_FnSets.j0 k t257 t258 (t286 != t287))) = some r := H
            have A41 := Aside0.mk A410
            clear A410
            replace H := Option.bind_eq_some_iff.mp H
            obtain ⟨t287, A420, H⟩ := H
            replace H : (laws_FnSets.j0 k t257 t258 (t286 != t287)) = some r := H
            have A42 := Aside0.mk A420
            clear A420
            have H' := Aside0.mk H
            clear H
            go_wp2_with (first | (go_at_call 67; (with_reducible refine (impl_InSet.calls t257 t258 t267 _ A15.out).mono ?_); rintro e w' ⟨rfl, ⟨nd, rfl⟩⟩) | (go_at_call 68; (with_reducible refine (spec_InSet.calls t257 t258 t268 _ A16.out).mono ?_); rintro e w' ⟨rfl, ⟨nd, rfl⟩⟩) | (go_at_call 69; (with_reducible refine (impl_WithPart.calls t257 t258 t269 _ A18.out).mono ?_); rintro e w' ⟨rfl, ⟨nd, rfl⟩⟩) | (go_at_call 70; (with_reducible refine (spec_WithPart.calls t257 t258 t270 _ A19.out).mono ?_); rintro e w' ⟨rfl, ⟨nd, rfl⟩⟩) | (go_at_call 71; (with_reducible refine (impl_WithoutPart.calls t257 t258 t271 _ A21.out).mono ?_); rintro e w' ⟨rfl, ⟨nd, rfl⟩⟩) | (go_at_call 72; (with_reducible refine (spec_WithoutPart.calls t257 t258 t272 _ A22.out).mono ?_); rintro e w' ⟨rfl, ⟨nd, rfl⟩⟩) | (go_at_call 73; (with_reducible refine (impl_Union.calls t259 t260 t273 _ A24.out).mono ?_); rintro e w' ⟨rfl, ⟨nd, rfl⟩⟩) | (go_at_call 74; (with_reducible refine (spec_Union.calls t259 t260 t274 _ A25.out).mono ?_); rintro e w' ⟨rfl, ⟨nd, rfl⟩⟩) | (go_at_call 75; (with_reducible refine (impl_Without.calls t259 t260 t275 _ A27.out).mono ?_); rintro e w' ⟨rfl, ⟨nd, rfl⟩⟩) | (go_at_call 76; (with_reducible refine (spec_Without.calls t259 t260 t276 _ A28.out).mono ?_); rintro e w' ⟨rfl, ⟨nd, rfl⟩⟩) | (go_at_call 77; (with_reducible refine (impl_FirstOf.calls k t261 t262 t277 _ A30.out).mono ?_); rintro e w43 ⟨rfl, hb⟩; have n0_ := Aside0.mk (Kd.R_below (Kd.R_up HO266.out) hb); have n1_ := Aside0.mk (below_step (B_up HB.out) hb); clear HO266; clear HB; have HO266 := n0_; have HB := n1_; clear n0_ n1_; (try clear hb); (try clear hb2); (try clear hk); (try clear hi)) | (go_at_call 78; (with_reducible refine (spec_FirstOf.calls k t261 t262 t278 _ A31.out).mono ?_); rintro e w' ⟨rfl, ⟨nd, rfl⟩⟩) | (go_at_call 79; (with_reducible refine (impl_FullSet.calls t263 t279 _ A33.out).mono ?_); rintro e w' ⟨rfl, ⟨nd, rfl⟩⟩) | (go_at_call 80; (with_reducible refine (spec_FullSet.calls t263 t280 _ A34.out).mono ?_); rintro e w' ⟨rfl, ⟨nd, rfl⟩⟩) | (go_at_call 81; (with_reducible refine (spec_PartsIn.calls k t257 t281 _ A36.out).mono ?_); rintro e w44 ⟨v282, rfl, ho0, hb⟩; have n0_ := Aside0.mk (Kd.R_elder' (Kd.R_up HO266.out) (Kd.R_base ho0) hb); have n1_ := Aside0.mk (Kd.R_lower (Kd.R_new' ho0 (Kd.R_lt (Kd.R_up HO266.out))) (below_size (B_up HB.out))); have n2_ := Aside0.mk (below_step (B_up HB.out) hb); clear HO266; clear HB; have HO266 := n0_; have HO283 := n1_; have HB := n2_; clear n0_ n1_ n2_; (try clear hb); (try clear hb2); (try clear hk); (try clear hi); (try clear ho0); obtain ⟨Ao45, co45, eo45⟩ := Kd.R_slice HO266.out; subst eo45; obtain ⟨Ao46, co46, eo46⟩ := Kd.R_slice HO283.out; subst eo46) | (go_at_call 22; (with_reducible refine (laws_sameInts.calls k _ _ t264 _ _ t281 true _ ?side1 ?side2 ?side3 ?side4 A37.out).mono ?_); (case side1 => exact Kd.C_up (Kd.R_reads' HO266.out).2.2); (case side2 => exact (Kd.R_reads' HO266.out).2.1); (case side3 => exact Kd.C_up (Kd.R_reads' HO283.out).2.2); (case side4 => exact (Kd.R_reads' HO283.out).2.1); rintro e w' ⟨rfl, ⟨nd, rfl⟩⟩) | (go_at_call 82; (with_reducible refine (impl_CountSet.calls t257 t285 _ A39.out).mono ?_); rintro e w' ⟨rfl, ⟨nd, rfl⟩⟩) | (go_at_call 83; (with_reducible refine (impl_SetOk.calls t257 t286 _ A41.out).mono ?_); rintro e w' ⟨rfl, ⟨nd, rfl⟩⟩) | (go_at_call 84; (with_reducible refine (spec_SetOk.calls t257 t287 _ A42.out).mono ?_); rintro e w' ⟨rfl, ⟨nd, rfl⟩⟩))
            go_meet
            case rel => exact ⟨_, ((t286 != t287)), (by first | rfl | (simp; done) | (simp [*]; done)), H', ⟨by first | omega | exact Nat.le_refl _⟩, ⟨by repeat (first | (with_reducible first | exact HB.out | apply below_alloc | apply pw_below_drewN | apply below_drew1) | exact HB.out)⟩⟩
           ·exact absurd (Pure.d_Count A8.out A39.out) c40
          ·exact absurd (Pure.d_PartsIn A8.out A36.out A37.out) c38
         ·exact absurd (Pure.d_FullSet A33.out A34.out) c35
        ·exact absurd (Pure.d_FirstOf (Pure.big_len A2.out) A6.out A30.out A31.out) c32
       ·exact absurd (Pure.d_Without A27.out A28.out) c29
      ·exact absurd (Pure.d_Union A24.out A25.out) c26
     ·exact absurd (Pure.d_WithoutPart A21.out A22.out) c23
    ·exact absurd (Pure.d_WithPart A18.out A19.out) c20
  case rest => as_aux_lemma =>
   clear HC9
   try clear c1
   try clear c2
   try clear p2
   try clear c3
   try clear c4
   try clear c6
   try clear c8
   try clear c12
   try clear c17
   try clear c17b0
   try clear c17b1
   try clear c17b2
   try clear c20
   try clear c20b0
   try clear c20b1
   try clear c23
   try clear c23b0
   try clear c23b1
   try clear c26
   try clear c26b0
   try clear c26b1
   try clear c29
   try clear c29b0
   try clear c29b1
   try clear c32
   try clear c32b0
   try clear c32b1
   try clear c35
   try clear c35b0
   try clear c35b1
   try clear c38
   try clear c40
   try clear c40b0
   try clear c40b1
   obtain ⟨kq, x111_8, rfl, HA, HJ8, HB⟩ := hcut
   cases kq with
   | zero => exact absurd HA.out (by simp [laws_FnSets.j0])
   | succ kj8 =>
    have H := HA.out
    clear HA
    simp only [laws_FnSets.j0] at H
    by_cases c57 : x111_8 = true
    ·subst c57
     rw [if_pos rfl] at H
     obtain rfl := Option.some.inj H
     go_wp2
     go_ret
     exact ⟨by first | rfl | (simp [errW_none, errW_some] <;> rfl) | (simp [*, errW_none, errW_some] <;> rfl), by repeat (first | (with_reducible first | exact HB.out | apply below_alloc | apply pw_below_drewN | apply below_drew1) | exact HB.out)⟩
    ·replace c57 := Bool.eq_false_iff.mpr c57
     subst c57
     have H1 : ((impl_SetOk.f t257).bind fun t288 => (if t288 = true then (if t258 < 0 then (laws_FnSets.j1 kj8 t257 t258 true) else (laws_FnSets.j1 kj8 t257 t258 (decide (t258 ≥ 40)))) else (laws_FnSets.j1 kj8 t257 t258 true))) = some r := by rw [if_neg (show ¬ (false = true) by decide)] at H; exact H
     clear H
     have H := H1
     clear H1
     have HC58 := Aside0.mk H
     clear H
     go_upto_region 10 with (fail)
     go_cut [122] (fun v122 wc => ∃ (kq : Nat) (x122_57 : Bool), v122 = .bool x122_57 ∧ Aside0 (laws_FnSets.j1 kq t257 t258 x122_57 = some r) ∧ Aside0 (kq ≤ kj8) ∧ Aside0 (Below w.heap.size w wc))
     case first => as_aux_lemma =>
      have H := HC58.out
      clear HC58
      replace H := Option.bind_eq_some_iff.mp H
      obtain ⟨t288, A590, H⟩ := H
      (try dsimp only at H)
      have A59 := Aside0.mk A590
      clear A590
      by_cases c60 : t288 = true
      ·subst c60
       rw [if_pos rfl] at H
       by_cases c61 : t258 < 0
       ·rw [if_pos c61] at H
        have c61b0 : decide (t258 < 0) = true := decide_eq_true c61
        clear c61
        (first | rw [c61b0] | (simp only [i64_w, i32_w]; rw [c61b0]) | skip)
        have H' := Aside0.mk H
        clear H
        go_wp2_with (first | (go_at_call 83; (with_reducible refine (impl_SetOk.calls t257 true _ A59.out).mono ?_); rintro e w' ⟨rfl, ⟨nd, rfl⟩⟩))
        go_meet
        case rel => exact ⟨_, (true), (by first | rfl | (simp; done) | (simp [*]; done)), H', ⟨by have := HJ8.out; first | omega | exact Nat.le_refl _⟩, ⟨by repeat (first | (with_reducible first | exact HB.out | apply below_alloc | apply pw_below_drewN | apply below_drew1) | exact HB.out)⟩⟩
       ·rw [if_neg c61] at H
        have c61b0 : decide (t258 < 0) = false := decide_eq_false c61
        clear c61
        (first | rw [c61b0] | (simp only [i64_w, i32_w]; rw [c61b0]) | skip)
        have H' := Aside0.mk H
        clear H
        go_wp2_with (first | (go_at_call 83; (with_reducible refine (impl_SetOk.calls t257 true _ A59.out).mono ?_); rintro e w' ⟨rfl, ⟨nd, rfl⟩⟩))
        go_meet
        case rel => exact ⟨_, (decide (t258 ≥ 40)), (by first | rfl | (simp; done) | (simp [*]; done)), H', ⟨by have := HJ8.out; first | omega | exact Nat.le_refl _⟩, ⟨by repeat (first | (with_reducible first | exact HB.out | apply below_alloc | apply pw_below_drewN | apply below_drew1) | exact HB.out)⟩⟩
      ·replace c60 := Bool.eq_false_iff.mpr c60
       subst c60
       have H1 : (laws_FnSets.j1 kj8 t257 t258 true) = some r := by rw [if_neg (show ¬ (false = true) by decide)] at H; exact H
       clear H
       have H := H1
       clear H1
       have H' := Aside0.mk H
       clear H
       go_wp2_with (first | (go_at_call 83; (with_reducible refine (impl_SetOk.calls t257 false _ A59.out).mono ?_); rintro e w' ⟨rfl, ⟨nd, rfl⟩⟩))
       go_meet
       case rel => exact ⟨_, (true), (by first | rfl | (simp; done) | (simp [*]; done)), H', ⟨by have := HJ8.out; first | omega | exact Nat.le_refl _⟩, ⟨by repeat (first | (with_reducible first | exact HB.out | apply below_alloc | apply pw_below_drewN | apply below_drew1) | exact HB.out)⟩⟩
     case rest => as_aux_lemma =>
      clear HC58
      try clear c1
      try clear c2
      try clear p2
      try clear c3
      try clear c4
      try clear c5
      try clear c6
      try clear c8
      try clear c12
      try clear c17
      try clear c17b0
      try clear c17b1
      try clear c17b2
      try clear c20
      try clear c20b0
      try clear c20b1
      try clear c23
      try clear c23b0
      try clear c23b1
      try clear c26
      try clear c26b0
      try clear c26b1
      try clear c29
      try clear c29b0
      try clear c29b1
      try clear c32
      try clear c32b0
      try clear c32b1
      try clear c35
      try clear c35b0
      try clear c35b1
      try clear c38
      try clear c40
      try clear c40b0
      try clear c40b1
      try clear c57
      try clear c60
      try clear c61
      try clear c61b0
      try clear p2
      obtain ⟨kq, x122_57, rfl, HA, HJ57, HB⟩ := hcut
      cases kq with
      | zero => exact absurd HA.out (by simp [laws_FnSets.j1])
      | succ kj57 =>
       have H := HA.out
       clear HA
       simp only [laws_FnSets.j1] at H
       by_cases c62 : x122_57 = true
       ·subst c62
        rw [if_pos rfl] at H
        replace H := Option.bind_eq_some_iff.mp H
        obtain ⟨t289, A630, H⟩ := H
        replace H : (some (t289 == t257)) = some r := H
        have A63 := Aside0.mk A630
        clear A630
        obtain rfl := Option.some.inj H
        go_wp2_with (first | (go_at_call 69; (with_reducible refine (impl_WithPart.calls t257 t258 t289 _ A63.out).mono ?_); rintro e w' ⟨rfl, ⟨nd, rfl⟩⟩))
        go_ret
        exact ⟨by first | rfl | (simp [errW_none, errW_some] <;> rfl) | (simp [*, errW_none, errW_some] <;> rfl), by repeat (first | (with_reducible first | exact HB.out | apply below_alloc | apply pw_below_drewN | apply below_drew1) | exact HB.out)⟩
       ·replace c62 := Bool.eq_false_iff.mpr c62
        subst c62
        have H1 : ((impl_WithPart.f t257 t258).bind fun t290 => ((impl_InSet.f t290 t258).bind fun t291 => (if t291 = true then ((impl_WithoutPart.f t257 t258).bind fun t292 => ((impl_InSet.f t292 t258).bind fun t293 => (if t293 = true then (some false) else ((impl_WithPart.f 0 t258).bind fun t294 => ((impl_Without.f t257 t294).bind fun t295 => ((impl_WithPart.f 0 t258).bind fun t296 => ((impl_Union.f t295 t296).bind fun t297 => ((impl_WithPart.f t257 t258).bind fun t298 => (if t297 = t298 then ((impl_FirstOf.f kj57 t257 2).bind fun t299 => ((impl_CountSet.f t299).bind fun t300 => (if t300 ≤ 2 then ((impl_FirstOf.f kj57 t257 2).bind fun t301 => ((impl_Without.f t301 t257).bind fun t302 => (some (t302 == 0)))) else (some false)))) else (some false)))))))))) else (some false)))) = some r := by rw [if_neg (show ¬ (false = true) by decide)] at H; exact H
        clear H
        have H := H1
        clear H1
        replace H := Option.bind_eq_some_iff.mp H
        obtain ⟨t290, A640, H⟩ := H
        (try dsimp only at H)
        have A64 := Aside0.mk A640
        clear A640
        replace H := Option.bind_eq_some_iff.mp H
        obtain ⟨t291, A650, H⟩ := H
        (try dsimp only at H)
        have A65 := Aside0.mk A650
        clear A650
        by_cases c66 : t291 = true
        ·subst c66
         rw [if_pos rfl] at H
         replace H := Option.bind_eq_some_iff.mp H
         obtain ⟨t292, A670, H⟩ := H
         (try dsimp only at H)
         have A67 := Aside0.mk A670
         clear A670
         replace H := Option.bind_eq_some_iff.mp H
         obtain ⟨t293, A680, H⟩ := H
         (try dsimp only at H)
         have A68 := Aside0.mk A680
         clear A680
         by_cases c69 : t293 = true
         ·subst c69
          rw [if_pos rfl] at H
          obtain rfl := Option.some.inj H
          go_wp2_with (first | (go_at_call 69; (with_reducible refine (impl_WithPart.calls t257 t258 t290 _ A64.out).mono ?_); rintro e w' ⟨rfl, ⟨nd, rfl⟩⟩) | (go_at_call 67; (with_reducible refine (impl_InSet.calls t290 t258 true _ A65.out).mono ?_); rintro e w' ⟨rfl, ⟨nd, rfl⟩⟩) | (go_at_call 71; (with_reducible refine (impl_WithoutPart.calls t257 t258 t292 _ A67.out).mono ?_); rintro e w' ⟨rfl, ⟨nd, rfl⟩⟩) | (go_at_call 67; (with_reducible refine (impl_InSet.calls t292 t258 true _ A68.out).mono ?_); rintro e w' ⟨rfl, ⟨nd, rfl⟩⟩))
          go_ret
          exact ⟨by first | rfl | (simp [errW_none, errW_some] <;> rfl) | (simp [*, errW_none, errW_some] <;> rfl), by repeat (first | (with_reducible first | exact HB.out | apply below_alloc | apply pw_below_drewN | apply below_drew1) | exact HB.out)⟩
         ·replace c69 := Bool.eq_false_iff.mpr c69
          subst c69
          have H1 : ((impl_WithPart.f 0 t258).bind fun t294 => ((impl_Without.f t257 t294).bind fun t295 => ((impl_WithPart.f 0 t258).bind fun t296 => ((impl_Union.f t295 t296).bind fun t297 => ((impl_WithPart.f t257 t258).bind fun t298 => (if t297 = t298 then ((impl_FirstOf.f kj57 t257 2).bind fun t299 => ((impl_CountSet.f t299).bind fun t300 => (if t300 ≤ 2 then ((impl_FirstOf.f kj57 t257 2).bind fun t301 => ((impl_Without.f t301 t257).bind fun t302 => (some (t302 == 0)))) else (some false)))) else (some false))))))) = some r := by rw [if_neg (show ¬ (false = true) by decide)] at H; exact H
          clear H
          have H := H1
          clear H1
          replace H := Option.bind_eq_some_iff.mp H
          obtain ⟨t294, A700, H⟩ := H
          (try dsimp only at H)
          have A70 := Aside0.mk A700
          clear A700
          replace H := Option.bind_eq_some_iff.mp H
          obtain ⟨t295, A710, H⟩ := H
          (try dsimp only at H)
          have A71 := Aside0.mk A710
          clear A710
          replace H := Option.bind_eq_some_iff.mp H
          obtain ⟨t296, A720, H⟩ := H
          (try dsimp only at H)
          have A72 := Aside0.mk A720
          clear A720
          have e_t296 : t294 = t296 := Option.some.inj (A70.out.symm.trans A72.out)
          subst e_t296
          replace H := Option.bind_eq_some_iff.mp H
          obtain ⟨t297, A730, H⟩ := H
          (try dsimp only at H)
          have A73 := Aside0.mk A730
          clear A730
          replace H := Option.bind_eq_some_iff.mp H
          obtain ⟨t298, A740, H⟩ := H
          (try dsimp only at H)
          have A74 := Aside0.mk A740
          clear A740
          have e_t298 : t290 = t298 := Option.some.inj (A64.out.symm.trans A74.out)
          subst e_t298
          by_cases c75 : t297 = t290
          ·rw [if_pos c75] at H
           have c75b0 : (t297 == t290) = true := beq_iff_eq.mpr c75
           have c75b1 : (t297 != t290) = false := bne_eq_false_iff_eq.mpr c75
           clear c75
           replace H := Option.bind_eq_some_iff.mp H
           obtain ⟨t299, A760, H⟩ := H
           (try dsimp only at H)
           have A76 := Aside0.mk A760
           clear A760
           replace H := Option.bind_eq_some_iff.mp H
           obtain ⟨t300, A770, H⟩ := H
           (try dsimp only at H)
           have A77 := Aside0.mk A770
           clear A770
           by_cases c78 : t300 ≤ 2
           ·rw [if_pos c78] at H
            have c78b0 : decide (t300 ≤ 2) = true := decide_eq_true c78
            clear c78
            replace H := Option.bind_eq_some_iff.mp H
            obtain ⟨t301, A790, H⟩ := H
            replace H : ((impl_Without.f t301 t257).bind fun t302 => (some (t302 == 0))) = some r := H
            have A79 := Aside0.mk A790
            clear A790
            have e_t301 : t299 = t301 := Option.some.inj (A76.out.symm.trans A79.out)
            subst e_t301
            replace H := Option.bind_eq_some_iff.mp H
            obtain ⟨t302, A800, H⟩ := H
            replace H : (some (t302 == 0)) = some r := H
            have A80 := Aside0.mk A800
            clear A800
            obtain rfl := Option.some.inj H
            go_wp2_with (first | (go_at_call 69; (with_reducible refine (impl_WithPart.calls t257 t258 t290 _ A64.out).mono ?_); rintro e w' ⟨rfl, ⟨nd, rfl⟩⟩) | (go_at_call 67; (with_reducible refine (impl_InSet.calls t290 t258 true _ A65.out).mono ?_); rintro e w' ⟨rfl, ⟨nd, rfl⟩⟩) | (go_at_call 71; (with_reducible refine (impl_WithoutPart.calls t257 t258 t292 _ A67.out).mono ?_); rintro e w' ⟨rfl, ⟨nd, rfl⟩⟩) | (go_at_call 67; (with_reducible refine (impl_InSet.calls t292 t258 false _ A68.out).mono ?_); rintro e w' ⟨rfl, ⟨nd, rfl⟩⟩) | (go_at_call 69; (with_reducible refine (impl_WithPart.calls 0 t258 t294 _ A70.out).mono ?_); rintro e w' ⟨rfl, ⟨nd, rfl⟩⟩) | (go_at_call 75; (with_reducible refine (impl_Without.calls t257 t294 t295 _ A71.out).mono ?_); rintro e w' ⟨rfl, ⟨nd, rfl⟩⟩) | (go_at_call 69; (with_reducible refine (impl_WithPart.calls 0 t258 t294 _ A72.out).mono ?_); rintro e w' ⟨rfl, ⟨nd, rfl⟩⟩) | (go_at_call 73; (with_reducible refine (impl_Union.calls t295 t294 t297 _ A73.out).mono ?_); rintro e w' ⟨rfl, ⟨nd, rfl⟩⟩) | (go_at_call 69; (with_reducible refine (impl_WithPart.calls t257 t258 t290 _ A74.out).mono ?_); rintro e w' ⟨rfl, ⟨nd, rfl⟩⟩) | (go_at_call 77; (with_reducible refine (impl_FirstOf.calls kj57 t257 2 t299 _ A76.out).mono ?_); rintro e w81 ⟨rfl, hb⟩; have n0_ := Aside0.mk (below_step (B_up HB.out) hb); clear HB; have HB := n0_; clear n0_; (try clear hb); (try clear hb2); (try clear hk); (try clear hi)) | (go_at_call 82; (with_reducible refine (impl_CountSet.calls t299 t300 _ A77.out).mono ?_); rintro e w' ⟨rfl, ⟨nd, rfl⟩⟩) | (go_at_call 77; (with_reducible refine (impl_FirstOf.calls kj57 t257 2 t299 _ A79.out).mono ?_); rintro e w82 ⟨rfl, hb⟩; have n0_ := Aside0.mk (below_step (B_up HB.out) hb); clear HB; have HB := n0_; clear n0_; (try clear hb); (try clear hb2); (try clear hk); (try clear hi)) | (go_at_call 75; (with_reducible refine (impl_Without.calls t299 t257 t302 _ A80.out).mono ?_); rintro e w' ⟨rfl, ⟨nd, rfl⟩⟩))
            go_ret
            exact ⟨by first | rfl | (simp [errW_none, errW_some] <;> rfl) | (simp [*, errW_none, errW_some] <;> rfl), by repeat (first | (with_reducible first | exact HB.out | apply below_alloc | apply pw_below_drewN | apply below_drew1) | exact HB.out)⟩
           ·rw [if_neg c78] at H
            have c78b0 : decide (t300 ≤ 2) = false := decide_eq_false c78
            clear c78
            obtain rfl := Option.some.inj H
            go_wp2_with (first | (go_at_call 69; (with_reducible refine (impl_WithPart.calls t257 t258 t290 _ A64.out).mono ?_); rintro e w' ⟨rfl, ⟨nd, rfl⟩⟩) | (go_at_call 67; (with_reducible refine (impl_InSet.calls t290 t258 true _ A65.out).mono ?_); rintro e w' ⟨rfl, ⟨nd, rfl⟩⟩) | (go_at_call 71; (with_reducible refine (impl_WithoutPart.calls t257 t258 t292 _ A67.out).mono ?_); rintro e w' ⟨rfl, ⟨nd, rfl⟩⟩) | (go_at_call 67; (with_reducible refine (impl_InSet.calls t292 t258 false _ A68.out).mono ?_); rintro e w' ⟨rfl, ⟨nd, rfl⟩⟩) | (go_at_call 69; (with_reducible refine (impl_WithPart.calls 0 t258 t294 _ A70.out).mono ?_); rintro e w' ⟨rfl, ⟨nd, rfl⟩⟩) | (go_at_call 75; (with_reducible refine (impl_Without.calls t257 t294 t295 _ A71.out).mono ?_); rintro e w' ⟨rfl, ⟨nd, rfl⟩⟩) | (go_at_call 69; (with_reducible refine (impl_WithPart.calls 0 t258 t294 _ A72.out).mono ?_); rintro e w' ⟨rfl, ⟨nd, rfl⟩⟩) | (go_at_call 73; (with_reducible refine (impl_Union.calls t295 t294 t297 _ A73.out).mono ?_); rintro e w' ⟨rfl, ⟨nd, rfl⟩⟩) | (go_at_call 69; (with_reducible refine (impl_WithPart.calls t257 t258 t290 _ A74.out).mono ?_); rintro e w' ⟨rfl, ⟨nd, rfl⟩⟩) | (go_at_call 77; (with_reducible refine (impl_FirstOf.calls kj57 t257 2 t299 _ A76.out).mono ?_); rintro e w83 ⟨rfl, hb⟩; have n0_ := Aside0.mk (below_step (B_up HB.out) hb); clear HB; have HB := n0_; clear n0_; (try clear hb); (try clear hb2); (try clear hk); (try clear hi)) | (go_at_call 82; (with_reducible refine (impl_CountSet.calls t299 t300 _ A77.out).mono ?_); rintro e w' ⟨rfl, ⟨nd, rfl⟩⟩))
            go_ret
            exact ⟨by first | rfl | (simp [errW_none, errW_some] <;> rfl) | (simp [*, errW_none, errW_some] <;> rfl), by repeat (first | (with_reducible first | exact HB.out | apply below_alloc | apply pw_below_drewN | apply below_drew1) | exact HB.out)⟩
          ·rw [if_neg c75] at H
           have c75b0 : (t297 == t290) = false := beq_eq_false_iff_ne.mpr c75
           have c75b1 : (t297 != t290) = true := bne_iff_ne.mpr c75
           obtain rfl := Option.some.inj H
           go_wp2_with (first | (go_at_call 69; (with_reducible refine (impl_WithPart.calls t257 t258 t290 _ A64.out).mono ?_); rintro e w' ⟨rfl, ⟨nd, rfl⟩⟩) | (go_at_call 67; (with_reducible refine (impl_InSet.calls t290 t258 true _ A65.out).mono ?_); rintro e w' ⟨rfl, ⟨nd, rfl⟩⟩) | (go_at_call 71; (with_reducible refine (impl_WithoutPart.calls t257 t258 t292 _ A67.out).mono ?_); rintro e w' ⟨rfl, ⟨nd, rfl⟩⟩) | (go_at_call 67; (with_reducible refine (impl_InSet.calls t292 t258 false _ A68.out).mono ?_); rintro e w' ⟨rfl, ⟨nd, rfl⟩⟩) | (go_at_call 69; (with_reducible refine (impl_WithPart.calls 0 t258 t294 _ A70.out).mono ?_); rintro e w' ⟨rfl, ⟨nd, rfl⟩⟩) | (go_at_call 75; (with_reducible refine (impl_Without.calls t257 t294 t295 _ A71.out).mono ?_); rintro e w' ⟨rfl, ⟨nd, rfl⟩⟩) | (go_at_call 69; (with_reducible refine (impl_WithPart.calls 0 t258 t294 _ A72.out).mono ?_); rintro e w' ⟨rfl, ⟨nd, rfl⟩⟩) | (go_at_call 73; (with_reducible refine (impl_Union.calls t295 t294 t297 _ A73.out).mono ?_); rintro e w' ⟨rfl, ⟨nd, rfl⟩⟩) | (go_at_call 69; (with_reducible refine (impl_WithPart.calls t257 t258 t290 _ A74.out).mono ?_); rintro e w' ⟨rfl, ⟨nd, rfl⟩⟩))
           go_ret
           exact ⟨by first | rfl | (simp [errW_none, errW_some] <;> rfl) | (simp [*, errW_none, errW_some] <;> rfl), by repeat (first | (with_reducible first | exact HB.out | apply below_alloc | apply pw_below_drewN | apply below_drew1) | exact HB.out)⟩
        ·replace c66 := Bool.eq_false_iff.mpr c66
         subst c66
         have H1 : (some false) = some r := by rw [if_neg (show ¬ (false = true) by decide)] at H; exact H
         clear H
         have H := H1
         clear H1
         obtain rfl := Option.some.inj H
         go_wp2_with (first | (go_at_call 69; (with_reducible refine (impl_WithPart.calls t257 t258 t290 _ A64.out).mono ?_); rintro e w' ⟨rfl, ⟨nd, rfl⟩⟩) | (go_at_call 67; (with_reducible refine (impl_InSet.calls t290 t258 false _ A65.out).mono ?_); rintro e w' ⟨rfl, ⟨nd, rfl⟩⟩))
         go_ret
         exact ⟨by first | rfl | (simp [errW_none, errW_some] <;> rfl) | (simp [*, errW_none, errW_some] <;> rfl), by repeat (first | (with_reducible first | exact HB.out | apply below_alloc | apply pw_below_drewN | apply below_drew1) | exact HB.out)⟩

/-- THE ONE PURE STATEMENT of laws_FnSets: yours. -/
def laws_FnSets.Pure : Prop := ∀ (l0 : List Int), l0.length ≤ maxLen → l0.length * 1 ≤ 140737488351232 → (∀ x ∈ l0, (Lit.int .u8 x).wf = true) → ∃ k, laws_FnSets.f k l0 = some true
theorem laws_FnSets.walk (P : laws_FnSets.Pure) (a0 : Option Addr) (len0 cap0 : Nat) (z0 : List Int) (w : World) (w0 : (a0 = none ∧ len0 = 0 ∧ cap0 = 0 ∧ z0 = []) ∨ ∃ x, a0 = some x ∧ len0 ≤ cap0 ∧ cap0 ≤ maxLen ∧ z0.length = cap0 ∧ (∀ i, i < z0.length → w.cell? (x.add i) = some (.int .u8 (z0.getD i 0))) ∧ ∀ n ∈ z0, (Lit.int .u8 n).wf = true) (y0 : len0 * 1 ≤ 140737488351232) :
  Calls Try.prog 8 #[.slice a0 len0 cap0] w fun e w' => e = .returned (.bool true) ∧ Below w.heap.size w w' := by
 obtain ⟨l0, rfl, hr0, hm0, hw0, hc0⟩ := ReadsInt.ofRowC w0
 obtain ⟨k, h⟩ := P l0 hm0 y0 hw0
 refine (laws_FnSets.calls k _ _ l0 true w (Kd.C_of_reads (d := (0 : Int)) (h1 := fun _ => rfl) hr0) hc0 h).mono ?_
 rintro e w' ⟨rfl, hd⟩
 exact ⟨rfl, hd⟩

end Go.Proofs.Ytfmhhjlhaklljaa.PFnSets
