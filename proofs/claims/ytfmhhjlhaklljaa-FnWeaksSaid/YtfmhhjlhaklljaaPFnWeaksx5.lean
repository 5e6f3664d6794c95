-- by a program of this session (a turned copy of the print: make with a capacity)
import Derived.Test.YtfmhhjlhaklljaaPFnWeaksx0
import Derived.Test.YtfmhhjlhaklljaaPFnWeaksx1
import Derived.Test.YtfmhhjlhaklljaaPFnWeaksx2
import Derived.Test.YtfmhhjlhaklljaaPFnWeaksx3
import Derived.Test.YtfmhhjlhaklljaaPFnWeaksx4
namespace Go.Proofs.Ytfmhhjlhaklljaa.PFnWeaks
open Go.RowKit Go.Proofs.YtfmhhjlhaklljaaW.PrintWords Go.Proofs.YtfmhhjlhaklljaaW.PrintLast Go.Proofs.YtfmhhjlhaklljaaW.PrintMore
attribute [local go_sem] max2_int min2_int max_two min_two max_three min_three max_four min_four   -- for this text's walks alone
set_option linter.unusedVariables false
set_option linter.unusedSimpArgs false

/-! ### laws_FnWeaks: function 3 -/
mutual
def laws_FnWeaks.j0 : Nat → List Int → Int → List Int → Bool → Option (Bool)
 | 0, _, _, _, _ => none
 | k + 1, x3, x4, x9, x93 => if x93 = true then (some false) else (laws_FnWeaks.l0 k x3 x4 x9 0)
def laws_FnWeaks.l0 : Nat → List Int → Int → List Int → Int → Option (Bool)
 | 0, _, _, _, _ => none
 | k + 1, x3, x4, x9, x18 => if x18 < (x9.length : Int) then (if 0 ≤ x18 then (if x18 ≤ (wrap64 (x18 + x4)) then (if (wrap64 (x18 + x4)) ≤ (x3.length : Int) then ((impl_WeakOf.f k ((x3.take ((wrap64 (x18 + x4)) : Int).toNat).drop (x18 : Int).toNat)).bind fun t347 => (if (rd x9 x18) = t347 then ((spec_WeakOf.f k ((x3.take ((wrap64 (x18 + x4)) : Int).toNat).drop (x18 : Int).toNat)).bind fun t353 => (if (rd x9 x18) = t353 then (laws_FnWeaks.l0 k x3 x4 x9 (wrap64 (x18 + 1))) else (some false))) else (some false))) else (none)) else (none)) else (none)) else (if x4 < 1 then (some true) else (if x4 > (x3.length : Int) then (some true) else (some ((x9.length : Int) == (wrap64 ((wrap64 ((x3.length : Int) - x4)) + 1))))))
end
def laws_FnWeaks.f (k : Nat) (l0 : List Int) : Option (Bool) := (laws_big.f l0).bind fun t312 => (if t312 = true then (some true) else ((spec_DrawWindows.f k l0).bind fun bt313 => ((spec_DrawRoll.f k l0).bind fun bt317 => ((impl_Windows.f k bt313.1 bt313.2).bind fun t321 => ((spec_DrawWeakHalves.f k l0).bind fun t324 => ((impl_WeakHalves.f t324).bind fun bt325 => ((spec_WeakHalves.f t324).bind fun bt327 => ((spec_DrawFirstWindow.f k l0).bind fun bt329 => ((impl_Roll.f k bt317.1 bt317.2.1 bt317.2.2.1 bt317.2.2.2).bind fun t334 => ((spec_Roll.f k bt317.1 bt317.2.1 bt317.2.2.1 bt317.2.2.2).bind fun t335 => (if t334 = t335 then ((spec_Windows.f k bt313.1 bt313.2).bind fun t336 => ((laws_sameInts.f k t321 t336).bind fun t339 => (if t339 = true then (if bt325.1 = bt327.1 then (if bt325.2 = bt327.2 then ((impl_FirstWindow.f k bt329.1 bt329.2.1 bt329.2.2).bind fun t340 => ((spec_FirstWindow.f k bt329.1 bt329.2.1 bt329.2.2).bind fun t341 => (laws_FnWeaks.j0 k bt313.1 bt313.2 t321 (t340 != t341)))) else (laws_FnWeaks.j0 k bt313.1 bt313.2 t321 true)) else (laws_FnWeaks.j0 k bt313.1 bt313.2 t321 true)) else (laws_FnWeaks.j0 k bt313.1 bt313.2 t321 true)))) else (laws_FnWeaks.j0 k bt313.1 bt313.2 t321 true))))))))))))
theorem laws_FnWeaks.mono_l : ∀ k, (∀ y0 y1 y2 y3, LeO (laws_FnWeaks.j0 k y0 y1 y2 y3) (laws_FnWeaks.j0 (k + 1) y0 y1 y2 y3)) ∧ (∀ y0 y1 y2 y3, LeO (laws_FnWeaks.l0 k y0 y1 y2 y3) (laws_FnWeaks.l0 (k + 1) y0 y1 y2 y3))
 | 0 => ⟨fun _ _ _ _ r h => by simp [laws_FnWeaks.j0] at h, fun _ _ _ _ r h => by simp [laws_FnWeaks.l0] at h⟩
 | k + 1 => by
  obtain ⟨ih0, ih1⟩ := laws_FnWeaks.mono_l k
  refine ⟨?_, ?_⟩
  ·intro y0 y1 y2 y3
   unfold laws_FnWeaks.j0
   repeat' first
   | (with_reducible exact ih0 _ _ _ _)
   | (with_reducible exact ih1 _ _ _ _)
   | (with_reducible exact impl_FirstWindow.mono _ _ _ _)
   | (with_reducible exact impl_Roll.mono _ _ _ _ _)
   | (with_reducible exact impl_WeakOf.mono _ _)
   | (with_reducible exact impl_Windows.mono _ _ _)
   | (with_reducible exact laws_sameInts.mono _ _ _)
   | (with_reducible exact spec_DrawFirstWindow.mono _ _)
   | (with_reducible exact spec_DrawRoll.mono _ _)
   | (with_reducible exact spec_DrawWeakHalves.mono _ _)
   | (with_reducible exact spec_DrawWindows.mono _ _)
   | (with_reducible exact spec_FirstWindow.mono _ _ _ _)
   | (with_reducible exact spec_Roll.mono _ _ _ _ _)
   | (with_reducible exact spec_WeakOf.mono _ _)
   | (with_reducible exact spec_Windows.mono _ _ _)
   | (with_reducible exact LeO.refl _)
   | (with_reducible exact LeO.none _)
   | (with_reducible refine LeO.ite ?_ ?_)
   | (with_reducible refine LeO.bind ?_ (fun _ => ?_))
   | exact ih0 _ _ _ _
   | exact ih1 _ _ _ _
   | exact impl_FirstWindow.mono _ _ _ _
   | exact impl_Roll.mono _ _ _ _ _
   | exact impl_WeakOf.mono _ _
   | exact impl_Windows.mono _ _ _
   | exact laws_sameInts.mono _ _ _
   | exact spec_DrawFirstWindow.mono _ _
   | exact spec_DrawRoll.mono _ _
   | exact spec_DrawWeakHalves.mono _ _
   | exact spec_DrawWindows.mono _ _
   | exact spec_FirstWindow.mono _ _ _ _
   | exact spec_Roll.mono _ _ _ _ _
   | exact spec_WeakOf.mono _ _
   | exact spec_Windows.mono _ _ _
   | exact LeO.none _
   | refine LeO.ite ?_ ?_
   | refine LeO.bind ?_ (fun _ => ?_)
  ·intro y0 y1 y2 y3
   unfold laws_FnWeaks.l0
   repeat' first
   | (with_reducible exact ih0 _ _ _ _)
   | (with_reducible exact ih1 _ _ _ _)
   | (with_reducible exact impl_FirstWindow.mono _ _ _ _)
   | (with_reducible exact impl_Roll.mono _ _ _ _ _)
   | (with_reducible exact impl_WeakOf.mono _ _)
   | (with_reducible exact impl_Windows.mono _ _ _)
   | (with_reducible exact laws_sameInts.mono _ _ _)
   | (with_reducible exact spec_DrawFirstWindow.mono _ _)
   | (with_reducible exact spec_DrawRoll.mono _ _)
   | (with_reducible exact spec_DrawWeakHalves.mono _ _)
   | (with_reducible exact spec_DrawWindows.mono _ _)
   | (with_reducible exact spec_FirstWindow.mono _ _ _ _)
   | (with_reducible exact spec_Roll.mono _ _ _ _ _)
   | (with_reducible exact spec_WeakOf.mono _ _)
   | (with_reducible exact spec_Windows.mono _ _ _)
   | (with_reducible exact LeO.refl _)
   | (with_reducible exact LeO.none _)
   | (with_reducible refine LeO.ite ?_ ?_)
   | (with_reducible refine LeO.bind ?_ (fun _ => ?_))
   | exact ih0 _ _ _ _
   | exact ih1 _ _ _ _
   | exact impl_FirstWindow.mono _ _ _ _
   | exact impl_Roll.mono _ _ _ _ _
   | exact impl_WeakOf.mono _ _
   | exact impl_Windows.mono _ _ _
   | exact laws_sameInts.mono _ _ _
   | exact spec_DrawFirstWindow.mono _ _
   | exact spec_DrawRoll.mono _ _
   | exact spec_DrawWeakHalves.mono _ _
   | exact spec_DrawWindows.mono _ _
   | exact spec_FirstWindow.mono _ _ _ _
   | exact spec_Roll.mono _ _ _ _ _
   | exact spec_WeakOf.mono _ _
   | exact spec_Windows.mono _ _ _
   | exact LeO.none _
   | refine LeO.ite ?_ ?_
   | refine LeO.bind ?_ (fun _ => ?_)
theorem laws_FnWeaks.mono : ∀ a0 k, LeO (laws_FnWeaks.f k a0) (laws_FnWeaks.f (k + 1) a0) := by
 intro a0 k
 obtain ⟨ih0, ih1⟩ := laws_FnWeaks.mono_l k
 unfold laws_FnWeaks.f
 repeat' first
   | (with_reducible exact ih0 _ _ _ _)
   | (with_reducible exact ih1 _ _ _ _)
   | (with_reducible exact impl_FirstWindow.mono _ _ _ _)
   | (with_reducible exact impl_Roll.mono _ _ _ _ _)
   | (with_reducible exact impl_WeakOf.mono _ _)
   | (with_reducible exact impl_Windows.mono _ _ _)
   | (with_reducible exact laws_sameInts.mono _ _ _)
   | (with_reducible exact spec_DrawFirstWindow.mono _ _)
   | (with_reducible exact spec_DrawRoll.mono _ _)
   | (with_reducible exact spec_DrawWeakHalves.mono _ _)
   | (with_reducible exact spec_DrawWindows.mono _ _)
   | (with_reducible exact spec_FirstWindow.mono _ _ _ _)
   | (with_reducible exact spec_Roll.mono _ _ _ _ _)
   | (with_reducible exact spec_WeakOf.mono _ _)
   | (with_reducible exact spec_Windows.mono _ _ _)
   | (with_reducible exact LeO.refl _)
   | (with_reducible exact LeO.none _)
   | (with_reducible refine LeO.ite ?_ ?_)
   | (with_reducible refine LeO.bind ?_ (fun _ => ?_))
   | exact ih0 _ _ _ _
   | exact ih1 _ _ _ _
   | exact impl_FirstWindow.mono _ _ _ _
   | exact impl_Roll.mono _ _ _ _ _
   | exact impl_WeakOf.mono _ _
   | exact impl_Windows.mono _ _ _
   | exact laws_sameInts.mono _ _ _
   | exact spec_DrawFirstWindow.mono _ _
   | exact spec_DrawRoll.mono _ _
   | exact spec_DrawWeakHalves.mono _ _
   | exact spec_DrawWindows.mono _ _
   | exact spec_FirstWindow.mono _ _ _ _
   | exact spec_Roll.mono _ _ _ _ _
   | exact spec_WeakOf.mono _ _
   | exact spec_Windows.mono _ _ _
   | exact LeO.none _
   | refine LeO.ite ?_ ?_
   | refine LeO.bind ?_ (fun _ => ?_)
set_option maxHeartbeats 8000000 in
set_option maxRecDepth 100000 in
theorem laws_FnWeaks.calls (k : Nat) (A0 : Option Addr) (c0 : Nat) (l0 : List Int) (r : Bool) (w : World) (hr0 : Kd.C (Kd.int .u8) w A0 l0.length l0) (hc0 : l0.length ≤ c0) (h : laws_FnWeaks.f k l0 = some r) :
  Calls Try.prog 3 #[.slice A0 l0.length c0] w fun e w' => e = .returned (.bool r) ∧ Below w.heap.size w w' := by
 have HR0 := Aside0.mk hr0
 have HC0 := Aside0.mk hc0
 clear hr0 hc0
 have HB := Aside0.mk (Below.refl w.heap.size w)
 have H : ((laws_big.f l0).bind fun t312 => (if t312 = true then (some true) else ((spec_DrawWindows.f k l0).bind fun bt313 => ((spec_DrawRoll.f k l0).bind fun bt317 => ((impl_Windows.f k bt313.1 bt313.2).bind fun t321 => ((spec_DrawWeakHalves.f k l0).bind fun t324 => ((impl_WeakHalves.f t324).bind fun bt325 => ((spec_WeakHalves.f t324).bind fun bt327 => ((spec_DrawFirstWindow.f k l0).bind fun bt329 => ((impl_Roll.f k bt317.1 bt317.2.1 bt317.2.2.1 bt317.2.2.2).bind fun t334 => ((spec_Roll.f k bt317.1 bt317.2.1 bt317.2.2.1 bt317.2.2.2).bind fun t335 => (if t334 = t335 then ((spec_Windows.f k bt313.1 bt313.2).bind fun t336 => ((laws_sameInts.f k t321 t336).bind fun t339 => (if t339 = true then (if bt325.1 = bt327.1 then (if bt325.2 = bt327.2 then ((impl_FirstWindow.f k bt329.1 bt329.2.1 bt329.2.2).bind fun t340 => ((spec_FirstWindow.f k bt329.1 bt329.2.1 bt329.2.2).bind fun t341 => (laws_FnWeaks.j0 k bt313.1 bt313.2 t321 (t340 != t341)))) else (laws_FnWeaks.j0 k bt313.1 bt313.2 t321 true)) else (laws_FnWeaks.j0 k bt313.1 bt313.2 t321 true)) else (laws_FnWeaks.j0 k bt313.1 bt313.2 t321 true)))) else (laws_FnWeaks.j0 k bt313.1 bt313.2 t321 true))))))))))))) = some r := h
 clear h
 replace H := Option.bind_eq_some_iff.mp H
 obtain ⟨t312, A20, H⟩ := H
 (try dsimp only at H)
 have A2 := Aside0.mk A20
 clear A20
 by_cases c3 : t312 = true
 ·subst c3
  rw [if_pos rfl] at H
  obtain rfl := Option.some.inj H
  go_enter Try.func3, Try.ntmps3
  go_wp2_with (first | (go_at_call 12; (with_reducible refine (laws_big.calls _ _ l0 true _ ?side1 ?side2 A2.out).mono ?_); (case side1 => exact Kd.C_up HR0.out); (case side2 => exact HC0.out); rintro e w' ⟨rfl, ⟨nd, rfl⟩⟩; (try first | exact ⟨rfl, _, World.drewN_drewN _ _ _⟩ | exact ⟨rfl, _, Eq.trans (World.drewN_drewN _ _ _) (congrArg (World.drewN _) (Nat.add_assoc _ _ _))⟩)))
  repeat (go_quiet (first | (go_at_call 12; (with_reducible refine (laws_big.calls _ _ l0 true _ ?side1 ?side2 A2.out).mono ?_); (case side1 => exact Kd.C_up HR0.out); (case side2 => exact HC0.out); rintro e w' ⟨rfl, ⟨nd, rfl⟩⟩; (try first | exact ⟨rfl, _, World.drewN_drewN _ _ _⟩ | exact ⟨rfl, _, Eq.trans (World.drewN_drewN _ _ _) (congrArg (World.drewN _) (Nat.add_assoc _ _ _))⟩))); try go_wp2_with (first | (go_at_call 12; (with_reducible refine (laws_big.calls _ _ l0 true _ ?side1 ?side2 A2.out).mono ?_); (case side1 => exact Kd.C_up HR0.out); (case side2 => exact HC0.out); rintro e w' ⟨rfl, ⟨nd, rfl⟩⟩; (try first | exact ⟨rfl, _, World.drewN_drewN _ _ _⟩ | exact ⟨rfl, _, Eq.trans (World.drewN_drewN _ _ _) (congrArg (World.drewN _) (Nat.add_assoc _ _ _))⟩))))
  go_ret
  exact ⟨by first | rfl | (simp [errW_none, errW_some] <;> rfl) | (simp [*, errW_none, errW_some] <;> rfl), by repeat (first | (with_reducible first | exact HB.out | apply below_alloc | apply pw_below_drewN | apply below_drew1) | exact HB.out)⟩
 ·replace c3 := Bool.eq_false_iff.mpr c3
  subst c3
  have H1 : ((spec_DrawWindows.f k l0).bind fun bt313 => ((spec_DrawRoll.f k l0).bind fun bt317 => ((impl_Windows.f k bt313.1 bt313.2).bind fun t321 => ((spec_DrawWeakHalves.f k l0).bind fun t324 => ((impl_WeakHalves.f t324).bind fun bt325 => ((spec_WeakHalves.f t324).bind fun bt327 => ((spec_DrawFirstWindow.f k l0).bind fun bt329 => ((impl_Roll.f k bt317.1 bt317.2.1 bt317.2.2.1 bt317.2.2.2).bind fun t334 => ((spec_Roll.f k bt317.1 bt317.2.1 bt317.2.2.1 bt317.2.2.2).bind fun t335 => (if t334 = t335 then ((spec_Windows.f k bt313.1 bt313.2).bind fun t336 => ((laws_sameInts.f k t321 t336).bind fun t339 => (if t339 = true then (if bt325.1 = bt327.1 then (if bt325.2 = bt327.2 then ((impl_FirstWindow.f k bt329.1 bt329.2.1 bt329.2.2).bind fun t340 => ((spec_FirstWindow.f k bt329.1 bt329.2.1 bt329.2.2).bind fun t341 => (laws_FnWeaks.j0 k bt313.1 bt313.2 t321 (t340 != t341)))) else (laws_FnWeaks.j0 k bt313.1 bt313.2 t321 true)) else (laws_FnWeaks.j0 k bt313.1 bt313.2 t321 true)) else (laws_FnWeaks.j0 k bt313.1 bt313.2 t321 true)))) else (laws_FnWeaks.j0 k bt313.1 bt313.2 t321 true))))))))))) = some r := by rw [if_neg (show ¬ (false = true) by decide)] at H; exact H
  clear H
  have H := H1
  clear H1
  replace H := Option.bind_eq_some_iff.mp H
  obtain ⟨⟨t313, t314⟩, A40, H⟩ := H
  (try dsimp only at H)
  have A4 := Aside0.mk A40
  clear A40
  replace H := Option.bind_eq_some_iff.mp H
  obtain ⟨⟨t317, t318, t319, t320⟩, A50, H⟩ := H
  (try dsimp only at H)
  have A5 := Aside0.mk A50
  clear A50
  replace H := Option.bind_eq_some_iff.mp H
  obtain ⟨t321, A60, H⟩ := H
  (try dsimp only at H)
  have A6 := Aside0.mk A60
  clear A60
  replace H := Option.bind_eq_some_iff.mp H
  obtain ⟨t324, A70, H⟩ := H
  (try dsimp only at H)
  have A7 := Aside0.mk A70
  clear A70
  replace H := Option.bind_eq_some_iff.mp H
  obtain ⟨⟨t325, t326⟩, A80, H⟩ := H
  (try dsimp only at H)
  have A8 := Aside0.mk A80
  clear A80
  replace H := Option.bind_eq_some_iff.mp H
  obtain ⟨⟨t327, t328⟩, A90, H⟩ := H
  (try dsimp only at H)
  have A9 := Aside0.mk A90
  clear A90
  replace H := Option.bind_eq_some_iff.mp H
  obtain ⟨⟨t329, t330, t331⟩, A100, H⟩ := H
  (try dsimp only at H)
  have A10 := Aside0.mk A100
  clear A100
  have HC11 := Aside0.mk H
  clear H
  go_enter Try.func3, Try.ntmps3
  go_upto_region 10 with (first | (go_at_call 12; (with_reducible refine (laws_big.calls _ _ l0 false _ ?side1 ?side2 A2.out).mono ?_); (case side1 => exact Kd.C_up HR0.out); (case side2 => exact HC0.out); rintro e w' ⟨rfl, ⟨nd, rfl⟩⟩; (try first | exact ⟨rfl, _, World.drewN_drewN _ _ _⟩ | exact ⟨rfl, _, Eq.trans (World.drewN_drewN _ _ _) (congrArg (World.drewN _) (Nat.add_assoc _ _ _))⟩)) | (go_at_call 13; (with_reducible refine (spec_DrawWindows.calls k _ _ l0 t313 t314 _ ?side1 ?side2 A4.out).mono ?_); (case side1 => exact Kd.C_up HR0.out); (case side2 => exact HC0.out); rintro e w12 ⟨v315, rfl, ho0, hb⟩; have n0_ := Aside0.mk (Kd.R_lower ho0 (below_size (B_up HB.out))); have n1_ := Aside0.mk (below_step (B_up HB.out) hb); clear HB; have HO316 := n0_; have HB := n1_; clear n0_ n1_; (try clear hb); (try clear hb2); (try clear hk); (try clear hi); (try clear ho0)) | (go_at_call 14; (with_reducible refine (spec_DrawRoll.calls k _ _ l0 t317 t318 t319 t320 _ ?side1 ?side2 A5.out).mono ?_); (case side1 => repeat (first | exact (Kd.C_below HR0.out HB.out) | (with_reducible refine Kd.C_alloc ?_ _) | (with_reducible refine Kd.C_drewN ?_ _) | (with_reducible refine Kd.C_drew ?_))); (case side2 => exact HC0.out); rintro e w13 ⟨rfl, hb⟩; have n0_ := Aside0.mk (Kd.R_below (Kd.R_up HO316.out) hb); have n1_ := Aside0.mk (below_step (B_up HB.out) hb); clear HO316; clear HB; have HO316 := n0_; have HB := n1_; clear n0_ n1_; (try clear hb); (try clear hb2); (try clear hk); (try clear hi); obtain ⟨Ao14, co14, eo14⟩ := Kd.R_slice HO316.out; subst eo14) | (go_at_call 15; (with_reducible refine (impl_Windows.calls k _ _ t313 t314 t321 _ ?side1 ?side2 A6.out).mono ?_); (case side1 => exact Kd.C_up (Kd.R_reads' HO316.out).2.2); (case side2 => exact (Kd.R_reads' HO316.out).2.1); rintro e w15 ⟨v322, rfl, ho0, hb⟩; have n0_ := Aside0.mk (Kd.R_below (Kd.R_up HO316.out) hb); have n1_ := Aside0.mk (Kd.R_lower ho0 (below_size (B_up HB.out))); have n2_ := Aside0.mk (below_step (B_up HB.out) hb); clear HO316; clear HB; have HO316 := n0_; have HO323 := n1_; have HB := n2_; clear n0_ n1_ n2_; (try clear hb); (try clear hb2); (try clear hk); (try clear hi); (try clear ho0)) | (go_at_call 16; (with_reducible refine (spec_DrawWeakHalves.calls k _ _ l0 t324 _ ?side1 ?side2 A7.out).mono ?_); (case side1 => repeat (first | exact (Kd.C_below HR0.out HB.out) | (with_reducible refine Kd.C_alloc ?_ _) | (with_reducible refine Kd.C_drewN ?_ _) | (with_reducible refine Kd.C_drew ?_))); (case side2 => exact HC0.out); rintro e w16 ⟨rfl, hb⟩; have n0_ := Aside0.mk (Kd.R_below (Kd.R_up HO316.out) hb); have n1_ := Aside0.mk (Kd.R_below (Kd.R_up HO323.out) hb); have n2_ := Aside0.mk (below_step (B_up HB.out) hb); clear HO316; clear HO323; clear HB; have HO316 := n0_; have HO323 := n1_; have HB := n2_; clear n0_ n1_ n2_; (try clear hb); (try clear hb2); (try clear hk); (try clear hi)) | (go_at_call 17; (with_reducible refine (impl_WeakHalves.calls t324 t325 t326 _ A8.out).mono ?_); rintro e w' ⟨rfl, ⟨nd, rfl⟩⟩; (try first | exact ⟨rfl, _, World.drewN_drewN _ _ _⟩ | exact ⟨rfl, _, Eq.trans (World.drewN_drewN _ _ _) (congrArg (World.drewN _) (Nat.add_assoc _ _ _))⟩)) | (go_at_call 18; (with_reducible refine (spec_WeakHalves.calls t324 t327 t328 _ A9.out).mono ?_); rintro e w' ⟨rfl, ⟨nd, rfl⟩⟩; (try first | exact ⟨rfl, _, World.drewN_drewN _ _ _⟩ | exact ⟨rfl, _, Eq.trans (World.drewN_drewN _ _ _) (congrArg (World.drewN _) (Nat.add_assoc _ _ _))⟩)) | (go_at_call 19; (with_reducible refine (spec_DrawFirstWindow.calls k _ _ l0 t329 t330 t331 _ ?side1 ?side2 A10.out).mono ?_); (case side1 => repeat (first | exact (Kd.C_below HR0.out (B_up HB.out)) | (with_reducible refine Kd.C_alloc ?_ _) | (with_reducible refine Kd.C_drewN ?_ _) | (with_reducible refine Kd.C_drew ?_))); (case side2 => exact HC0.out); rintro e w17 ⟨v332, rfl, ho0, hb⟩; have n0_ := Aside0.mk (Kd.R_elder' (Kd.R_up HO316.out) (Kd.R_base ho0) hb); have n1_ := Aside0.mk (Kd.R_below (Kd.R_up HO323.out) hb); have n2_ := Aside0.mk (Kd.R_lower (Kd.R_new' ho0 (Kd.R_lt (Kd.R_up HO316.out))) (below_size (B_up HB.out))); have n3_ := Aside0.mk (below_step (B_up HB.out) hb); clear HO316; clear HO323; clear HB; have HO316 := n0_; have HO323 := n1_; have HO333 := n2_; have HB := n3_; clear n0_ n1_ n2_ n3_; (try clear hb); (try clear hb2); (try clear hk); (try clear hi); (try clear ho0)))
  repeat (go_quiet (first | (go_at_call 12; (with_reducible refine (laws_big.calls _ _ l0 false _ ?side1 ?side2 A2.out).mono ?_); (case side1 => exact Kd.C_up HR0.out); (case side2 => exact HC0.out); rintro e w' ⟨rfl, ⟨nd, rfl⟩⟩; (try first | exact ⟨rfl, _, World.drewN_drewN _ _ _⟩ | exact ⟨rfl, _, Eq.trans (World.drewN_drewN _ _ _) (congrArg (World.drewN _) (Nat.add_assoc _ _ _))⟩)) | (go_at_call 13; (with_reducible refine (spec_DrawWindows.calls k _ _ l0 t313 t314 _ ?side1 ?side2 A4.out).mono ?_); (case side1 => exact Kd.C_up HR0.out); (case side2 => exact HC0.out); rintro e w12 ⟨v315, rfl, ho0, hb⟩; have n0_ := Aside0.mk (Kd.R_lower ho0 (below_size (B_up HB.out))); have n1_ := Aside0.mk (below_step (B_up HB.out) hb); clear HB; have HO316 := n0_; have HB := n1_; clear n0_ n1_; (try clear hb); (try clear hb2); (try clear hk); (try clear hi); (try clear ho0)) | (go_at_call 14; (with_reducible refine (spec_DrawRoll.calls k _ _ l0 t317 t318 t319 t320 _ ?side1 ?side2 A5.out).mono ?_); (case side1 => repeat (first | exact (Kd.C_below HR0.out HB.out) | (with_reducible refine Kd.C_alloc ?_ _) | (with_reducible refine Kd.C_drewN ?_ _) | (with_reducible refine Kd.C_drew ?_))); (case side2 => exact HC0.out); rintro e w13 ⟨rfl, hb⟩; have n0_ := Aside0.mk (Kd.R_below (Kd.R_up HO316.out) hb); have n1_ := Aside0.mk (below_step (B_up HB.out) hb); clear HO316; clear HB; have HO316 := n0_; have HB := n1_; clear n0_ n1_; (try clear hb); (try clear hb2); (try clear hk); (try clear hi); obtain ⟨Ao14, co14, eo14⟩ := Kd.R_slice HO316.out; subst eo14) | (go_at_call 15; (with_reducible refine (impl_Windows.calls k _ _ t313 t314 t321 _ ?side1 ?side2 A6.out).mono ?_); (case side1 => exact Kd.C_up (Kd.R_reads' HO316.out).2.2); (case side2 => exact (Kd.R_reads' HO316.out).2.1); rintro e w15 ⟨v322, rfl, ho0, hb⟩; have n0_ := Aside0.mk (Kd.R_below (Kd.R_up HO316.out) hb); have n1_ := Aside0.mk (Kd.R_lower ho0 (below_size (B_up HB.out))); have n2_ := Aside0.mk (below_step (B_up HB.out) hb); clear HO316; clear HB; have HO316 := n0_; have HO323 := n1_; have HB := n2_; clear n0_ n1_ n2_; (try clear hb); (try clear hb2); (try clear hk); (try clear hi); (try clear ho0)) | (go_at_call 16; (with_reducible refine (spec_DrawWeakHalves.calls k _ _ l0 t324 _ ?side1 ?side2 A7.out).mono ?_); (case side1 => repeat (first | exact (Kd.C_below HR0.out HB.out) | (with_reducible refine Kd.C_alloc ?_ _) | (with_reducible refine Kd.C_drewN ?_ _) | (with_reducible refine Kd.C_drew ?_))); (case side2 => exact HC0.out); rintro e w16 ⟨rfl, hb⟩; have n0_ := Aside0.mk (Kd.R_below (Kd.R_up HO316.out) hb); have n1_ := Aside0.mk (Kd.R_below (Kd.R_up HO323.out) hb); have n2_ := Aside0.mk (below_step (B_up HB.out) hb); clear HO316; clear HO323; clear HB; have HO316 := n0_; have HO323 := n1_; have HB := n2_; clear n0_ n1_ n2_; (try clear hb); (try clear hb2); (try clear hk); (try clear hi)) | (go_at_call 17; (with_reducible refine (impl_WeakHalves.calls t324 t325 t326 _ A8.out).mono ?_); rintro e w' ⟨rfl, ⟨nd, rfl⟩⟩; (try first | exact ⟨rfl, _, World.drewN_drewN _ _ _⟩ | exact ⟨rfl, _, Eq.trans (World.drewN_drewN _ _ _) (congrArg (World.drewN _) (Nat.add_assoc _ _ _))⟩)) | (go_at_call 18; (with_reducible refine (spec_WeakHalves.calls t324 t327 t328 _ A9.out).mono ?_); rintro e w' ⟨rfl, ⟨nd, rfl⟩⟩; (try first | exact ⟨rfl, _, World.drewN_drewN _ _ _⟩ | exact ⟨rfl, _, Eq.trans (World.drewN_drewN _ _ _) (congrArg (World.drewN _) (Nat.add_assoc _ _ _))⟩)) | (go_at_call 19; (with_reducible refine (spec_DrawFirstWindow.calls k _ _ l0 t329 t330 t331 _ ?side1 ?side2 A10.out).mono ?_); (case side1 => repeat (first | exact (Kd.C_below HR0.out (B_up HB.out)) | (with_reducible refine Kd.C_alloc ?_ _) | (with_reducible refine Kd.C_drewN ?_ _) | (with_reducible refine Kd.C_drew ?_))); (case side2 => exact HC0.out); rintro e w17 ⟨v332, rfl, ho0, hb⟩; have n0_ := Aside0.mk (Kd.R_elder' (Kd.R_up HO316.out) (Kd.R_base ho0) hb); have n1_ := Aside0.mk (Kd.R_below (Kd.R_up HO323.out) hb); have n2_ := Aside0.mk (Kd.R_lower (Kd.R_new' ho0 (Kd.R_lt (Kd.R_up HO316.out))) (below_size (B_up HB.out))); have n3_ := Aside0.mk (below_step (B_up HB.out) hb); clear HO316; clear HO323; clear HB; have HO316 := n0_; have HO323 := n1_; have HO333 := n2_; have HB := n3_; clear n0_ n1_ n2_ n3_; (try clear hb); (try clear hb2); (try clear hk); (try clear hi); (try clear ho0))); go_upto_region 10 with (first | (go_at_call 12; (with_reducible refine (laws_big.calls _ _ l0 false _ ?side1 ?side2 A2.out).mono ?_); (case side1 => exact Kd.C_up HR0.out); (case side2 => exact HC0.out); rintro e w' ⟨rfl, ⟨nd, rfl⟩⟩; (try first | exact ⟨rfl, _, World.drewN_drewN _ _ _⟩ | exact ⟨rfl, _, Eq.trans (World.drewN_drewN _ _ _) (congrArg (World.drewN _) (Nat.add_assoc _ _ _))⟩)) | (go_at_call 13; (with_reducible refine (spec_DrawWindows.calls k _ _ l0 t313 t314 _ ?side1 ?side2 A4.out).mono ?_); (case side1 => exact Kd.C_up HR0.out); (case side2 => exact HC0.out); rintro e w12 ⟨v315, rfl, ho0, hb⟩; have n0_ := Aside0.mk (Kd.R_lower ho0 (below_size (B_up HB.out))); have n1_ := Aside0.mk (below_step (B_up HB.out) hb); clear HB; have HO316 := n0_; have HB := n1_; clear n0_ n1_; (try clear hb); (try clear hb2); (try clear hk); (try clear hi); (try clear ho0)) | (go_at_call 14; (with_reducible refine (spec_DrawRoll.calls k _ _ l0 t317 t318 t319 t320 _ ?side1 ?side2 A5.out).mono ?_); (case side1 => repeat (first | exact (Kd.C_below HR0.out HB.out) | (with_reducible refine Kd.C_alloc ?_ _) | (with_reducible refine Kd.C_drewN ?_ _) | (with_reducible refine Kd.C_drew ?_))); (case side2 => exact HC0.out); rintro e w13 ⟨rfl, hb⟩; have n0_ := Aside0.mk (Kd.R_below (Kd.R_up HO316.out) hb); have n1_ := Aside0.mk (below_step (B_up HB.out) hb); clear HO316; clear HB; have HO316 := n0_; have HB := n1_; clear n0_ n1_; (try clear hb); (try clear hb2); (try clear hk); (try clear hi); obtain ⟨Ao14, co14, eo14⟩ := Kd.R_slice HO316.out; subst eo14) | (go_at_call 15; (with_reducible refine (impl_Windows.calls k _ _ t313 t314 t321 _ ?side1 ?side2 A6.out).mono ?_); (case side1 => exact Kd.C_up (Kd.R_reads' HO316.out).2.2); (case side2 => exact (Kd.R_reads' HO316.out).2.1); rintro e w15 ⟨v322, rfl, ho0, hb⟩; have n0_ := Aside0.mk (Kd.R_below (Kd.R_up HO316.out) hb); have n1_ := Aside0.mk (Kd.R_lower ho0 (below_size (B_up HB.out))); have n2_ := Aside0.mk (below_step (B_up HB.out) hb); clear HO316; clear HB; have HO316 := n0_; have HO323 := n1_; have HB := n2_; clear n0_ n1_ n2_; (try clear hb); (try clear hb2); (try clear hk); (try clear hi); (try clear ho0)) | (go_at_call 16; (with_reducible refine (spec_DrawWeakHalves.calls k _ _ l0 t324 _ ?side1 ?side2 A7.out).mono ?_); (case side1 => repeat (first | exact (Kd.C_below HR0.out HB.out) | (with_reducible refine Kd.C_alloc ?_ _) | (with_reducible refine Kd.C_drewN ?_ _) | (with_reducible refine Kd.C_drew ?_))); (case side2 => exact HC0.out); rintro e w16 ⟨rfl, hb⟩; have n0_ := Aside0.mk (Kd.R_below (Kd.R_up HO316.out) hb); have n1_ := Aside0.mk (Kd.R_below (Kd.R_up HO323.out) hb); have n2_ := Aside0.mk (below_step (B_up HB.out) hb); clear HO316; clear HO323; clear HB; have HO316 := n0_; have HO323 := n1_; have HB := n2_; clear n0_ n1_ n2_; (try clear hb); (try clear hb2); (try clear hk); (try clear hi)) | (go_at_call 17; (with_reducible refine (impl_WeakHalves.calls t324 t325 t326 _ A8.out).mono ?_); rintro e w' ⟨rfl, ⟨nd, rfl⟩⟩; (try first | exact ⟨rfl, _, World.drewN_drewN _ _ _⟩ | exact ⟨rfl, _, Eq.trans (World.drewN_drewN _ _ _) (congrArg (World.drewN _) (Nat.add_assoc _ _ _))⟩)) | (go_at_call 18; (with_reducible refine (spec_WeakHalves.calls t324 t327 t328 _ A9.out).mono ?_); rintro e w' ⟨rfl, ⟨nd, rfl⟩⟩; (try first | exact ⟨rfl, _, World.drewN_drewN _ _ _⟩ | exact ⟨rfl, _, Eq.trans (World.drewN_drewN _ _ _) (congrArg (World.drewN _) (Nat.add_assoc _ _ _))⟩)) | (go_at_call 19; (with_reducible refine (spec_DrawFirstWindow.calls k _ _ l0 t329 t330 t331 _ ?side1 ?side2 A10.out).mono ?_); (case side1 => repeat (first | exact (Kd.C_below HR0.out (B_up HB.out)) | (with_reducible refine Kd.C_alloc ?_ _) | (with_reducible refine Kd.C_drewN ?_ _) | (with_reducible refine Kd.C_drew ?_))); (case side2 => exact HC0.out); rintro e w17 ⟨v332, rfl, ho0, hb⟩; have n0_ := Aside0.mk (Kd.R_elder' (Kd.R_up HO316.out) (Kd.R_base ho0) hb); have n1_ := Aside0.mk (Kd.R_below (Kd.R_up HO323.out) hb); have n2_ := Aside0.mk (Kd.R_lower (Kd.R_new' ho0 (Kd.R_lt (Kd.R_up HO316.out))) (below_size (B_up HB.out))); have n3_ := Aside0.mk (below_step (B_up HB.out) hb); clear HO316; clear HO323; clear HB; have HO316 := n0_; have HO323 := n1_; have HO333 := n2_; have HB := n3_; clear n0_ n1_ n2_ n3_; (try clear hb); (try clear hb2); (try clear hk); (try clear hi); (try clear ho0))))
  (try simp only [Act.put, List.setIfInBounds_toArray, List.set_cons_zero, List.set_cons_succ])
  go_cut [93] (fun v93 wc => ∃ (kq : Nat) (x93_10 : Bool), v93 = .bool x93_10 ∧ Aside0 (laws_FnWeaks.j0 kq t313 t314 t321 x93_10 = some r) ∧ Aside0 (kq ≤ k) ∧ Aside0 (Kd.R (Kd.int .u8) 5 wc w.heap.size (fun _ => True) (.slice Ao14 t313.length co14) t313) ∧ Aside0 (Kd.R (Kd.int .i64) 3 wc w.heap.size (fun _ => True) v322 t321) ∧ Aside0 (Below w.heap.size w wc))
  case first =>
   have H := HC11.out
   clear HC11
   replace H := Option.bind_eq_some_iff.mp H
   obtain ⟨t334, A180, H⟩ := H
   (try dsimp only at H)
   have A18 := Aside0.mk A180
   clear A180
   replace H := Option.bind_eq_some_iff.mp H
   obtain ⟨t335, A190, H⟩ := H
   (try dsimp only at H)
   have A19 := Aside0.mk A190
   clear A190
   by_cases c20 : t334 = t335
   ·rw [if_pos c20] at H
    have c20b0 : (t334 == t335) = true := beq_iff_eq.mpr c20
    have c20b1 : (t334 != t335) = false := bne_eq_false_iff_eq.mpr c20
    clear c20
    (first | rw [c20b0] | (simp only [i64_w, i32_w]; rw [c20b0]) | skip)
    replace H := Option.bind_eq_some_iff.mp H
    obtain ⟨t336, A210, H⟩ := H
    (try dsimp only at H)
    have A21 := Aside0.mk A210
    clear A210
    replace H := Option.bind_eq_some_iff.mp H
    obtain ⟨t339, A220, H⟩ := H
    (try dsimp only at H)
    have A22 := Aside0.mk A220
    clear A220
    by_cases c23 : t339 = true
    ·subst c23
     rw [if_pos rfl] at H
     by_cases c24 : t325 = t327
     ·rw [if_pos c24] at H
      have c24b0 : (t325 == t327) = true := beq_iff_eq.mpr c24
      have c24b1 : (t325 != t327) = false := bne_eq_false_iff_eq.mpr c24
      clear c24
      by_cases c25 : t326 = t328
      ·rw [if_pos c25] at H
       have c25b0 : (t326 == t328) = true := beq_iff_eq.mpr c25
       have c25b1 : (t326 != t328) = false := bne_eq_false_iff_eq.mpr c25
       clear c25
       replace H := Option.bind_eq_some_iff.mp H
       obtain ⟨t340, A260, H⟩ := H
       (try dsimp only at H)
       have A26 := Aside0.mk A260
       clear A260
       replace H := Option.bind_eq_some_iff.mp H
       obtain ⟨t341, A270, H⟩ := H
       replace H : (laws_FnWeaks.j0 k t313 t314 t321 (t340 != t341)) = some r := H
       have A27 := Aside0.mk A270
       clear A270
       have H' := Aside0.mk H
       clear H
       go_wp2_with (first | (go_at_call 20; (with_reducible refine (impl_Roll.calls k t317 t318 t319 t320 t334 _ A18.out).mono ?_); rintro e w' ⟨rfl, ⟨nd, rfl⟩⟩; (try first | exact ⟨rfl, _, World.drewN_drewN _ _ _⟩ | exact ⟨rfl, _, Eq.trans (World.drewN_drewN _ _ _) (congrArg (World.drewN _) (Nat.add_assoc _ _ _))⟩)) | (go_at_call 21; (with_reducible refine (spec_Roll.calls k t317 t318 t319 t320 t335 _ A19.out).mono ?_); rintro e w' ⟨rfl, ⟨nd, rfl⟩⟩; (try first | exact ⟨rfl, _, World.drewN_drewN _ _ _⟩ | exact ⟨rfl, _, Eq.trans (World.drewN_drewN _ _ _) (congrArg (World.drewN _) (Nat.add_assoc _ _ _))⟩)) | (go_at_call 23; (with_reducible refine (spec_Windows.calls k _ _ t313 t314 t336 _ ?side1 ?side2 A21.out).mono ?_); (case side1 => exact Kd.C_up (Kd.R_reads' HO316.out).2.2); (case side2 => exact (Kd.R_reads' HO316.out).2.1); rintro e w28 ⟨v337, rfl, ho0, hb⟩; have n0_ := Aside0.mk (Kd.R_below (Kd.R_up HO316.out) hb); have n1_ := Aside0.mk (Kd.R_elder' (Kd.R_up HO323.out) (Kd.R_base ho0) hb); have n2_ := Aside0.mk (Kd.R_below (Kd.R_up HO333.out) hb); have n3_ := Aside0.mk (Kd.R_lower (Kd.R_new' ho0 (Kd.R_lt (Kd.R_up HO323.out))) (below_size (B_up HB.out))); have n4_ := Aside0.mk (below_step (B_up HB.out) hb); clear HO316; clear HO323; clear HO333; clear HB; have HO316 := n0_; have HO323 := n1_; have HO333 := n2_; have HO338 := n3_; have HB := n4_; clear n0_ n1_ n2_ n3_ n4_; (try clear hb); (try clear hb2); (try clear hk); (try clear hi); (try clear ho0); obtain ⟨Ao29, co29, eo29⟩ := Kd.R_slice HO323.out; subst eo29; obtain ⟨Ao30, co30, eo30⟩ := Kd.R_slice HO338.out; subst eo30) | (go_at_call 22; (with_reducible refine (laws_sameInts.calls k _ _ t321 _ _ t336 true _ ?side1 ?side2 ?side3 ?side4 A22.out).mono ?_); (case side1 => exact Kd.C_up (Kd.R_reads' HO323.out).2.2); (case side2 => exact (Kd.R_reads' HO323.out).2.1); (case side3 => exact Kd.C_up (Kd.R_reads' HO338.out).2.2); (case side4 => exact (Kd.R_reads' HO338.out).2.1); rintro e w' ⟨rfl, ⟨nd, rfl⟩⟩; (try first | exact ⟨rfl, _, World.drewN_drewN _ _ _⟩ | exact ⟨rfl, _, Eq.trans (World.drewN_drewN _ _ _) (congrArg (World.drewN _) (Nat.add_assoc _ _ _))⟩); obtain ⟨Ao31, co31, eo31⟩ := Kd.R_slice HO333.out; subst eo31) | (go_at_call 24; (with_reducible refine (impl_FirstWindow.calls k _ _ t329 t330 t331 t340 _ ?side1 ?side2 A26.out).mono ?_); (case side1 => exact Kd.C_up (Kd.R_reads' HO333.out).2.2); (case side2 => exact (Kd.R_reads' HO333.out).2.1); rintro e w32 ⟨rfl, hb⟩; have n0_ := Aside0.mk (Kd.R_below (Kd.R_up HO316.out) hb); have n1_ := Aside0.mk (Kd.R_below (Kd.R_up HO323.out) hb); have n2_ := Aside0.mk (Kd.R_below (Kd.R_up HO333.out) hb); have n3_ := Aside0.mk (Kd.R_below (Kd.R_up HO338.out) hb); have n4_ := Aside0.mk (below_step (B_up HB.out) hb); clear HO316; clear HO323; clear HO333; clear HO338; clear HB; have HO316 := n0_; have HO323 := n1_; have HO333 := n2_; have HO338 := n3_; have HB := n4_; clear n0_ n1_ n2_ n3_ n4_; (try clear hb); (try clear hb2); (try clear hk); (try clear hi)) | (go_at_call 25; (with_reducible refine (spec_FirstWindow.calls k _ _ t329 t330 t331 t341 _ ?side1 ?side2 A27.out).mono ?_); (case side1 => exact Kd.C_up (Kd.R_reads' HO333.out).2.2); (case side2 => exact (Kd.R_reads' HO333.out).2.1); rintro e w33 ⟨rfl, hb⟩; have n0_ := Aside0.mk (Kd.R_below (Kd.R_up HO316.out) hb); have n1_ := Aside0.mk (Kd.R_below (Kd.R_up HO323.out) hb); have n2_ := Aside0.mk (Kd.R_below (Kd.R_up HO333.out) hb); have n3_ := Aside0.mk (Kd.R_below (Kd.R_up HO338.out) hb); have n4_ := Aside0.mk (below_step (B_up HB.out) hb); clear HO316; clear HO323; clear HO333; clear HO338; clear HB; have HO316 := n0_; have HO323 := n1_; have HO333 := n2_; have HO338 := n3_; have HB := n4_; clear n0_ n1_ n2_ n3_ n4_; (try clear hb); (try clear hb2); (try clear hk); (try clear hi)))
       repeat (go_quiet (first | (go_at_call 20; (with_reducible refine (impl_Roll.calls k t317 t318 t319 t320 t334 _ A18.out).mono ?_); rintro e w' ⟨rfl, ⟨nd, rfl⟩⟩; (try first | exact ⟨rfl, _, World.drewN_drewN _ _ _⟩ | exact ⟨rfl, _, Eq.trans (World.drewN_drewN _ _ _) (congrArg (World.drewN _) (Nat.add_assoc _ _ _))⟩)) | (go_at_call 21; (with_reducible refine (spec_Roll.calls k t317 t318 t319 t320 t335 _ A19.out).mono ?_); rintro e w' ⟨rfl, ⟨nd, rfl⟩⟩; (try first | exact ⟨rfl, _, World.drewN_drewN _ _ _⟩ | exact ⟨rfl, _, Eq.trans (World.drewN_drewN _ _ _) (congrArg (World.drewN _) (Nat.add_assoc _ _ _))⟩)) | (go_at_call 23; (with_reducible refine (spec_Windows.calls k _ _ t313 t314 t336 _ ?side1 ?side2 A21.out).mono ?_); (case side1 => exact Kd.C_up (Kd.R_reads' HO316.out).2.2); (case side2 => exact (Kd.R_reads' HO316.out).2.1); rintro e w28 ⟨v337, rfl, ho0, hb⟩; have n0_ := Aside0.mk (Kd.R_below (Kd.R_up HO316.out) hb); have n1_ := Aside0.mk (Kd.R_elder' (Kd.R_up HO323.out) (Kd.R_base ho0) hb); have n2_ := Aside0.mk (Kd.R_below (Kd.R_up HO333.out) hb); have n3_ := Aside0.mk (Kd.R_lower (Kd.R_new' ho0 (Kd.R_lt (Kd.R_up HO323.out))) (below_size (B_up HB.out))); have n4_ := Aside0.mk (below_step (B_up HB.out) hb); clear HO316; clear HO323; clear HO333; clear HB; have HO316 := n0_; have HO323 := n1_; have HO333 := n2_; have HO338 := n3_; have HB := n4_; clear n0_ n1_ n2_ n3_ n4_; (try clear hb); (try clear hb2); (try clear hk); (try clear hi); (try clear ho0); obtain ⟨Ao29, co29, eo29⟩ := Kd.R_slice HO323.out; subst eo29; obtain ⟨Ao30, co30, eo30⟩ := Kd.R_slice HO338.out; subst eo30) | (go_at_call 22; (with_reducible refine (laws_sameInts.calls k _ _ t321 _ _ t336 true _ ?side1 ?side2 ?side3 ?side4 A22.out).mono ?_); (case side1 => exact Kd.C_up (Kd.R_reads' HO323.out).2.2); (case side2 => exact (Kd.R_reads' HO323.out).2.1); (case side3 => exact Kd.C_up (Kd.R_reads' HO338.out).2.2); (case side4 => exact (Kd.R_reads' HO338.out).2.1); rintro e w' ⟨rfl, ⟨nd, rfl⟩⟩; (try first | exact ⟨rfl, _, World.drewN_drewN _ _ _⟩ | exact ⟨rfl, _, Eq.trans (World.drewN_drewN _ _ _) (congrArg (World.drewN _) (Nat.add_assoc _ _ _))⟩); obtain ⟨Ao31, co31, eo31⟩ := Kd.R_slice HO333.out; subst eo31) | (go_at_call 24; (with_reducible refine (impl_FirstWindow.calls k _ _ t329 t330 t331 t340 _ ?side1 ?side2 A26.out).mono ?_); (case side1 => exact Kd.C_up (Kd.R_reads' HO333.out).2.2); (case side2 => exact (Kd.R_reads' HO333.out).2.1); rintro e w32 ⟨rfl, hb⟩; have n0_ := Aside0.mk (Kd.R_below (Kd.R_up HO316.out) hb); have n1_ := Aside0.mk (Kd.R_below (Kd.R_up HO323.out) hb); have n2_ := Aside0.mk (Kd.R_below (Kd.R_up HO333.out) hb); have n3_ := Aside0.mk (Kd.R_below (Kd.R_up HO338.out) hb); have n4_ := Aside0.mk (below_step (B_up HB.out) hb); clear HO316; clear HO323; clear HO333; clear HO338; clear HB; have HO316 := n0_; have HO323 := n1_; have HO333 := n2_; have HO338 := n3_; have HB := n4_; clear n0_ n1_ n2_ n3_ n4_; (try clear hb); (try clear hb2); (try clear hk); (try clear hi)) | (go_at_call 25; (with_reducible refine (spec_FirstWindow.calls k _ _ t329 t330 t331 t341 _ ?side1 ?side2 A27.out).mono ?_); (case side1 => exact Kd.C_up (Kd.R_reads' HO333.out).2.2); (case side2 => exact (Kd.R_reads' HO333.out).2.1); rintro e w33 ⟨rfl, hb⟩; have n0_ := Aside0.mk (Kd.R_below (Kd.R_up HO316.out) hb); have n1_ := Aside0.mk (Kd.R_below (Kd.R_up HO323.out) hb); have n2_ := Aside0.mk (Kd.R_below (Kd.R_up HO333.out) hb); have n3_ := Aside0.mk (Kd.R_below (Kd.R_up HO338.out) hb); have n4_ := Aside0.mk (below_step (B_up HB.out) hb); clear HO316; clear HO323; clear HO333; clear HO338; clear HB; have HO316 := n0_; have HO323 := n1_; have HO333 := n2_; have HO338 := n3_; have HB := n4_; clear n0_ n1_ n2_ n3_ n4_; (try clear hb); (try clear hb2); (try clear hk); (try clear hi))); try go_wp2_with (first | (go_at_call 20; (with_reducible refine (impl_Roll.calls k t317 t318 t319 t320 t334 _ A18.out).mono ?_); rintro e w' ⟨rfl, ⟨nd, rfl⟩⟩; (try first | exact ⟨rfl, _, World.drewN_drewN _ _ _⟩ | exact ⟨rfl, _, Eq.trans (World.drewN_drewN _ _ _) (congrArg (World.drewN _) (Nat.add_assoc _ _ _))⟩)) | (go_at_call 21; (with_reducible refine (spec_Roll.calls k t317 t318 t319 t320 t335 _ A19.out).mono ?_); rintro e w' ⟨rfl, ⟨nd, rfl⟩⟩; (try first | exact ⟨rfl, _, World.drewN_drewN _ _ _⟩ | exact ⟨rfl, _, Eq.trans (World.drewN_drewN _ _ _) (congrArg (World.drewN _) (Nat.add_assoc _ _ _))⟩)) | (go_at_call 23; (with_reducible refine (spec_Windows.calls k _ _ t313 t314 t336 _ ?side1 ?side2 A21.out).mono ?_); (case side1 => exact Kd.C_up (Kd.R_reads' HO316.out).2.2); (case side2 => exact (Kd.R_reads' HO316.out).2.1); rintro e w28 ⟨v337, rfl, ho0, hb⟩; have n0_ := Aside0.mk (Kd.R_below (Kd.R_up HO316.out) hb); have n1_ := Aside0.mk (Kd.R_elder' (Kd.R_up HO323.out) (Kd.R_base ho0) hb); have n2_ := Aside0.mk (Kd.R_below (Kd.R_up HO333.out) hb); have n3_ := Aside0.mk (Kd.R_lower (Kd.R_new' ho0 (Kd.R_lt (Kd.R_up HO323.out))) (below_size (B_up HB.out))); have n4_ := Aside0.mk (below_step (B_up HB.out) hb); clear HO316; clear HO323; clear HO333; clear HB; have HO316 := n0_; have HO323 := n1_; have HO333 := n2_; have HO338 := n3_; have HB := n4_; clear n0_ n1_ n2_ n3_ n4_; (try clear hb); (try clear hb2); (try clear hk); (try clear hi); (try clear ho0); obtain ⟨Ao29, co29, eo29⟩ := Kd.R_slice HO323.out; subst eo29; obtain ⟨Ao30, co30, eo30⟩ := Kd.R_slice HO338.out; subst eo30) | (go_at_call 22; (with_reducible refine (laws_sameInts.calls k _ _ t321 _ _ t336 true _ ?side1 ?side2 ?side3 ?side4 A22.out).mono ?_); (case side1 => exact Kd.C_up (Kd.R_reads' HO323.out).2.2); (case side2 => exact (Kd.R_reads' HO323.out).2.1); (case side3 => exact Kd.C_up (Kd.R_reads' HO338.out).2.2); (case side4 => exact (Kd.R_reads' HO338.out).2.1); rintro e w' ⟨rfl, ⟨nd, rfl⟩⟩; (try first | exact ⟨rfl, _, World.drewN_drewN _ _ _⟩ | exact ⟨rfl, _, Eq.trans (World.drewN_drewN _ _ _) (congrArg (World.drewN _) (Nat.add_assoc _ _ _))⟩); obtain ⟨Ao31, co31, eo31⟩ := Kd.R_slice HO333.out; subst eo31) | (go_at_call 24; (with_reducible refine (impl_FirstWindow.calls k _ _ t329 t330 t331 t340 _ ?side1 ?side2 A26.out).mono ?_); (case side1 => exact Kd.C_up (Kd.R_reads' HO333.out).2.2); (case side2 => exact (Kd.R_reads' HO333.out).2.1); rintro e w32 ⟨rfl, hb⟩; have n0_ := Aside0.mk (Kd.R_below (Kd.R_up HO316.out) hb); have n1_ := Aside0.mk (Kd.R_below (Kd.R_up HO323.out) hb); have n2_ := Aside0.mk (Kd.R_below (Kd.R_up HO333.out) hb); have n3_ := Aside0.mk (Kd.R_below (Kd.R_up HO338.out) hb); have n4_ := Aside0.mk (below_step (B_up HB.out) hb); clear HO316; clear HO323; clear HO333; clear HO338; clear HB; have HO316 := n0_; have HO323 := n1_; have HO333 := n2_; have HO338 := n3_; have HB := n4_; clear n0_ n1_ n2_ n3_ n4_; (try clear hb); (try clear hb2); (try clear hk); (try clear hi)) | (go_at_call 25; (with_reducible refine (spec_FirstWindow.calls k _ _ t329 t330 t331 t341 _ ?side1 ?side2 A27.out).mono ?_); (case side1 => exact Kd.C_up (Kd.R_reads' HO333.out).2.2); (case side2 => exact (Kd.R_reads' HO333.out).2.1); rintro e w33 ⟨rfl, hb⟩; have n0_ := Aside0.mk (Kd.R_below (Kd.R_up HO316.out) hb); have n1_ := Aside0.mk (Kd.R_below (Kd.R_up HO323.out) hb); have n2_ := Aside0.mk (Kd.R_below (Kd.R_up HO333.out) hb); have n3_ := Aside0.mk (Kd.R_below (Kd.R_up HO338.out) hb); have n4_ := Aside0.mk (below_step (B_up HB.out) hb); clear HO316; clear HO323; clear HO333; clear HO338; clear HB; have HO316 := n0_; have HO323 := n1_; have HO333 := n2_; have HO338 := n3_; have HB := n4_; clear n0_ n1_ n2_ n3_ n4_; (try clear hb); (try clear hb2); (try clear hk); (try clear hi))))
       go_meet
       case rel => exact ⟨_, ((t340 != t341)), (by first | rfl | (simp; done) | (simp [*]; done)), H', ⟨by first | omega | exact Nat.le_refl _⟩, ⟨by (with_reducible repeat (first | apply Kd.R_alloc | apply Kd.R_drewN | apply Kd.R_drew)); exact Kd.R_mono HO316.out (fun _ hk => trivial)⟩, ⟨by (with_reducible repeat (first | apply Kd.R_alloc | apply Kd.R_drewN | apply Kd.R_drew)); exact Kd.R_mono HO323.out (fun _ hk => trivial)⟩, ⟨by repeat (first | (with_reducible first | exact HB.out | apply below_alloc | apply pw_below_drewN | apply below_drew1) | exact HB.out)⟩⟩
      ·rw [if_neg c25] at H
       have c25b0 : (t326 == t328) = false := beq_eq_false_iff_ne.mpr c25
       have c25b1 : (t326 != t328) = true := bne_iff_ne.mpr c25
       have H' := Aside0.mk H
       clear H
       go_wp2_with (first | (go_at_call 20; (with_reducible refine (impl_Roll.calls k t317 t318 t319 t320 t334 _ A18.out).mono ?_); rintro e w' ⟨rfl, ⟨nd, rfl⟩⟩; (try first | exact ⟨rfl, _, World.drewN_drewN _ _ _⟩ | exact ⟨rfl, _, Eq.trans (World.drewN_drewN _ _ _) (congrArg (World.drewN _) (Nat.add_assoc _ _ _))⟩)) | (go_at_call 21; (with_reducible refine (spec_Roll.calls k t317 t318 t319 t320 t335 _ A19.out).mono ?_); rintro e w' ⟨rfl, ⟨nd, rfl⟩⟩; (try first | exact ⟨rfl, _, World.drewN_drewN _ _ _⟩ | exact ⟨rfl, _, Eq.trans (World.drewN_drewN _ _ _) (congrArg (World.drewN _) (Nat.add_assoc _ _ _))⟩)) | (go_at_call 23; (with_reducible refine (spec_Windows.calls k _ _ t313 t314 t336 _ ?side1 ?side2 A21.out).mono ?_); (case side1 => exact Kd.C_up (Kd.R_reads' HO316.out).2.2); (case side2 => exact (Kd.R_reads' HO316.out).2.1); rintro e w34 ⟨v337, rfl, ho0, hb⟩; have n0_ := Aside0.mk (Kd.R_below (Kd.R_up HO316.out) hb); have n1_ := Aside0.mk (Kd.R_elder' (Kd.R_up HO323.out) (Kd.R_base ho0) hb); have n2_ := Aside0.mk (Kd.R_below (Kd.R_up HO333.out) hb); have n3_ := Aside0.mk (Kd.R_lower (Kd.R_new' ho0 (Kd.R_lt (Kd.R_up HO323.out))) (below_size (B_up HB.out))); have n4_ := Aside0.mk (below_step (B_up HB.out) hb); clear HO316; clear HO323; clear HO333; clear HB; have HO316 := n0_; have HO323 := n1_; have HO333 := n2_; have HO338 := n3_; have HB := n4_; clear n0_ n1_ n2_ n3_ n4_; (try clear hb); (try clear hb2); (try clear hk); (try clear hi); (try clear ho0); obtain ⟨Ao35, co35, eo35⟩ := Kd.R_slice HO323.out; subst eo35; obtain ⟨Ao36, co36, eo36⟩ := Kd.R_slice HO338.out; subst eo36) | (go_at_call 22; (with_reducible refine (laws_sameInts.calls k _ _ t321 _ _ t336 true _ ?side1 ?side2 ?side3 ?side4 A22.out).mono ?_); (case side1 => exact Kd.C_up (Kd.R_reads' HO323.out).2.2); (case side2 => exact (Kd.R_reads' HO323.out).2.1); (case side3 => exact Kd.C_up (Kd.R_reads' HO338.out).2.2); (case side4 => exact (Kd.R_reads' HO338.out).2.1); rintro e w' ⟨rfl, ⟨nd, rfl⟩⟩; (try first | exact ⟨rfl, _, World.drewN_drewN _ _ _⟩ | exact ⟨rfl, _, Eq.trans (World.drewN_drewN _ _ _) (congrArg (World.drewN _) (Nat.add_assoc _ _ _))⟩)))
       repeat (go_quiet (first | (go_at_call 20; (with_reducible refine (impl_Roll.calls k t317 t318 t319 t320 t334 _ A18.out).mono ?_); rintro e w' ⟨rfl, ⟨nd, rfl⟩⟩; (try first | exact ⟨rfl, _, World.drewN_drewN _ _ _⟩ | exact ⟨rfl, _, Eq.trans (World.drewN_drewN _ _ _) (congrArg (World.drewN _) (Nat.add_assoc _ _ _))⟩)) | (go_at_call 21; (with_reducible refine (spec_Roll.calls k t317 t318 t319 t320 t335 _ A19.out).mono ?_); rintro e w' ⟨rfl, ⟨nd, rfl⟩⟩; (try first | exact ⟨rfl, _, World.drewN_drewN _ _ _⟩ | exact ⟨rfl, _, Eq.trans (World.drewN_drewN _ _ _) (congrArg (World.drewN _) (Nat.add_assoc _ _ _))⟩)) | (go_at_call 23; (with_reducible refine (spec_Windows.calls k _ _ t313 t314 t336 _ ?side1 ?side2 A21.out).mono ?_); (case side1 => exact Kd.C_up (Kd.R_reads' HO316.out).2.2); (case side2 => exact (Kd.R_reads' HO316.out).2.1); rintro e w34 ⟨v337, rfl, ho0, hb⟩; have n0_ := Aside0.mk (Kd.R_below (Kd.R_up HO316.out) hb); have n1_ := Aside0.mk (Kd.R_elder' (Kd.R_up HO323.out) (Kd.R_base ho0) hb); have n2_ := Aside0.mk (Kd.R_below (Kd.R_up HO333.out) hb); have n3_ := Aside0.mk (Kd.R_lower (Kd.R_new' ho0 (Kd.R_lt (Kd.R_up HO323.out))) (below_size (B_up HB.out))); have n4_ := Aside0.mk (below_step (B_up HB.out) hb); clear HO316; clear HO323; clear HO333; clear HB; have HO316 := n0_; have HO323 := n1_; have HO333 := n2_; have HO338 := n3_; have HB := n4_; clear n0_ n1_ n2_ n3_ n4_; (try clear hb); (try clear hb2); (try clear hk); (try clear hi); (try clear ho0); obtain ⟨Ao35, co35, eo35⟩ := Kd.R_slice HO323.out; subst eo35; obtain ⟨Ao36, co36, eo36⟩ := Kd.R_slice HO338.out; subst eo36) | (go_at_call 22; (with_reducible refine (laws_sameInts.calls k _ _ t321 _ _ t336 true _ ?side1 ?side2 ?side3 ?side4 A22.out).mono ?_); (case side1 => exact Kd.C_up (Kd.R_reads' HO323.out).2.2); (case side2 => exact (Kd.R_reads' HO323.out).2.1); (case side3 => exact Kd.C_up (Kd.R_reads' HO338.out).2.2); (case side4 => exact (Kd.R_reads' HO338.out).2.1); rintro e w' ⟨rfl, ⟨nd, rfl⟩⟩; (try first | exact ⟨rfl, _, World.drewN_drewN _ _ _⟩ | exact ⟨rfl, _, Eq.trans (World.drewN_drewN _ _ _) (congrArg (World.drewN _) (Nat.add_assoc _ _ _))⟩))); try go_wp2_with (first | (go_at_call 20; (with_reducible refine (impl_Roll.calls k t317 t318 t319 t320 t334 _ A18.out).mono ?_); rintro e w' ⟨rfl, ⟨nd, rfl⟩⟩; (try first | exact ⟨rfl, _, World.drewN_drewN _ _ _⟩ | exact ⟨rfl, _, Eq.trans (World.drewN_drewN _ _ _) (congrArg (World.drewN _) (Nat.add_assoc _ _ _))⟩)) | (go_at_call 21; (with_reducible refine (spec_Roll.calls k t317 t318 t319 t320 t335 _ A19.out).mono ?_); rintro e w' ⟨rfl, ⟨nd, rfl⟩⟩; (try first | exact ⟨rfl, _, World.drewN_drewN _ _ _⟩ | exact ⟨rfl, _, Eq.trans (World.drewN_drewN _ _ _) (congrArg (World.drewN _) (Nat.add_assoc _ _ _))⟩)) | (go_at_call 23; (with_reducible refine (spec_Windows.calls k _ _ t313 t314 t336 _ ?side1 ?side2 A21.out).mono ?_); (case side1 => exact Kd.C_up (Kd.R_reads' HO316.out).2.2); (case side2 => exact (Kd.R_reads' HO316.out).2.1); rintro e w34 ⟨v337, rfl, ho0, hb⟩; have n0_ := Aside0.mk (Kd.R_below (Kd.R_up HO316.out) hb); have n1_ := Aside0.mk (Kd.R_elder' (Kd.R_up HO323.out) (Kd.R_base ho0) hb); have n2_ := Aside0.mk (Kd.R_below (Kd.R_up HO333.out) hb); have n3_ := Aside0.mk (Kd.R_lower (Kd.R_new' ho0 (Kd.R_lt (Kd.R_up HO323.out))) (below_size (B_up HB.out))); have n4_ := Aside0.mk (below_step (B_up HB.out) hb); clear HO316; clear HO323; clear HO333; clear HB; have HO316 := n0_; have HO323 := n1_; have HO333 := n2_; have HO338 := n3_; have HB := n4_; clear n0_ n1_ n2_ n3_ n4_; (try clear hb); (try clear hb2); (try clear hk); (try clear hi); (try clear ho0); obtain ⟨Ao35, co35, eo35⟩ := Kd.R_slice HO323.out; subst eo35; obtain ⟨Ao36, co36, eo36⟩ := Kd.R_slice HO338.out; subst eo36) | (go_at_call 22; (with_reducible refine (laws_sameInts.calls k _ _ t321 _ _ t336 true _ ?side1 ?side2 ?side3 ?side4 A22.out).mono ?_); (case side1 => exact Kd.C_up (Kd.R_reads' HO323.out).2.2); (case side2 => exact (Kd.R_reads' HO323.out).2.1); (case side3 => exact Kd.C_up (Kd.R_reads' HO338.out).2.2); (case side4 => exact (Kd.R_reads' HO338.out).2.1); rintro e w' ⟨rfl, ⟨nd, rfl⟩⟩; (try first | exact ⟨rfl, _, World.drewN_drewN _ _ _⟩ | exact ⟨rfl, _, Eq.trans (World.drewN_drewN _ _ _) (congrArg (World.drewN _) (Nat.add_assoc _ _ _))⟩))))
       go_meet
       case rel => exact ⟨_, (true), (by first | rfl | (simp; done) | (simp [*]; done)), H', ⟨by first | omega | exact Nat.le_refl _⟩, ⟨by (with_reducible repeat (first | apply Kd.R_alloc | apply Kd.R_drewN | apply Kd.R_drew)); exact Kd.R_mono HO316.out (fun _ hk => trivial)⟩, ⟨by (with_reducible repeat (first | apply Kd.R_alloc | apply Kd.R_drewN | apply Kd.R_drew)); exact Kd.R_mono HO323.out (fun _ hk => trivial)⟩, ⟨by repeat (first | (with_reducible first | exact HB.out | apply below_alloc | apply pw_below_drewN | apply below_drew1) | exact HB.out)⟩⟩
     ·rw [if_neg c24] at H
      have c24b0 : (t325 == t327) = false := beq_eq_false_iff_ne.mpr c24
      have c24b1 : (t325 != t327) = true := bne_iff_ne.mpr c24
      have H' := Aside0.mk H
      clear H
      go_wp2_with (first | (go_at_call 20; (with_reducible refine (impl_Roll.calls k t317 t318 t319 t320 t334 _ A18.out).mono ?_); rintro e w' ⟨rfl, ⟨nd, rfl⟩⟩; (try first | exact ⟨rfl, _, World.drewN_drewN _ _ _⟩ | exact ⟨rfl, _, Eq.trans (World.drewN_drewN _ _ _) (congrArg (World.drewN _) (Nat.add_assoc _ _ _))⟩)) | (go_at_call 21; (with_reducible refine (spec_Roll.calls k t317 t318 t319 t320 t335 _ A19.out).mono ?_); rintro e w' ⟨rfl, ⟨nd, rfl⟩⟩; (try first | exact ⟨rfl, _, World.drewN_drewN _ _ _⟩ | exact ⟨rfl, _, Eq.trans (World.drewN_drewN _ _ _) (congrArg (World.drewN _) (Nat.add_assoc _ _ _))⟩)) | (go_at_call 23; (with_reducible refine (spec_Windows.calls k _ _ t313 t314 t336 _ ?side1 ?side2 A21.out).mono ?_); (case side1 => exact Kd.C_up (Kd.R_reads' HO316.out).2.2); (case side2 => exact (Kd.R_reads' HO316.out).2.1); rintro e w37 ⟨v337, rfl, ho0, hb⟩; have n0_ := Aside0.mk (Kd.R_below (Kd.R_up HO316.out) hb); have n1_ := Aside0.mk (Kd.R_elder' (Kd.R_up HO323.out) (Kd.R_base ho0) hb); have n2_ := Aside0.mk (Kd.R_below (Kd.R_up HO333.out) hb); have n3_ := Aside0.mk (Kd.R_lower (Kd.R_new' ho0 (Kd.R_lt (Kd.R_up HO323.out))) (below_size (B_up HB.out))); have n4_ := Aside0.mk (below_step (B_up HB.out) hb); clear HO316; clear HO323; clear HO333; clear HB; have HO316 := n0_; have HO323 := n1_; have HO333 := n2_; have HO338 := n3_; have HB := n4_; clear n0_ n1_ n2_ n3_ n4_; (try clear hb); (try clear hb2); (try clear hk); (try clear hi); (try clear ho0); obtain ⟨Ao38, co38, eo38⟩ := Kd.R_slice HO323.out; subst eo38; obtain ⟨Ao39, co39, eo39⟩ := Kd.R_slice HO338.out; subst eo39) | (go_at_call 22; (with_reducible refine (laws_sameInts.calls k _ _ t321 _ _ t336 true _ ?side1 ?side2 ?side3 ?side4 A22.out).mono ?_); (case side1 => exact Kd.C_up (Kd.R_reads' HO323.out).2.2); (case side2 => exact (Kd.R_reads' HO323.out).2.1); (case side3 => exact Kd.C_up (Kd.R_reads' HO338.out).2.2); (case side4 => exact (Kd.R_reads' HO338.out).2.1); rintro e w' ⟨rfl, ⟨nd, rfl⟩⟩; (try first | exact ⟨rfl, _, World.drewN_drewN _ _ _⟩ | exact ⟨rfl, _, Eq.trans (World.drewN_drewN _ _ _) (congrArg (World.drewN _) (Nat.add_assoc _ _ _))⟩)))
      repeat (go_quiet (first | (go_at_call 20; (with_reducible refine (impl_Roll.calls k t317 t318 t319 t320 t334 _ A18.out).mono ?_); rintro e w' ⟨rfl, ⟨nd, rfl⟩⟩; (try first | exact ⟨rfl, _, World.drewN_drewN _ _ _⟩ | exact ⟨rfl, _, Eq.trans (World.drewN_drewN _ _ _) (congrArg (World.drewN _) (Nat.add_assoc _ _ _))⟩)) | (go_at_call 21; (with_reducible refine (spec_Roll.calls k t317 t318 t319 t320 t335 _ A19.out).mono ?_); rintro e w' ⟨rfl, ⟨nd, rfl⟩⟩; (try first | exact ⟨rfl, _, World.drewN_drewN _ _ _⟩ | exact ⟨rfl, _, Eq.trans (World.drewN_drewN _ _ _) (congrArg (World.drewN _) (Nat.add_assoc _ _ _))⟩)) | (go_at_call 23; (with_reducible refine (spec_Windows.calls k _ _ t313 t314 t336 _ ?side1 ?side2 A21.out).mono ?_); (case side1 => exact Kd.C_up (Kd.R_reads' HO316.out).2.2); (case side2 => exact (Kd.R_reads' HO316.out).2.1); rintro e w37 ⟨v337, rfl, ho0, hb⟩; have n0_ := Aside0.mk (Kd.R_below (Kd.R_up HO316.out) hb); have n1_ := Aside0.mk (Kd.R_elder' (Kd.R_up HO323.out) (Kd.R_base ho0) hb); have n2_ := Aside0.mk (Kd.R_below (Kd.R_up HO333.out) hb); have n3_ := Aside0.mk (Kd.R_lower (Kd.R_new' ho0 (Kd.R_lt (Kd.R_up HO323.out))) (below_size (B_up HB.out))); have n4_ := Aside0.mk (below_step (B_up HB.out) hb); clear HO316; clear HO323; clear HO333; clear HB; have HO316 := n0_; have HO323 := n1_; have HO333 := n2_; have HO338 := n3_; have HB := n4_; clear n0_ n1_ n2_ n3_ n4_; (try clear hb); (try clear hb2); (try clear hk); (try clear hi); (try clear ho0); obtain ⟨Ao38, co38, eo38⟩ := Kd.R_slice HO323.out; subst eo38; obtain ⟨Ao39, co39, eo39⟩ := Kd.R_slice HO338.out; subst eo39) | (go_at_call 22; (with_reducible refine (laws_sameInts.calls k _ _ t321 _ _ t336 true _ ?side1 ?side2 ?side3 ?side4 A22.out).mono ?_); (case side1 => exact Kd.C_up (Kd.R_reads' HO323.out).2.2); (case side2 => exact (Kd.R_reads' HO323.out).2.1); (case side3 => exact Kd.C_up (Kd.R_reads' HO338.out).2.2); (case side4 => exact (Kd.R_reads' HO338.out).2.1); rintro e w' ⟨rfl, ⟨nd, rfl⟩⟩; (try first | exact ⟨rfl, _, World.drewN_drewN _ _ _⟩ | exact ⟨rfl, _, Eq.trans (World.drewN_drewN _ _ _) (congrArg (World.drewN _) (Nat.add_assoc _ _ _))⟩))); try go_wp2_with (first | (go_at_call 20; (with_reducible refine (impl_Roll.calls k t317 t318 t319 t320 t334 _ A18.out).mono ?_); rintro e w' ⟨rfl, ⟨nd, rfl⟩⟩; (try first | exact ⟨rfl, _, World.drewN_drewN _ _ _⟩ | exact ⟨rfl, _, Eq.trans (World.drewN_drewN _ _ _) (congrArg (World.drewN _) (Nat.add_assoc _ _ _))⟩)) | (go_at_call 21; (with_reducible refine (spec_Roll.calls k t317 t318 t319 t320 t335 _ A19.out).mono ?_); rintro e w' ⟨rfl, ⟨nd, rfl⟩⟩; (try first | exact ⟨rfl, _, World.drewN_drewN _ _ _⟩ | exact ⟨rfl, _, Eq.trans (World.drewN_drewN _ _ _) (congrArg (World.drewN _) (Nat.add_assoc _ _ _))⟩)) | (go_at_call 23; (with_reducible refine (spec_Windows.calls k _ _ t313 t314 t336 _ ?side1 ?side2 A21.out).mono ?_); (case side1 => exact Kd.C_up (Kd.R_reads' HO316.out).2.2); (case side2 => exact (Kd.R_reads' HO316.out).2.1); rintro e w37 ⟨v337, rfl, ho0, hb⟩; have n0_ := Aside0.mk (Kd.R_below (Kd.R_up HO316.out) hb); have n1_ := Aside0.mk (Kd.R_elder' (Kd.R_up HO323.out) (Kd.R_base ho0) hb); have n2_ := Aside0.mk (Kd.R_below (Kd.R_up HO333.out) hb); have n3_ := Aside0.mk (Kd.R_lower (Kd.R_new' ho0 (Kd.R_lt (Kd.R_up HO323.out))) (below_size (B_up HB.out))); have n4_ := Aside0.mk (below_step (B_up HB.out) hb); clear HO316; clear HO323; clear HO333; clear HB; have HO316 := n0_; have HO323 := n1_; have HO333 := n2_; have HO338 := n3_; have HB := n4_; clear n0_ n1_ n2_ n3_ n4_; (try clear hb); (try clear hb2); (try clear hk); (try clear hi); (try clear ho0); obtain ⟨Ao38, co38, eo38⟩ := Kd.R_slice HO323.out; subst eo38; obtain ⟨Ao39, co39, eo39⟩ := Kd.R_slice HO338.out; subst eo39) | (go_at_call 22; (with_reducible refine (laws_sameInts.calls k _ _ t321 _ _ t336 true _ ?side1 ?side2 ?side3 ?side4 A22.out).mono ?_); (case side1 => exact Kd.C_up (Kd.R_reads' HO323.out).2.2); (case side2 => exact (Kd.R_reads' HO323.out).2.1); (case side3 => exact Kd.C_up (Kd.R_reads' HO338.out).2.2); (case side4 => exact (Kd.R_reads' HO338.out).2.1); rintro e w' ⟨rfl, ⟨nd, rfl⟩⟩; (try first | exact ⟨rfl, _, World.drewN_drewN _ _ _⟩ | exact ⟨rfl, _, Eq.trans (World.drewN_drewN _ _ _) (congrArg (World.drewN _) (Nat.add_assoc _ _ _))⟩))))
      go_meet
      case rel => exact ⟨_, (true), (by first | rfl | (simp; done) | (simp [*]; done)), H', ⟨by first | omega | exact Nat.le_refl _⟩, ⟨by (with_reducible repeat (first | apply Kd.R_alloc | apply Kd.R_drewN | apply Kd.R_drew)); exact Kd.R_mono HO316.out (fun _ hk => trivial)⟩, ⟨by (with_reducible repeat (first | apply Kd.R_alloc | apply Kd.R_drewN | apply Kd.R_drew)); exact Kd.R_mono HO323.out (fun _ hk => trivial)⟩, ⟨by repeat (first | (with_reducible first | exact HB.out | apply below_alloc | apply pw_below_drewN | apply below_drew1) | exact HB.out)⟩⟩
    ·replace c23 := Bool.eq_false_iff.mpr c23
     subst c23
     have H1 : (laws_FnWeaks.j0 k t313 t314 t321 true) = some r := by rw [if_neg (show ¬ (false = true) by decide)] at H; exact H
     clear H
     have H := H1
     clear H1
     have H' := Aside0.mk H
     clear H
     go_wp2_with (first | (go_at_call 20; (with_reducible refine (impl_Roll.calls k t317 t318 t319 t320 t334 _ A18.out).mono ?_); rintro e w' ⟨rfl, ⟨nd, rfl⟩⟩; (try first | exact ⟨rfl, _, World.drewN_drewN _ _ _⟩ | exact ⟨rfl, _, Eq.trans (World.drewN_drewN _ _ _) (congrArg (World.drewN _) (Nat.add_assoc _ _ _))⟩)) | (go_at_call 21; (with_reducible refine (spec_Roll.calls k t317 t318 t319 t320 t335 _ A19.out).mono ?_); rintro e w' ⟨rfl, ⟨nd, rfl⟩⟩; (try first | exact ⟨rfl, _, World.drewN_drewN _ _ _⟩ | exact ⟨rfl, _, Eq.trans (World.drewN_drewN _ _ _) (congrArg (World.drewN _) (Nat.add_assoc _ _ _))⟩)) | (go_at_call 23; (with_reducible refine (spec_Windows.calls k _ _ t313 t314 t336 _ ?side1 ?side2 A21.out).mono ?_); (case side1 => exact Kd.C_up (Kd.R_reads' HO316.out).2.2); (case side2 => exact (Kd.R_reads' HO316.out).2.1); rintro e w40 ⟨v337, rfl, ho0, hb⟩; have n0_ := Aside0.mk (Kd.R_below (Kd.R_up HO316.out) hb); have n1_ := Aside0.mk (Kd.R_elder' (Kd.R_up HO323.out) (Kd.R_base ho0) hb); have n2_ := Aside0.mk (Kd.R_below (Kd.R_up HO333.out) hb); have n3_ := Aside0.mk (Kd.R_lower (Kd.R_new' ho0 (Kd.R_lt (Kd.R_up HO323.out))) (below_size (B_up HB.out))); have n4_ := Aside0.mk (below_step (B_up HB.out) hb); clear HO316; clear HO323; clear HO333; clear HB; have HO316 := n0_; have HO323 := n1_; have HO333 := n2_; have HO338 := n3_; have HB := n4_; clear n0_ n1_ n2_ n3_ n4_; (try clear hb); (try clear hb2); (try clear hk); (try clear hi); (try clear ho0); obtain ⟨Ao41, co41, eo41⟩ := Kd.R_slice HO323.out; subst eo41; obtain ⟨Ao42, co42, eo42⟩ := Kd.R_slice HO338.out; subst eo42) | (go_at_call 22; (with_reducible refine (laws_sameInts.calls k _ _ t321 _ _ t336 false _ ?side1 ?side2 ?side3 ?side4 A22.out).mono ?_); (case side1 => exact Kd.C_up (Kd.R_reads' HO323.out).2.2); (case side2 => exact (Kd.R_reads' HO323.out).2.1); (case side3 => exact Kd.C_up (Kd.R_reads' HO338.out).2.2); (case side4 => exact (Kd.R_reads' HO338.out).2.1); rintro e w' ⟨rfl, ⟨nd, rfl⟩⟩; (try first | exact ⟨rfl, _, World.drewN_drewN _ _ _⟩ | exact ⟨rfl, _, Eq.trans (World.drewN_drewN _ _ _) (congrArg (World.drewN _) (Nat.add_assoc _ _ _))⟩)))
     repeat (go_quiet (first | (go_at_call 20; (with_reducible refine (impl_Roll.calls k t317 t318 t319 t320 t334 _ A18.out).mono ?_); rintro e w' ⟨rfl, ⟨nd, rfl⟩⟩; (try first | exact ⟨rfl, _, World.drewN_drewN _ _ _⟩ | exact ⟨rfl, _, Eq.trans (World.drewN_drewN _ _ _) (congrArg (World.drewN _) (Nat.add_assoc _ _ _))⟩)) | (go_at_call 21; (with_reducible refine (spec_Roll.calls k t317 t318 t319 t320 t335 _ A19.out).mono ?_); rintro e w' ⟨rfl, ⟨nd, rfl⟩⟩; (try first | exact ⟨rfl, _, World.drewN_drewN _ _ _⟩ | exact ⟨rfl, _, Eq.trans (World.drewN_drewN _ _ _) (congrArg (World.drewN _) (Nat.add_assoc _ _ _))⟩)) | (go_at_call 23; (with_reducible refine (spec_Windows.calls k _ _ t313 t314 t336 _ ?side1 ?side2 A21.out).mono ?_); (case side1 => exact Kd.C_up (Kd.R_reads' HO316.out).2.2); (case side2 => exact (Kd.R_reads' HO316.out).2.1); rintro e w40 ⟨v337, rfl, ho0, hb⟩; have n0_ := Aside0.mk (Kd.R_below (Kd.R_up HO316.out) hb); have n1_ := Aside0.mk (Kd.R_elder' (Kd.R_up HO323.out) (Kd.R_base ho0) hb); have n2_ := Aside0.mk (Kd.R_below (Kd.R_up HO333.out) hb); have n3_ := Aside0.mk (Kd.R_lower (Kd.R_new' ho0 (Kd.R_lt (Kd.R_up HO323.out))) (below_size (B_up HB.out))); have n4_ := Aside0.mk (below_step (B_up HB.out) hb); clear HO316; clear HO323; clear HO333; clear HB; have HO316 := n0_; have HO323 := n1_; have HO333 := n2_; have HO338 := n3_; have HB := n4_; clear n0_ n1_ n2_ n3_ n4_; (try clear hb); (try clear hb2); (try clear hk); (try clear hi); (try clear ho0); obtain ⟨Ao41, co41, eo41⟩ := Kd.R_slice HO323.out; subst eo41; obtain ⟨Ao42, co42, eo42⟩ := Kd.R_slice HO338.out; subst eo42) | (go_at_call 22; (with_reducible refine (laws_sameInts.calls k _ _ t321 _ _ t336 false _ ?side1 ?side2 ?side3 ?side4 A22.out).mono ?_); (case side1 => exact Kd.C_up (Kd.R_reads' HO323.out).2.2); (case side2 => exact (Kd.R_reads' HO323.out).2.1); (case side3 => exact Kd.C_up (Kd.R_reads' HO338.out).2.2); (case side4 => exact (Kd.R_reads' HO338.out).2.1); rintro e w' ⟨rfl, ⟨nd, rfl⟩⟩; (try first | exact ⟨rfl, _, World.drewN_drewN _ _ _⟩ | exact ⟨rfl, _, Eq.trans (World.drewN_drewN _ _ _) (congrArg (World.drewN _) (Nat.add_assoc _ _ _))⟩))); try go_wp2_with (first | (go_at_call 20; (with_reducible refine (impl_Roll.calls k t317 t318 t319 t320 t334 _ A18.out).mono ?_); rintro e w' ⟨rfl, ⟨nd, rfl⟩⟩; (try first | exact ⟨rfl, _, World.drewN_drewN _ _ _⟩ | exact ⟨rfl, _, Eq.trans (World.drewN_drewN _ _ _) (congrArg (World.drewN _) (Nat.add_assoc _ _ _))⟩)) | (go_at_call 21; (with_reducible refine (spec_Roll.calls k t317 t318 t319 t320 t335 _ A19.out).mono ?_); rintro e w' ⟨rfl, ⟨nd, rfl⟩⟩; (try first | exact ⟨rfl, _, World.drewN_drewN _ _ _⟩ | exact ⟨rfl, _, Eq.trans (World.drewN_drewN _ _ _) (congrArg (World.drewN _) (Nat.add_assoc _ _ _))⟩)) | (go_at_call 23; (with_reducible refine (spec_Windows.calls k _ _ t313 t314 t336 _ ?side1 ?side2 A21.out).mono ?_); (case side1 => exact Kd.C_up (Kd.R_reads' HO316.out).2.2); (case side2 => exact (Kd.R_reads' HO316.out).2.1); rintro e w40 ⟨v337, rfl, ho0, hb⟩; have n0_ := Aside0.mk (Kd.R_below (Kd.R_up HO316.out) hb); have n1_ := Aside0.mk (Kd.R_elder' (Kd.R_up HO323.out) (Kd.R_base ho0) hb); have n2_ := Aside0.mk (Kd.R_below (Kd.R_up HO333.out) hb); have n3_ := Aside0.mk (Kd.R_lower (Kd.R_new' ho0 (Kd.R_lt (Kd.R_up HO323.out))) (below_size (B_up HB.out))); have n4_ := Aside0.mk (below_step (B_up HB.out) hb); clear HO316; clear HO323; clear HO333; clear HB; have HO316 := n0_; have HO323 := n1_; have HO333 := n2_; have HO338 := n3_; have HB := n4_; clear n0_ n1_ n2_ n3_ n4_; (try clear hb); (try clear hb2); (try clear hk); (try clear hi); (try clear ho0); obtain ⟨Ao41, co41, eo41⟩ := Kd.R_slice HO323.out; subst eo41; obtain ⟨Ao42, co42, eo42⟩ := Kd.R_slice HO338.out; subst eo42) | (go_at_call 22; (with_reducible refine (laws_sameInts.calls k _ _ t321 _ _ t336 false _ ?side1 ?side2 ?side3 ?side4 A22.out).mono ?_); (case side1 => exact Kd.C_up (Kd.R_reads' HO323.out).2.2); (case side2 => exact (Kd.R_reads' HO323.out).2.1); (case side3 => exact Kd.C_up (Kd.R_reads' HO338.out).2.2); (case side4 => exact (Kd.R_reads' HO338.out).2.1); rintro e w' ⟨rfl, ⟨nd, rfl⟩⟩; (try first | exact ⟨rfl, _, World.drewN_drewN _ _ _⟩ | exact ⟨rfl, _, Eq.trans (World.drewN_drewN _ _ _) (congrArg (World.drewN _) (Nat.add_assoc _ _ _))⟩))))
     go_meet
     case rel => exact ⟨_, (true), (by first | rfl | (simp; done) | (simp [*]; done)), H', ⟨by first | omega | exact Nat.le_refl _⟩, ⟨by (with_reducible repeat (first | apply Kd.R_alloc | apply Kd.R_drewN | apply Kd.R_drew)); exact Kd.R_mono HO316.out (fun _ hk => trivial)⟩, ⟨by (with_reducible repeat (first | apply Kd.R_alloc | apply Kd.R_drewN | apply Kd.R_drew)); exact Kd.R_mono HO323.out (fun _ hk => trivial)⟩, ⟨by repeat (first | (with_reducible first | exact HB.out | apply below_alloc | apply pw_below_drewN | apply below_drew1) | exact HB.out)⟩⟩
   ·rw [if_neg c20] at H
    have c20b0 : (t334 == t335) = false := beq_eq_false_iff_ne.mpr c20
    have c20b1 : (t334 != t335) = true := bne_iff_ne.mpr c20
    (first | rw [c20b0] | (simp only [i64_w, i32_w]; rw [c20b0]) | skip)
    have H' := Aside0.mk H
    clear H
    go_wp2_with (first | (go_at_call 20; (with_reducible refine (impl_Roll.calls k t317 t318 t319 t320 t334 _ A18.out).mono ?_); rintro e w' ⟨rfl, ⟨nd, rfl⟩⟩; (try first | exact ⟨rfl, _, World.drewN_drewN _ _ _⟩ | exact ⟨rfl, _, Eq.trans (World.drewN_drewN _ _ _) (congrArg (World.drewN _) (Nat.add_assoc _ _ _))⟩)) | (go_at_call 21; (with_reducible refine (spec_Roll.calls k t317 t318 t319 t320 t335 _ A19.out).mono ?_); rintro e w' ⟨rfl, ⟨nd, rfl⟩⟩; (try first | exact ⟨rfl, _, World.drewN_drewN _ _ _⟩ | exact ⟨rfl, _, Eq.trans (World.drewN_drewN _ _ _) (congrArg (World.drewN _) (Nat.add_assoc _ _ _))⟩)))
    repeat (go_quiet (first | (go_at_call 20; (with_reducible refine (impl_Roll.calls k t317 t318 t319 t320 t334 _ A18.out).mono ?_); rintro e w' ⟨rfl, ⟨nd, rfl⟩⟩; (try first | exact ⟨rfl, _, World.drewN_drewN _ _ _⟩ | exact ⟨rfl, _, Eq.trans (World.drewN_drewN _ _ _) (congrArg (World.drewN _) (Nat.add_assoc _ _ _))⟩)) | (go_at_call 21; (with_reducible refine (spec_Roll.calls k t317 t318 t319 t320 t335 _ A19.out).mono ?_); rintro e w' ⟨rfl, ⟨nd, rfl⟩⟩; (try first | exact ⟨rfl, _, World.drewN_drewN _ _ _⟩ | exact ⟨rfl, _, Eq.trans (World.drewN_drewN _ _ _) (congrArg (World.drewN _) (Nat.add_assoc _ _ _))⟩))); try go_wp2_with (first | (go_at_call 20; (with_reducible refine (impl_Roll.calls k t317 t318 t319 t320 t334 _ A18.out).mono ?_); rintro e w' ⟨rfl, ⟨nd, rfl⟩⟩; (try first | exact ⟨rfl, _, World.drewN_drewN _ _ _⟩ | exact ⟨rfl, _, Eq.trans (World.drewN_drewN _ _ _) (congrArg (World.drewN _) (Nat.add_assoc _ _ _))⟩)) | (go_at_call 21; (with_reducible refine (spec_Roll.calls k t317 t318 t319 t320 t335 _ A19.out).mono ?_); rintro e w' ⟨rfl, ⟨nd, rfl⟩⟩; (try first | exact ⟨rfl, _, World.drewN_drewN _ _ _⟩ | exact ⟨rfl, _, Eq.trans (World.drewN_drewN _ _ _) (congrArg (World.drewN _) (Nat.add_assoc _ _ _))⟩))))
    go_meet
    case rel => exact ⟨_, (true), (by first | rfl | (simp; done) | (simp [*]; done)), H', ⟨by first | omega | exact Nat.le_refl _⟩, ⟨by (with_reducible repeat (first | apply Kd.R_alloc | apply Kd.R_drewN | apply Kd.R_drew)); exact Kd.R_mono HO316.out (fun _ hk => trivial)⟩, ⟨by (with_reducible repeat (first | apply Kd.R_alloc | apply Kd.R_drewN | apply Kd.R_drew)); exact HO323.out⟩, ⟨by repeat (first | (with_reducible first | exact HB.out | apply below_alloc | apply pw_below_drewN | apply below_drew1) | exact HB.out)⟩⟩
  case rest =>
   clear HC11
   try clear c2
   try clear p2
   try clear c3
   try clear c20
   try clear c20b0
   try clear c20b1
   try clear c23
   try clear c24
   try clear c24b0
   try clear c24b1
   try clear c25
   try clear c25b0
   try clear c25b1
   obtain ⟨kq, x93_10, rfl, HA, HJ10, HO_3, HO_9, HB⟩ := hcut
   cases kq with
   | zero => exact absurd HA.out (by simp [laws_FnWeaks.j0])
   | succ kj10 =>
    have H := HA.out
    clear HA
    simp only [laws_FnWeaks.j0] at H
    by_cases c43 : x93_10 = true
    ·subst c43
     rw [if_pos rfl] at H
     obtain rfl := Option.some.inj H
     go_wp2
     repeat (go_quiet (fail); try go_wp2)
     go_ret
     exact ⟨by first | rfl | (simp [errW_none, errW_some] <;> rfl) | (simp [*, errW_none, errW_some] <;> rfl), by repeat (first | (with_reducible first | exact HB.out | apply below_alloc | apply pw_below_drewN | apply below_drew1) | exact HB.out)⟩
    ·replace c43 := Bool.eq_false_iff.mpr c43
     subst c43
     have H1 : (laws_FnWeaks.l0 kj10 t313 t314 t321 0) = some r := by rw [if_neg (show ¬ (false = true) by decide)] at H; exact H
     clear H
     have H := H1
     clear H1
     have H' := Aside0.mk H
     clear H
     go_wp2
     repeat (go_quiet (fail); try go_wp2)
     go_loopg [18] kj10 (fun kq v18 w' => ∃ (x18_2 : Int), v18 = .int .i64 x18_2 ∧ Aside0 (laws_FnWeaks.l0 kq t313 t314 t321 x18_2 = some r) ∧ Aside0 (kq ≤ kj10) ∧ Aside0 (Kd.R (Kd.int .u8) 5 w' w.heap.size (fun _ => True) (.slice Ao14 t313.length co14) t313) ∧ Aside0 (Kd.R (Kd.int .i64) 3 w' w.heap.size (fun _ => True) v322 t321) ∧ Aside0 (Below w.heap.size w w'))
     case atStart => exact ⟨(0), (by first | rfl | (simp; done) | (simp [*]; done)), H', ⟨Nat.le_refl _⟩, ⟨by (with_reducible repeat (first | apply Kd.R_alloc | apply Kd.R_drewN | apply Kd.R_drew)); exact HO_3.out⟩, ⟨by (with_reducible repeat (first | apply Kd.R_alloc | apply Kd.R_drewN | apply Kd.R_drew)); exact HO_9.out⟩, ⟨by repeat (first | (with_reducible first | exact HB.out | apply below_alloc | apply pw_below_drewN | apply below_drew1) | exact HB.out)⟩⟩
     case round =>
      clear H'
      try clear c2
      try clear p2
      try clear c3
      try clear c4
      try clear c20
      try clear c20b0
      try clear c20b1
      try clear c23
      try clear c24
      try clear c24b0
      try clear c24b1
      try clear c25
      try clear c25b0
      try clear c25b1
      try clear c43
      try clear p2
      obtain ⟨x18_2, rfl, HA, HK2, HO_3, HO_9, HB⟩ := hrel
      cases gk with
      | zero => exact absurd HA.out (by simp [laws_FnWeaks.l0])
      | succ k2 =>
       have H := HA.out
       clear HA
       simp only [laws_FnWeaks.l0] at H
       by_cases c44 : x18_2 < (t321.length : Int)
       ·rw [if_pos c44] at H
        have c44b0 : decide (x18_2 < (t321.length : Int)) = true := decide_eq_true c44
        clear c44
        by_cases c45 : 0 ≤ x18_2
        ·rw [if_pos c45] at H
         have c45b0 : decide (0 ≤ x18_2) = true := decide_eq_true c45
         clear c45
         have c46b0 := eq_true (of_decide_eq_true (by first | (with_reducible assumption) | assumption) : 0 ≤ x18_2)
         by_cases c47 : x18_2 ≤ (wrap64 (x18_2 + t314))
         ·rw [if_pos c47] at H
          have c47b0 := eq_true c47
          have c47b1 : decide (x18_2 ≤ (wrap64 (x18_2 + t314))) = true := decide_eq_true c47
          by_cases c48 : (wrap64 (x18_2 + t314)) ≤ (t313.length : Int)
          ·rw [if_pos c48] at H
           have c48b0 := eq_true c48
           have c48b1 : decide ((wrap64 (x18_2 + t314)) ≤ (t313.length : Int)) = true := decide_eq_true c48
           obtain ⟨y343, hy343⟩ : ∃ y_ : List Int, y_ = ((t313.take ((wrap64 (x18_2 + t314)) : Int).toNat).drop (x18_2 : Int).toNat) := ⟨_, rfl⟩
           replace H : ((impl_WeakOf.f k2 y343).bind fun t347 => (if (rd t321 x18_2) = t347 then ((spec_WeakOf.f k2 ((t313.take ((wrap64 (x18_2 + t314)) : Int).toNat).drop (x18_2 : Int).toNat)).bind fun t353 => (if (rd t321 x18_2) = t353 then (laws_FnWeaks.l0 k2 t313 t314 t321 (wrap64 (x18_2 + 1))) else (some false))) else (some false))) = some r := by first | (rw [hy343]; with_reducible exact H) | (have H2_ := (Option.bind_some _ _).symm.trans H; rw [hy343]; with_reducible exact H2_) | (have H2_ := (Option.bind_some _ _).symm.trans H; with_reducible exact H2_) | with_reducible exact H | (rw [hy343]; exact H) | exact H
           have Ny343 := Aside0.mk hy343
           clear hy343
           replace H := Option.bind_eq_some_iff.mp H
           obtain ⟨t347, A490, H⟩ := H
           (try dsimp only at H)
           have A49 := Aside0.mk A490
           clear A490
           by_cases c50 : (rd t321 x18_2) = t347
           ·rw [if_pos c50] at H
            have c50b0 : ((rd t321 x18_2) == t347) = true := beq_iff_eq.mpr c50
            have c50b1 : ((rd t321 x18_2) != t347) = false := bne_eq_false_iff_eq.mpr c50
            clear c50
            have c51b0 := eq_true (of_decide_eq_true (by first | (with_reducible assumption) | assumption) : 0 ≤ x18_2)
            have c52b0 := eq_true (of_decide_eq_true (by first | (with_reducible assumption) | assumption) : x18_2 ≤ (wrap64 (x18_2 + t314)))
            have c53b0 := eq_true (of_decide_eq_true (by first | (with_reducible assumption) | assumption) : (wrap64 (x18_2 + t314)) ≤ (t313.length : Int))
            obtain ⟨y349, hy349⟩ : ∃ y_ : List Int, y_ = ((t313.take ((wrap64 (x18_2 + t314)) : Int).toNat).drop (x18_2 : Int).toNat) := ⟨_, rfl⟩
            replace H : ((spec_WeakOf.f k2 y349).bind fun t353 => (if (rd t321 x18_2) = t353 then (laws_FnWeaks.l0 k2 t313 t314 t321 (wrap64 (x18_2 + 1))) else (some false))) = some r := by first | (rw [hy349]; with_reducible exact H) | (have H2_ := (Option.bind_some _ _).symm.trans H; rw [hy349]; with_reducible exact H2_) | (have H2_ := (Option.bind_some _ _).symm.trans H; with_reducible exact H2_) | with_reducible exact H | (rw [hy349]; exact H) | exact H
            have Ny349 := Aside0.mk hy349
            clear hy349
            replace H := Option.bind_eq_some_iff.mp H
            obtain ⟨t353, A540, H⟩ := H
            (try dsimp only at H)
            have A54 := Aside0.mk A540
            clear A540
            by_cases c55 : (rd t321 x18_2) = t353
            ·rw [if_pos c55] at H
             have c55b0 : ((rd t321 x18_2) == t353) = true := beq_iff_eq.mpr c55
             have c55b1 : ((rd t321 x18_2) != t353) = false := bne_eq_false_iff_eq.mpr c55
             clear c55
             have H' := Aside0.mk H
             clear H
             obtain ⟨Ao56, co56, eo56⟩ := Kd.R_slice HO_9.out
             subst eo56
             have p342 : 0 ≤ (x18_2 : Int) := of_decide_eq_true (by first | (with_reducible assumption) | assumption)
             have q342 : x18_2 < (t321.length : Int) := of_decide_eq_true (by first | (with_reducible assumption) | assumption)
             obtain ⟨ad342, e342, hx342_0⟩ := Kd.at_int (Kd.R_reads' HO_9.out).2.2 x18_2 p342 q342
             cases e342
             replace p342 := eq_true p342
             replace q342 := eq_true q342
             have q57 : ((wrap64 (x18_2 + t314)) : Int) ≤ ((t313.length : Int) : Int) := of_decide_eq_true (by first | (with_reducible assumption) | assumption)
             obtain ⟨i057, hi057, _, hsz57, _⟩ := info_parts info5
             have hroom57 : t313.length ≤ co14 := (Kd.R_reads' HO_3.out).2.1
             have hC57 : Kd.C (Kd.int .u8) _ Ao14 t313.length t313 := (Kd.R_reads' HO_3.out).2.2
             have ql57 : (x18_2 : Int) ≤ ((wrap64 (x18_2 + t314)) : Int) := of_decide_eq_true (by first | (with_reducible assumption) | assumption)
             have q057 : (0 : Int) ≤ (x18_2 : Int) := of_decide_eq_true (by first | (with_reducible assumption) | assumption)
             have hcut57 := cut_mid (P := Try.prog) 22 5 .i64 .i64 Try.underlying22 hi057 1 hsz57 Ao14 t313.length co14 x18_2 (wrap64 (x18_2 + t314)) q057 ql57 q57 hroom57
             have hr57 := Kd.C_mid (lo := (x18_2 : Int).toNat) (hi := ((wrap64 (x18_2 + t314)) : Int).toNat) (c := co14) hC57 (by omega) (by omega) hroom57
             obtain ⟨A57, hA57⟩ : ∃ A1, A1 = (if co14 = (x18_2 : Int).toNat then Ao14 else (Ao14 : Option Addr).map (·.add ((x18_2 : Int).toNat * 1))) := ⟨_, rfl⟩
             obtain ⟨c57, hc57⟩ : ∃ c1, c1 = co14 - (x18_2 : Int).toNat := ⟨_, rfl⟩
             have hy57 : y343.length = ((wrap64 (x18_2 + t314)) : Int).toNat - (x18_2 : Int).toNat := (by rw [Ny343.out, List.length_drop, List.length_take] <;> omega)
             rw [show ((t313).take ((wrap64 (x18_2 + t314)) : Int).toNat).drop (x18_2 : Int).toNat = y343 from Ny343.out.symm] at hr57
             replace hr57 : Kd.C (Kd.int .u8) _ A57 y343.length y343 := (by rw [hA57]; exact hr57)
             rw [← hy57, ← hA57, ← hc57] at hcut57
             have HR346 := Aside0.mk hr57
             have HC346 := Aside0.mk (show y343.length ≤ c57 from by rw [hy57, hc57]; exact Nat.sub_le_sub_right (Nat.le_trans (by omega) hroom57) _)
             clear hr57 hC57 hroom57 hi057 hsz57 hc57
             have KY57 := Aside0.mk hy57
             have KA57 := Aside0.mk hA57
             clear hy57 hA57
             have KL57 := Aside0.mk (show ((wrap64 (x18_2 + t314)) : Int).toNat ≤ t313.length from by omega)
             have KM57 := Aside0.mk (show (x18_2 : Int).toNat ≤ ((wrap64 (x18_2 + t314)) : Int).toNat from by omega)
             replace q57 := eq_true q57
             have p348 : 0 ≤ (x18_2 : Int) := of_decide_eq_true (by first | (with_reducible assumption) | assumption)
             have q348 : x18_2 < (t321.length : Int) := of_decide_eq_true (by first | (with_reducible assumption) | assumption)
             obtain ⟨ad348, e348, hx348_0⟩ := Kd.at_int (Kd.R_reads' HO_9.out).2.2 x18_2 p348 q348
             obtain rfl : ad342 = ad348 := (by injection e348)
             replace p348 := eq_true p348
             replace q348 := eq_true q348
             have A54y := Aside0.mk (show spec_WeakOf.f k2 y343 = some t353 from by rw [Ny343.out, ← Ny349.out]; exact A54.out)
             have hi64_ : ∀ z_ : Int, IntKind.i64.wrap z_ = wrap64 z_ := fun z_ => i64_w z_
             go_wp2_with (first | (go_at_call 26; (with_reducible refine (impl_WeakOf.calls k2 _ _ y343 t347 _ ?side1 ?side2 A49.out).mono ?_); (case side1 => repeat (first | exact (by repeat (first | (with_reducible exact HR346.out) | (with_reducible refine Kd.C_alloc ?_ _) | (with_reducible refine Kd.C_drewN ?_ _) | (with_reducible refine Kd.C_drew ?_) | exact HR346.out)) | (with_reducible refine Kd.C_alloc ?_ _) | (with_reducible refine Kd.C_drewN ?_ _) | (with_reducible refine Kd.C_drew ?_))); (case side2 => exact HC346.out); rintro e w' ⟨rfl, ⟨nd, rfl⟩⟩; (try first | exact ⟨rfl, _, World.drewN_drewN _ _ _⟩ | exact ⟨rfl, _, Eq.trans (World.drewN_drewN _ _ _) (congrArg (World.drewN _) (Nat.add_assoc _ _ _))⟩)) | (go_at_call 27; (with_reducible refine (spec_WeakOf.calls k2 _ _ y343 t353 _ ?side1 ?side2 A54y.out).mono ?_); (case side1 => repeat (first | exact (by repeat (first | (with_reducible exact HR346.out) | (with_reducible refine Kd.C_alloc ?_ _) | (with_reducible refine Kd.C_drewN ?_ _) | (with_reducible refine Kd.C_drew ?_) | exact HR346.out)) | (with_reducible refine Kd.C_alloc ?_ _) | (with_reducible refine Kd.C_drewN ?_ _) | (with_reducible refine Kd.C_drew ?_))); (case side2 => exact HC346.out); rintro e w' ⟨rfl, ⟨nd, rfl⟩⟩; (try first | exact ⟨rfl, _, World.drewN_drewN _ _ _⟩ | exact ⟨rfl, _, Eq.trans (World.drewN_drewN _ _ _) (congrArg (World.drewN _) (Nat.add_assoc _ _ _))⟩)))
             repeat (go_quiet (first | (go_at_call 26; (with_reducible refine (impl_WeakOf.calls k2 _ _ y343 t347 _ ?side1 ?side2 A49.out).mono ?_); (case side1 => repeat (first | exact (by repeat (first | (with_reducible exact HR346.out) | (with_reducible refine Kd.C_alloc ?_ _) | (with_reducible refine Kd.C_drewN ?_ _) | (with_reducible refine Kd.C_drew ?_) | exact HR346.out)) | (with_reducible refine Kd.C_alloc ?_ _) | (with_reducible refine Kd.C_drewN ?_ _) | (with_reducible refine Kd.C_drew ?_))); (case side2 => exact HC346.out); rintro e w' ⟨rfl, ⟨nd, rfl⟩⟩; (try first | exact ⟨rfl, _, World.drewN_drewN _ _ _⟩ | exact ⟨rfl, _, Eq.trans (World.drewN_drewN _ _ _) (congrArg (World.drewN _) (Nat.add_assoc _ _ _))⟩)) | (go_at_call 27; (with_reducible refine (spec_WeakOf.calls k2 _ _ y343 t353 _ ?side1 ?side2 A54y.out).mono ?_); (case side1 => repeat (first | exact (by repeat (first | (with_reducible exact HR346.out) | (with_reducible refine Kd.C_alloc ?_ _) | (with_reducible refine Kd.C_drewN ?_ _) | (with_reducible refine Kd.C_drew ?_) | exact HR346.out)) | (with_reducible refine Kd.C_alloc ?_ _) | (with_reducible refine Kd.C_drewN ?_ _) | (with_reducible refine Kd.C_drew ?_))); (case side2 => exact HC346.out); rintro e w' ⟨rfl, ⟨nd, rfl⟩⟩; (try first | exact ⟨rfl, _, World.drewN_drewN _ _ _⟩ | exact ⟨rfl, _, Eq.trans (World.drewN_drewN _ _ _) (congrArg (World.drewN _) (Nat.add_assoc _ _ _))⟩))); try go_wp2_with (first | (go_at_call 26; (with_reducible refine (impl_WeakOf.calls k2 _ _ y343 t347 _ ?side1 ?side2 A49.out).mono ?_); (case side1 => repeat (first | exact (by repeat (first | (with_reducible exact HR346.out) | (with_reducible refine Kd.C_alloc ?_ _) | (with_reducible refine Kd.C_drewN ?_ _) | (with_reducible refine Kd.C_drew ?_) | exact HR346.out)) | (with_reducible refine Kd.C_alloc ?_ _) | (with_reducible refine Kd.C_drewN ?_ _) | (with_reducible refine Kd.C_drew ?_))); (case side2 => exact HC346.out); rintro e w' ⟨rfl, ⟨nd, rfl⟩⟩; (try first | exact ⟨rfl, _, World.drewN_drewN _ _ _⟩ | exact ⟨rfl, _, Eq.trans (World.drewN_drewN _ _ _) (congrArg (World.drewN _) (Nat.add_assoc _ _ _))⟩)) | (go_at_call 27; (with_reducible refine (spec_WeakOf.calls k2 _ _ y343 t353 _ ?side1 ?side2 A54y.out).mono ?_); (case side1 => repeat (first | exact (by repeat (first | (with_reducible exact HR346.out) | (with_reducible refine Kd.C_alloc ?_ _) | (with_reducible refine Kd.C_drewN ?_ _) | (with_reducible refine Kd.C_drew ?_) | exact HR346.out)) | (with_reducible refine Kd.C_alloc ?_ _) | (with_reducible refine Kd.C_drewN ?_ _) | (with_reducible refine Kd.C_drew ?_))); (case side2 => exact HC346.out); rintro e w' ⟨rfl, ⟨nd, rfl⟩⟩; (try first | exact ⟨rfl, _, World.drewN_drewN _ _ _⟩ | exact ⟨rfl, _, Eq.trans (World.drewN_drewN _ _ _) (congrArg (World.drewN _) (Nat.add_assoc _ _ _))⟩))))
             go_roundg k2
             case measure => have := HJ10.out; have := HK2.out; omega
             case rel => exact ⟨(wrap64 (x18_2 + 1)), (by first | rfl | (simp; done) | (simp [*]; done)), H', ⟨by have := HJ10.out; have := HK2.out; omega⟩, ⟨by (with_reducible repeat (first | apply Kd.R_alloc | apply Kd.R_drewN | apply Kd.R_drew)); exact HO_3.out⟩, ⟨by (with_reducible repeat (first | apply Kd.R_alloc | apply Kd.R_drewN | apply Kd.R_drew)); exact HO_9.out⟩, ⟨by repeat (first | (with_reducible first | exact HB.out | apply below_alloc | apply pw_below_drewN | apply below_drew1) | exact HB.out)⟩⟩
            ·rw [if_neg c55] at H
             have c55b0 : ((rd t321 x18_2) == t353) = false := beq_eq_false_iff_ne.mpr c55
             have c55b1 : ((rd t321 x18_2) != t353) = true := bne_iff_ne.mpr c55
             obtain rfl := Option.some.inj H
             obtain ⟨Ao59, co59, eo59⟩ := Kd.R_slice HO_9.out
             subst eo59
             have p342 : 0 ≤ (x18_2 : Int) := of_decide_eq_true (by first | (with_reducible assumption) | assumption)
             have q342 : x18_2 < (t321.length : Int) := of_decide_eq_true (by first | (with_reducible assumption) | assumption)
             obtain ⟨ad342, e342, hx342_0⟩ := Kd.at_int (Kd.R_reads' HO_9.out).2.2 x18_2 p342 q342
             cases e342
             replace p342 := eq_true p342
             replace q342 := eq_true q342
             have q60 : ((wrap64 (x18_2 + t314)) : Int) ≤ ((t313.length : Int) : Int) := of_decide_eq_true (by first | (with_reducible assumption) | assumption)
             obtain ⟨i060, hi060, _, hsz60, _⟩ := info_parts info5
             have hroom60 : t313.length ≤ co14 := (Kd.R_reads' HO_3.out).2.1
             have hC60 : Kd.C (Kd.int .u8) _ Ao14 t313.length t313 := (Kd.R_reads' HO_3.out).2.2
             have ql60 : (x18_2 : Int) ≤ ((wrap64 (x18_2 + t314)) : Int) := of_decide_eq_true (by first | (with_reducible assumption) | assumption)
             have q060 : (0 : Int) ≤ (x18_2 : Int) := of_decide_eq_true (by first | (with_reducible assumption) | assumption)
             have hcut60 := cut_mid (P := Try.prog) 22 5 .i64 .i64 Try.underlying22 hi060 1 hsz60 Ao14 t313.length co14 x18_2 (wrap64 (x18_2 + t314)) q060 ql60 q60 hroom60
             have hr60 := Kd.C_mid (lo := (x18_2 : Int).toNat) (hi := ((wrap64 (x18_2 + t314)) : Int).toNat) (c := co14) hC60 (by omega) (by omega) hroom60
             obtain ⟨A60, hA60⟩ : ∃ A1, A1 = (if co14 = (x18_2 : Int).toNat then Ao14 else (Ao14 : Option Addr).map (·.add ((x18_2 : Int).toNat * 1))) := ⟨_, rfl⟩
             obtain ⟨c60, hc60⟩ : ∃ c1, c1 = co14 - (x18_2 : Int).toNat := ⟨_, rfl⟩
             have hy60 : y343.length = ((wrap64 (x18_2 + t314)) : Int).toNat - (x18_2 : Int).toNat := (by rw [Ny343.out, List.length_drop, List.length_take] <;> omega)
             rw [show ((t313).take ((wrap64 (x18_2 + t314)) : Int).toNat).drop (x18_2 : Int).toNat = y343 from Ny343.out.symm] at hr60
             replace hr60 : Kd.C (Kd.int .u8) _ A60 y343.length y343 := (by rw [hA60]; exact hr60)
             rw [← hy60, ← hA60, ← hc60] at hcut60
             have HR346 := Aside0.mk hr60
             have HC346 := Aside0.mk (show y343.length ≤ c60 from by rw [hy60, hc60]; exact Nat.sub_le_sub_right (Nat.le_trans (by omega) hroom60) _)
             clear hr60 hC60 hroom60 hi060 hsz60 hc60
             have KY60 := Aside0.mk hy60
             have KA60 := Aside0.mk hA60
             clear hy60 hA60
             have KL60 := Aside0.mk (show ((wrap64 (x18_2 + t314)) : Int).toNat ≤ t313.length from by omega)
             have KM60 := Aside0.mk (show (x18_2 : Int).toNat ≤ ((wrap64 (x18_2 + t314)) : Int).toNat from by omega)
             replace q60 := eq_true q60
             have p348 : 0 ≤ (x18_2 : Int) := of_decide_eq_true (by first | (with_reducible assumption) | assumption)
             have q348 : x18_2 < (t321.length : Int) := of_decide_eq_true (by first | (with_reducible assumption) | assumption)
             obtain ⟨ad348, e348, hx348_0⟩ := Kd.at_int (Kd.R_reads' HO_9.out).2.2 x18_2 p348 q348
             obtain rfl : ad342 = ad348 := (by injection e348)
             replace p348 := eq_true p348
             replace q348 := eq_true q348
             have A54y := Aside0.mk (show spec_WeakOf.f k2 y343 = some t353 from by rw [Ny343.out, ← Ny349.out]; exact A54.out)
             have hi64_ : ∀ z_ : Int, IntKind.i64.wrap z_ = wrap64 z_ := fun z_ => i64_w z_
             go_wp2_with (first | (go_at_call 26; (with_reducible refine (impl_WeakOf.calls k2 _ _ y343 t347 _ ?side1 ?side2 A49.out).mono ?_); (case side1 => repeat (first | exact (by repeat (first | (with_reducible exact HR346.out) | (with_reducible refine Kd.C_alloc ?_ _) | (with_reducible refine Kd.C_drewN ?_ _) | (with_reducible refine Kd.C_drew ?_) | exact HR346.out)) | (with_reducible refine Kd.C_alloc ?_ _) | (with_reducible refine Kd.C_drewN ?_ _) | (with_reducible refine Kd.C_drew ?_))); (case side2 => exact HC346.out); rintro e w' ⟨rfl, ⟨nd, rfl⟩⟩; (try first | exact ⟨rfl, _, World.drewN_drewN _ _ _⟩ | exact ⟨rfl, _, Eq.trans (World.drewN_drewN _ _ _) (congrArg (World.drewN _) (Nat.add_assoc _ _ _))⟩)) | (go_at_call 27; (with_reducible refine (spec_WeakOf.calls k2 _ _ y343 t353 _ ?side1 ?side2 A54y.out).mono ?_); (case side1 => repeat (first | exact (by repeat (first | (with_reducible exact HR346.out) | (with_reducible refine Kd.C_alloc ?_ _) | (with_reducible refine Kd.C_drewN ?_ _) | (with_reducible refine Kd.C_drew ?_) | exact HR346.out)) | (with_reducible refine Kd.C_alloc ?_ _) | (with_reducible refine Kd.C_drewN ?_ _) | (with_reducible refine Kd.C_drew ?_))); (case side2 => exact HC346.out); rintro e w' ⟨rfl, ⟨nd, rfl⟩⟩; (try first | exact ⟨rfl, _, World.drewN_drewN _ _ _⟩ | exact ⟨rfl, _, Eq.trans (World.drewN_drewN _ _ _) (congrArg (World.drewN _) (Nat.add_assoc _ _ _))⟩)))
             repeat (go_quiet (first | (go_at_call 26; (with_reducible refine (impl_WeakOf.calls k2 _ _ y343 t347 _ ?side1 ?side2 A49.out).mono ?_); (case side1 => repeat (first | exact (by repeat (first | (with_reducible exact HR346.out) | (with_reducible refine Kd.C_alloc ?_ _) | (with_reducible refine Kd.C_drewN ?_ _) | (with_reducible refine Kd.C_drew ?_) | exact HR346.out)) | (with_reducible refine Kd.C_alloc ?_ _) | (with_reducible refine Kd.C_drewN ?_ _) | (with_reducible refine Kd.C_drew ?_))); (case side2 => exact HC346.out); rintro e w' ⟨rfl, ⟨nd, rfl⟩⟩; (try first | exact ⟨rfl, _, World.drewN_drewN _ _ _⟩ | exact ⟨rfl, _, Eq.trans (World.drewN_drewN _ _ _) (congrArg (World.drewN _) (Nat.add_assoc _ _ _))⟩)) | (go_at_call 27; (with_reducible refine (spec_WeakOf.calls k2 _ _ y343 t353 _ ?side1 ?side2 A54y.out).mono ?_); (case side1 => repeat (first | exact (by repeat (first | (with_reducible exact HR346.out) | (with_reducible refine Kd.C_alloc ?_ _) | (with_reducible refine Kd.C_drewN ?_ _) | (with_reducible refine Kd.C_drew ?_) | exact HR346.out)) | (with_reducible refine Kd.C_alloc ?_ _) | (with_reducible refine Kd.C_drewN ?_ _) | (with_reducible refine Kd.C_drew ?_))); (case side2 => exact HC346.out); rintro e w' ⟨rfl, ⟨nd, rfl⟩⟩; (try first | exact ⟨rfl, _, World.drewN_drewN _ _ _⟩ | exact ⟨rfl, _, Eq.trans (World.drewN_drewN _ _ _) (congrArg (World.drewN _) (Nat.add_assoc _ _ _))⟩))); try go_wp2_with (first | (go_at_call 26; (with_reducible refine (impl_WeakOf.calls k2 _ _ y343 t347 _ ?side1 ?side2 A49.out).mono ?_); (case side1 => repeat (first | exact (by repeat (first | (with_reducible exact HR346.out) | (with_reducible refine Kd.C_alloc ?_ _) | (with_reducible refine Kd.C_drewN ?_ _) | (with_reducible refine Kd.C_drew ?_) | exact HR346.out)) | (with_reducible refine Kd.C_alloc ?_ _) | (with_reducible refine Kd.C_drewN ?_ _) | (with_reducible refine Kd.C_drew ?_))); (case side2 => exact HC346.out); rintro e w' ⟨rfl, ⟨nd, rfl⟩⟩; (try first | exact ⟨rfl, _, World.drewN_drewN _ _ _⟩ | exact ⟨rfl, _, Eq.trans (World.drewN_drewN _ _ _) (congrArg (World.drewN _) (Nat.add_assoc _ _ _))⟩)) | (go_at_call 27; (with_reducible refine (spec_WeakOf.calls k2 _ _ y343 t353 _ ?side1 ?side2 A54y.out).mono ?_); (case side1 => repeat (first | exact (by repeat (first | (with_reducible exact HR346.out) | (with_reducible refine Kd.C_alloc ?_ _) | (with_reducible refine Kd.C_drewN ?_ _) | (with_reducible refine Kd.C_drew ?_) | exact HR346.out)) | (with_reducible refine Kd.C_alloc ?_ _) | (with_reducible refine Kd.C_drewN ?_ _) | (with_reducible refine Kd.C_drew ?_))); (case side2 => exact HC346.out); rintro e w' ⟨rfl, ⟨nd, rfl⟩⟩; (try first | exact ⟨rfl, _, World.drewN_drewN _ _ _⟩ | exact ⟨rfl, _, Eq.trans (World.drewN_drewN _ _ _) (congrArg (World.drewN _) (Nat.add_assoc _ _ _))⟩))))
             go_ret
             exact ⟨by first | rfl | (simp [errW_none, errW_some] <;> rfl) | (simp [*, errW_none, errW_some] <;> rfl), by repeat (first | (with_reducible first | exact HB.out | apply below_alloc | apply pw_below_drewN | apply below_drew1) | exact HB.out)⟩
           ·rw [if_neg c50] at H
            have c50b0 : ((rd t321 x18_2) == t347) = false := beq_eq_false_iff_ne.mpr c50
            have c50b1 : ((rd t321 x18_2) != t347) = true := bne_iff_ne.mpr c50
            obtain rfl := Option.some.inj H
            obtain ⟨Ao62, co62, eo62⟩ := Kd.R_slice HO_9.out
            subst eo62
            have p342 : 0 ≤ (x18_2 : Int) := of_decide_eq_true (by first | (with_reducible assumption) | assumption)
            have q342 : x18_2 < (t321.length : Int) := of_decide_eq_true (by first | (with_reducible assumption) | assumption)
            obtain ⟨ad342, e342, hx342_0⟩ := Kd.at_int (Kd.R_reads' HO_9.out).2.2 x18_2 p342 q342
            cases e342
            replace p342 := eq_true p342
            replace q342 := eq_true q342
            have q63 : ((wrap64 (x18_2 + t314)) : Int) ≤ ((t313.length : Int) : Int) := of_decide_eq_true (by first | (with_reducible assumption) | assumption)
            obtain ⟨i063, hi063, _, hsz63, _⟩ := info_parts info5
            have hroom63 : t313.length ≤ co14 := (Kd.R_reads' HO_3.out).2.1
            have hC63 : Kd.C (Kd.int .u8) _ Ao14 t313.length t313 := (Kd.R_reads' HO_3.out).2.2
            have ql63 : (x18_2 : Int) ≤ ((wrap64 (x18_2 + t314)) : Int) := of_decide_eq_true (by first | (with_reducible assumption) | assumption)
            have q063 : (0 : Int) ≤ (x18_2 : Int) := of_decide_eq_true (by first | (with_reducible assumption) | assumption)
            have hcut63 := cut_mid (P := Try.prog) 22 5 .i64 .i64 Try.underlying22 hi063 1 hsz63 Ao14 t313.length co14 x18_2 (wrap64 (x18_2 + t314)) q063 ql63 q63 hroom63
            have hr63 := Kd.C_mid (lo := (x18_2 : Int).toNat) (hi := ((wrap64 (x18_2 + t314)) : Int).toNat) (c := co14) hC63 (by omega) (by omega) hroom63
            obtain ⟨A63, hA63⟩ : ∃ A1, A1 = (if co14 = (x18_2 : Int).toNat then Ao14 else (Ao14 : Option Addr).map (·.add ((x18_2 : Int).toNat * 1))) := ⟨_, rfl⟩
            obtain ⟨c63, hc63⟩ : ∃ c1, c1 = co14 - (x18_2 : Int).toNat := ⟨_, rfl⟩
            have hy63 : y343.length = ((wrap64 (x18_2 + t314)) : Int).toNat - (x18_2 : Int).toNat := (by rw [Ny343.out, List.length_drop, List.length_take] <;> omega)
            rw [show ((t313).take ((wrap64 (x18_2 + t314)) : Int).toNat).drop (x18_2 : Int).toNat = y343 from Ny343.out.symm] at hr63
            replace hr63 : Kd.C (Kd.int .u8) _ A63 y343.length y343 := (by rw [hA63]; exact hr63)
            rw [← hy63, ← hA63, ← hc63] at hcut63
            have HR346 := Aside0.mk hr63
            have HC346 := Aside0.mk (show y343.length ≤ c63 from by rw [hy63, hc63]; exact Nat.sub_le_sub_right (Nat.le_trans (by omega) hroom63) _)
            clear hr63 hC63 hroom63 hi063 hsz63 hc63
            have KY63 := Aside0.mk hy63
            have KA63 := Aside0.mk hA63
            clear hy63 hA63
            have KL63 := Aside0.mk (show ((wrap64 (x18_2 + t314)) : Int).toNat ≤ t313.length from by omega)
            have KM63 := Aside0.mk (show (x18_2 : Int).toNat ≤ ((wrap64 (x18_2 + t314)) : Int).toNat from by omega)
            replace q63 := eq_true q63
            have hi64_ : ∀ z_ : Int, IntKind.i64.wrap z_ = wrap64 z_ := fun z_ => i64_w z_
            go_wp2_with (first | (go_at_call 26; (with_reducible refine (impl_WeakOf.calls k2 _ _ y343 t347 _ ?side1 ?side2 A49.out).mono ?_); (case side1 => repeat (first | exact (by repeat (first | (with_reducible exact HR346.out) | (with_reducible refine Kd.C_alloc ?_ _) | (with_reducible refine Kd.C_drewN ?_ _) | (with_reducible refine Kd.C_drew ?_) | exact HR346.out)) | (with_reducible refine Kd.C_alloc ?_ _) | (with_reducible refine Kd.C_drewN ?_ _) | (with_reducible refine Kd.C_drew ?_))); (case side2 => exact HC346.out); rintro e w' ⟨rfl, ⟨nd, rfl⟩⟩; (try first | exact ⟨rfl, _, World.drewN_drewN _ _ _⟩ | exact ⟨rfl, _, Eq.trans (World.drewN_drewN _ _ _) (congrArg (World.drewN _) (Nat.add_assoc _ _ _))⟩)))
            repeat (go_quiet (first | (go_at_call 26; (with_reducible refine (impl_WeakOf.calls k2 _ _ y343 t347 _ ?side1 ?side2 A49.out).mono ?_); (case side1 => repeat (first | exact (by repeat (first | (with_reducible exact HR346.out) | (with_reducible refine Kd.C_alloc ?_ _) | (with_reducible refine Kd.C_drewN ?_ _) | (with_reducible refine Kd.C_drew ?_) | exact HR346.out)) | (with_reducible refine Kd.C_alloc ?_ _) | (with_reducible refine Kd.C_drewN ?_ _) | (with_reducible refine Kd.C_drew ?_))); (case side2 => exact HC346.out); rintro e w' ⟨rfl, ⟨nd, rfl⟩⟩; (try first | exact ⟨rfl, _, World.drewN_drewN _ _ _⟩ | exact ⟨rfl, _, Eq.trans (World.drewN_drewN _ _ _) (congrArg (World.drewN _) (Nat.add_assoc _ _ _))⟩))); try go_wp2_with (first | (go_at_call 26; (with_reducible refine (impl_WeakOf.calls k2 _ _ y343 t347 _ ?side1 ?side2 A49.out).mono ?_); (case side1 => repeat (first | exact (by repeat (first | (with_reducible exact HR346.out) | (with_reducible refine Kd.C_alloc ?_ _) | (with_reducible refine Kd.C_drewN ?_ _) | (with_reducible refine Kd.C_drew ?_) | exact HR346.out)) | (with_reducible refine Kd.C_alloc ?_ _) | (with_reducible refine Kd.C_drewN ?_ _) | (with_reducible refine Kd.C_drew ?_))); (case side2 => exact HC346.out); rintro e w' ⟨rfl, ⟨nd, rfl⟩⟩; (try first | exact ⟨rfl, _, World.drewN_drewN _ _ _⟩ | exact ⟨rfl, _, Eq.trans (World.drewN_drewN _ _ _) (congrArg (World.drewN _) (Nat.add_assoc _ _ _))⟩))))
            go_ret
            exact ⟨by first | rfl | (simp [errW_none, errW_some] <;> rfl) | (simp [*, errW_none, errW_some] <;> rfl), by repeat (first | (with_reducible first | exact HB.out | apply below_alloc | apply pw_below_drewN | apply below_drew1) | exact HB.out)⟩
          ·rw [if_neg c48] at H
           exact absurd H (by simp)
         ·rw [if_neg c47] at H
          exact absurd H (by simp)
        ·rw [if_neg c45] at H
         exact absurd H (by simp)
       ·rw [if_neg c44] at H
        have c44b0 : decide (x18_2 < (t321.length : Int)) = false := decide_eq_false c44
        clear c44
        by_cases c64 : t314 < 1
        ·rw [if_pos c64] at H
         have c64b0 : decide (t314 < 1) = true := decide_eq_true c64
         clear c64
         obtain rfl := Option.some.inj H
         obtain ⟨Ao65, co65, eo65⟩ := Kd.R_slice HO_9.out
         subst eo65
         go_wp2
         repeat (go_quiet (fail); try go_wp2)
         go_ret
         exact ⟨by first | rfl | (simp [errW_none, errW_some] <;> rfl) | (simp [*, errW_none, errW_some] <;> rfl), by repeat (first | (with_reducible first | exact HB.out | apply below_alloc | apply pw_below_drewN | apply below_drew1) | exact HB.out)⟩
        ·rw [if_neg c64] at H
         have c64b0 : decide (t314 < 1) = false := decide_eq_false c64
         clear c64
         by_cases c66 : t314 > (t313.length : Int)
         ·rw [if_pos c66] at H
          have c66b0 : decide ((t313.length : Int) < t314) = true := decide_eq_true c66
          clear c66
          obtain rfl := Option.some.inj H
          obtain ⟨Ao67, co67, eo67⟩ := Kd.R_slice HO_9.out
          subst eo67
          go_wp2
          repeat (go_quiet (fail); try go_wp2)
          go_ret
          exact ⟨by first | rfl | (simp [errW_none, errW_some] <;> rfl) | (simp [*, errW_none, errW_some] <;> rfl), by repeat (first | (with_reducible first | exact HB.out | apply below_alloc | apply pw_below_drewN | apply below_drew1) | exact HB.out)⟩
         ·rw [if_neg c66] at H
          have c66b0 : decide ((t313.length : Int) < t314) = false := decide_eq_false c66
          clear c66
          obtain rfl := Option.some.inj H
          obtain ⟨Ao68, co68, eo68⟩ := Kd.R_slice HO_9.out
          subst eo68
          go_wp2
          repeat (go_quiet (fail); try go_wp2)
          go_ret
          exact ⟨by first | rfl | (simp [errW_none, errW_some] <;> rfl) | (simp [*, errW_none, errW_some] <;> rfl), by repeat (first | (with_reducible first | exact HB.out | apply below_alloc | apply pw_below_drewN | apply below_drew1) | exact HB.out)⟩

/-- THE ONE PURE STATEMENT of laws_FnWeaks: yours. -/
def laws_FnWeaks.Pure : Prop := ∀ (l0 : List Int), l0.length ≤ maxLen → l0.length * 1 ≤ 140737488351232 → (∀ x ∈ l0, (Lit.int .u8 x).wf = true) → ∃ k, laws_FnWeaks.f k l0 = some true
theorem laws_FnWeaks.walk (P : laws_FnWeaks.Pure) (a0 : Option Addr) (len0 cap0 : Nat) (z0 : List Int) (w : World) (w0 : (a0 = none ∧ len0 = 0 ∧ cap0 = 0 ∧ z0 = []) ∨ ∃ x, a0 = some x ∧ len0 ≤ cap0 ∧ cap0 ≤ maxLen ∧ z0.length = cap0 ∧ (∀ i, i < z0.length → w.cell? (x.add i) = some (.int .u8 (z0.getD i 0))) ∧ ∀ n ∈ z0, (Lit.int .u8 n).wf = true) (y0 : len0 * 1 ≤ 140737488351232) :
  Calls Try.prog 3 #[.slice a0 len0 cap0] w fun e w' => e = .returned (.bool true) ∧ Below w.heap.size w w' := by
 obtain ⟨l0, rfl, hr0, hm0, hw0, hc0⟩ := ReadsInt.ofRowC w0
 obtain ⟨k, h⟩ := P l0 hm0 y0 hw0
 refine (laws_FnWeaks.calls k _ _ l0 true w (Kd.C_of_reads (d := (0 : Int)) (h1 := fun _ => rfl) hr0) hc0 h).mono ?_
 rintro e w' ⟨rfl, hd⟩
 exact ⟨rfl, hd⟩

end Go.Proofs.Ytfmhhjlhaklljaa.PFnWeaks
