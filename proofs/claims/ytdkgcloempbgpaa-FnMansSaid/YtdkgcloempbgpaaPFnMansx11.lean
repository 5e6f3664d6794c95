-- by a program of this session (a turned copy of the print: make with a capacity)
import Derived.Test.YtdkgcloempbgpaaVMade1
import Derived.Test.YtdkgcloempbgpaaPFnMansx0
import Derived.Test.YtdkgcloempbgpaaPFnMansx2
import Derived.Test.YtdkgcloempbgpaaPFnMansx3
import Derived.Test.YtdkgcloempbgpaaPFnMansx4
import Derived.Test.YtdkgcloempbgpaaPFnMansx5
import Derived.Test.YtdkgcloempbgpaaPFnMansx6
import Derived.Test.YtdkgcloempbgpaaPFnMansx7
import Derived.Test.YtdkgcloempbgpaaPFnMansx8
import Derived.Test.YtdkgcloempbgpaaPFnMansx9
import Derived.Test.YtdkgcloempbgpaaPFnMansx10
namespace Go.Proofs.Ytdkgcloempbgpaa.PFnMans
open Go.RowKit Go.Proofs.YtdkgcloempbgpaaW.PrintWords Go.Proofs.YtdkgcloempbgpaaW.PrintLast Go.Proofs.YtdkgcloempbgpaaW.PrintMore
attribute [local go_sem] max2_int min2_int max_two min_two max_three min_three max_four min_four   -- for this text's walks alone
set_option linter.unusedVariables false
set_option linter.unusedSimpArgs false

/-! ### laws_FnMans: function 9 -/
mutual
def laws_FnMans.j0 : Nat → List Int → List Int → Int → Bool → Int → Int → Int → List (S66) → Option (Bool)
 | 0,_,_,_,_,_,_,_,_ => none
 | k + 1,x0,x3,x5,x95,x493000,x493001,x493002,x493003 => if x95 = true then (some false) else (laws_FnMans.l0 k x0 x3 x5 0 x493000 x493001 x493002 x493003)
def laws_FnMans.l0 : Nat → List Int → List Int → Int → Int → Int → Int → Int → List (S66) → Option (Bool)
 | 0,_,_,_,_,_,_,_,_ => none
 | k + 1,x0,x3,x5,x15,x493000,x493001,x493002,x493003 => if x15 < (x3.length : Int) then ((some (([] : List Int) : List Int)).bind fun y550 => (if y550.length + x3.length < 140737488355328 then ((some (y550 ++ x3 : List Int)).bind fun y553 => (if 0 ≤ x15 then (if x15 < (y553.length : Int) then ((laws_at.f x0 x15).bind fun t557 => ((impl_Tells.f k x493000 x493001 x493002 x493003 (y553.set (x15 : Int).toNat (((((rd y553 x15) + 1) % 256) + ((Int.tmod t557 255) % 256)) % 256))).bind fun t559 => (if t559 = true then (some false) else (laws_FnMans.l0 k x0 x3 x5 (wrap64 (x15 + 1)) x493000 x493001 x493002 x493003)))) else (none)) else (none))) else (none))) else ((impl_AllParts.f x493000 x493001 x493002 x493003).bind fun t547 => ((impl_Blocks.f x5 (x3.length : Int)).bind fun t548 => ((impl_FullSet.f t548).bind fun t549 => (some (t547 == t549)))))
end
def laws_FnMans.f (k : Nat) (l0 : List Int) : Option (Bool) := (laws_big.f l0).bind fun t480 => (if t480 = true then (some true) else ((spec_DrawImage.f k l0).bind fun bt481 => ((impl_ManOf.f k bt481.2.1 bt481.1 bt481.2.2).bind fun bt486 => ((impl_PutMan.f k (([7] : List Int)) bt486.1 bt486.2.1 bt486.2.2.1 bt486.2.2.2).bind fun t496 => ((impl_GetMan.f k t496 1).bind fun bt499 => ((spec_DrawManOf.f k l0).bind fun bt508 => ((spec_DrawTells.f k l0).bind fun bt513 => ((impl_ManOf.f k bt508.1 bt508.2.1 bt508.2.2).bind fun bt523 => ((spec_ManOf.f k bt508.1 bt508.2.1 bt508.2.2).bind fun bt529 => ((laws_sameMan.f k bt523.1 bt523.2.1 bt523.2.2.1 bt523.2.2.2 bt529.1 bt529.2.1 bt529.2.2.1 bt529.2.2.2).bind fun t535 => (if t535 = true then ((impl_Tells.f k bt513.1 bt513.2.1 bt513.2.2.1 bt513.2.2.2.1 bt513.2.2.2.2).bind fun t536 => ((spec_Tells.f k bt513.1 bt513.2.1 bt513.2.2.1 bt513.2.2.2.1 bt513.2.2.2.2).bind fun t537 => (if (t536 != t537) = true then (laws_FnMans.j0 k l0 bt481.1 bt481.2.2 true bt486.1 bt486.2.1 bt486.2.2.1 bt486.2.2.2) else ((impl_ManOk.f k bt486.1 bt486.2.1 bt486.2.2.1 bt486.2.2.2).bind fun t538 => (if t538 = true then (if bt499.2.2.2.2.2 = true then ((laws_sameMan.f k bt499.1 bt499.2.1 bt499.2.2.1 bt499.2.2.2.1 bt486.1 bt486.2.1 bt486.2.2.1 bt486.2.2.2).bind fun t539 => (if t539 = true then ((impl_PutMan.f k (([7] : List Int)) bt486.1 bt486.2.1 bt486.2.2.1 bt486.2.2.2).bind fun t543 => (if bt499.2.2.2.2.1 = (t543.length : Int) then ((impl_Tells.f k bt486.1 bt486.2.1 bt486.2.2.1 bt486.2.2.2 bt481.1).bind fun t546 => (laws_FnMans.j0 k l0 bt481.1 bt481.2.2 (!t546) bt486.1 bt486.2.1 bt486.2.2.1 bt486.2.2.2)) else (laws_FnMans.j0 k l0 bt481.1 bt481.2.2 true bt486.1 bt486.2.1 bt486.2.2.1 bt486.2.2.2))) else (laws_FnMans.j0 k l0 bt481.1 bt481.2.2 true bt486.1 bt486.2.1 bt486.2.2.1 bt486.2.2.2))) else (laws_FnMans.j0 k l0 bt481.1 bt481.2.2 true bt486.1 bt486.2.1 bt486.2.2.1 bt486.2.2.2)) else (laws_FnMans.j0 k l0 bt481.1 bt481.2.2 true bt486.1 bt486.2.1 bt486.2.2.1 bt486.2.2.2)))))) else (laws_FnMans.j0 k l0 bt481.1 bt481.2.2 true bt486.1 bt486.2.1 bt486.2.2.1 bt486.2.2.2))))))))))))
theorem laws_FnMans.mono_l : ∀ k,(∀ y0 y1 y2 y3 y4 y5 y6 y7,LeO (laws_FnMans.j0 k y0 y1 y2 y3 y4 y5 y6 y7) (laws_FnMans.j0 (k + 1) y0 y1 y2 y3 y4 y5 y6 y7)) ∧ (∀ y0 y1 y2 y3 y4 y5 y6 y7,LeO (laws_FnMans.l0 k y0 y1 y2 y3 y4 y5 y6 y7) (laws_FnMans.l0 (k + 1) y0 y1 y2 y3 y4 y5 y6 y7))
 | 0 => ⟨fun _ _ _ _ _ _ _ _ r h => by simp [laws_FnMans.j0] at h,fun _ _ _ _ _ _ _ _ r h => by simp [laws_FnMans.l0] at h⟩
 | k + 1 => by
  obtain ⟨ih0,ih1⟩ := laws_FnMans.mono_l k
  refine ⟨?_,?_⟩
  ·intro y0 y1 y2 y3 y4 y5 y6 y7
   unfold laws_FnMans.j0
   repeat' first
   | (with_reducible exact ih0 _ _ _ _ _ _ _ _)
   | (with_reducible exact ih1 _ _ _ _ _ _ _ _)
   | (with_reducible exact impl_GetMan.mono _ _ _)
   | (with_reducible exact impl_ManOf.mono _ _ _ _)
   | (with_reducible exact impl_ManOk.mono _ _ _ _ _)
   | (with_reducible exact impl_PutMan.mono _ _ _ _ _ _)
   | (with_reducible exact impl_Tells.mono _ _ _ _ _ _)
   | (with_reducible exact laws_sameMan.mono _ _ _ _ _ _ _ _ _)
   | (with_reducible exact spec_DrawImage.mono _ _)
   | (with_reducible exact spec_DrawManOf.mono _ _)
   | (with_reducible exact spec_DrawTells.mono _ _)
   | (with_reducible exact spec_ManOf.mono _ _ _ _)
   | (with_reducible exact spec_Tells.mono _ _ _ _ _ _)
   | (with_reducible exact LeO.refl _)
   | (with_reducible exact LeO.none _)
   | (with_reducible refine LeO.ite ?_ ?_)
   | (with_reducible refine LeO.bind ?_ (fun _ => ?_))
   | exact ih0 _ _ _ _ _ _ _ _
   | exact ih1 _ _ _ _ _ _ _ _
   | exact impl_GetMan.mono _ _ _
   | exact impl_ManOf.mono _ _ _ _
   | exact impl_ManOk.mono _ _ _ _ _
   | exact impl_PutMan.mono _ _ _ _ _ _
   | exact impl_Tells.mono _ _ _ _ _ _
   | exact laws_sameMan.mono _ _ _ _ _ _ _ _ _
   | exact spec_DrawImage.mono _ _
   | exact spec_DrawManOf.mono _ _
   | exact spec_DrawTells.mono _ _
   | exact spec_ManOf.mono _ _ _ _
   | exact spec_Tells.mono _ _ _ _ _ _
   | exact LeO.none _
   | refine LeO.ite ?_ ?_
   | refine LeO.bind ?_ (fun _ => ?_)
  ·intro y0 y1 y2 y3 y4 y5 y6 y7
   unfold laws_FnMans.l0
   repeat' first
   | (with_reducible exact ih0 _ _ _ _ _ _ _ _)
   | (with_reducible exact ih1 _ _ _ _ _ _ _ _)
   | (with_reducible exact impl_GetMan.mono _ _ _)
   | (with_reducible exact impl_ManOf.mono _ _ _ _)
   | (with_reducible exact impl_ManOk.mono _ _ _ _ _)
   | (with_reducible exact impl_PutMan.mono _ _ _ _ _ _)
   | (with_reducible exact impl_Tells.mono _ _ _ _ _ _)
   | (with_reducible exact laws_sameMan.mono _ _ _ _ _ _ _ _ _)
   | (with_reducible exact spec_DrawImage.mono _ _)
   | (with_reducible exact spec_DrawManOf.mono _ _)
   | (with_reducible exact spec_DrawTells.mono _ _)
   | (with_reducible exact spec_ManOf.mono _ _ _ _)
   | (with_reducible exact spec_Tells.mono _ _ _ _ _ _)
   | (with_reducible exact LeO.refl _)
   | (with_reducible exact LeO.none _)
   | (with_reducible refine LeO.ite ?_ ?_)
   | (with_reducible refine LeO.bind ?_ (fun _ => ?_))
   | exact ih0 _ _ _ _ _ _ _ _
   | exact ih1 _ _ _ _ _ _ _ _
   | exact impl_GetMan.mono _ _ _
   | exact impl_ManOf.mono _ _ _ _
   | exact impl_ManOk.mono _ _ _ _ _
   | exact impl_PutMan.mono _ _ _ _ _ _
   | exact impl_Tells.mono _ _ _ _ _ _
   | exact laws_sameMan.mono _ _ _ _ _ _ _ _ _
   | exact spec_DrawImage.mono _ _
   | exact spec_DrawManOf.mono _ _
   | exact spec_DrawTells.mono _ _
   | exact spec_ManOf.mono _ _ _ _
   | exact spec_Tells.mono _ _ _ _ _ _
   | exact LeO.none _
   | refine LeO.ite ?_ ?_
   | refine LeO.bind ?_ (fun _ => ?_)
theorem laws_FnMans.mono : ∀ a0 k,LeO (laws_FnMans.f k a0) (laws_FnMans.f (k + 1) a0) := by
 intro a0 k
 obtain ⟨ih0,ih1⟩ := laws_FnMans.mono_l k
 unfold laws_FnMans.f
 repeat' first
   | (with_reducible exact ih0 _ _ _ _ _ _ _ _)
   | (with_reducible exact ih1 _ _ _ _ _ _ _ _)
   | (with_reducible exact impl_GetMan.mono _ _ _)
   | (with_reducible exact impl_ManOf.mono _ _ _ _)
   | (with_reducible exact impl_ManOk.mono _ _ _ _ _)
   | (with_reducible exact impl_PutMan.mono _ _ _ _ _ _)
   | (with_reducible exact impl_Tells.mono _ _ _ _ _ _)
   | (with_reducible exact laws_sameMan.mono _ _ _ _ _ _ _ _ _)
   | (with_reducible exact spec_DrawImage.mono _ _)
   | (with_reducible exact spec_DrawManOf.mono _ _)
   | (with_reducible exact spec_DrawTells.mono _ _)
   | (with_reducible exact spec_ManOf.mono _ _ _ _)
   | (with_reducible exact spec_Tells.mono _ _ _ _ _ _)
   | (with_reducible exact LeO.refl _)
   | (with_reducible exact LeO.none _)
   | (with_reducible refine LeO.ite ?_ ?_)
   | (with_reducible refine LeO.bind ?_ (fun _ => ?_))
   | exact ih0 _ _ _ _ _ _ _ _
   | exact ih1 _ _ _ _ _ _ _ _
   | exact impl_GetMan.mono _ _ _
   | exact impl_ManOf.mono _ _ _ _
   | exact impl_ManOk.mono _ _ _ _ _
   | exact impl_PutMan.mono _ _ _ _ _ _
   | exact impl_Tells.mono _ _ _ _ _ _
   | exact laws_sameMan.mono _ _ _ _ _ _ _ _ _
   | exact spec_DrawImage.mono _ _
   | exact spec_DrawManOf.mono _ _
   | exact spec_DrawTells.mono _ _
   | exact spec_ManOf.mono _ _ _ _
   | exact spec_Tells.mono _ _ _ _ _ _
   | exact LeO.none _
   | refine LeO.ite ?_ ?_
   | refine LeO.bind ?_ (fun _ => ?_)
def laws_FnMans.T8 : Bool × List (List Nat × List Nat) := (true,[([],[]),([],[]),([],[]),([0,1,2],[0,1,2]),([],[]),([],[]),([],[]),([4,5,6,3],[4,5,6]),([3,7,7],[3,7]),([8],[8]),([9,8],[9]),([10],[10]),([10],[10]),([11,12,10,10],[10,11,12]),([10],[10]),([10],[10]),([14,15,13,10],[10,14,15]),([13,16,10],[10,13,16]),([10,17],[10,17]),([18,16],[18]),([19],[19]),([20,19,19],[19,20]),([21,19],[19,21]),([19,22],[19,22]),([23,21],[23]),([24],[24]),([25,24],[24,25]),([24,26],[24,26]),([27,24],[27]),([28],[28]),([28],[28]),([29,30,28,28],[28,29,30]),([31,28],[28,31]),([28,32],[28,32]),([33,31],[33]),([34],[34]),([34],[34]),([34],[34]),([36,37,34,34],[34,36,37]),([38,34],[34,38]),([35,39,34],[34,35,39]),([34,40],[34,40]),([41,38],[41]),([42],[42]),([42],[42]),([43,44,42,42],[42,43,44]),([45,42],[42,45]),([42,46],[42,46])])
def laws_FnMans.B8 : List Nat := [0,0,0,7,0,0,0,127,255,511,1023,2047,2047,8191,2047,2047,65535,131071,262143,524287,1048575,2097151,4194303,8388607,16777215,33554431,67108863,134217727,268435455,536870911,536870911,2147483647,4294967295,8589934591,17179869183,34359738367,34359738367,34359738367,240518168575,515396075519,1099511627775,2199023255551,4398046511103,8796093022207,8796093022207,35184372088831,70368744177663,140737488355327]
theorem laws_FnMans.tab8 : rtab .any (opsOf Try.f9 8) = laws_FnMans.T8 := by kernel_rfl
theorem laws_FnMans.bits8 : waitsOk laws_FnMans.T8.2 laws_FnMans.B8 = true := by kernel_rfl
def laws_FnMans.T14 : Bool × List (List Nat × List Nat) := (true,[([],[]),([],[]),([],[]),([],[]),([2,3],[2,3]),([4],[4]),([5],[5]),([],[]),([],[]),([7,8],[7,8]),([9],[9]),([10],[10]),([6,11],[6,11]),([0,1,0,1,2,3,4,5,6,7,8,9,10,11,12],[0,1]),([13,12,9,0,1,2,3,4,5,6,7,8,9,10,11,12],[12,13])])
def laws_FnMans.B14 : List Nat := [0,0,0,0,12,28,60,0,0,384,896,1920,4092,8191,16383]
theorem laws_FnMans.tab14 : rtab .any (opsOf Try.f9 14) = laws_FnMans.T14 := by kernel_rfl
theorem laws_FnMans.bits14 : waitsOk laws_FnMans.T14.2 laws_FnMans.B14 = true := by kernel_rfl
theorem laws_FnMans.dead0 (k : Nat) (a0 : List Int) (a1 : List Int) (a2 : Int) (a4 : Int) (a5 : Int) (a6 : Int) (a7 : List (S66)) (h : laws_FnMans.j0 k a0 a1 a2 true a4 a5 a6 a7 = some true) : False := by
 cases k <;> simp [laws_FnMans.j0] at h
set_option maxHeartbeats 8000000 in
set_option maxRecDepth 100000 in
theorem laws_FnMans.calls (k : Nat) (A0 : Option Addr) (c0 : Nat) (l0 : List Int) (r : Bool) (w : World) (hr0 : Kd.C (Kd.int .u8) w A0 l0.length l0) (hc0 : l0.length ≤ c0) (h : laws_FnMans.f k l0 = some r) (hrt : r = true) :
  Calls Try.prog 9 #[.slice A0 l0.length c0] w fun e w' => e = .returned (.bool r) ∧ Below w.heap.size w w' := by
 have hu31 := Try.underlying31
 have HR0 := Aside0.mk hr0
 have HC0 := Aside0.mk hc0
 clear hr0 hc0
 have HB := Aside0.mk (Below.refl w.heap.size w)
 have H : ((laws_big.f l0).bind fun t480 => (if t480 = true then (some true) else ((spec_DrawImage.f k l0).bind fun bt481 => ((impl_ManOf.f k bt481.2.1 bt481.1 bt481.2.2).bind fun bt486 => ((impl_PutMan.f k (([7] : List Int)) bt486.1 bt486.2.1 bt486.2.2.1 bt486.2.2.2).bind fun t496 => ((impl_GetMan.f k t496 1).bind fun bt499 => ((spec_DrawManOf.f k l0).bind fun bt508 => ((spec_DrawTells.f k l0).bind fun bt513 => ((impl_ManOf.f k bt508.1 bt508.2.1 bt508.2.2).bind fun bt523 => ((spec_ManOf.f k bt508.1 bt508.2.1 bt508.2.2).bind fun bt529 => ((laws_sameMan.f k bt523.1 bt523.2.1 bt523.2.2.1 bt523.2.2.2 bt529.1 bt529.2.1 bt529.2.2.1 bt529.2.2.2).bind fun t535 => (if t535 = true then ((impl_Tells.f k bt513.1 bt513.2.1 bt513.2.2.1 bt513.2.2.2.1 bt513.2.2.2.2).bind fun t536 => ((spec_Tells.f k bt513.1 bt513.2.1 bt513.2.2.1 bt513.2.2.2.1 bt513.2.2.2.2).bind fun t537 => (if (t536 != t537) = true then (laws_FnMans.j0 k l0 bt481.1 bt481.2.2 true bt486.1 bt486.2.1 bt486.2.2.1 bt486.2.2.2) else ((impl_ManOk.f k bt486.1 bt486.2.1 bt486.2.2.1 bt486.2.2.2).bind fun t538 => (if t538 = true then (if bt499.2.2.2.2.2 = true then ((laws_sameMan.f k bt499.1 bt499.2.1 bt499.2.2.1 bt499.2.2.2.1 bt486.1 bt486.2.1 bt486.2.2.1 bt486.2.2.2).bind fun t539 => (if t539 = true then ((impl_PutMan.f k (([7] : List Int)) bt486.1 bt486.2.1 bt486.2.2.1 bt486.2.2.2).bind fun t543 => (if bt499.2.2.2.2.1 = (t543.length : Int) then ((impl_Tells.f k bt486.1 bt486.2.1 bt486.2.2.1 bt486.2.2.2 bt481.1).bind fun t546 => (laws_FnMans.j0 k l0 bt481.1 bt481.2.2 (!t546) bt486.1 bt486.2.1 bt486.2.2.1 bt486.2.2.2)) else (laws_FnMans.j0 k l0 bt481.1 bt481.2.2 true bt486.1 bt486.2.1 bt486.2.2.1 bt486.2.2.2))) else (laws_FnMans.j0 k l0 bt481.1 bt481.2.2 true bt486.1 bt486.2.1 bt486.2.2.1 bt486.2.2.2))) else (laws_FnMans.j0 k l0 bt481.1 bt481.2.2 true bt486.1 bt486.2.1 bt486.2.2.1 bt486.2.2.2)) else (laws_FnMans.j0 k l0 bt481.1 bt481.2.2 true bt486.1 bt486.2.1 bt486.2.2.1 bt486.2.2.2)))))) else (laws_FnMans.j0 k l0 bt481.1 bt481.2.2 true bt486.1 bt486.2.1 bt486.2.2.1 bt486.2.2.2))))))))))))) = some r := h
 clear h
 replace H := Option.bind_eq_some_iff.mp H
 obtain ⟨t480,A20,H⟩ := H
 (try dsimp only at H)
 have A2 := Aside0.mk A20
 clear A20
 by_cases c3 : t480 = true
 ·subst c3
  rw [if_pos rfl] at H
  obtain rfl := Option.some.inj H
  go_enter Try.func9,Try.ntmps9
  go_wp2_with (first | ((with_reducible refine gate_callee (f := 34) rfl ?_);refine goesL_ (some 18) rfl rfl Try.func34 (by kernel_rfl) rfl #[.slice A0 l0.length c0] rfl eq_up ?_;(with_reducible refine (laws_big.calls _ _ l0 true _ ?side1 ?side2 A2.out).mono ?_);(case side1 => exact Kd.C_up HR0.out);(case side2 => exact HC0.out);rintro e w' ⟨rfl,⟨nd,rfl⟩⟩;refine ⟨_,rfl,?_⟩))
  go_ret
  exact ⟨by first | rfl | (simp [errW_none,errW_some] <;> rfl) | (simp [*,errW_none,errW_some] <;> rfl),by repeat (first | (with_reducible first | exact HB.out | apply below_alloc | apply pw_below_drewN | apply below_drew1) | exact HB.out)⟩
 ·replace c3 := Bool.eq_false_iff.mpr c3
  subst c3
  have H1 : ((spec_DrawImage.f k l0).bind fun bt481 => ((impl_ManOf.f k bt481.2.1 bt481.1 bt481.2.2).bind fun bt486 => ((impl_PutMan.f k (([7] : List Int)) bt486.1 bt486.2.1 bt486.2.2.1 bt486.2.2.2).bind fun t496 => ((impl_GetMan.f k t496 1).bind fun bt499 => ((spec_DrawManOf.f k l0).bind fun bt508 => ((spec_DrawTells.f k l0).bind fun bt513 => ((impl_ManOf.f k bt508.1 bt508.2.1 bt508.2.2).bind fun bt523 => ((spec_ManOf.f k bt508.1 bt508.2.1 bt508.2.2).bind fun bt529 => ((laws_sameMan.f k bt523.1 bt523.2.1 bt523.2.2.1 bt523.2.2.2 bt529.1 bt529.2.1 bt529.2.2.1 bt529.2.2.2).bind fun t535 => (if t535 = true then ((impl_Tells.f k bt513.1 bt513.2.1 bt513.2.2.1 bt513.2.2.2.1 bt513.2.2.2.2).bind fun t536 => ((spec_Tells.f k bt513.1 bt513.2.1 bt513.2.2.1 bt513.2.2.2.1 bt513.2.2.2.2).bind fun t537 => (if (t536 != t537) = true then (laws_FnMans.j0 k l0 bt481.1 bt481.2.2 true bt486.1 bt486.2.1 bt486.2.2.1 bt486.2.2.2) else ((impl_ManOk.f k bt486.1 bt486.2.1 bt486.2.2.1 bt486.2.2.2).bind fun t538 => (if t538 = true then (if bt499.2.2.2.2.2 = true then ((laws_sameMan.f k bt499.1 bt499.2.1 bt499.2.2.1 bt499.2.2.2.1 bt486.1 bt486.2.1 bt486.2.2.1 bt486.2.2.2).bind fun t539 => (if t539 = true then ((impl_PutMan.f k (([7] : List Int)) bt486.1 bt486.2.1 bt486.2.2.1 bt486.2.2.2).bind fun t543 => (if bt499.2.2.2.2.1 = (t543.length : Int) then ((impl_Tells.f k bt486.1 bt486.2.1 bt486.2.2.1 bt486.2.2.2 bt481.1).bind fun t546 => (laws_FnMans.j0 k l0 bt481.1 bt481.2.2 (!t546) bt486.1 bt486.2.1 bt486.2.2.1 bt486.2.2.2)) else (laws_FnMans.j0 k l0 bt481.1 bt481.2.2 true bt486.1 bt486.2.1 bt486.2.2.1 bt486.2.2.2))) else (laws_FnMans.j0 k l0 bt481.1 bt481.2.2 true bt486.1 bt486.2.1 bt486.2.2.1 bt486.2.2.2))) else (laws_FnMans.j0 k l0 bt481.1 bt481.2.2 true bt486.1 bt486.2.1 bt486.2.2.1 bt486.2.2.2)) else (laws_FnMans.j0 k l0 bt481.1 bt481.2.2 true bt486.1 bt486.2.1 bt486.2.2.1 bt486.2.2.2)))))) else (laws_FnMans.j0 k l0 bt481.1 bt481.2.2 true bt486.1 bt486.2.1 bt486.2.2.1 bt486.2.2.2))))))))))) = some r := by rw [if_neg (show ¬ (false = true) by decide)] at H;exact H
  clear H
  have H := H1
  clear H1
  replace H := Option.bind_eq_some_iff.mp H
  obtain ⟨⟨t481,t482,t483⟩,A40,H⟩ := H
  (try dsimp only at H)
  have A4 := Aside0.mk A40
  clear A40
  replace H := Option.bind_eq_some_iff.mp H
  obtain ⟨⟨t486,t487,t488,t489⟩,A50,H⟩ := H
  (try dsimp only at H)
  have A5 := Aside0.mk A50
  clear A50
  obtain ⟨y493,hy493⟩ : ∃ y_ : List Int,y_ = (([7] : List Int)) := ⟨_,rfl⟩
  replace H : ((impl_PutMan.f k y493 t486 t487 t488 t489).bind fun t496 => ((impl_GetMan.f k t496 1).bind fun bt499 => ((spec_DrawManOf.f k l0).bind fun bt508 => ((spec_DrawTells.f k l0).bind fun bt513 => ((impl_ManOf.f k bt508.1 bt508.2.1 bt508.2.2).bind fun bt523 => ((spec_ManOf.f k bt508.1 bt508.2.1 bt508.2.2).bind fun bt529 => ((laws_sameMan.f k bt523.1 bt523.2.1 bt523.2.2.1 bt523.2.2.2 bt529.1 bt529.2.1 bt529.2.2.1 bt529.2.2.2).bind fun t535 => (if t535 = true then ((impl_Tells.f k bt513.1 bt513.2.1 bt513.2.2.1 bt513.2.2.2.1 bt513.2.2.2.2).bind fun t536 => ((spec_Tells.f k bt513.1 bt513.2.1 bt513.2.2.1 bt513.2.2.2.1 bt513.2.2.2.2).bind fun t537 => (if (t536 != t537) = true then (laws_FnMans.j0 k l0 t481 t483 true t486 t487 t488 t489) else ((impl_ManOk.f k t486 t487 t488 t489).bind fun t538 => (if t538 = true then (if bt499.2.2.2.2.2 = true then ((laws_sameMan.f k bt499.1 bt499.2.1 bt499.2.2.1 bt499.2.2.2.1 t486 t487 t488 t489).bind fun t539 => (if t539 = true then ((impl_PutMan.f k (([7] : List Int)) t486 t487 t488 t489).bind fun t543 => (if bt499.2.2.2.2.1 = (t543.length : Int) then ((impl_Tells.f k t486 t487 t488 t489 t481).bind fun t546 => (laws_FnMans.j0 k l0 t481 t483 (!t546) t486 t487 t488 t489)) else (laws_FnMans.j0 k l0 t481 t483 true t486 t487 t488 t489))) else (laws_FnMans.j0 k l0 t481 t483 true t486 t487 t488 t489))) else (laws_FnMans.j0 k l0 t481 t483 true t486 t487 t488 t489)) else (laws_FnMans.j0 k l0 t481 t483 true t486 t487 t488 t489)))))) else (laws_FnMans.j0 k l0 t481 t483 true t486 t487 t488 t489))))))))) = some r := by first | (rw [hy493];with_reducible exact H) | (have H2_ := (Option.bind_some _ _).symm.trans H;rw [hy493];with_reducible exact H2_) | (have H2_ := (Option.bind_some _ _).symm.trans H;with_reducible exact H2_) | with_reducible exact H | (rw [hy493];exact H) | exact H
  have Ny493 := Aside0.mk hy493
  clear hy493
  replace H := Option.bind_eq_some_iff.mp H
  obtain ⟨t496,A60,H⟩ := H
  (try dsimp only at H)
  have A6 := Aside0.mk A60
  clear A60
  replace H := Option.bind_eq_some_iff.mp H
  obtain ⟨⟨t499,t500,t501,t502,t505,t506⟩,A70,H⟩ := H
  (try dsimp only at H)
  have A7 := Aside0.mk A70
  clear A70
  replace H := Option.bind_eq_some_iff.mp H
  obtain ⟨⟨t508,t509,t510⟩,A80,H⟩ := H
  (try dsimp only at H)
  have A8 := Aside0.mk A80
  clear A80
  replace H := Option.bind_eq_some_iff.mp H
  obtain ⟨⟨t513,t514,t515,t516,t519⟩,A90,H⟩ := H
  (try dsimp only at H)
  have A9 := Aside0.mk A90
  clear A90
  have HC10 := Aside0.mk H
  clear H
  go_enter Try.func9,Try.ntmps9
  go_upto_region 8 with (first | ((with_reducible refine gate_callee (f := 34) rfl ?_);refine goesL_ (some 18) rfl rfl Try.func34 (by kernel_rfl) rfl #[.slice A0 l0.length c0] rfl eq_up ?_;(with_reducible refine (laws_big.calls _ _ l0 false _ ?side1 ?side2 A2.out).mono ?_);(case side1 => exact Kd.C_up HR0.out);(case side2 => exact HC0.out);rintro e w' ⟨rfl,⟨nd,rfl⟩⟩;refine ⟨_,rfl,?_⟩) | ((with_reducible refine gate_callee (f := 35) rfl ?_);refine goesL_ (some 21) rfl rfl Try.func35 (by kernel_rfl) rfl #[.slice A0 l0.length c0] rfl eq_up ?_;(with_reducible refine (spec_DrawImage.calls k _ _ l0 t481 t482 t483 _ ?side1 ?side2 A4.out).mono ?_);(case side1 => exact Kd.C_up HR0.out);(case side2 => exact HC0.out);rintro e w11 ⟨v484,rfl,ho0,hb⟩;refine ⟨_,rfl,?_⟩;have n0_ := Aside0.mk (Kd.R_lower ho0 (below_size (B_up HB.out)));have n1_ := Aside0.mk (below_step (B_up HB.out) hb);clear HB;have HO485 := n0_;have HB := n1_;clear n0_ n1_;(try clear hb);(try clear hb2);(try clear hk);(try clear hi);(try clear ho0);obtain ⟨Ao12,co12,eo12⟩ := Kd.R_slice HO485.out;subst eo12) | ((with_reducible refine gate_callee (f := 36) rfl ?_);refine goesL_ (some 28) rfl rfl Try.func36 (by kernel_rfl) rfl #[.int .i64 t482,.slice Ao12 t481.length co12,.int .i64 t483] rfl eq_up ?_;(with_reducible refine (impl_ManOf.calls k t482 _ _ t481 t483 t486 t487 t488 t489 _ ?side1 ?side2 A5.out).mono ?_);(case side1 => exact Kd.C_up (Kd.R_reads' HO485.out).2.2);(case side2 => exact (Kd.R_reads' HO485.out).2.1);rintro e w13 ⟨v490,rfl,ho0,hb⟩;refine ⟨_,rfl,?_⟩;have n0_ := Aside0.mk (Kd.R_below (Kd.R_up HO485.out) hb);have n1_ := Aside0.mk (Kd.R_lower ho0 (below_size (B_up HB.out)));have n2_ := Aside0.mk (below_step (B_up HB.out) hb);clear HO485;clear HB;have HO485 := n0_;have HO491 := n1_;have HB := n2_;clear n0_ n1_ n2_;(try clear hb);(try clear hb2);(try clear hk);(try clear hi);(try clear ho0)) | ((with_reducible refine gate_dst (N := 6) rfl ?_);(try (refine gate_guard (by rfl) ?_;dsimp only));refine box_event ?hg (N := 6) ?hd (cs := #[.int .i64 0,.int .i64 0,.int .i64 0,.slice none 0 0]) (t := 31) ?hr ?_;(case hd => rfl);(case hg => rfl);(case hr => first | (go_simp;done) | (go_simp;rfl));intro gb492 hg w14 hbox hb;have n0_ := Aside0.mk (Kd.R_below (Kd.R_up HO485.out) hb);have n1_ := Aside0.mk (Kd.R_below (Kd.R_up HO491.out) hb);have n2_ := Aside0.mk (below_step (B_up HB.out) hb);have n3_ := Aside0.mk (hbox);have n4_ := Aside0.mk ((by rw [hg];exact (below_size (B_up HB.out)) : w.heap.size ≤ gb492));have n5_ := Aside0.mk ((by rw [hg];exact (below_size (B_up HB.out)) : w.heap.size ≤ gb492));clear HO485;clear HO491;clear HB;have HO485 := n0_;have HO491 := n1_;have HB := n2_;have BK492 := n3_;have GW492 := n4_;have GE492 := n5_;clear n0_ n1_ n2_ n3_ n4_ n5_;clear hb hbox hg;have hcz15_0 : w14.cell? ⟨gb492,0,none⟩ = some (.int .i64 0) := (blk_cell BK492.out 0).trans rfl;have hcz15_1 : w14.cell? ⟨gb492,1,none⟩ = some (.int .i64 0) := (blk_cell BK492.out 1).trans rfl;have hcz15_2 : w14.cell? ⟨gb492,2,none⟩ = some (.int .i64 0) := (blk_cell BK492.out 2).trans rfl;have hcz15_3 : w14.cell? ⟨gb492,3,none⟩ = some (.slice none 0 0) := (blk_cell BK492.out 3).trans rfl;have hfz15_0 := blk_frozen BK492.out 0;have hfz15_1 := blk_frozen BK492.out 1;have hfz15_2 := blk_frozen BK492.out 2;have hfz15_3 := blk_frozen BK492.out 3;obtain ⟨Ao16,co16,eo16⟩ := Kd.R_slice HO491.out;subst eo16) | ((with_reducible refine gate_dst (N := 30) rfl ?_);(try (refine gate_guard (by rfl) ?_;dsimp only));refine Kd.R_lit (Kd.int .u8) _ 5 ?hg (N := 30) ?hd (xs := ([7] : List Int)) (inner := [.int .u8 7]) (ok := fun _ => True) (okp := fun _ => True) ?hr ?hp (fun _ hk => hk) trivial (Below.refl _ _) (Nat.le_refl _) (by simp) ?_;(case hd => rfl);(case hg => rfl);(case hr => first | (go_simp;done) | (go_simp;rfl));(case hp => exact (Reps.one (show Kd.M (Kd.int .u8) _ _ _ 7 [.int .u8 7] from rfl) (Reps.none _ _)));intro v494 w17 ho18 hb hg_ hnew_;clear hg_ hnew_;(first | rw [← Ny493.out] at ho18 | (simp only [Int.reduceToNat] at ho18;rw [← Ny493.out] at ho18));have n0_ := Aside0.mk (Kd.R_elder' (by (with_reducible repeat (first | apply Kd.R_alloc | apply Kd.R_drewN | apply Kd.R_drew));exact (Kd.R_mono (Kd.R_far (p := ⟨gb492,3,none⟩) (Kd.R_far (p := ⟨gb492,2,none⟩) (Kd.R_far (p := ⟨gb492,1,none⟩) (Kd.R_far (p := ⟨gb492,0,none⟩) (Kd.R_types HO485.out BK492.out (by decide)) (fun _ hk => hk.2) (.int .i64 t486)) (fun _ hk => hk.2) (.int .i64 t487)) (fun _ hk => hk.2) (.int .i64 t488)) (fun _ hk => hk.2) (.slice Ao16 t489.length co16)) (fun _ h_ => h_.1))) (Kd.R_base ho18) hb);have n1_ := Aside0.mk (Kd.R_below (by (with_reducible repeat (first | apply Kd.R_alloc | apply Kd.R_drewN | apply Kd.R_drew));exact (Kd.R_mono (Kd.R_far (p := ⟨gb492,3,none⟩) (Kd.R_far (p := ⟨gb492,2,none⟩) (Kd.R_far (p := ⟨gb492,1,none⟩) (Kd.R_far (p := ⟨gb492,0,none⟩) (Kd.R_types HO491.out BK492.out (by decide)) (fun _ hk => hk.2) (.int .i64 t486)) (fun _ hk => hk.2) (.int .i64 t487)) (fun _ hk => hk.2) (.int .i64 t488)) (fun _ hk => hk.2) (.slice Ao16 t489.length co16)) (fun _ h_ => h_.1))) hb);have n2_ := Aside0.mk (Kd.R_lower (Kd.R_new' ho18 (Kd.R_lt (by (with_reducible repeat (first | apply Kd.R_alloc | apply Kd.R_drewN | apply Kd.R_drew));exact (Kd.R_mono (Kd.R_far (p := ⟨gb492,3,none⟩) (Kd.R_far (p := ⟨gb492,2,none⟩) (Kd.R_far (p := ⟨gb492,1,none⟩) (Kd.R_far (p := ⟨gb492,0,none⟩) (Kd.R_types HO485.out BK492.out (by decide)) (fun _ hk => hk.2) (.int .i64 t486)) (fun _ hk => hk.2) (.int .i64 t487)) (fun _ hk => hk.2) (.int .i64 t488)) (fun _ hk => hk.2) (.slice Ao16 t489.length co16)) (fun _ h_ => h_.1))))) (below_size (B_set HB.out)));have n3_ := Aside0.mk (blk_below (g := gb492) (o := .cells #[.int .i64 t486,.int .i64 t487,.int .i64 t488,.slice Ao16 t489.length co16] 31 (0,0)) (by (with_reducible repeat (first | refine blk_drewN ?_ _ | refine blk_drew ?_ | refine blk_alloc ?_ _));refine blk_put (cs := #[.int .i64 t486,.int .i64 t487,.int .i64 t488,.slice none 0 0]) ?_ 3 _ rfl;(with_reducible repeat (first | refine blk_drewN ?_ _ | refine blk_drew ?_ | refine blk_alloc ?_ _));refine blk_put (cs := #[.int .i64 t486,.int .i64 t487,.int .i64 0,.slice none 0 0]) ?_ 2 _ rfl;(with_reducible repeat (first | refine blk_drewN ?_ _ | refine blk_drew ?_ | refine blk_alloc ?_ _));refine blk_put (cs := #[.int .i64 t486,.int .i64 0,.int .i64 0,.slice none 0 0]) ?_ 1 _ rfl;(with_reducible repeat (first | refine blk_drewN ?_ _ | refine blk_drew ?_ | refine blk_alloc ?_ _));refine blk_put (cs := #[.int .i64 0,.int .i64 0,.int .i64 0,.slice none 0 0]) ?_ 0 _ rfl;(with_reducible repeat (first | refine blk_drewN ?_ _ | refine blk_drew ?_ | refine blk_alloc ?_ _));exact BK492.out) hb);have n4_ := Aside0.mk (below_step (B_set HB.out) hb);clear HO485;clear HO491;clear BK492;clear HB;have HO485 := n0_;have HO491 := n1_;have HO495 := n2_;have BK492 := n3_;have HB := n4_;clear n0_ n1_ n2_ n3_ n4_;clear hb ho18;have hcz19_0 : w17.cell? ⟨gb492,0,none⟩ = some (.int .i64 t486) := (blk_cell BK492.out 0).trans rfl;have hcz19_1 : w17.cell? ⟨gb492,1,none⟩ = some (.int .i64 t487) := (blk_cell BK492.out 1).trans rfl;have hcz19_2 : w17.cell? ⟨gb492,2,none⟩ = some (.int .i64 t488) := (blk_cell BK492.out 2).trans rfl;have hcz19_3 : w17.cell? ⟨gb492,3,none⟩ = some (.slice Ao16 t489.length co16) := (blk_cell BK492.out 3).trans rfl;have hfz19_0 := blk_frozen BK492.out 0;have hfz19_1 := blk_frozen BK492.out 1;have hfz19_2 := blk_frozen BK492.out 2;have hfz19_3 := blk_frozen BK492.out 3;obtain ⟨Ao20,co20,eo20⟩ := Kd.R_slice HO495.out;subst eo20) | ((with_reducible refine gate_callee (f := 29) rfl ?_);refine goesL_ (some 32) rfl rfl Try.func29 (by kernel_rfl) rfl #[.slice Ao20 y493.length co20,.agg #[.int .i64 t486,.int .i64 t487,.int .i64 t488,.slice Ao16 t489.length co16]] rfl eq_up ?_;(with_reducible refine (impl_PutMan.calls k _ _ y493 t486 t487 t488 _ _ t489 t496 _ ?side1 ?side2 ?side3 ?side4 A6.out).mono ?_);(case side1 => exact Kd.C_up (Kd.R_reads' HO495.out).2.2);(case side2 => exact (Kd.R_reads' HO495.out).2.1);(case side3 => exact Kd.C_up (Kd.R_reads' HO491.out).2.2);(case side4 => exact (Kd.R_reads' HO491.out).2.1);rintro e w21 ⟨v497,rfl,ho0,hb⟩;refine ⟨_,rfl,?_⟩;have n0_ := Aside0.mk (Kd.R_elder' (Kd.R_up HO485.out) (Kd.R_base ho0) hb);have n1_ := Aside0.mk (Kd.R_below (Kd.R_up HO491.out) hb);have n2_ := Aside0.mk (Kd.R_elder' (Kd.R_up HO495.out) (Kd.R_base ho0) hb);have n3_ := Aside0.mk (Kd.R_lower (Kd.R_new' (Kd.R_new' ho0 (Kd.R_lt (Kd.R_up HO485.out))) (Kd.R_lt (Kd.R_up HO495.out))) (below_size (B_set HB.out)));have n4_ := Aside0.mk (blk_below (g := gb492) (o := .cells #[.int .i64 t486,.int .i64 t487,.int .i64 t488,.slice Ao16 t489.length co16] 31 (0,0)) (blk_up BK492.out) hb);have n5_ := Aside0.mk (below_step (B_set HB.out) hb);clear HO485;clear HO491;clear HO495;clear BK492;clear HB;have HO485 := n0_;have HO491 := n1_;have HO495 := n2_;have HO498 := n3_;have BK492 := n4_;have HB := n5_;clear n0_ n1_ n2_ n3_ n4_ n5_;(try clear hb);(try clear hb2);(try clear hk);(try clear hi);(try clear ho0);obtain ⟨Ao22,co22,eo22⟩ := Kd.R_slice HO498.out;subst eo22) | ((with_reducible refine gate_callee (f := 32) rfl ?_);refine goesL_ (some 33) rfl rfl Try.func32 (by kernel_rfl) rfl #[.slice Ao22 t496.length co22,.int .i64 1] rfl eq_up ?_;(with_reducible refine (impl_GetMan.calls k _ _ t496 1 t499 t500 t501 t502 t505 t506 _ ?side1 ?side2 A7.out).mono ?_);(case side1 => exact Kd.C_up (Kd.R_reads' HO498.out).2.2);(case side2 => exact (Kd.R_reads' HO498.out).2.1);rintro e w23 ⟨v503,rfl,ho0,hb⟩;refine ⟨_,rfl,?_⟩;have n0_ := Aside0.mk (Kd.R_below (Kd.R_up HO485.out) hb);have n1_ := Aside0.mk (Kd.R_elder' (Kd.R_up HO491.out) (Kd.R_base ho0) hb);have n2_ := Aside0.mk (Kd.R_below (Kd.R_up HO495.out) hb);have n3_ := Aside0.mk (Kd.R_below (Kd.R_up HO498.out) hb);have n4_ := Aside0.mk (Kd.R_lower (Kd.R_new' ho0 (Kd.R_lt (Kd.R_up HO491.out))) (below_size (B_set HB.out)));have n5_ := Aside0.mk (blk_below (g := gb492) (o := .cells #[.int .i64 t486,.int .i64 t487,.int .i64 t488,.slice Ao16 t489.length co16] 31 (0,0)) (blk_up BK492.out) hb);have n6_ := Aside0.mk (below_step (B_set HB.out) hb);clear HO485;clear HO491;clear HO495;clear HO498;clear BK492;clear HB;have HO485 := n0_;have HO491 := n1_;have HO495 := n2_;have HO498 := n3_;have HO504 := n4_;have BK492 := n5_;have HB := n6_;clear n0_ n1_ n2_ n3_ n4_ n5_ n6_;(try clear hb);(try clear hb2);(try clear hk);(try clear hi);(try clear ho0)) | ((with_reducible refine gate_dst (N := 7) rfl ?_);(try (refine gate_guard (by rfl) ?_;dsimp only));refine box_event ?hg (N := 7) ?hd (cs := #[.int .i64 0,.int .i64 0,.int .i64 0,.slice none 0 0]) (t := 31) ?hr ?_;(case hd => rfl);(case hg => rfl);(case hr => first | (go_simp;done) | (go_simp;rfl));intro gb507 hg w24 hbox hb;have n0_ := Aside0.mk (Kd.R_below (Kd.R_up HO485.out) hb);have n1_ := Aside0.mk (Kd.R_below (Kd.R_up HO491.out) hb);have n2_ := Aside0.mk (Kd.R_below (Kd.R_up HO495.out) hb);have n3_ := Aside0.mk (Kd.R_below (Kd.R_up HO498.out) hb);have n4_ := Aside0.mk (Kd.R_below (Kd.R_up HO504.out) hb);have n5_ := Aside0.mk (blk_below (g := gb492) (o := .cells #[.int .i64 t486,.int .i64 t487,.int .i64 t488,.slice Ao16 t489.length co16] 31 (0,0)) (blk_up BK492.out) hb);have n6_ := Aside0.mk (below_step (B_set HB.out) hb);have n7_ := Aside0.mk (hbox);have n8_ := Aside0.mk ((by rw [hg];exact (below_size (B_set HB.out)) : w.heap.size ≤ gb507));have n9_ := Aside0.mk ((by rw [hg];exact (below_size (B_set HB.out)) : w.heap.size ≤ gb507));have n10_ := Aside0.mk ((by rw [hg];exact Nat.ne_of_lt (blk_lt (g := gb492) (o := .cells #[.int .i64 t486,.int .i64 t487,.int .i64 t488,.slice Ao16 t489.length co16] 31 (0,0)) (blk_up BK492.out)) : gb492 ≠ gb507));have n11_ := Aside0.mk ((by rw [hg];exact Nat.ne_of_gt (blk_lt (g := gb492) (o := .cells #[.int .i64 t486,.int .i64 t487,.int .i64 t488,.slice Ao16 t489.length co16] 31 (0,0)) (blk_up BK492.out)) : gb507 ≠ gb492));clear HO485;clear HO491;clear HO495;clear HO498;clear HO504;clear BK492;clear HB;have HO485 := n0_;have HO491 := n1_;have HO495 := n2_;have HO498 := n3_;have HO504 := n4_;have BK492 := n5_;have HB := n6_;have BK507 := n7_;have GW507 := n8_;have GE507 := n9_;have NB492_507 := n10_;have NB507_492 := n11_;clear n0_ n1_ n2_ n3_ n4_ n5_ n6_ n7_ n8_ n9_ n10_ n11_;clear hb hbox hg;have hnb25 := NB507_492.out;have hnc25 := NB492_507.out;have hcz26_0 : w24.cell? ⟨gb507,0,none⟩ = some (.int .i64 0) := (blk_cell BK507.out 0).trans rfl;have hcz26_1 : w24.cell? ⟨gb507,1,none⟩ = some (.int .i64 0) := (blk_cell BK507.out 1).trans rfl;have hcz26_2 : w24.cell? ⟨gb507,2,none⟩ = some (.int .i64 0) := (blk_cell BK507.out 2).trans rfl;have hcz26_3 : w24.cell? ⟨gb507,3,none⟩ = some (.slice none 0 0) := (blk_cell BK507.out 3).trans rfl;have hfz26_0 := blk_frozen BK507.out 0;have hfz26_1 := blk_frozen BK507.out 1;have hfz26_2 := blk_frozen BK507.out 2;have hfz26_3 := blk_frozen BK507.out 3;obtain ⟨Ao27,co27,eo27⟩ := Kd.R_slice HO504.out;subst eo27) | ((with_reducible refine gate_callee (f := 37) rfl ?_);refine goesL_ (some 39) rfl rfl Try.func37 (by kernel_rfl) rfl #[.slice A0 l0.length c0] rfl eq_up ?_;(with_reducible refine (spec_DrawManOf.calls k _ _ l0 t508 t509 t510 _ ?side1 ?side2 A8.out).mono ?_);(case side1 => exact Kd.C_below HR0.out (B_set HB.out));(case side2 => exact HC0.out);rintro e w28 ⟨v511,rfl,ho0,hb⟩;refine ⟨_,rfl,?_⟩;have n0_ := Aside0.mk (Kd.R_elder' (by (with_reducible repeat (first | apply Kd.R_alloc | apply Kd.R_drewN | apply Kd.R_drew));exact (Kd.R_mono (Kd.R_far (p := ⟨gb507,3,none⟩) (Kd.R_far (p := ⟨gb507,2,none⟩) (Kd.R_far (p := ⟨gb507,1,none⟩) (Kd.R_far (p := ⟨gb507,0,none⟩) (Kd.R_types HO485.out BK507.out (by decide)) (fun _ hk => hk.2) (.int .i64 t499)) (fun _ hk => hk.2) (.int .i64 t500)) (fun _ hk => hk.2) (.int .i64 t501)) (fun _ hk => hk.2) (.slice Ao27 t502.length co27)) (fun _ h_ => h_.1))) (Kd.R_base ho0) hb);have n1_ := Aside0.mk (Kd.R_below (by (with_reducible repeat (first | apply Kd.R_alloc | apply Kd.R_drewN | apply Kd.R_drew));exact (Kd.R_mono (Kd.R_far (p := ⟨gb507,3,none⟩) (Kd.R_far (p := ⟨gb507,2,none⟩) (Kd.R_far (p := ⟨gb507,1,none⟩) (Kd.R_far (p := ⟨gb507,0,none⟩) (Kd.R_types HO491.out BK507.out (by decide)) (fun _ hk => hk.2) (.int .i64 t499)) (fun _ hk => hk.2) (.int .i64 t500)) (fun _ hk => hk.2) (.int .i64 t501)) (fun _ hk => hk.2) (.slice Ao27 t502.length co27)) (fun _ h_ => h_.1))) hb);have n2_ := Aside0.mk (Kd.R_elder' (by (with_reducible repeat (first | apply Kd.R_alloc | apply Kd.R_drewN | apply Kd.R_drew));exact (Kd.R_mono (Kd.R_far (p := ⟨gb507,3,none⟩) (Kd.R_far (p := ⟨gb507,2,none⟩) (Kd.R_far (p := ⟨gb507,1,none⟩) (Kd.R_far (p := ⟨gb507,0,none⟩) (Kd.R_types HO495.out BK507.out (by decide)) (fun _ hk => hk.2) (.int .i64 t499)) (fun _ hk => hk.2) (.int .i64 t500)) (fun _ hk => hk.2) (.int .i64 t501)) (fun _ hk => hk.2) (.slice Ao27 t502.length co27)) (fun _ h_ => h_.1))) (Kd.R_base ho0) hb);have n3_ := Aside0.mk (Kd.R_elder' (by (with_reducible repeat (first | apply Kd.R_alloc | apply Kd.R_drewN | apply Kd.R_drew));exact (Kd.R_mono (Kd.R_far (p := ⟨gb507,3,none⟩) (Kd.R_far (p := ⟨gb507,2,none⟩) (Kd.R_far (p := ⟨gb507,1,none⟩) (Kd.R_far (p := ⟨gb507,0,none⟩) (Kd.R_types HO498.out BK507.out (by decide)) (fun _ hk => hk.2) (.int .i64 t499)) (fun _ hk => hk.2) (.int .i64 t500)) (fun _ hk => hk.2) (.int .i64 t501)) (fun _ hk => hk.2) (.slice Ao27 t502.length co27)) (fun _ h_ => h_.1))) (Kd.R_base ho0) hb);have n4_ := Aside0.mk (Kd.R_below (by (with_reducible repeat (first | apply Kd.R_alloc | apply Kd.R_drewN | apply Kd.R_drew));exact (Kd.R_mono (Kd.R_far (p := ⟨gb507,3,none⟩) (Kd.R_far (p := ⟨gb507,2,none⟩) (Kd.R_far (p := ⟨gb507,1,none⟩) (Kd.R_far (p := ⟨gb507,0,none⟩) (Kd.R_types HO504.out BK507.out (by decide)) (fun _ hk => hk.2) (.int .i64 t499)) (fun _ hk => hk.2) (.int .i64 t500)) (fun _ hk => hk.2) (.int .i64 t501)) (fun _ hk => hk.2) (.slice Ao27 t502.length co27)) (fun _ h_ => h_.1))) hb);have n5_ := Aside0.mk (Kd.R_lower (Kd.R_new' (Kd.R_new' (Kd.R_new' ho0 (Kd.R_lt (by (with_reducible repeat (first | apply Kd.R_alloc | apply Kd.R_drewN | apply Kd.R_drew));exact (Kd.R_mono (Kd.R_far (p := ⟨gb507,3,none⟩) (Kd.R_far (p := ⟨gb507,2,none⟩) (Kd.R_far (p := ⟨gb507,1,none⟩) (Kd.R_far (p := ⟨gb507,0,none⟩) (Kd.R_types HO485.out BK507.out (by decide)) (fun _ hk => hk.2) (.int .i64 t499)) (fun _ hk => hk.2) (.int .i64 t500)) (fun _ hk => hk.2) (.int .i64 t501)) (fun _ hk => hk.2) (.slice Ao27 t502.length co27)) (fun _ h_ => h_.1))))) (Kd.R_lt (by (with_reducible repeat (first | apply Kd.R_alloc | apply Kd.R_drewN | apply Kd.R_drew));exact (Kd.R_mono (Kd.R_far (p := ⟨gb507,3,none⟩) (Kd.R_far (p := ⟨gb507,2,none⟩) (Kd.R_far (p := ⟨gb507,1,none⟩) (Kd.R_far (p := ⟨gb507,0,none⟩) (Kd.R_types HO495.out BK507.out (by decide)) (fun _ hk => hk.2) (.int .i64 t499)) (fun _ hk => hk.2) (.int .i64 t500)) (fun _ hk => hk.2) (.int .i64 t501)) (fun _ hk => hk.2) (.slice Ao27 t502.length co27)) (fun _ h_ => h_.1))))) (Kd.R_lt (by (with_reducible repeat (first | apply Kd.R_alloc | apply Kd.R_drewN | apply Kd.R_drew));exact (Kd.R_mono (Kd.R_far (p := ⟨gb507,3,none⟩) (Kd.R_far (p := ⟨gb507,2,none⟩) (Kd.R_far (p := ⟨gb507,1,none⟩) (Kd.R_far (p := ⟨gb507,0,none⟩) (Kd.R_types HO498.out BK507.out (by decide)) (fun _ hk => hk.2) (.int .i64 t499)) (fun _ hk => hk.2) (.int .i64 t500)) (fun _ hk => hk.2) (.int .i64 t501)) (fun _ hk => hk.2) (.slice Ao27 t502.length co27)) (fun _ h_ => h_.1))))) (below_size (B_set HB.out)));have n6_ := Aside0.mk (blk_below (g := gb492) (o := .cells #[.int .i64 t486,.int .i64 t487,.int .i64 t488,.slice Ao16 t489.length co16] 31 (0,0)) (by (with_reducible repeat (first | refine blk_drewN ?_ _ | refine blk_drew ?_ | refine blk_alloc ?_ _));refine blk_far ?_ NB492_507.out _;(with_reducible repeat (first | refine blk_drewN ?_ _ | refine blk_drew ?_ | refine blk_alloc ?_ _));refine blk_far ?_ NB492_507.out _;(with_reducible repeat (first | refine blk_drewN ?_ _ | refine blk_drew ?_ | refine blk_alloc ?_ _));refine blk_far ?_ NB492_507.out _;(with_reducible repeat (first | refine blk_drewN ?_ _ | refine blk_drew ?_ | refine blk_alloc ?_ _));refine blk_far ?_ NB492_507.out _;(with_reducible repeat (first | refine blk_drewN ?_ _ | refine blk_drew ?_ | refine blk_alloc ?_ _));exact BK492.out) hb);have n7_ := Aside0.mk (blk_below (g := gb507) (o := .cells #[.int .i64 t499,.int .i64 t500,.int .i64 t501,.slice Ao27 t502.length co27] 31 (0,0)) (by (with_reducible repeat (first | refine blk_drewN ?_ _ | refine blk_drew ?_ | refine blk_alloc ?_ _));refine blk_put (cs := #[.int .i64 t499,.int .i64 t500,.int .i64 t501,.slice none 0 0]) ?_ 3 _ rfl;(with_reducible repeat (first | refine blk_drewN ?_ _ | refine blk_drew ?_ | refine blk_alloc ?_ _));refine blk_put (cs := #[.int .i64 t499,.int .i64 t500,.int .i64 0,.slice none 0 0]) ?_ 2 _ rfl;(with_reducible repeat (first | refine blk_drewN ?_ _ | refine blk_drew ?_ | refine blk_alloc ?_ _));refine blk_put (cs := #[.int .i64 t499,.int .i64 0,.int .i64 0,.slice none 0 0]) ?_ 1 _ rfl;(with_reducible repeat (first | refine blk_drewN ?_ _ | refine blk_drew ?_ | refine blk_alloc ?_ _));refine blk_put (cs := #[.int .i64 0,.int .i64 0,.int .i64 0,.slice none 0 0]) ?_ 0 _ rfl;(with_reducible repeat (first | refine blk_drewN ?_ _ | refine blk_drew ?_ | refine blk_alloc ?_ _));exact BK507.out) hb);have n8_ := Aside0.mk (below_step (B_set HB.out) hb);clear HO485;clear HO491;clear HO495;clear HO498;clear HO504;clear BK492;clear BK507;clear HB;have HO485 := n0_;have HO491 := n1_;have HO495 := n2_;have HO498 := n3_;have HO504 := n4_;have HO512 := n5_;have BK492 := n6_;have BK507 := n7_;have HB := n8_;clear n0_ n1_ n2_ n3_ n4_ n5_ n6_ n7_ n8_;(try clear hb);(try clear hb2);(try clear hk);(try clear hi);(try clear ho0)) | ((with_reducible refine gate_callee (f := 38) rfl ?_);refine goesL_ (some 45) rfl rfl Try.func38 (by kernel_rfl) rfl #[.slice A0 l0.length c0] rfl eq_up ?_;(with_reducible refine (spec_DrawTells.calls k _ _ l0 t513 t514 t515 t516 t519 _ ?side1 ?side2 A9.out).mono ?_);(case side1 => repeat (first | exact (Kd.C_below HR0.out HB.out) | (with_reducible refine Kd.C_alloc ?_ _) | (with_reducible refine Kd.C_drewN ?_ _) | (with_reducible refine Kd.C_drew ?_)));(case side2 => exact HC0.out);rintro e w29 ⟨v517,v520,rfl,ho0,ho1,hb⟩;refine ⟨_,rfl,?_⟩;have n0_ := Aside0.mk (Kd.R_elder' (Kd.R_up HO485.out) (Kd.R_base ho1) hb);have n1_ := Aside0.mk (Kd.R_elder' (Kd.R_up HO491.out) (Kd.R_base ho0) hb);have n2_ := Aside0.mk (Kd.R_elder' (Kd.R_up HO495.out) (Kd.R_base ho1) hb);have n3_ := Aside0.mk (Kd.R_elder' (Kd.R_up HO498.out) (Kd.R_base ho1) hb);have n4_ := Aside0.mk (Kd.R_elder' (Kd.R_up HO504.out) (Kd.R_base ho0) hb);have n5_ := Aside0.mk (Kd.R_elder' (Kd.R_up HO512.out) (Kd.R_base ho1) hb);have n6_ := Aside0.mk (Kd.R_lower (Kd.R_new' (Kd.R_new' ho0 (Kd.R_lt (Kd.R_up HO491.out))) (Kd.R_lt (Kd.R_up HO504.out))) (below_size (B_set HB.out)));have n7_ := Aside0.mk (Kd.R_lower (Kd.R_new' (Kd.R_new' (Kd.R_new' (Kd.R_new' ho1 (Kd.R_lt (Kd.R_up HO485.out))) (Kd.R_lt (Kd.R_up HO495.out))) (Kd.R_lt (Kd.R_up HO498.out))) (Kd.R_lt (Kd.R_up HO512.out))) (below_size (B_set HB.out)));have n8_ := Aside0.mk (blk_below (g := gb492) (o := .cells #[.int .i64 t486,.int .i64 t487,.int .i64 t488,.slice Ao16 t489.length co16] 31 (0,0)) (blk_up BK492.out) hb);have n9_ := Aside0.mk (blk_below (g := gb507) (o := .cells #[.int .i64 t499,.int .i64 t500,.int .i64 t501,.slice Ao27 t502.length co27] 31 (0,0)) (blk_up BK507.out) hb);have n10_ := Aside0.mk (below_step (B_set HB.out) hb);clear HO485;clear HO491;clear HO495;clear HO498;clear HO504;clear HO512;clear BK492;clear BK507;clear HB;have HO485 := n0_;have HO491 := n1_;have HO495 := n2_;have HO498 := n3_;have HO504 := n4_;have HO512 := n5_;have HO518 := n6_;have HO521 := n7_;have BK492 := n8_;have BK507 := n9_;have HB := n10_;clear n0_ n1_ n2_ n3_ n4_ n5_ n6_ n7_ n8_ n9_ n10_;(try clear hb);(try clear hb2);(try clear hk);(try clear hi);(try clear ho0);(try clear ho1)) | ((with_reducible refine gate_dst (N := 13) rfl ?_);(try (refine gate_guard (by rfl) ?_;dsimp only));refine box_event ?hg (N := 13) ?hd (cs := #[.int .i64 0,.int .i64 0,.int .i64 0,.slice none 0 0]) (t := 31) ?hr ?_;(case hd => rfl);(case hg => rfl);(case hr => first | (go_simp;done) | (go_simp;rfl));intro gb522 hg w30 hbox hb;have n0_ := Aside0.mk (Kd.R_below (Kd.R_up HO485.out) hb);have n1_ := Aside0.mk (Kd.R_below (Kd.R_up HO491.out) hb);have n2_ := Aside0.mk (Kd.R_below (Kd.R_up HO495.out) hb);have n3_ := Aside0.mk (Kd.R_below (Kd.R_up HO498.out) hb);have n4_ := Aside0.mk (Kd.R_below (Kd.R_up HO504.out) hb);have n5_ := Aside0.mk (Kd.R_below (Kd.R_up HO512.out) hb);have n6_ := Aside0.mk (Kd.R_below (Kd.R_up HO518.out) hb);have n7_ := Aside0.mk (Kd.R_below (Kd.R_up HO521.out) hb);have n8_ := Aside0.mk (blk_below (g := gb492) (o := .cells #[.int .i64 t486,.int .i64 t487,.int .i64 t488,.slice Ao16 t489.length co16] 31 (0,0)) (blk_up BK492.out) hb);have n9_ := Aside0.mk (blk_below (g := gb507) (o := .cells #[.int .i64 t499,.int .i64 t500,.int .i64 t501,.slice Ao27 t502.length co27] 31 (0,0)) (blk_up BK507.out) hb);have n10_ := Aside0.mk (below_step (B_set HB.out) hb);have n11_ := Aside0.mk (hbox);have n12_ := Aside0.mk ((by rw [hg];exact (below_size (B_set HB.out)) : w.heap.size ≤ gb522));have n13_ := Aside0.mk ((by rw [hg];exact (below_size (B_set HB.out)) : w.heap.size ≤ gb522));have n14_ := Aside0.mk ((by rw [hg];exact Nat.ne_of_lt (blk_lt (g := gb492) (o := .cells #[.int .i64 t486,.int .i64 t487,.int .i64 t488,.slice Ao16 t489.length co16] 31 (0,0)) (blk_up BK492.out)) : gb492 ≠ gb522));have n15_ := Aside0.mk ((by rw [hg];exact Nat.ne_of_gt (blk_lt (g := gb492) (o := .cells #[.int .i64 t486,.int .i64 t487,.int .i64 t488,.slice Ao16 t489.length co16] 31 (0,0)) (blk_up BK492.out)) : gb522 ≠ gb492));have n16_ := Aside0.mk ((by rw [hg];exact Nat.ne_of_lt (blk_lt (g := gb507) (o := .cells #[.int .i64 t499,.int .i64 t500,.int .i64 t501,.slice Ao27 t502.length co27] 31 (0,0)) (blk_up BK507.out)) : gb507 ≠ gb522));have n17_ := Aside0.mk ((by rw [hg];exact Nat.ne_of_gt (blk_lt (g := gb507) (o := .cells #[.int .i64 t499,.int .i64 t500,.int .i64 t501,.slice Ao27 t502.length co27] 31 (0,0)) (blk_up BK507.out)) : gb522 ≠ gb507));clear HO485;clear HO491;clear HO495;clear HO498;clear HO504;clear HO512;clear HO518;clear HO521;clear BK492;clear BK507;clear HB;have HO485 := n0_;have HO491 := n1_;have HO495 := n2_;have HO498 := n3_;have HO504 := n4_;have HO512 := n5_;have HO518 := n6_;have HO521 := n7_;have BK492 := n8_;have BK507 := n9_;have HB := n10_;have BK522 := n11_;have GW522 := n12_;have GE522 := n13_;have NB492_522 := n14_;have NB522_492 := n15_;have NB507_522 := n16_;have NB522_507 := n17_;clear n0_ n1_ n2_ n3_ n4_ n5_ n6_ n7_ n8_ n9_ n10_ n11_ n12_ n13_ n14_ n15_ n16_ n17_;clear hb hbox hg;have hnb31 := NB522_492.out;have hnc31 := NB492_522.out;have hnb32 := NB522_507.out;have hnc32 := NB507_522.out;have hcz33_0 : w30.cell? ⟨gb522,0,none⟩ = some (.int .i64 0) := (blk_cell BK522.out 0).trans rfl;have hcz33_1 : w30.cell? ⟨gb522,1,none⟩ = some (.int .i64 0) := (blk_cell BK522.out 1).trans rfl;have hcz33_2 : w30.cell? ⟨gb522,2,none⟩ = some (.int .i64 0) := (blk_cell BK522.out 2).trans rfl;have hcz33_3 : w30.cell? ⟨gb522,3,none⟩ = some (.slice none 0 0) := (blk_cell BK522.out 3).trans rfl;have hfz33_0 := blk_frozen BK522.out 0;have hfz33_1 := blk_frozen BK522.out 1;have hfz33_2 := blk_frozen BK522.out 2;have hfz33_3 := blk_frozen BK522.out 3;obtain ⟨Ao34,co34,eo34⟩ := Kd.R_slice HO518.out;subst eo34))
  (try simp only [Act.put,List.setIfInBounds_toArray,List.set_cons_zero,List.set_cons_succ])
  go_cut [95] (fun v95 wc => ∃ (kq : Nat) (x95_9 : Bool),v95 = .bool x95_9 ∧ Aside0 (laws_FnMans.j0 kq l0 t481 t483 x95_9 t486 t487 t488 t489 = some r) ∧ Aside0 (kq ≤ k) ∧ Aside0 (Kd.R (Kd.int .u8) 5 wc w.heap.size (fun _ => True) (.slice Ao12 t481.length co12) t481) ∧ Aside0 (Kd.R k66 66 wc w.heap.size (fun k_ => some k_ ≠ ((.slice Ao27 t502.length co27) : Value).ownBlock ∧ some k_ ≠ ((.slice Ao34 t516.length co34) : Value).ownBlock) (.slice Ao16 t489.length co16) t489) ∧ Aside0 (Kd.R k66 66 wc w.heap.size (fun k_ => some k_ ≠ ((.slice Ao16 t489.length co16) : Value).ownBlock ∧ some k_ ≠ ((.slice Ao34 t516.length co34) : Value).ownBlock) (.slice Ao27 t502.length co27) t502) ∧ Aside0 (Kd.R k66 66 wc w.heap.size (fun k_ => some k_ ≠ ((.slice Ao16 t489.length co16) : Value).ownBlock ∧ some k_ ≠ ((.slice Ao27 t502.length co27) : Value).ownBlock) (.slice Ao34 t516.length co34) t516) ∧ Aside0 (wc.heap[gb492]? = some (.cells #[.int .i64 t486,.int .i64 t487,.int .i64 t488,(.slice Ao16 t489.length co16)] 31 (0,0))) ∧ Aside0 (wc.heap[gb507]? = some (.cells #[.int .i64 t499,.int .i64 t500,.int .i64 t501,(.slice Ao27 t502.length co27)] 31 (0,0))) ∧ Aside0 (wc.heap[gb522]? = some (.cells #[.int .i64 t513,.int .i64 t514,.int .i64 t515,(.slice Ao34 t516.length co34)] 31 (0,0))) ∧ Aside0 (Below w.heap.size w wc))
  case first => as_aux_lemma =>
   have H := HC10.out
   clear HC10
   replace H := Option.bind_eq_some_iff.mp H
   obtain ⟨⟨t523,t524,t525,t526⟩,A350,H⟩ := H
   (try dsimp only at H)
   have A35 := Aside0.mk A350
   clear A350
   replace H := Option.bind_eq_some_iff.mp H
   obtain ⟨⟨t529,t530,t531,t532⟩,A360,H⟩ := H
   (try dsimp only at H)
   have A36 := Aside0.mk A360
   clear A360
   replace H := Option.bind_eq_some_iff.mp H
   obtain ⟨t535,A370,H⟩ := H
   (try dsimp only at H)
   have A37 := Aside0.mk A370
   clear A370
   by_cases c38 : t535 = true
   ·subst c38
    rw [if_pos rfl] at H
    replace H := Option.bind_eq_some_iff.mp H
    obtain ⟨t536,A390,H⟩ := H
    (try dsimp only at H)
    have A39 := Aside0.mk A390
    clear A390
    replace H := Option.bind_eq_some_iff.mp H
    obtain ⟨t537,A400,H⟩ := H
    (try dsimp only at H)
    have A40 := Aside0.mk A400
    clear A400
    by_cases c41 : (t536 != t537) = true
    ·rw [if_pos c41] at H
     have c41b0 : (t536 != t537) = true := c41
     (try (have c41b1 : decide (t536 = t537) = false := by simpa using c41))
     (try (have c41b2 : (t536 == t537) = false := by simpa using c41))
     (try (have c41b3 : ¬ (t536 = t537) := by simpa using c41))
     clear c41
     (first | rw [c41b0] | (simp only [i64_w,i32_w];rw [c41b0]) | skip)
     rw [hrt] at H
     exact (laws_FnMans.dead0 _ _ _ _ _ _ _ _ H).elim
    ·rw [if_neg c41] at H
     have c41b0 : (t536 != t537) = false := by simpa using c41
     (try (have c41b1 : decide (t536 = t537) = true := by simpa using c41))
     (try (have c41b2 : (t536 == t537) = true := by simpa using c41))
     clear c41
     (first | rw [c41b0] | (simp only [i64_w,i32_w];rw [c41b0]) | skip)
     replace H := Option.bind_eq_some_iff.mp H
     obtain ⟨t538,A530,H⟩ := H
     (try dsimp only at H)
     have A53 := Aside0.mk A530
     clear A530
     by_cases c54 : t538 = true
     ·subst c54
      rw [if_pos rfl] at H
      by_cases c55 : t506 = true
      ·subst c55
       rw [if_pos rfl] at H
       replace H := Option.bind_eq_some_iff.mp H
       obtain ⟨t539,A560,H⟩ := H
       (try dsimp only at H)
       have A56 := Aside0.mk A560
       clear A560
       by_cases c57 : t539 = true
       ·subst c57
        rw [if_pos rfl] at H
        obtain ⟨y540,hy540⟩ : ∃ y_ : List Int,y_ = (([7] : List Int)) := ⟨_,rfl⟩
        replace H : ((impl_PutMan.f k y540 t486 t487 t488 t489).bind fun t543 => (if t505 = (t543.length : Int) then ((impl_Tells.f k t486 t487 t488 t489 t481).bind fun t546 => (laws_FnMans.j0 k l0 t481 t483 (!t546) t486 t487 t488 t489)) else (laws_FnMans.j0 k l0 t481 t483 true t486 t487 t488 t489))) = some r := by first | (rw [hy540];with_reducible exact H) | (have H2_ := (Option.bind_some _ _).symm.trans H;rw [hy540];with_reducible exact H2_) | (have H2_ := (Option.bind_some _ _).symm.trans H;with_reducible exact H2_) | with_reducible exact H | (rw [hy540];exact H) | exact H
        have Ny540 := Aside0.mk hy540
        clear hy540
        replace H := Option.bind_eq_some_iff.mp H
        obtain ⟨t543,A580,H⟩ := H
        (try dsimp only at H)
        have A58 := Aside0.mk A580
        clear A580
        by_cases c59 : t505 = (t543.length : Int)
        ·rw [if_pos c59] at H
         have c59b0 : (t505 == (t543.length : Int)) = true := beq_iff_eq.mpr c59
         have c59b1 : (t505 != (t543.length : Int)) = false := bne_eq_false_iff_eq.mpr c59
         clear c59
         replace H := Option.bind_eq_some_iff.mp H
         obtain ⟨t546,A600,H⟩ := H
         replace H : (laws_FnMans.j0 k l0 t481 t483 (!t546) t486 t487 t488 t489) = some r := H
         have A60 := Aside0.mk A600
         clear A600
         have H' := Aside0.mk H
         clear H
         try go_wp2
         have n0_ : Aside0 (Kd.R (Kd.int .u8) 5 ((((w30.setCell ⟨gb522,0,none⟩ (.int .i64 t513)).setCell ⟨gb522,1,none⟩ (.int .i64 t514)).setCell ⟨gb522,2,none⟩ (.int .i64 t515)).setCell ⟨gb522,3,none⟩ (.slice Ao34 t516.length co34)) w.heap.size (fun k_ => some k_ ≠ (.slice Ao20 y493.length co20 : Value).ownBlock ∧ some k_ ≠ (.slice Ao22 t496.length co22 : Value).ownBlock ∧ some k_ ≠ (v511 : Value).ownBlock ∧ some k_ ≠ (v520 : Value).ownBlock) (.slice Ao12 t481.length co12) t481) := ⟨by (with_reducible repeat (first | apply Kd.R_alloc | apply Kd.R_drewN | apply Kd.R_drew));exact Kd.R_mono (Kd.R_far (p := ⟨gb522,3,none⟩) (Kd.R_far (p := ⟨gb522,2,none⟩) (Kd.R_far (p := ⟨gb522,1,none⟩) (Kd.R_far (p := ⟨gb522,0,none⟩) (Kd.R_types HO485.out BK522.out (by decide)) (fun _ hk => hk.2) (.int .i64 t513)) (fun _ hk => hk.2) (.int .i64 t514)) (fun _ hk => hk.2) (.int .i64 t515)) (fun _ hk => hk.2) (.slice Ao34 t516.length co34)) (fun _ hk => ⟨hk.1.1.1.1.2,⟨hk.1.1.1.2,⟨hk.1.1.2,hk.1.2⟩⟩⟩)⟩
         have n1_ : Aside0 (Kd.R k66 66 ((((w30.setCell ⟨gb522,0,none⟩ (.int .i64 t513)).setCell ⟨gb522,1,none⟩ (.int .i64 t514)).setCell ⟨gb522,2,none⟩ (.int .i64 t515)).setCell ⟨gb522,3,none⟩ (.slice Ao34 t516.length co34)) w.heap.size (fun k_ => some k_ ≠ (.slice Ao27 t502.length co27 : Value).ownBlock ∧ some k_ ≠ (.slice Ao34 t516.length co34 : Value).ownBlock) (.slice Ao16 t489.length co16) t489) := ⟨by (with_reducible repeat (first | apply Kd.R_alloc | apply Kd.R_drewN | apply Kd.R_drew));exact Kd.R_mono (Kd.R_far (p := ⟨gb522,3,none⟩) (Kd.R_far (p := ⟨gb522,2,none⟩) (Kd.R_far (p := ⟨gb522,1,none⟩) (Kd.R_far (p := ⟨gb522,0,none⟩) (Kd.R_types HO491.out BK522.out (by decide)) (fun _ hk => hk.2) (.int .i64 t513)) (fun _ hk => hk.2) (.int .i64 t514)) (fun _ hk => hk.2) (.int .i64 t515)) (fun _ hk => hk.2) (.slice Ao34 t516.length co34)) (fun _ hk => ⟨hk.1.1.2,hk.1.2⟩)⟩
         have n2_ : Aside0 (Kd.R (Kd.int .u8) 5 ((((w30.setCell ⟨gb522,0,none⟩ (.int .i64 t513)).setCell ⟨gb522,1,none⟩ (.int .i64 t514)).setCell ⟨gb522,2,none⟩ (.int .i64 t515)).setCell ⟨gb522,3,none⟩ (.slice Ao34 t516.length co34)) w.heap.size (fun k_ => some k_ ≠ (.slice Ao12 t481.length co12 : Value).ownBlock ∧ some k_ ≠ (.slice Ao22 t496.length co22 : Value).ownBlock ∧ some k_ ≠ (v511 : Value).ownBlock ∧ some k_ ≠ (v520 : Value).ownBlock) (.slice Ao20 y493.length co20) y493) := ⟨by (with_reducible repeat (first | apply Kd.R_alloc | apply Kd.R_drewN | apply Kd.R_drew));exact Kd.R_mono (Kd.R_far (p := ⟨gb522,3,none⟩) (Kd.R_far (p := ⟨gb522,2,none⟩) (Kd.R_far (p := ⟨gb522,1,none⟩) (Kd.R_far (p := ⟨gb522,0,none⟩) (Kd.R_types HO495.out BK522.out (by decide)) (fun _ hk => hk.2) (.int .i64 t513)) (fun _ hk => hk.2) (.int .i64 t514)) (fun _ hk => hk.2) (.int .i64 t515)) (fun _ hk => hk.2) (.slice Ao34 t516.length co34)) (fun _ hk => ⟨hk.1.1.1.1.2,⟨hk.1.1.1.2,⟨hk.1.1.2,hk.1.2⟩⟩⟩)⟩
         have n3_ : Aside0 (Kd.R (Kd.int .u8) 5 ((((w30.setCell ⟨gb522,0,none⟩ (.int .i64 t513)).setCell ⟨gb522,1,none⟩ (.int .i64 t514)).setCell ⟨gb522,2,none⟩ (.int .i64 t515)).setCell ⟨gb522,3,none⟩ (.slice Ao34 t516.length co34)) w.heap.size (fun k_ => some k_ ≠ (.slice Ao12 t481.length co12 : Value).ownBlock ∧ some k_ ≠ (.slice Ao20 y493.length co20 : Value).ownBlock ∧ some k_ ≠ (v511 : Value).ownBlock ∧ some k_ ≠ (v520 : Value).ownBlock) (.slice Ao22 t496.length co22) t496) := ⟨by (with_reducible repeat (first | apply Kd.R_alloc | apply Kd.R_drewN | apply Kd.R_drew));exact Kd.R_mono (Kd.R_far (p := ⟨gb522,3,none⟩) (Kd.R_far (p := ⟨gb522,2,none⟩) (Kd.R_far (p := ⟨gb522,1,none⟩) (Kd.R_far (p := ⟨gb522,0,none⟩) (Kd.R_types HO498.out BK522.out (by decide)) (fun _ hk => hk.2) (.int .i64 t513)) (fun _ hk => hk.2) (.int .i64 t514)) (fun _ hk => hk.2) (.int .i64 t515)) (fun _ hk => hk.2) (.slice Ao34 t516.length co34)) (fun _ hk => ⟨hk.1.1.1.1.2,⟨hk.1.1.1.2,⟨hk.1.1.2,hk.1.2⟩⟩⟩)⟩
         have n4_ : Aside0 (Kd.R k66 66 ((((w30.setCell ⟨gb522,0,none⟩ (.int .i64 t513)).setCell ⟨gb522,1,none⟩ (.int .i64 t514)).setCell ⟨gb522,2,none⟩ (.int .i64 t515)).setCell ⟨gb522,3,none⟩ (.slice Ao34 t516.length co34)) w.heap.size (fun k_ => some k_ ≠ (.slice Ao16 t489.length co16 : Value).ownBlock ∧ some k_ ≠ (.slice Ao34 t516.length co34 : Value).ownBlock) (.slice Ao27 t502.length co27) t502) := ⟨by (with_reducible repeat (first | apply Kd.R_alloc | apply Kd.R_drewN | apply Kd.R_drew));exact Kd.R_mono (Kd.R_far (p := ⟨gb522,3,none⟩) (Kd.R_far (p := ⟨gb522,2,none⟩) (Kd.R_far (p := ⟨gb522,1,none⟩) (Kd.R_far (p := ⟨gb522,0,none⟩) (Kd.R_types HO504.out BK522.out (by decide)) (fun _ hk => hk.2) (.int .i64 t513)) (fun _ hk => hk.2) (.int .i64 t514)) (fun _ hk => hk.2) (.int .i64 t515)) (fun _ hk => hk.2) (.slice Ao34 t516.length co34)) (fun _ hk => ⟨hk.1.1.2,hk.1.2⟩)⟩
         have n5_ : Aside0 (Kd.R (Kd.int .u8) 5 ((((w30.setCell ⟨gb522,0,none⟩ (.int .i64 t513)).setCell ⟨gb522,1,none⟩ (.int .i64 t514)).setCell ⟨gb522,2,none⟩ (.int .i64 t515)).setCell ⟨gb522,3,none⟩ (.slice Ao34 t516.length co34)) w.heap.size (fun k_ => some k_ ≠ (.slice Ao12 t481.length co12 : Value).ownBlock ∧ some k_ ≠ (.slice Ao20 y493.length co20 : Value).ownBlock ∧ some k_ ≠ (.slice Ao22 t496.length co22 : Value).ownBlock ∧ some k_ ≠ (v520 : Value).ownBlock) v511 t509) := ⟨by (with_reducible repeat (first | apply Kd.R_alloc | apply Kd.R_drewN | apply Kd.R_drew));exact Kd.R_mono (Kd.R_far (p := ⟨gb522,3,none⟩) (Kd.R_far (p := ⟨gb522,2,none⟩) (Kd.R_far (p := ⟨gb522,1,none⟩) (Kd.R_far (p := ⟨gb522,0,none⟩) (Kd.R_types HO512.out BK522.out (by decide)) (fun _ hk => hk.2) (.int .i64 t513)) (fun _ hk => hk.2) (.int .i64 t514)) (fun _ hk => hk.2) (.int .i64 t515)) (fun _ hk => hk.2) (.slice Ao34 t516.length co34)) (fun _ hk => ⟨hk.1.1.1.1.2,⟨hk.1.1.1.2,⟨hk.1.1.2,hk.1.2⟩⟩⟩)⟩
         have n6_ : Aside0 (Kd.R k66 66 ((((w30.setCell ⟨gb522,0,none⟩ (.int .i64 t513)).setCell ⟨gb522,1,none⟩ (.int .i64 t514)).setCell ⟨gb522,2,none⟩ (.int .i64 t515)).setCell ⟨gb522,3,none⟩ (.slice Ao34 t516.length co34)) w.heap.size (fun k_ => some k_ ≠ (.slice Ao16 t489.length co16 : Value).ownBlock ∧ some k_ ≠ (.slice Ao27 t502.length co27 : Value).ownBlock) (.slice Ao34 t516.length co34) t516) := ⟨by (with_reducible repeat (first | apply Kd.R_alloc | apply Kd.R_drewN | apply Kd.R_drew));exact Kd.R_mono (Kd.R_far (p := ⟨gb522,3,none⟩) (Kd.R_far (p := ⟨gb522,2,none⟩) (Kd.R_far (p := ⟨gb522,1,none⟩) (Kd.R_far (p := ⟨gb522,0,none⟩) (Kd.R_types HO518.out BK522.out (by decide)) (fun _ hk => hk.2) (.int .i64 t513)) (fun _ hk => hk.2) (.int .i64 t514)) (fun _ hk => hk.2) (.int .i64 t515)) (fun _ hk => hk.2) (.slice Ao34 t516.length co34)) (fun _ hk => ⟨hk.1.1.2,hk.1.2⟩)⟩
         have n7_ : Aside0 (Kd.R (Kd.int .u8) 5 ((((w30.setCell ⟨gb522,0,none⟩ (.int .i64 t513)).setCell ⟨gb522,1,none⟩ (.int .i64 t514)).setCell ⟨gb522,2,none⟩ (.int .i64 t515)).setCell ⟨gb522,3,none⟩ (.slice Ao34 t516.length co34)) w.heap.size (fun k_ => some k_ ≠ (.slice Ao12 t481.length co12 : Value).ownBlock ∧ some k_ ≠ (.slice Ao20 y493.length co20 : Value).ownBlock ∧ some k_ ≠ (.slice Ao22 t496.length co22 : Value).ownBlock ∧ some k_ ≠ (v511 : Value).ownBlock) v520 t519) := ⟨by (with_reducible repeat (first | apply Kd.R_alloc | apply Kd.R_drewN | apply Kd.R_drew));exact Kd.R_mono (Kd.R_far (p := ⟨gb522,3,none⟩) (Kd.R_far (p := ⟨gb522,2,none⟩) (Kd.R_far (p := ⟨gb522,1,none⟩) (Kd.R_far (p := ⟨gb522,0,none⟩) (Kd.R_types HO521.out BK522.out (by decide)) (fun _ hk => hk.2) (.int .i64 t513)) (fun _ hk => hk.2) (.int .i64 t514)) (fun _ hk => hk.2) (.int .i64 t515)) (fun _ hk => hk.2) (.slice Ao34 t516.length co34)) (fun _ hk => ⟨hk.1.1.1.1.2,⟨hk.1.1.1.2,⟨hk.1.1.2,hk.1.2⟩⟩⟩)⟩
         have n8_ : Aside0 (((((w30.setCell ⟨gb522,0,none⟩ (.int .i64 t513)).setCell ⟨gb522,1,none⟩ (.int .i64 t514)).setCell ⟨gb522,2,none⟩ (.int .i64 t515)).setCell ⟨gb522,3,none⟩ (.slice Ao34 t516.length co34)).heap[gb492]? = some (.cells #[.int .i64 t486,.int .i64 t487,.int .i64 t488,.slice Ao16 t489.length co16] 31 (0,0))) := ⟨by (with_reducible repeat (first | refine blk_drewN ?_ _ | refine blk_drew ?_ | refine blk_alloc ?_ _));refine blk_far ?_ NB492_522.out _;(with_reducible repeat (first | refine blk_drewN ?_ _ | refine blk_drew ?_ | refine blk_alloc ?_ _));refine blk_far ?_ NB492_522.out _;(with_reducible repeat (first | refine blk_drewN ?_ _ | refine blk_drew ?_ | refine blk_alloc ?_ _));refine blk_far ?_ NB492_522.out _;(with_reducible repeat (first | refine blk_drewN ?_ _ | refine blk_drew ?_ | refine blk_alloc ?_ _));refine blk_far ?_ NB492_522.out _;(with_reducible repeat (first | refine blk_drewN ?_ _ | refine blk_drew ?_ | refine blk_alloc ?_ _));exact BK492.out⟩
         have n9_ : Aside0 (((((w30.setCell ⟨gb522,0,none⟩ (.int .i64 t513)).setCell ⟨gb522,1,none⟩ (.int .i64 t514)).setCell ⟨gb522,2,none⟩ (.int .i64 t515)).setCell ⟨gb522,3,none⟩ (.slice Ao34 t516.length co34)).heap[gb507]? = some (.cells #[.int .i64 t499,.int .i64 t500,.int .i64 t501,.slice Ao27 t502.length co27] 31 (0,0))) := ⟨by (with_reducible repeat (first | refine blk_drewN ?_ _ | refine blk_drew ?_ | refine blk_alloc ?_ _));refine blk_far ?_ NB507_522.out _;(with_reducible repeat (first | refine blk_drewN ?_ _ | refine blk_drew ?_ | refine blk_alloc ?_ _));refine blk_far ?_ NB507_522.out _;(with_reducible repeat (first | refine blk_drewN ?_ _ | refine blk_drew ?_ | refine blk_alloc ?_ _));refine blk_far ?_ NB507_522.out _;(with_reducible repeat (first | refine blk_drewN ?_ _ | refine blk_drew ?_ | refine blk_alloc ?_ _));refine blk_far ?_ NB507_522.out _;(with_reducible repeat (first | refine blk_drewN ?_ _ | refine blk_drew ?_ | refine blk_alloc ?_ _));exact BK507.out⟩
         have n10_ : Aside0 (((((w30.setCell ⟨gb522,0,none⟩ (.int .i64 t513)).setCell ⟨gb522,1,none⟩ (.int .i64 t514)).setCell ⟨gb522,2,none⟩ (.int .i64 t515)).setCell ⟨gb522,3,none⟩ (.slice Ao34 t516.length co34)).heap[gb522]? = some (.cells #[.int .i64 t513,.int .i64 t514,.int .i64 t515,.slice Ao34 t516.length co34] 31 (0,0))) := ⟨by (with_reducible repeat (first | refine blk_drewN ?_ _ | refine blk_drew ?_ | refine blk_alloc ?_ _));refine blk_put (cs := #[.int .i64 t513,.int .i64 t514,.int .i64 t515,.slice none 0 0]) ?_ 3 _ rfl;(with_reducible repeat (first | refine blk_drewN ?_ _ | refine blk_drew ?_ | refine blk_alloc ?_ _));refine blk_put (cs := #[.int .i64 t513,.int .i64 t514,.int .i64 0,.slice none 0 0]) ?_ 2 _ rfl;(with_reducible repeat (first | refine blk_drewN ?_ _ | refine blk_drew ?_ | refine blk_alloc ?_ _));refine blk_put (cs := #[.int .i64 t513,.int .i64 0,.int .i64 0,.slice none 0 0]) ?_ 1 _ rfl;(with_reducible repeat (first | refine blk_drewN ?_ _ | refine blk_drew ?_ | refine blk_alloc ?_ _));refine blk_put (cs := #[.int .i64 0,.int .i64 0,.int .i64 0,.slice none 0 0]) ?_ 0 _ rfl;(with_reducible repeat (first | refine blk_drewN ?_ _ | refine blk_drew ?_ | refine blk_alloc ?_ _));exact BK522.out⟩
         have n11_ : Aside0 (Below w.heap.size w ((((w30.setCell ⟨gb522,0,none⟩ (.int .i64 t513)).setCell ⟨gb522,1,none⟩ (.int .i64 t514)).setCell ⟨gb522,2,none⟩ (.int .i64 t515)).setCell ⟨gb522,3,none⟩ (.slice Ao34 t516.length co34))) := ⟨by repeat (first | (with_reducible first | exact HB.out | apply below_alloc | apply pw_below_drewN | apply below_drew1 | refine below_set ?_ GE492.out | refine below_set ?_ GE507.out | refine below_set ?_ GE522.out) | exact HB.out)⟩
         (try clear HO485)
         (try clear HO491)
         (try clear HO495)
         (try clear HO498)
         (try clear HO504)
         (try clear HO512)
         (try clear HO518)
         (try clear HO521)
         (try clear BK492)
         (try clear BK507)
         (try clear BK522)
         (try clear HB)
         generalize ((((w30.setCell ⟨gb522,0,none⟩ (.int .i64 t513)).setCell ⟨gb522,1,none⟩ (.int .i64 t514)).setCell ⟨gb522,2,none⟩ (.int .i64 t515)).setCell ⟨gb522,3,none⟩ (.slice Ao34 t516.length co34)) = w61 at n0_ n1_ n2_ n3_ n4_ n5_ n6_ n7_ n8_ n9_ n10_ n11_ ⊢
         have HO485 := n0_
         have HO491 := n1_
         have HO495 := n2_
         have HO498 := n3_
         have HO504 := n4_
         have HO512 := n5_
         have HO518 := n6_
         have HO521 := n7_
         have BK492 := n8_
         have BK507 := n9_
         have BK522 := n10_
         have HB := n11_
         clear n0_ n1_ n2_ n3_ n4_ n5_ n6_ n7_ n8_ n9_ n10_ n11_
         have n0_ := Aside0.mk (Kd.R_drew HO485.out)
         have n1_ := Aside0.mk (Kd.R_drew HO491.out)
         have n2_ := Aside0.mk (Kd.R_drew HO495.out)
         have n3_ := Aside0.mk (Kd.R_drew HO498.out)
         have n4_ := Aside0.mk (Kd.R_drew HO504.out)
         have n5_ := Aside0.mk (Kd.R_drew HO512.out)
         have n6_ := Aside0.mk (Kd.R_drew HO518.out)
         have n7_ := Aside0.mk (Kd.R_drew HO521.out)
         have n8_ := Aside0.mk (blk_drew BK492.out)
         have n9_ := Aside0.mk (blk_drew BK507.out)
         have n10_ := Aside0.mk (blk_drew BK522.out)
         have n11_ := Aside0.mk (below_drew1 HB.out)
         clear HO485
         clear HO491
         clear HO495
         clear HO498
         clear HO504
         clear HO512
         clear HO518
         clear HO521
         clear BK492
         clear BK507
         clear BK522
         clear HB
         have HO485 := n0_
         have HO491 := n1_
         have HO495 := n2_
         have HO498 := n3_
         have HO504 := n4_
         have HO512 := n5_
         have HO518 := n6_
         have HO521 := n7_
         have BK492 := n8_
         have BK507 := n9_
         have BK522 := n10_
         have HB := n11_
         clear n0_ n1_ n2_ n3_ n4_ n5_ n6_ n7_ n8_ n9_ n10_ n11_
         obtain ⟨Ao63,co63,eo63⟩ := Kd.R_slice HO512.out
         (first | subst eo63 | (injection eo63 with f1_ f2_ f3_;have f4_ := f1_.symm;have f5_ := f3_.symm;clear f1_ f2_ f3_;subst f4_;subst f5_))
         refine start_ (n := 48) (S := fun w' => w'.cell? ⟨gb522,0,none⟩ = some (.int .i64 t513) ∧ w'.cell? ⟨gb522,1,none⟩ = some (.int .i64 t514) ∧ w'.cell? ⟨gb522,2,none⟩ = some (.int .i64 t515) ∧ w'.cell? ⟨gb522,3,none⟩ = some (.slice Ao34 t516.length co34) ∧ w'.cell? ⟨gb492,0,none⟩ = some (.int .i64 t486) ∧ w'.cell? ⟨gb492,1,none⟩ = some (.int .i64 t487) ∧ w'.cell? ⟨gb492,2,none⟩ = some (.int .i64 t488) ∧ w'.cell? ⟨gb492,3,none⟩ = some (.slice Ao16 t489.length co16) ∧ w'.cell? ⟨gb507,0,none⟩ = some (.int .i64 t499) ∧ w'.cell? ⟨gb507,1,none⟩ = some (.int .i64 t500) ∧ w'.cell? ⟨gb507,2,none⟩ = some (.int .i64 t501) ∧ w'.cell? ⟨gb507,3,none⟩ = some (.slice Ao27 t502.length co27)) (ds := []) #[false,false,false,false,false,false,false,false,false,false,false,false,false,false,false,false,false,false,false,false,false,false,false,false,false,false,false,false,false,false,false,false,false,false,false,false,false,false,false,false,false,false,false,false,false,false,false,false] (by kernel_rfl) rfl rfl ⟨(blk_cell BK522.out 0).trans rfl,(blk_cell BK522.out 1).trans rfl,(blk_cell BK522.out 2).trans rfl,(blk_cell BK522.out 3).trans rfl,(blk_cell BK492.out 0).trans rfl,(blk_cell BK492.out 1).trans rfl,(blk_cell BK492.out 2).trans rfl,(blk_cell BK492.out 3).trans rfl,(blk_cell BK507.out 0).trans rfl,(blk_cell BK507.out 1).trans rfl,(blk_cell BK507.out 2).trans rfl,(blk_cell BK507.out 3).trans rfl⟩ (fun hHeld => ?_);refine with_tabW laws_FnMans.tab8 laws_FnMans.bits8 (fun HT_ HW_ => ?_)
         generalize w61.drew = w62 at HO485 HO491 HO495 HO498 HO504 HO512 HO518 HO521 BK492 BK507 BK522 HB hHeld ⊢
         refine pure_ (i := 0) (N := some 48) (v := ?_) (a' := ?_) #[true,false,false,false,false,false,false,false,false,false,false,false,false,false,false,false,false,false,false,false,false,false,false,false,false,false,false,false,false,false,false,false,false,false,false,false,false,false,false,false,false,false,false,false,false,false,false,false] rfl rfl (any_of HT_.out (by kernel_rfl)) (fun _ _ _ h => h) (Or.inl ⟨by rfl,?_⟩) ?_ ?_
         rotate_left
         ·intro w'
          go_simp
          with_reducible rfl
         rotate_left
         ·simp only [Act.put,List.setIfInBounds_toArray,List.set_cons_zero,List.set_cons_succ,i64_w,i32_w]
          rfl
         refine pure_ (i := 1) (N := some 49) (v := ?_) (a' := ?_) #[true,true,false,false,false,false,false,false,false,false,false,false,false,false,false,false,false,false,false,false,false,false,false,false,false,false,false,false,false,false,false,false,false,false,false,false,false,false,false,false,false,false,false,false,false,false,false,false] rfl rfl (any_of HT_.out (by kernel_rfl)) (fun _ _ _ h => h) (Or.inl ⟨by rfl,?_⟩) ?_ ?_
         rotate_left
         ·intro w'
          go_simp
          with_reducible rfl
         rotate_left
         ·simp only [Act.put,List.setIfInBounds_toArray,List.set_cons_zero,List.set_cons_succ,i64_w,i32_w]
          rfl
         refine pure_ (i := 2) (N := some 50) (v := ?_) (a' := ?_) #[true,true,true,false,false,false,false,false,false,false,false,false,false,false,false,false,false,false,false,false,false,false,false,false,false,false,false,false,false,false,false,false,false,false,false,false,false,false,false,false,false,false,false,false,false,false,false,false] rfl rfl (any_of HT_.out (by kernel_rfl)) (fun _ _ _ h => h) (Or.inl ⟨by rfl,?_⟩) ?_ ?_
         rotate_left
         ·intro w'
          go_simp
          with_reducible rfl
         rotate_left
         ·simp only [Act.put,List.setIfInBounds_toArray,List.set_cons_zero,List.set_cons_succ,i64_w,i32_w]
          rfl
         refine pure_ (i := 4) (N := some 52) (v := ?_) (a' := ?_) #[true,true,true,false,true,false,false,false,false,false,false,false,false,false,false,false,false,false,false,false,false,false,false,false,false,false,false,false,false,false,false,false,false,false,false,false,false,false,false,false,false,false,false,false,false,false,false,false] rfl rfl (any_of HT_.out (by kernel_rfl)) (fun _ _ _ h => h) (Or.inl ⟨by rfl,?_⟩) ?_ ?_
         rotate_left
         ·intro w'
          go_simp
          with_reducible rfl
         rotate_left
         ·simp only [Act.put,List.setIfInBounds_toArray,List.set_cons_zero,List.set_cons_succ,i64_w,i32_w]
          rfl
         refine pure_ (i := 5) (N := some 53) (v := ?_) (a' := ?_) #[true,true,true,false,true,true,false,false,false,false,false,false,false,false,false,false,false,false,false,false,false,false,false,false,false,false,false,false,false,false,false,false,false,false,false,false,false,false,false,false,false,false,false,false,false,false,false,false] rfl rfl (any_of HT_.out (by kernel_rfl)) (fun _ _ _ h => h) (Or.inl ⟨by rfl,?_⟩) ?_ ?_
         rotate_left
         ·intro w'
          go_simp
          with_reducible rfl
         rotate_left
         ·simp only [Act.put,List.setIfInBounds_toArray,List.set_cons_zero,List.set_cons_succ,i64_w,i32_w]
          rfl
         refine pure_ (i := 6) (N := some 54) (v := ?_) (a' := ?_) #[true,true,true,false,true,true,true,false,false,false,false,false,false,false,false,false,false,false,false,false,false,false,false,false,false,false,false,false,false,false,false,false,false,false,false,false,false,false,false,false,false,false,false,false,false,false,false,false] rfl rfl (any_of HT_.out (by kernel_rfl)) (fun _ _ _ h => h) (Or.inl ⟨by rfl,?_⟩) ?_ ?_
         rotate_left
         ·intro w'
          go_simp
          with_reducible rfl
         rotate_left
         ·simp only [Act.put,List.setIfInBounds_toArray,List.set_cons_zero,List.set_cons_succ,i64_w,i32_w]
          rfl
         refine one_ (i := 3) (N := some 51) #[true,true,true,true,true,true,true,false,false,false,false,false,false,false,false,false,false,false,false,false,false,false,false,false,false,false,false,false,false,false,false,false,false,false,false,false,false,false,false,false,false,false,false,false,false,false,false,false] rfl rfl (one_of HT_.out (by kernel_rfl)) (by decide) (fun K hK => ?_)
         refine goes_ Try.func36 (by kernel_rfl) rfl #[.int .i64 t508,.slice Ao63 t509.length co63,.int .i64 t510] (by rfl) rfl rfl eq_up ?_
         with_reducible refine (impl_ManOf.calls k t508 _ _ t509 t510 t523 t524 t525 t526 _ ?side1 ?side2 A35.out).mono ?_
         (case side1 => exact Kd.C_up (Kd.R_reads' HO512.out).2.2)
         (case side2 => exact (Kd.R_reads' HO512.out).2.1)
         rintro e w64 ⟨v527,rfl,ho0,hb⟩
         refine ⟨_,rfl,?_⟩
         have n0_ := Aside0.mk (Kd.R_below (Kd.R_up HO485.out) hb)
         have n1_ := Aside0.mk (Kd.R_elder' (Kd.R_up HO491.out) (Kd.R_base ho0) hb)
         have n2_ := Aside0.mk (Kd.R_below (Kd.R_up HO495.out) hb)
         have n3_ := Aside0.mk (Kd.R_below (Kd.R_up HO498.out) hb)
         have n4_ := Aside0.mk (Kd.R_elder' (Kd.R_up HO504.out) (Kd.R_base ho0) hb)
         have n5_ := Aside0.mk (Kd.R_below (Kd.R_up HO512.out) hb)
         have n6_ := Aside0.mk (Kd.R_elder' (Kd.R_up HO518.out) (Kd.R_base ho0) hb)
         have n7_ := Aside0.mk (Kd.R_below (Kd.R_up HO521.out) hb)
         have n8_ := Aside0.mk (Kd.R_lower (Kd.R_new' (Kd.R_new' (Kd.R_new' ho0 (Kd.R_lt (Kd.R_up HO491.out))) (Kd.R_lt (Kd.R_up HO504.out))) (Kd.R_lt (Kd.R_up HO518.out))) (below_size (B_set HB.out)))
         have n9_ := Aside0.mk (blk_below (g := gb492) (o := .cells #[.int .i64 t486,.int .i64 t487,.int .i64 t488,.slice Ao16 t489.length co16] 31 (0,0)) (blk_up BK492.out) hb)
         have n10_ := Aside0.mk (blk_below (g := gb507) (o := .cells #[.int .i64 t499,.int .i64 t500,.int .i64 t501,.slice Ao27 t502.length co27] 31 (0,0)) (blk_up BK507.out) hb)
         have n11_ := Aside0.mk (blk_below (g := gb522) (o := .cells #[.int .i64 t513,.int .i64 t514,.int .i64 t515,.slice Ao34 t516.length co34] 31 (0,0)) (blk_up BK522.out) hb)
         have n12_ := Aside0.mk (below_step (B_set HB.out) hb)
         clear HO485
         clear HO491
         clear HO495
         clear HO498
         clear HO504
         clear HO512
         clear HO518
         clear HO521
         clear BK492
         clear BK507
         clear BK522
         clear HB
         have HO485 := n0_
         have HO491 := n1_
         have HO495 := n2_
         have HO498 := n3_
         have HO504 := n4_
         have HO512 := n5_
         have HO518 := n6_
         have HO521 := n7_
         have HO528 := n8_
         have BK492 := n9_
         have BK507 := n10_
         have BK522 := n11_
         have HB := n12_
         clear n0_ n1_ n2_ n3_ n4_ n5_ n6_ n7_ n8_ n9_ n10_ n11_ n12_
         (try clear hb)
         (try clear hb2)
         (try clear hk)
         (try clear hi)
         (try clear ho0)
         refine hK.out _ _ ⟨(blk_cell BK522.out 0).trans rfl,(blk_cell BK522.out 1).trans rfl,(blk_cell BK522.out 2).trans rfl,(blk_cell BK522.out 3).trans rfl,(blk_cell BK492.out 0).trans rfl,(blk_cell BK492.out 1).trans rfl,(blk_cell BK492.out 2).trans rfl,(blk_cell BK492.out 3).trans rfl,(blk_cell BK507.out 0).trans rfl,(blk_cell BK507.out 1).trans rfl,(blk_cell BK507.out 2).trans rfl,(blk_cell BK507.out 3).trans rfl⟩ (fun hHeld => ?_)
         clear hK K
         refine norm_ (a' := ?_) ?_ ?_
         rotate_left
         ·show Act.put _ (some 51) _ = _
          simp only [Act.put,List.setIfInBounds_toArray,List.set_cons_zero,List.set_cons_succ,i64_w,i32_w]
          rfl
         refine one_ (i := 7) (N := some 55) #[true,true,true,true,true,true,true,true,false,false,false,false,false,false,false,false,false,false,false,false,false,false,false,false,false,false,false,false,false,false,false,false,false,false,false,false,false,false,false,false,false,false,false,false,false,false,false,false] rfl rfl (one_of HT_.out (by kernel_rfl)) (by decide) (fun K hK => ?_)
         refine goes_ Try.func40 (by kernel_rfl) rfl #[.int .i64 t508,.slice Ao63 t509.length co63,.int .i64 t510] (by rfl) rfl rfl eq_up ?_
         with_reducible refine (spec_ManOf.calls k t508 _ _ t509 t510 t529 t530 t531 t532 _ ?side1 ?side2 A36.out).mono ?_
         (case side1 => exact Kd.C_up (Kd.R_reads' HO512.out).2.2)
         (case side2 => exact (Kd.R_reads' HO512.out).2.1)
         rintro e w65 ⟨v533,rfl,ho0,hb⟩
         refine ⟨_,rfl,?_⟩
         have n0_ := Aside0.mk (Kd.R_below (Kd.R_up HO485.out) hb)
         have n1_ := Aside0.mk (Kd.R_elder' (Kd.R_up HO491.out) (Kd.R_base ho0) hb)
         have n2_ := Aside0.mk (Kd.R_below (Kd.R_up HO495.out) hb)
         have n3_ := Aside0.mk (Kd.R_below (Kd.R_up HO498.out) hb)
         have n4_ := Aside0.mk (Kd.R_elder' (Kd.R_up HO504.out) (Kd.R_base ho0) hb)
         have n5_ := Aside0.mk (Kd.R_below (Kd.R_up HO512.out) hb)
         have n6_ := Aside0.mk (Kd.R_elder' (Kd.R_up HO518.out) (Kd.R_base ho0) hb)
         have n7_ := Aside0.mk (Kd.R_below (Kd.R_up HO521.out) hb)
         have n8_ := Aside0.mk (Kd.R_elder' (Kd.R_up HO528.out) (Kd.R_base ho0) hb)
         have n9_ := Aside0.mk (Kd.R_lower (Kd.R_new' (Kd.R_new' (Kd.R_new' (Kd.R_new' ho0 (Kd.R_lt (Kd.R_up HO491.out))) (Kd.R_lt (Kd.R_up HO504.out))) (Kd.R_lt (Kd.R_up HO518.out))) (Kd.R_lt (Kd.R_up HO528.out))) (below_size (B_set HB.out)))
         have n10_ := Aside0.mk (blk_below (g := gb492) (o := .cells #[.int .i64 t486,.int .i64 t487,.int .i64 t488,.slice Ao16 t489.length co16] 31 (0,0)) (blk_up BK492.out) hb)
         have n11_ := Aside0.mk (blk_below (g := gb507) (o := .cells #[.int .i64 t499,.int .i64 t500,.int .i64 t501,.slice Ao27 t502.length co27] 31 (0,0)) (blk_up BK507.out) hb)
         have n12_ := Aside0.mk (blk_below (g := gb522) (o := .cells #[.int .i64 t513,.int .i64 t514,.int .i64 t515,.slice Ao34 t516.length co34] 31 (0,0)) (blk_up BK522.out) hb)
         have n13_ := Aside0.mk (below_step (B_set HB.out) hb)
         clear HO485
         clear HO491
         clear HO495
         clear HO498
         clear HO504
         clear HO512
         clear HO518
         clear HO521
         clear HO528
         clear BK492
         clear BK507
         clear BK522
         clear HB
         have HO485 := n0_
         have HO491 := n1_
         have HO495 := n2_
         have HO498 := n3_
         have HO504 := n4_
         have HO512 := n5_
         have HO518 := n6_
         have HO521 := n7_
         have HO528 := n8_
         have HO534 := n9_
         have BK492 := n10_
         have BK507 := n11_
         have BK522 := n12_
         have HB := n13_
         clear n0_ n1_ n2_ n3_ n4_ n5_ n6_ n7_ n8_ n9_ n10_ n11_ n12_ n13_
         (try clear hb)
         (try clear hb2)
         (try clear hk)
         (try clear hi)
         (try clear ho0)
         obtain ⟨Ao66,co66,eo66⟩ := Kd.R_slice HO528.out
         (first | subst eo66 | (injection eo66 with f1_ f2_ f3_;have f4_ := f1_.symm;have f5_ := f3_.symm;clear f1_ f2_ f3_;subst f4_;subst f5_))
         obtain ⟨Ao67,co67,eo67⟩ := Kd.R_slice HO534.out
         (first | subst eo67 | (injection eo67 with f1_ f2_ f3_;have f4_ := f1_.symm;have f5_ := f3_.symm;clear f1_ f2_ f3_;subst f4_;subst f5_))
         refine hK.out _ _ ⟨(blk_cell BK522.out 0).trans rfl,(blk_cell BK522.out 1).trans rfl,(blk_cell BK522.out 2).trans rfl,(blk_cell BK522.out 3).trans rfl,(blk_cell BK492.out 0).trans rfl,(blk_cell BK492.out 1).trans rfl,(blk_cell BK492.out 2).trans rfl,(blk_cell BK492.out 3).trans rfl,(blk_cell BK507.out 0).trans rfl,(blk_cell BK507.out 1).trans rfl,(blk_cell BK507.out 2).trans rfl,(blk_cell BK507.out 3).trans rfl⟩ (fun hHeld => ?_)
         clear hK K
         refine norm_ (a' := ?_) ?_ ?_
         rotate_left
         ·show Act.put _ (some 55) _ = _
          simp only [Act.put,List.setIfInBounds_toArray,List.set_cons_zero,List.set_cons_succ,i64_w,i32_w]
          rfl
         refine one_ (i := 8) (N := some 56) #[true,true,true,true,true,true,true,true,true,false,false,false,false,false,false,false,false,false,false,false,false,false,false,false,false,false,false,false,false,false,false,false,false,false,false,false,false,false,false,false,false,false,false,false,false,false,false,false] rfl rfl (one_of HT_.out (by kernel_rfl)) (by decide) (fun K hK => ?_)
         refine goes_ Try.func39 (by kernel_rfl) rfl #[.agg #[.int .i64 t523,.int .i64 t524,.int .i64 t525,.slice Ao66 t526.length co66],.agg #[.int .i64 t529,.int .i64 t530,.int .i64 t531,.slice Ao67 t532.length co67]] (by rfl) rfl rfl eq_up ?_
         with_reducible refine (laws_sameMan.calls k t523 t524 t525 _ _ t526 t529 t530 t531 _ _ t532 true _ ?side1 ?side2 ?side3 ?side4 A37.out).mono ?_
         (case side1 => exact Kd.C_up (Kd.R_reads' HO528.out).2.2)
         (case side2 => exact (Kd.R_reads' HO528.out).2.1)
         (case side3 => exact Kd.C_up (Kd.R_reads' HO534.out).2.2)
         (case side4 => exact (Kd.R_reads' HO534.out).2.1)
         rintro e w68 ⟨rfl,hb⟩
         refine ⟨_,rfl,?_⟩
         have n0_ := Aside0.mk (Kd.R_below (Kd.R_up HO485.out) hb)
         have n1_ := Aside0.mk (Kd.R_below (Kd.R_up HO491.out) hb)
         have n2_ := Aside0.mk (Kd.R_below (Kd.R_up HO495.out) hb)
         have n3_ := Aside0.mk (Kd.R_below (Kd.R_up HO498.out) hb)
         have n4_ := Aside0.mk (Kd.R_below (Kd.R_up HO504.out) hb)
         have n5_ := Aside0.mk (Kd.R_below (Kd.R_up HO512.out) hb)
         have n6_ := Aside0.mk (Kd.R_below (Kd.R_up HO518.out) hb)
         have n7_ := Aside0.mk (Kd.R_below (Kd.R_up HO521.out) hb)
         have n8_ := Aside0.mk (Kd.R_below (Kd.R_up HO528.out) hb)
         have n9_ := Aside0.mk (Kd.R_below (Kd.R_up HO534.out) hb)
         have n10_ := Aside0.mk (blk_below (g := gb492) (o := .cells #[.int .i64 t486,.int .i64 t487,.int .i64 t488,.slice Ao16 t489.length co16] 31 (0,0)) (blk_up BK492.out) hb)
         have n11_ := Aside0.mk (blk_below (g := gb507) (o := .cells #[.int .i64 t499,.int .i64 t500,.int .i64 t501,.slice Ao27 t502.length co27] 31 (0,0)) (blk_up BK507.out) hb)
         have n12_ := Aside0.mk (blk_below (g := gb522) (o := .cells #[.int .i64 t513,.int .i64 t514,.int .i64 t515,.slice Ao34 t516.length co34] 31 (0,0)) (blk_up BK522.out) hb)
         have n13_ := Aside0.mk (below_step (B_set HB.out) hb)
         clear HO485
         clear HO491
         clear HO495
         clear HO498
         clear HO504
         clear HO512
         clear HO518
         clear HO521
         clear HO528
         clear HO534
         clear BK492
         clear BK507
         clear BK522
         clear HB
         have HO485 := n0_
         have HO491 := n1_
         have HO495 := n2_
         have HO498 := n3_
         have HO504 := n4_
         have HO512 := n5_
         have HO518 := n6_
         have HO521 := n7_
         have HO528 := n8_
         have HO534 := n9_
         have BK492 := n10_
         have BK507 := n11_
         have BK522 := n12_
         have HB := n13_
         clear n0_ n1_ n2_ n3_ n4_ n5_ n6_ n7_ n8_ n9_ n10_ n11_ n12_ n13_
         (try clear hb)
         (try clear hb2)
         (try clear hk)
         (try clear hi)
         obtain ⟨Ao69,co69,eo69⟩ := Kd.R_slice HO521.out
         (first | subst eo69 | (injection eo69 with f1_ f2_ f3_;have f4_ := f1_.symm;have f5_ := f3_.symm;clear f1_ f2_ f3_;subst f4_;subst f5_))
         refine hK.out _ _ ⟨(blk_cell BK522.out 0).trans rfl,(blk_cell BK522.out 1).trans rfl,(blk_cell BK522.out 2).trans rfl,(blk_cell BK522.out 3).trans rfl,(blk_cell BK492.out 0).trans rfl,(blk_cell BK492.out 1).trans rfl,(blk_cell BK492.out 2).trans rfl,(blk_cell BK492.out 3).trans rfl,(blk_cell BK507.out 0).trans rfl,(blk_cell BK507.out 1).trans rfl,(blk_cell BK507.out 2).trans rfl,(blk_cell BK507.out 3).trans rfl⟩ (fun hHeld => ?_)
         clear hK K
         refine norm_ (a' := ?_) ?_ ?_
         rotate_left
         ·show Act.put _ (some 56) _ = _
          simp only [Act.put,List.setIfInBounds_toArray,List.set_cons_zero,List.set_cons_succ,i64_w,i32_w]
          rfl
         refine pure_ (i := 9) (N := some 57) (v := ?_) (a' := ?_) #[true,true,true,true,true,true,true,true,true,true,false,false,false,false,false,false,false,false,false,false,false,false,false,false,false,false,false,false,false,false,false,false,false,false,false,false,false,false,false,false,false,false,false,false,false,false,false,false] rfl rfl (any_of HT_.out (by kernel_rfl)) (fun _ _ _ h => h) (Or.inl ⟨by rfl,?_⟩) ?_ ?_
         rotate_left
         ·intro w'
          go_simp
          with_reducible rfl
         rotate_left
         ·simp only [Act.put,List.setIfInBounds_toArray,List.set_cons_zero,List.set_cons_succ,i64_w,i32_w]
          rfl
         refine pure_ (i := 10) (N := some 58) (v := ?_) (a' := ?_) #[true,true,true,true,true,true,true,true,true,true,true,false,false,false,false,false,false,false,false,false,false,false,false,false,false,false,false,false,false,false,false,false,false,false,false,false,false,false,false,false,false,false,false,false,false,false,false,false] rfl rfl (any_of HT_.out (by kernel_rfl)) (fun _ _ _ h => h) (Or.inl ⟨by rfl,?_⟩) ?_ ?_
         rotate_left
         ·intro w'
          go_simp
          with_reducible rfl
         rotate_left
         ·simp only [Act.put,List.setIfInBounds_toArray,List.set_cons_zero,List.set_cons_succ,i64_w,i32_w]
          rfl
         refine pure_ (i := 12) (N := some 60) (v := ?_) (a' := ?_) #[true,true,true,true,true,true,true,true,true,true,true,false,true,false,false,false,false,false,false,false,false,false,false,false,false,false,false,false,false,false,false,false,false,false,false,false,false,false,false,false,false,false,false,false,false,false,false,false] rfl rfl (any_of HT_.out (by kernel_rfl)) (fun _ _ _ h => h) (Or.inl ⟨by rfl,?_⟩) ?_ ?_
         rotate_left
         ·intro w'
          go_simp
          with_reducible rfl
         rotate_left
         ·simp only [Act.put,List.setIfInBounds_toArray,List.set_cons_zero,List.set_cons_succ,i64_w,i32_w]
          rfl
         refine pure_ (i := 15) (N := some 63) (v := ?_) (a' := ?_) #[true,true,true,true,true,true,true,true,true,true,true,false,true,false,false,true,false,false,false,false,false,false,false,false,false,false,false,false,false,false,false,false,false,false,false,false,false,false,false,false,false,false,false,false,false,false,false,false] rfl rfl (any_of HT_.out (by kernel_rfl)) (fun _ _ _ h => h) (Or.inl ⟨by rfl,?_⟩) ?_ ?_
         rotate_left
         ·intro w'
          go_simp
          with_reducible rfl
         rotate_left
         ·simp only [Act.put,List.setIfInBounds_toArray,List.set_cons_zero,List.set_cons_succ,i64_w,i32_w]
          rfl
         refine take_ (i := 11) (N := some 59) (v := ?_) (a' := ?_) #[true,true,true,true,true,true,true,true,true,true,true,true,true,false,false,true,false,false,false,false,false,false,false,false,false,false,false,false,false,false,false,false,false,false,false,false,false,false,false,false,false,false,false,false,false,false,false,false] rfl rfl (take_ofW HT_.out HW_.out (by kernel_rfl)) (fun _ _ _ h => h) (Or.inl ⟨by rfl,?_⟩) hHeld ?_ ?_
         rotate_left
         ·rintro w' ⟨s0,s1,s2,s3,s4,s5,s6,s7,s8,s9,s10,s11⟩
          go_simp
          with_reducible rfl
         rotate_left
         ·simp only [Act.put,List.setIfInBounds_toArray,List.set_cons_zero,List.set_cons_succ,i64_w,i32_w]
          rfl
         refine take_ (i := 14) (N := some 62) (v := ?_) (a' := ?_) #[true,true,true,true,true,true,true,true,true,true,true,true,true,false,true,true,false,false,false,false,false,false,false,false,false,false,false,false,false,false,false,false,false,false,false,false,false,false,false,false,false,false,false,false,false,false,false,false] rfl rfl (take_ofW HT_.out HW_.out (by kernel_rfl)) (fun _ _ _ h => h) (Or.inl ⟨by rfl,?_⟩) hHeld ?_ ?_
         rotate_left
         ·rintro w' ⟨s0,s1,s2,s3,s4,s5,s6,s7,s8,s9,s10,s11⟩
          go_simp
          with_reducible rfl
         rotate_left
         ·simp only [Act.put,List.setIfInBounds_toArray,List.set_cons_zero,List.set_cons_succ,i64_w,i32_w]
          rfl
         refine one_ (i := 13) (N := some 61) #[true,true,true,true,true,true,true,true,true,true,true,true,true,true,true,true,false,false,false,false,false,false,false,false,false,false,false,false,false,false,false,false,false,false,false,false,false,false,false,false,false,false,false,false,false,false,false,false] rfl rfl (one_of HT_.out (by kernel_rfl)) (by decide) (fun K hK => ?_)
         refine goes_ Try.func41 (by kernel_rfl) rfl #[.agg #[.int .i64 t513,.int .i64 t514,.int .i64 t515,.slice Ao34 t516.length co34],.slice Ao69 t519.length co69] (by rfl) rfl rfl eq_up ?_
         with_reducible refine (impl_Tells.calls k t513 t514 t515 _ _ t516 _ _ t519 t536 _ ?side1 ?side2 ?side3 ?side4 A39.out).mono ?_
         (case side1 => exact Kd.C_up (Kd.R_reads' HO518.out).2.2)
         (case side2 => exact (Kd.R_reads' HO518.out).2.1)
         (case side3 => exact Kd.C_up (Kd.R_reads' HO521.out).2.2)
         (case side4 => exact (Kd.R_reads' HO521.out).2.1)
         rintro e w70 ⟨rfl,hb⟩
         refine ⟨_,rfl,?_⟩
         have n0_ := Aside0.mk (Kd.R_below (Kd.R_up HO485.out) hb)
         have n1_ := Aside0.mk (Kd.R_below (Kd.R_up HO491.out) hb)
         have n2_ := Aside0.mk (Kd.R_below (Kd.R_up HO495.out) hb)
         have n3_ := Aside0.mk (Kd.R_below (Kd.R_up HO498.out) hb)
         have n4_ := Aside0.mk (Kd.R_below (Kd.R_up HO504.out) hb)
         have n5_ := Aside0.mk (Kd.R_below (Kd.R_up HO512.out) hb)
         have n6_ := Aside0.mk (Kd.R_below (Kd.R_up HO518.out) hb)
         have n7_ := Aside0.mk (Kd.R_below (Kd.R_up HO521.out) hb)
         have n8_ := Aside0.mk (Kd.R_below (Kd.R_up HO528.out) hb)
         have n9_ := Aside0.mk (Kd.R_below (Kd.R_up HO534.out) hb)
         have n10_ := Aside0.mk (blk_below (g := gb492) (o := .cells #[.int .i64 t486,.int .i64 t487,.int .i64 t488,.slice Ao16 t489.length co16] 31 (0,0)) (blk_up BK492.out) hb)
         have n11_ := Aside0.mk (blk_below (g := gb507) (o := .cells #[.int .i64 t499,.int .i64 t500,.int .i64 t501,.slice Ao27 t502.length co27] 31 (0,0)) (blk_up BK507.out) hb)
         have n12_ := Aside0.mk (blk_below (g := gb522) (o := .cells #[.int .i64 t513,.int .i64 t514,.int .i64 t515,.slice Ao34 t516.length co34] 31 (0,0)) (blk_up BK522.out) hb)
         have n13_ := Aside0.mk (below_step (B_set HB.out) hb)
         clear HO485
         clear HO491
         clear HO495
         clear HO498
         clear HO504
         clear HO512
         clear HO518
         clear HO521
         clear HO528
         clear HO534
         clear BK492
         clear BK507
         clear BK522
         clear HB
         have HO485 := n0_
         have HO491 := n1_
         have HO495 := n2_
         have HO498 := n3_
         have HO504 := n4_
         have HO512 := n5_
         have HO518 := n6_
         have HO521 := n7_
         have HO528 := n8_
         have HO534 := n9_
         have BK492 := n10_
         have BK507 := n11_
         have BK522 := n12_
         have HB := n13_
         clear n0_ n1_ n2_ n3_ n4_ n5_ n6_ n7_ n8_ n9_ n10_ n11_ n12_ n13_
         (try clear hb)
         (try clear hb2)
         (try clear hk)
         (try clear hi)
         refine hK.out _ _ ⟨(blk_cell BK522.out 0).trans rfl,(blk_cell BK522.out 1).trans rfl,(blk_cell BK522.out 2).trans rfl,(blk_cell BK522.out 3).trans rfl,(blk_cell BK492.out 0).trans rfl,(blk_cell BK492.out 1).trans rfl,(blk_cell BK492.out 2).trans rfl,(blk_cell BK492.out 3).trans rfl,(blk_cell BK507.out 0).trans rfl,(blk_cell BK507.out 1).trans rfl,(blk_cell BK507.out 2).trans rfl,(blk_cell BK507.out 3).trans rfl⟩ (fun hHeld => ?_)
         clear hK K
         refine norm_ (a' := ?_) ?_ ?_
         rotate_left
         ·show Act.put _ (some 61) _ = _
          simp only [Act.put,List.setIfInBounds_toArray,List.set_cons_zero,List.set_cons_succ,i64_w,i32_w]
          rfl
         refine one_ (i := 16) (N := some 64) #[true,true,true,true,true,true,true,true,true,true,true,true,true,true,true,true,true,false,false,false,false,false,false,false,false,false,false,false,false,false,false,false,false,false,false,false,false,false,false,false,false,false,false,false,false,false,false,false] rfl rfl (one_of HT_.out (by kernel_rfl)) (by decide) (fun K hK => ?_)
         refine goes_ Try.func42 (by kernel_rfl) rfl #[.agg #[.int .i64 t513,.int .i64 t514,.int .i64 t515,.slice Ao34 t516.length co34],.slice Ao69 t519.length co69] (by rfl) rfl rfl eq_up ?_
         with_reducible refine (spec_Tells.calls k t513 t514 t515 _ _ t516 _ _ t519 t537 _ ?side1 ?side2 ?side3 ?side4 A40.out).mono ?_
         (case side1 => exact Kd.C_up (Kd.R_reads' HO518.out).2.2)
         (case side2 => exact (Kd.R_reads' HO518.out).2.1)
         (case side3 => exact Kd.C_up (Kd.R_reads' HO521.out).2.2)
         (case side4 => exact (Kd.R_reads' HO521.out).2.1)
         rintro e w71 ⟨rfl,hb⟩
         refine ⟨_,rfl,?_⟩
         have n0_ := Aside0.mk (Kd.R_below (Kd.R_up HO485.out) hb)
         have n1_ := Aside0.mk (Kd.R_below (Kd.R_up HO491.out) hb)
         have n2_ := Aside0.mk (Kd.R_below (Kd.R_up HO495.out) hb)
         have n3_ := Aside0.mk (Kd.R_below (Kd.R_up HO498.out) hb)
         have n4_ := Aside0.mk (Kd.R_below (Kd.R_up HO504.out) hb)
         have n5_ := Aside0.mk (Kd.R_below (Kd.R_up HO512.out) hb)
         have n6_ := Aside0.mk (Kd.R_below (Kd.R_up HO518.out) hb)
         have n7_ := Aside0.mk (Kd.R_below (Kd.R_up HO521.out) hb)
         have n8_ := Aside0.mk (Kd.R_below (Kd.R_up HO528.out) hb)
         have n9_ := Aside0.mk (Kd.R_below (Kd.R_up HO534.out) hb)
         have n10_ := Aside0.mk (blk_below (g := gb492) (o := .cells #[.int .i64 t486,.int .i64 t487,.int .i64 t488,.slice Ao16 t489.length co16] 31 (0,0)) (blk_up BK492.out) hb)
         have n11_ := Aside0.mk (blk_below (g := gb507) (o := .cells #[.int .i64 t499,.int .i64 t500,.int .i64 t501,.slice Ao27 t502.length co27] 31 (0,0)) (blk_up BK507.out) hb)
         have n12_ := Aside0.mk (blk_below (g := gb522) (o := .cells #[.int .i64 t513,.int .i64 t514,.int .i64 t515,.slice Ao34 t516.length co34] 31 (0,0)) (blk_up BK522.out) hb)
         have n13_ := Aside0.mk (below_step (B_set HB.out) hb)
         clear HO485
         clear HO491
         clear HO495
         clear HO498
         clear HO504
         clear HO512
         clear HO518
         clear HO521
         clear HO528
         clear HO534
         clear BK492
         clear BK507
         clear BK522
         clear HB
         have HO485 := n0_
         have HO491 := n1_
         have HO495 := n2_
         have HO498 := n3_
         have HO504 := n4_
         have HO512 := n5_
         have HO518 := n6_
         have HO521 := n7_
         have HO528 := n8_
         have HO534 := n9_
         have BK492 := n10_
         have BK507 := n11_
         have BK522 := n12_
         have HB := n13_
         clear n0_ n1_ n2_ n3_ n4_ n5_ n6_ n7_ n8_ n9_ n10_ n11_ n12_ n13_
         (try clear hb)
         (try clear hb2)
         (try clear hk)
         (try clear hi)
         refine hK.out _ _ ⟨(blk_cell BK522.out 0).trans rfl,(blk_cell BK522.out 1).trans rfl,(blk_cell BK522.out 2).trans rfl,(blk_cell BK522.out 3).trans rfl,(blk_cell BK492.out 0).trans rfl,(blk_cell BK492.out 1).trans rfl,(blk_cell BK492.out 2).trans rfl,(blk_cell BK492.out 3).trans rfl,(blk_cell BK507.out 0).trans rfl,(blk_cell BK507.out 1).trans rfl,(blk_cell BK507.out 2).trans rfl,(blk_cell BK507.out 3).trans rfl⟩ (fun hHeld => ?_)
         clear hK K
         refine norm_ (a' := ?_) ?_ ?_
         rotate_left
         ·show Act.put _ (some 64) _ = _
          simp only [Act.put,List.setIfInBounds_toArray,List.set_cons_zero,List.set_cons_succ,i64_w,i32_w]
          rfl
         refine pure_ (i := 17) (N := some 65) (v := ?_) (a' := ?_) #[true,true,true,true,true,true,true,true,true,true,true,true,true,true,true,true,true,true,false,false,false,false,false,false,false,false,false,false,false,false,false,false,false,false,false,false,false,false,false,false,false,false,false,false,false,false,false,false] rfl rfl (any_of HT_.out (by kernel_rfl)) (fun _ _ _ h => h) (Or.inl ⟨by rfl,?_⟩) ?_ ?_
         rotate_left
         ·intro w'
          go_simp
          with_reducible rfl
         rotate_left
         ·simp only [Act.put,List.setIfInBounds_toArray,List.set_cons_zero,List.set_cons_succ,i64_w,i32_w]
          rfl
         refine pure_ (i := 18) (N := some 66) (v := ?_) (a' := ?_) #[true,true,true,true,true,true,true,true,true,true,true,true,true,true,true,true,true,true,true,false,false,false,false,false,false,false,false,false,false,false,false,false,false,false,false,false,false,false,false,false,false,false,false,false,false,false,false,false] rfl rfl (any_of HT_.out (by kernel_rfl)) (fun _ _ _ h => h) (Or.inl ⟨by rfl,?_⟩) ?_ ?_
         rotate_left
         ·intro w'
          go_simp
          with_reducible rfl
         rotate_left
         ·simp only [Act.put,List.setIfInBounds_toArray,List.set_cons_zero,List.set_cons_succ,i64_w,i32_w]
          rfl
         refine pure_ (i := 19) (N := some 67) (v := ?_) (a' := ?_) #[true,true,true,true,true,true,true,true,true,true,true,true,true,true,true,true,true,true,true,true,false,false,false,false,false,false,false,false,false,false,false,false,false,false,false,false,false,false,false,false,false,false,false,false,false,false,false,false] rfl rfl (any_of HT_.out (by kernel_rfl)) (fun _ _ _ h => h) (Or.inl ⟨by rfl,?_⟩) ?_ ?_
         rotate_left
         ·intro w'
          go_simp
          with_reducible rfl
         rotate_left
         ·simp only [Act.put,List.setIfInBounds_toArray,List.set_cons_zero,List.set_cons_succ,i64_w,i32_w]
          rfl
         refine take_ (i := 20) (N := some 68) (v := ?_) (a' := ?_) #[true,true,true,true,true,true,true,true,true,true,true,true,true,true,true,true,true,true,true,true,true,false,false,false,false,false,false,false,false,false,false,false,false,false,false,false,false,false,false,false,false,false,false,false,false,false,false,false] rfl rfl (take_ofW HT_.out HW_.out (by kernel_rfl)) (fun _ _ _ h => h) (Or.inl ⟨by rfl,?_⟩) hHeld ?_ ?_
         rotate_left
         ·rintro w' ⟨s0,s1,s2,s3,s4,s5,s6,s7,s8,s9,s10,s11⟩
          go_simp
          with_reducible rfl
         rotate_left
         ·simp only [Act.put,List.setIfInBounds_toArray,List.set_cons_zero,List.set_cons_succ,i64_w,i32_w]
          rfl
         refine one_ (i := 21) (N := some 69) #[true,true,true,true,true,true,true,true,true,true,true,true,true,true,true,true,true,true,true,true,true,true,false,false,false,false,false,false,false,false,false,false,false,false,false,false,false,false,false,false,false,false,false,false,false,false,false,false] rfl rfl (one_of HT_.out (by kernel_rfl)) (by decide) (fun K hK => ?_)
         refine goes_ Try.func43 (by kernel_rfl) rfl #[.agg #[.int .i64 t486,.int .i64 t487,.int .i64 t488,.slice Ao16 t489.length co16]] (by rfl) rfl rfl eq_up ?_
         with_reducible refine (impl_ManOk.calls k t486 t487 t488 _ _ t489 true _ ?side1 ?side2 A53.out).mono ?_
         (case side1 => exact Kd.C_up (Kd.R_reads' HO491.out).2.2)
         (case side2 => exact (Kd.R_reads' HO491.out).2.1)
         rintro e w72 ⟨rfl,hb⟩
         refine ⟨_,rfl,?_⟩
         have n0_ := Aside0.mk (Kd.R_below (Kd.R_up HO485.out) hb)
         have n1_ := Aside0.mk (Kd.R_below (Kd.R_up HO491.out) hb)
         have n2_ := Aside0.mk (Kd.R_below (Kd.R_up HO495.out) hb)
         have n3_ := Aside0.mk (Kd.R_below (Kd.R_up HO498.out) hb)
         have n4_ := Aside0.mk (Kd.R_below (Kd.R_up HO504.out) hb)
         have n5_ := Aside0.mk (Kd.R_below (Kd.R_up HO512.out) hb)
         have n6_ := Aside0.mk (Kd.R_below (Kd.R_up HO518.out) hb)
         have n7_ := Aside0.mk (Kd.R_below (Kd.R_up HO521.out) hb)
         have n8_ := Aside0.mk (Kd.R_below (Kd.R_up HO528.out) hb)
         have n9_ := Aside0.mk (Kd.R_below (Kd.R_up HO534.out) hb)
         have n10_ := Aside0.mk (blk_below (g := gb492) (o := .cells #[.int .i64 t486,.int .i64 t487,.int .i64 t488,.slice Ao16 t489.length co16] 31 (0,0)) (blk_up BK492.out) hb)
         have n11_ := Aside0.mk (blk_below (g := gb507) (o := .cells #[.int .i64 t499,.int .i64 t500,.int .i64 t501,.slice Ao27 t502.length co27] 31 (0,0)) (blk_up BK507.out) hb)
         have n12_ := Aside0.mk (blk_below (g := gb522) (o := .cells #[.int .i64 t513,.int .i64 t514,.int .i64 t515,.slice Ao34 t516.length co34] 31 (0,0)) (blk_up BK522.out) hb)
         have n13_ := Aside0.mk (below_step (B_set HB.out) hb)
         clear HO485
         clear HO491
         clear HO495
         clear HO498
         clear HO504
         clear HO512
         clear HO518
         clear HO521
         clear HO528
         clear HO534
         clear BK492
         clear BK507
         clear BK522
         clear HB
         have HO485 := n0_
         have HO491 := n1_
         have HO495 := n2_
         have HO498 := n3_
         have HO504 := n4_
         have HO512 := n5_
         have HO518 := n6_
         have HO521 := n7_
         have HO528 := n8_
         have HO534 := n9_
         have BK492 := n10_
         have BK507 := n11_
         have BK522 := n12_
         have HB := n13_
         clear n0_ n1_ n2_ n3_ n4_ n5_ n6_ n7_ n8_ n9_ n10_ n11_ n12_ n13_
         (try clear hb)
         (try clear hb2)
         (try clear hk)
         (try clear hi)
         refine hK.out _ _ ⟨(blk_cell BK522.out 0).trans rfl,(blk_cell BK522.out 1).trans rfl,(blk_cell BK522.out 2).trans rfl,(blk_cell BK522.out 3).trans rfl,(blk_cell BK492.out 0).trans rfl,(blk_cell BK492.out 1).trans rfl,(blk_cell BK492.out 2).trans rfl,(blk_cell BK492.out 3).trans rfl,(blk_cell BK507.out 0).trans rfl,(blk_cell BK507.out 1).trans rfl,(blk_cell BK507.out 2).trans rfl,(blk_cell BK507.out 3).trans rfl⟩ (fun hHeld => ?_)
         clear hK K
         refine norm_ (a' := ?_) ?_ ?_
         rotate_left
         ·show Act.put _ (some 69) _ = _
          simp only [Act.put,List.setIfInBounds_toArray,List.set_cons_zero,List.set_cons_succ,i64_w,i32_w]
          rfl
         refine pure_ (i := 22) (N := some 70) (v := ?_) (a' := ?_) #[true,true,true,true,true,true,true,true,true,true,true,true,true,true,true,true,true,true,true,true,true,true,true,false,false,false,false,false,false,false,false,false,false,false,false,false,false,false,false,false,false,false,false,false,false,false,false,false] rfl rfl (any_of HT_.out (by kernel_rfl)) (fun _ _ _ h => h) (Or.inl ⟨by rfl,?_⟩) ?_ ?_
         rotate_left
         ·intro w'
          go_simp
          with_reducible rfl
         rotate_left
         ·simp only [Act.put,List.setIfInBounds_toArray,List.set_cons_zero,List.set_cons_succ,i64_w,i32_w]
          rfl
         refine pure_ (i := 23) (N := some 71) (v := ?_) (a' := ?_) #[true,true,true,true,true,true,true,true,true,true,true,true,true,true,true,true,true,true,true,true,true,true,true,true,false,false,false,false,false,false,false,false,false,false,false,false,false,false,false,false,false,false,false,false,false,false,false,false] rfl rfl (any_of HT_.out (by kernel_rfl)) (fun _ _ _ h => h) (Or.inl ⟨by rfl,?_⟩) ?_ ?_
         rotate_left
         ·intro w'
          go_simp
          with_reducible rfl
         rotate_left
         ·simp only [Act.put,List.setIfInBounds_toArray,List.set_cons_zero,List.set_cons_succ,i64_w,i32_w]
          rfl
         refine pure_ (i := 24) (N := some 72) (v := ?_) (a' := ?_) #[true,true,true,true,true,true,true,true,true,true,true,true,true,true,true,true,true,true,true,true,true,true,true,true,true,false,false,false,false,false,false,false,false,false,false,false,false,false,false,false,false,false,false,false,false,false,false,false] rfl rfl (any_of HT_.out (by kernel_rfl)) (fun _ _ _ h => h) (Or.inl ⟨by rfl,?_⟩) ?_ ?_
         rotate_left
         ·intro w'
          go_simp
          with_reducible rfl
         rotate_left
         ·simp only [Act.put,List.setIfInBounds_toArray,List.set_cons_zero,List.set_cons_succ,i64_w,i32_w]
          rfl
         refine pure_ (i := 25) (N := some 73) (v := ?_) (a' := ?_) #[true,true,true,true,true,true,true,true,true,true,true,true,true,true,true,true,true,true,true,true,true,true,true,true,true,true,false,false,false,false,false,false,false,false,false,false,false,false,false,false,false,false,false,false,false,false,false,false] rfl rfl (any_of HT_.out (by kernel_rfl)) (fun _ _ _ h => h) (Or.inl ⟨by rfl,?_⟩) ?_ ?_
         rotate_left
         ·intro w'
          go_simp
          with_reducible rfl
         rotate_left
         ·simp only [Act.put,List.setIfInBounds_toArray,List.set_cons_zero,List.set_cons_succ,i64_w,i32_w]
          rfl
         refine pure_ (i := 26) (N := some 74) (v := ?_) (a' := ?_) #[true,true,true,true,true,true,true,true,true,true,true,true,true,true,true,true,true,true,true,true,true,true,true,true,true,true,true,false,false,false,false,false,false,false,false,false,false,false,false,false,false,false,false,false,false,false,false,false] rfl rfl (any_of HT_.out (by kernel_rfl)) (fun _ _ _ h => h) (Or.inl ⟨by rfl,?_⟩) ?_ ?_
         rotate_left
         ·intro w'
          go_simp
          with_reducible rfl
         rotate_left
         ·simp only [Act.put,List.setIfInBounds_toArray,List.set_cons_zero,List.set_cons_succ,i64_w,i32_w]
          rfl
         refine pure_ (i := 27) (N := some 75) (v := ?_) (a' := ?_) #[true,true,true,true,true,true,true,true,true,true,true,true,true,true,true,true,true,true,true,true,true,true,true,true,true,true,true,true,false,false,false,false,false,false,false,false,false,false,false,false,false,false,false,false,false,false,false,false] rfl rfl (any_of HT_.out (by kernel_rfl)) (fun _ _ _ h => h) (Or.inl ⟨by rfl,?_⟩) ?_ ?_
         rotate_left
         ·intro w'
          go_simp
          with_reducible rfl
         rotate_left
         ·simp only [Act.put,List.setIfInBounds_toArray,List.set_cons_zero,List.set_cons_succ,i64_w,i32_w]
          rfl
         refine pure_ (i := 28) (N := some 76) (v := ?_) (a' := ?_) #[true,true,true,true,true,true,true,true,true,true,true,true,true,true,true,true,true,true,true,true,true,true,true,true,true,true,true,true,true,false,false,false,false,false,false,false,false,false,false,false,false,false,false,false,false,false,false,false] rfl rfl (any_of HT_.out (by kernel_rfl)) (fun _ _ _ h => h) (Or.inl ⟨by rfl,?_⟩) ?_ ?_
         rotate_left
         ·intro w'
          go_simp
          with_reducible rfl
         rotate_left
         ·simp only [Act.put,List.setIfInBounds_toArray,List.set_cons_zero,List.set_cons_succ,i64_w,i32_w]
          rfl
         refine take_ (i := 29) (N := some 77) (v := ?_) (a' := ?_) #[true,true,true,true,true,true,true,true,true,true,true,true,true,true,true,true,true,true,true,true,true,true,true,true,true,true,true,true,true,true,false,false,false,false,false,false,false,false,false,false,false,false,false,false,false,false,false,false] rfl rfl (take_ofW HT_.out HW_.out (by kernel_rfl)) (fun _ _ _ h => h) (Or.inl ⟨by rfl,?_⟩) hHeld ?_ ?_
         rotate_left
         ·rintro w' ⟨s0,s1,s2,s3,s4,s5,s6,s7,s8,s9,s10,s11⟩
          go_simp
          with_reducible rfl
         rotate_left
         ·simp only [Act.put,List.setIfInBounds_toArray,List.set_cons_zero,List.set_cons_succ,i64_w,i32_w]
          rfl
         refine take_ (i := 30) (N := some 78) (v := ?_) (a' := ?_) #[true,true,true,true,true,true,true,true,true,true,true,true,true,true,true,true,true,true,true,true,true,true,true,true,true,true,true,true,true,true,true,false,false,false,false,false,false,false,false,false,false,false,false,false,false,false,false,false] rfl rfl (take_ofW HT_.out HW_.out (by kernel_rfl)) (fun _ _ _ h => h) (Or.inl ⟨by rfl,?_⟩) hHeld ?_ ?_
         rotate_left
         ·rintro w' ⟨s0,s1,s2,s3,s4,s5,s6,s7,s8,s9,s10,s11⟩
          go_simp
          with_reducible rfl
         rotate_left
         ·simp only [Act.put,List.setIfInBounds_toArray,List.set_cons_zero,List.set_cons_succ,i64_w,i32_w]
          rfl
         refine one_ (i := 31) (N := some 79) #[true,true,true,true,true,true,true,true,true,true,true,true,true,true,true,true,true,true,true,true,true,true,true,true,true,true,true,true,true,true,true,true,false,false,false,false,false,false,false,false,false,false,false,false,false,false,false,false] rfl rfl (one_of HT_.out (by kernel_rfl)) (by decide) (fun K hK => ?_)
         refine goes_ Try.func39 (by kernel_rfl) rfl #[.agg #[.int .i64 t499,.int .i64 t500,.int .i64 t501,.slice Ao27 t502.length co27],.agg #[.int .i64 t486,.int .i64 t487,.int .i64 t488,.slice Ao16 t489.length co16]] (by rfl) rfl rfl eq_up ?_
         with_reducible refine (laws_sameMan.calls k t499 t500 t501 _ _ t502 t486 t487 t488 _ _ t489 true _ ?side1 ?side2 ?side3 ?side4 A56.out).mono ?_
         (case side1 => exact Kd.C_up (Kd.R_reads' HO504.out).2.2)
         (case side2 => exact (Kd.R_reads' HO504.out).2.1)
         (case side3 => exact Kd.C_up (Kd.R_reads' HO491.out).2.2)
         (case side4 => exact (Kd.R_reads' HO491.out).2.1)
         rintro e w73 ⟨rfl,hb⟩
         refine ⟨_,rfl,?_⟩
         have n0_ := Aside0.mk (Kd.R_below (Kd.R_up HO485.out) hb)
         have n1_ := Aside0.mk (Kd.R_below (Kd.R_up HO491.out) hb)
         have n2_ := Aside0.mk (Kd.R_below (Kd.R_up HO495.out) hb)
         have n3_ := Aside0.mk (Kd.R_below (Kd.R_up HO498.out) hb)
         have n4_ := Aside0.mk (Kd.R_below (Kd.R_up HO504.out) hb)
         have n5_ := Aside0.mk (Kd.R_below (Kd.R_up HO512.out) hb)
         have n6_ := Aside0.mk (Kd.R_below (Kd.R_up HO518.out) hb)
         have n7_ := Aside0.mk (Kd.R_below (Kd.R_up HO521.out) hb)
         have n8_ := Aside0.mk (Kd.R_below (Kd.R_up HO528.out) hb)
         have n9_ := Aside0.mk (Kd.R_below (Kd.R_up HO534.out) hb)
         have n10_ := Aside0.mk (blk_below (g := gb492) (o := .cells #[.int .i64 t486,.int .i64 t487,.int .i64 t488,.slice Ao16 t489.length co16] 31 (0,0)) (blk_up BK492.out) hb)
         have n11_ := Aside0.mk (blk_below (g := gb507) (o := .cells #[.int .i64 t499,.int .i64 t500,.int .i64 t501,.slice Ao27 t502.length co27] 31 (0,0)) (blk_up BK507.out) hb)
         have n12_ := Aside0.mk (blk_below (g := gb522) (o := .cells #[.int .i64 t513,.int .i64 t514,.int .i64 t515,.slice Ao34 t516.length co34] 31 (0,0)) (blk_up BK522.out) hb)
         have n13_ := Aside0.mk (below_step (B_set HB.out) hb)
         clear HO485
         clear HO491
         clear HO495
         clear HO498
         clear HO504
         clear HO512
         clear HO518
         clear HO521
         clear HO528
         clear HO534
         clear BK492
         clear BK507
         clear BK522
         clear HB
         have HO485 := n0_
         have HO491 := n1_
         have HO495 := n2_
         have HO498 := n3_
         have HO504 := n4_
         have HO512 := n5_
         have HO518 := n6_
         have HO521 := n7_
         have HO528 := n8_
         have HO534 := n9_
         have BK492 := n10_
         have BK507 := n11_
         have BK522 := n12_
         have HB := n13_
         clear n0_ n1_ n2_ n3_ n4_ n5_ n6_ n7_ n8_ n9_ n10_ n11_ n12_ n13_
         (try clear hb)
         (try clear hb2)
         (try clear hk)
         (try clear hi)
         refine hK.out _ _ ⟨(blk_cell BK522.out 0).trans rfl,(blk_cell BK522.out 1).trans rfl,(blk_cell BK522.out 2).trans rfl,(blk_cell BK522.out 3).trans rfl,(blk_cell BK492.out 0).trans rfl,(blk_cell BK492.out 1).trans rfl,(blk_cell BK492.out 2).trans rfl,(blk_cell BK492.out 3).trans rfl,(blk_cell BK507.out 0).trans rfl,(blk_cell BK507.out 1).trans rfl,(blk_cell BK507.out 2).trans rfl,(blk_cell BK507.out 3).trans rfl⟩ (fun hHeld => ?_)
         clear hK K
         refine norm_ (a' := ?_) ?_ ?_
         rotate_left
         ·show Act.put _ (some 79) _ = _
          simp only [Act.put,List.setIfInBounds_toArray,List.set_cons_zero,List.set_cons_succ,i64_w,i32_w]
          rfl
         refine pure_ (i := 32) (N := some 80) (v := ?_) (a' := ?_) #[true,true,true,true,true,true,true,true,true,true,true,true,true,true,true,true,true,true,true,true,true,true,true,true,true,true,true,true,true,true,true,true,true,false,false,false,false,false,false,false,false,false,false,false,false,false,false,false] rfl rfl (any_of HT_.out (by kernel_rfl)) (fun _ _ _ h => h) (Or.inl ⟨by rfl,?_⟩) ?_ ?_
         rotate_left
         ·intro w'
          go_simp
          with_reducible rfl
         rotate_left
         ·simp only [Act.put,List.setIfInBounds_toArray,List.set_cons_zero,List.set_cons_succ,i64_w,i32_w]
          rfl
         refine pure_ (i := 33) (N := some 81) (v := ?_) (a' := ?_) #[true,true,true,true,true,true,true,true,true,true,true,true,true,true,true,true,true,true,true,true,true,true,true,true,true,true,true,true,true,true,true,true,true,true,false,false,false,false,false,false,false,false,false,false,false,false,false,false] rfl rfl (any_of HT_.out (by kernel_rfl)) (fun _ _ _ h => h) (Or.inl ⟨by rfl,?_⟩) ?_ ?_
         rotate_left
         ·intro w'
          go_simp
          with_reducible rfl
         rotate_left
         ·simp only [Act.put,List.setIfInBounds_toArray,List.set_cons_zero,List.set_cons_succ,i64_w,i32_w]
          rfl
         refine pure_ (i := 34) (N := some 82) (v := ?_) (a' := ?_) #[true,true,true,true,true,true,true,true,true,true,true,true,true,true,true,true,true,true,true,true,true,true,true,true,true,true,true,true,true,true,true,true,true,true,true,false,false,false,false,false,false,false,false,false,false,false,false,false] rfl rfl (any_of HT_.out (by kernel_rfl)) (fun _ _ _ h => h) (Or.inl ⟨by rfl,?_⟩) ?_ ?_
         rotate_left
         ·intro w'
          go_simp
          with_reducible rfl
         rotate_left
         ·simp only [Act.put,List.setIfInBounds_toArray,List.set_cons_zero,List.set_cons_succ,i64_w,i32_w]
          rfl
         refine pure_ (i := 35) (N := some 83) (v := ?_) (a' := ?_) #[true,true,true,true,true,true,true,true,true,true,true,true,true,true,true,true,true,true,true,true,true,true,true,true,true,true,true,true,true,true,true,true,true,true,true,true,false,false,false,false,false,false,false,false,false,false,false,false] rfl rfl (any_of HT_.out (by kernel_rfl)) (fun _ _ _ h => h) (Or.inl ⟨by rfl,?_⟩) ?_ ?_
         rotate_left
         ·intro w'
          go_simp
          with_reducible rfl
         rotate_left
         ·simp only [Act.put,List.setIfInBounds_toArray,List.set_cons_zero,List.set_cons_succ,i64_w,i32_w]
          rfl
         refine take_ (i := 37) (N := some 85) (v := ?_) (a' := ?_) #[true,true,true,true,true,true,true,true,true,true,true,true,true,true,true,true,true,true,true,true,true,true,true,true,true,true,true,true,true,true,true,true,true,true,true,true,false,true,false,false,false,false,false,false,false,false,false,false] rfl rfl (take_ofW HT_.out HW_.out (by kernel_rfl)) (fun _ _ _ h => h) (Or.inl ⟨by rfl,?_⟩) hHeld ?_ ?_
         rotate_left
         ·rintro w' ⟨s0,s1,s2,s3,s4,s5,s6,s7,s8,s9,s10,s11⟩
          go_simp
          with_reducible rfl
         rotate_left
         ·simp only [Act.put,List.setIfInBounds_toArray,List.set_cons_zero,List.set_cons_succ,i64_w,i32_w]
          rfl
         refine one_ (i := 36) (N := some 84) #[true,true,true,true,true,true,true,true,true,true,true,true,true,true,true,true,true,true,true,true,true,true,true,true,true,true,true,true,true,true,true,true,true,true,true,true,true,true,false,false,false,false,false,false,false,false,false,false] rfl rfl (one_of HT_.out (by kernel_rfl)) (by decide) (fun K hK => ?_)
         refine Kd.R_lit_step (Kd.int .u8) _ 5 ?hg (N := 84) ?hd (xs := ([7] : List Int)) (inner := [.int .u8 7]) (ok := fun _ => True) (okp := fun _ => True) ?hr ?hp (fun _ hk => hk) trivial (Below.refl _ _) (Nat.le_refl _) (by simp) ?_;(case hd => rfl);(case hg => rfl);(case hr => first | (go_simp;done) | (go_simp;rfl));(case hp => exact (Reps.one (show Kd.M (Kd.int .u8) _ _ _ 7 [.int .u8 7] from rfl) (Reps.none _ _)))
         intro v541 w74 ho75 hb hg_ hnew_
         clear hg_ hnew_
         (first | rw [← Ny540.out] at ho75 | (simp only [Int.reduceToNat] at ho75;rw [← Ny540.out] at ho75))
         have n0_ := Aside0.mk (Kd.R_elder' (Kd.R_up HO485.out) (Kd.R_base ho75) hb)
         have n1_ := Aside0.mk (Kd.R_below (Kd.R_up HO491.out) hb)
         have n2_ := Aside0.mk (Kd.R_elder' (Kd.R_up HO495.out) (Kd.R_base ho75) hb)
         have n3_ := Aside0.mk (Kd.R_elder' (Kd.R_up HO498.out) (Kd.R_base ho75) hb)
         have n4_ := Aside0.mk (Kd.R_below (Kd.R_up HO504.out) hb)
         have n5_ := Aside0.mk (Kd.R_elder' (Kd.R_up HO512.out) (Kd.R_base ho75) hb)
         have n6_ := Aside0.mk (Kd.R_below (Kd.R_up HO518.out) hb)
         have n7_ := Aside0.mk (Kd.R_elder' (Kd.R_up HO521.out) (Kd.R_base ho75) hb)
         have n8_ := Aside0.mk (Kd.R_below (Kd.R_up HO528.out) hb)
         have n9_ := Aside0.mk (Kd.R_below (Kd.R_up HO534.out) hb)
         have n10_ := Aside0.mk (Kd.R_lower (Kd.R_new' (Kd.R_new' (Kd.R_new' (Kd.R_new' (Kd.R_new' ho75 (Kd.R_lt (Kd.R_up HO485.out))) (Kd.R_lt (Kd.R_up HO495.out))) (Kd.R_lt (Kd.R_up HO498.out))) (Kd.R_lt (Kd.R_up HO512.out))) (Kd.R_lt (Kd.R_up HO521.out))) (below_size (B_set HB.out)))
         have n11_ := Aside0.mk (blk_below (g := gb492) (o := .cells #[.int .i64 t486,.int .i64 t487,.int .i64 t488,.slice Ao16 t489.length co16] 31 (0,0)) (blk_up BK492.out) hb)
         have n12_ := Aside0.mk (blk_below (g := gb507) (o := .cells #[.int .i64 t499,.int .i64 t500,.int .i64 t501,.slice Ao27 t502.length co27] 31 (0,0)) (blk_up BK507.out) hb)
         have n13_ := Aside0.mk (blk_below (g := gb522) (o := .cells #[.int .i64 t513,.int .i64 t514,.int .i64 t515,.slice Ao34 t516.length co34] 31 (0,0)) (blk_up BK522.out) hb)
         have n14_ := Aside0.mk (below_step (B_set HB.out) hb)
         clear HO485
         clear HO491
         clear HO495
         clear HO498
         clear HO504
         clear HO512
         clear HO518
         clear HO521
         clear HO528
         clear HO534
         clear BK492
         clear BK507
         clear BK522
         clear HB
         have HO485 := n0_
         have HO491 := n1_
         have HO495 := n2_
         have HO498 := n3_
         have HO504 := n4_
         have HO512 := n5_
         have HO518 := n6_
         have HO521 := n7_
         have HO528 := n8_
         have HO534 := n9_
         have HO542 := n10_
         have BK492 := n11_
         have BK507 := n12_
         have BK522 := n13_
         have HB := n14_
         clear n0_ n1_ n2_ n3_ n4_ n5_ n6_ n7_ n8_ n9_ n10_ n11_ n12_ n13_ n14_
         clear hb ho75
         obtain ⟨Ao76,co76,eo76⟩ := Kd.R_slice HO542.out
         (first | subst eo76 | (injection eo76 with f1_ f2_ f3_;have f4_ := f1_.symm;have f5_ := f3_.symm;clear f1_ f2_ f3_;subst f4_;subst f5_))
         refine hK.out _ _ ⟨(blk_cell BK522.out 0).trans rfl,(blk_cell BK522.out 1).trans rfl,(blk_cell BK522.out 2).trans rfl,(blk_cell BK522.out 3).trans rfl,(blk_cell BK492.out 0).trans rfl,(blk_cell BK492.out 1).trans rfl,(blk_cell BK492.out 2).trans rfl,(blk_cell BK492.out 3).trans rfl,(blk_cell BK507.out 0).trans rfl,(blk_cell BK507.out 1).trans rfl,(blk_cell BK507.out 2).trans rfl,(blk_cell BK507.out 3).trans rfl⟩ (fun hHeld => ?_)
         clear hK K
         refine norm_ (a' := ?_) ?_ ?_
         rotate_left
         ·show Act.put _ (some 84) _ = _
          simp only [Act.put,List.setIfInBounds_toArray,List.set_cons_zero,List.set_cons_succ,i64_w,i32_w]
          rfl
         refine one_ (i := 38) (N := some 86) #[true,true,true,true,true,true,true,true,true,true,true,true,true,true,true,true,true,true,true,true,true,true,true,true,true,true,true,true,true,true,true,true,true,true,true,true,true,true,true,false,false,false,false,false,false,false,false,false] rfl rfl (one_of HT_.out (by kernel_rfl)) (by decide) (fun K hK => ?_)
         refine goes_ Try.func29 (by kernel_rfl) rfl #[.slice Ao76 y540.length co76,.agg #[.int .i64 t486,.int .i64 t487,.int .i64 t488,.slice Ao16 t489.length co16]] (by rfl) rfl rfl eq_up ?_
         with_reducible refine (impl_PutMan.calls k _ _ y540 t486 t487 t488 _ _ t489 t543 _ ?side1 ?side2 ?side3 ?side4 A58.out).mono ?_
         (case side1 => exact Kd.C_up (Kd.R_reads' HO542.out).2.2)
         (case side2 => exact (Kd.R_reads' HO542.out).2.1)
         (case side3 => exact Kd.C_up (Kd.R_reads' HO491.out).2.2)
         (case side4 => exact (Kd.R_reads' HO491.out).2.1)
         rintro e w77 ⟨v544,rfl,ho0,hb⟩
         refine ⟨_,rfl,?_⟩
         have n0_ := Aside0.mk (Kd.R_elder' (Kd.R_up HO485.out) (Kd.R_base ho0) hb)
         have n1_ := Aside0.mk (Kd.R_below (Kd.R_up HO491.out) hb)
         have n2_ := Aside0.mk (Kd.R_elder' (Kd.R_up HO495.out) (Kd.R_base ho0) hb)
         have n3_ := Aside0.mk (Kd.R_elder' (Kd.R_up HO498.out) (Kd.R_base ho0) hb)
         have n4_ := Aside0.mk (Kd.R_below (Kd.R_up HO504.out) hb)
         have n5_ := Aside0.mk (Kd.R_elder' (Kd.R_up HO512.out) (Kd.R_base ho0) hb)
         have n6_ := Aside0.mk (Kd.R_below (Kd.R_up HO518.out) hb)
         have n7_ := Aside0.mk (Kd.R_elder' (Kd.R_up HO521.out) (Kd.R_base ho0) hb)
         have n8_ := Aside0.mk (Kd.R_below (Kd.R_up HO528.out) hb)
         have n9_ := Aside0.mk (Kd.R_below (Kd.R_up HO534.out) hb)
         have n10_ := Aside0.mk (Kd.R_elder' (Kd.R_up HO542.out) (Kd.R_base ho0) hb)
         have n11_ := Aside0.mk (Kd.R_lower (Kd.R_new' (Kd.R_new' (Kd.R_new' (Kd.R_new' (Kd.R_new' (Kd.R_new' ho0 (Kd.R_lt (Kd.R_up HO485.out))) (Kd.R_lt (Kd.R_up HO495.out))) (Kd.R_lt (Kd.R_up HO498.out))) (Kd.R_lt (Kd.R_up HO512.out))) (Kd.R_lt (Kd.R_up HO521.out))) (Kd.R_lt (Kd.R_up HO542.out))) (below_size (B_set HB.out)))
         have n12_ := Aside0.mk (blk_below (g := gb492) (o := .cells #[.int .i64 t486,.int .i64 t487,.int .i64 t488,.slice Ao16 t489.length co16] 31 (0,0)) (blk_up BK492.out) hb)
         have n13_ := Aside0.mk (blk_below (g := gb507) (o := .cells #[.int .i64 t499,.int .i64 t500,.int .i64 t501,.slice Ao27 t502.length co27] 31 (0,0)) (blk_up BK507.out) hb)
         have n14_ := Aside0.mk (blk_below (g := gb522) (o := .cells #[.int .i64 t513,.int .i64 t514,.int .i64 t515,.slice Ao34 t516.length co34] 31 (0,0)) (blk_up BK522.out) hb)
         have n15_ := Aside0.mk (below_step (B_set HB.out) hb)
         clear HO485
         clear HO491
         clear HO495
         clear HO498
         clear HO504
         clear HO512
         clear HO518
         clear HO521
         clear HO528
         clear HO534
         clear HO542
         clear BK492
         clear BK507
         clear BK522
         clear HB
         have HO485 := n0_
         have HO491 := n1_
         have HO495 := n2_
         have HO498 := n3_
         have HO504 := n4_
         have HO512 := n5_
         have HO518 := n6_
         have HO521 := n7_
         have HO528 := n8_
         have HO534 := n9_
         have HO542 := n10_
         have HO545 := n11_
         have BK492 := n12_
         have BK507 := n13_
         have BK522 := n14_
         have HB := n15_
         clear n0_ n1_ n2_ n3_ n4_ n5_ n6_ n7_ n8_ n9_ n10_ n11_ n12_ n13_ n14_ n15_
         (try clear hb)
         (try clear hb2)
         (try clear hk)
         (try clear hi)
         (try clear ho0)
         obtain ⟨Ao78,co78,eo78⟩ := Kd.R_slice HO545.out
         (first | subst eo78 | (injection eo78 with f1_ f2_ f3_;have f4_ := f1_.symm;have f5_ := f3_.symm;clear f1_ f2_ f3_;subst f4_;subst f5_))
         refine hK.out _ _ ⟨(blk_cell BK522.out 0).trans rfl,(blk_cell BK522.out 1).trans rfl,(blk_cell BK522.out 2).trans rfl,(blk_cell BK522.out 3).trans rfl,(blk_cell BK492.out 0).trans rfl,(blk_cell BK492.out 1).trans rfl,(blk_cell BK492.out 2).trans rfl,(blk_cell BK492.out 3).trans rfl,(blk_cell BK507.out 0).trans rfl,(blk_cell BK507.out 1).trans rfl,(blk_cell BK507.out 2).trans rfl,(blk_cell BK507.out 3).trans rfl⟩ (fun hHeld => ?_)
         clear hK K
         refine norm_ (a' := ?_) ?_ ?_
         rotate_left
         ·show Act.put _ (some 86) _ = _
          simp only [Act.put,List.setIfInBounds_toArray,List.set_cons_zero,List.set_cons_succ,i64_w,i32_w]
          rfl
         refine pure_ (i := 39) (N := some 87) (v := ?_) (a' := ?_) #[true,true,true,true,true,true,true,true,true,true,true,true,true,true,true,true,true,true,true,true,true,true,true,true,true,true,true,true,true,true,true,true,true,true,true,true,true,true,true,true,false,false,false,false,false,false,false,false] rfl rfl (any_of HT_.out (by kernel_rfl)) (fun _ _ _ h => h) (Or.inl ⟨by rfl,?_⟩) ?_ ?_
         rotate_left
         ·intro w'
          go_simp
          with_reducible rfl
         rotate_left
         ·simp only [Act.put,List.setIfInBounds_toArray,List.set_cons_zero,List.set_cons_succ,i64_w,i32_w]
          rfl
         refine pure_ (i := 40) (N := some 88) (v := ?_) (a' := ?_) #[true,true,true,true,true,true,true,true,true,true,true,true,true,true,true,true,true,true,true,true,true,true,true,true,true,true,true,true,true,true,true,true,true,true,true,true,true,true,true,true,true,false,false,false,false,false,false,false] rfl rfl (any_of HT_.out (by kernel_rfl)) (fun _ _ _ h => h) (Or.inl ⟨by rfl,?_⟩) ?_ ?_
         rotate_left
         ·intro w'
          go_simp
          with_reducible rfl
         rotate_left
         ·simp only [Act.put,List.setIfInBounds_toArray,List.set_cons_zero,List.set_cons_succ,i64_w,i32_w]
          rfl
         refine pure_ (i := 41) (N := some 89) (v := ?_) (a' := ?_) #[true,true,true,true,true,true,true,true,true,true,true,true,true,true,true,true,true,true,true,true,true,true,true,true,true,true,true,true,true,true,true,true,true,true,true,true,true,true,true,true,true,true,false,false,false,false,false,false] rfl rfl (any_of HT_.out (by kernel_rfl)) (fun _ _ _ h => h) (Or.inl ⟨by rfl,?_⟩) ?_ ?_
         rotate_left
         ·intro w'
          go_simp
          with_reducible rfl
         rotate_left
         ·simp only [Act.put,List.setIfInBounds_toArray,List.set_cons_zero,List.set_cons_succ,i64_w,i32_w]
          rfl
         refine pure_ (i := 42) (N := some 90) (v := ?_) (a' := ?_) #[true,true,true,true,true,true,true,true,true,true,true,true,true,true,true,true,true,true,true,true,true,true,true,true,true,true,true,true,true,true,true,true,true,true,true,true,true,true,true,true,true,true,true,false,false,false,false,false] rfl rfl (any_of HT_.out (by kernel_rfl)) (fun _ _ _ h => h) (Or.inl ⟨by rfl,?_⟩) ?_ ?_
         rotate_left
         ·intro w'
          go_simp
          with_reducible rfl
         rotate_left
         ·simp only [Act.put,List.setIfInBounds_toArray,List.set_cons_zero,List.set_cons_succ,i64_w,i32_w]
          rfl
         refine pure_ (i := 44) (N := some 92) (v := ?_) (a' := ?_) #[true,true,true,true,true,true,true,true,true,true,true,true,true,true,true,true,true,true,true,true,true,true,true,true,true,true,true,true,true,true,true,true,true,true,true,true,true,true,true,true,true,true,true,false,true,false,false,false] rfl rfl (any_of HT_.out (by kernel_rfl)) (fun _ _ _ h => h) (Or.inl ⟨by rfl,?_⟩) ?_ ?_
         rotate_left
         ·intro w'
          go_simp
          with_reducible rfl
         rotate_left
         ·simp only [Act.put,List.setIfInBounds_toArray,List.set_cons_zero,List.set_cons_succ,i64_w,i32_w]
          rfl
         refine take_ (i := 43) (N := some 91) (v := ?_) (a' := ?_) #[true,true,true,true,true,true,true,true,true,true,true,true,true,true,true,true,true,true,true,true,true,true,true,true,true,true,true,true,true,true,true,true,true,true,true,true,true,true,true,true,true,true,true,true,true,false,false,false] rfl rfl (take_ofW HT_.out HW_.out (by kernel_rfl)) (fun _ _ _ h => h) (Or.inl ⟨by rfl,?_⟩) hHeld ?_ ?_
         rotate_left
         ·rintro w' ⟨s0,s1,s2,s3,s4,s5,s6,s7,s8,s9,s10,s11⟩
          go_simp
          with_reducible rfl
         rotate_left
         ·simp only [Act.put,List.setIfInBounds_toArray,List.set_cons_zero,List.set_cons_succ,i64_w,i32_w]
          rfl
         refine one_ (i := 45) (N := some 93) #[true,true,true,true,true,true,true,true,true,true,true,true,true,true,true,true,true,true,true,true,true,true,true,true,true,true,true,true,true,true,true,true,true,true,true,true,true,true,true,true,true,true,true,true,true,true,false,false] rfl rfl (one_of HT_.out (by kernel_rfl)) (by decide) (fun K hK => ?_)
         refine goes_ Try.func41 (by kernel_rfl) rfl #[.agg #[.int .i64 t486,.int .i64 t487,.int .i64 t488,.slice Ao16 t489.length co16],.slice Ao12 t481.length co12] (by rfl) rfl rfl eq_up ?_
         with_reducible refine (impl_Tells.calls k t486 t487 t488 _ _ t489 _ _ t481 t546 _ ?side1 ?side2 ?side3 ?side4 A60.out).mono ?_
         (case side1 => exact Kd.C_up (Kd.R_reads' HO491.out).2.2)
         (case side2 => exact (Kd.R_reads' HO491.out).2.1)
         (case side3 => exact Kd.C_up (Kd.R_reads' HO485.out).2.2)
         (case side4 => exact (Kd.R_reads' HO485.out).2.1)
         rintro e w79 ⟨rfl,hb⟩
         refine ⟨_,rfl,?_⟩
         have n0_ := Aside0.mk (Kd.R_below (Kd.R_up HO485.out) hb)
         have n1_ := Aside0.mk (Kd.R_below (Kd.R_up HO491.out) hb)
         have n2_ := Aside0.mk (Kd.R_below (Kd.R_up HO495.out) hb)
         have n3_ := Aside0.mk (Kd.R_below (Kd.R_up HO498.out) hb)
         have n4_ := Aside0.mk (Kd.R_below (Kd.R_up HO504.out) hb)
         have n5_ := Aside0.mk (Kd.R_below (Kd.R_up HO512.out) hb)
         have n6_ := Aside0.mk (Kd.R_below (Kd.R_up HO518.out) hb)
         have n7_ := Aside0.mk (Kd.R_below (Kd.R_up HO521.out) hb)
         have n8_ := Aside0.mk (Kd.R_below (Kd.R_up HO528.out) hb)
         have n9_ := Aside0.mk (Kd.R_below (Kd.R_up HO534.out) hb)
         have n10_ := Aside0.mk (Kd.R_below (Kd.R_up HO542.out) hb)
         have n11_ := Aside0.mk (Kd.R_below (Kd.R_up HO545.out) hb)
         have n12_ := Aside0.mk (blk_below (g := gb492) (o := .cells #[.int .i64 t486,.int .i64 t487,.int .i64 t488,.slice Ao16 t489.length co16] 31 (0,0)) (blk_up BK492.out) hb)
         have n13_ := Aside0.mk (blk_below (g := gb507) (o := .cells #[.int .i64 t499,.int .i64 t500,.int .i64 t501,.slice Ao27 t502.length co27] 31 (0,0)) (blk_up BK507.out) hb)
         have n14_ := Aside0.mk (blk_below (g := gb522) (o := .cells #[.int .i64 t513,.int .i64 t514,.int .i64 t515,.slice Ao34 t516.length co34] 31 (0,0)) (blk_up BK522.out) hb)
         have n15_ := Aside0.mk (below_step (B_set HB.out) hb)
         clear HO485
         clear HO491
         clear HO495
         clear HO498
         clear HO504
         clear HO512
         clear HO518
         clear HO521
         clear HO528
         clear HO534
         clear HO542
         clear HO545
         clear BK492
         clear BK507
         clear BK522
         clear HB
         have HO485 := n0_
         have HO491 := n1_
         have HO495 := n2_
         have HO498 := n3_
         have HO504 := n4_
         have HO512 := n5_
         have HO518 := n6_
         have HO521 := n7_
         have HO528 := n8_
         have HO534 := n9_
         have HO542 := n10_
         have HO545 := n11_
         have BK492 := n12_
         have BK507 := n13_
         have BK522 := n14_
         have HB := n15_
         clear n0_ n1_ n2_ n3_ n4_ n5_ n6_ n7_ n8_ n9_ n10_ n11_ n12_ n13_ n14_ n15_
         (try clear hb)
         (try clear hb2)
         (try clear hk)
         (try clear hi)
         refine hK.out _ _ ⟨(blk_cell BK522.out 0).trans rfl,(blk_cell BK522.out 1).trans rfl,(blk_cell BK522.out 2).trans rfl,(blk_cell BK522.out 3).trans rfl,(blk_cell BK492.out 0).trans rfl,(blk_cell BK492.out 1).trans rfl,(blk_cell BK492.out 2).trans rfl,(blk_cell BK492.out 3).trans rfl,(blk_cell BK507.out 0).trans rfl,(blk_cell BK507.out 1).trans rfl,(blk_cell BK507.out 2).trans rfl,(blk_cell BK507.out 3).trans rfl⟩ (fun hHeld => ?_)
         clear hK K
         refine norm_ (a' := ?_) ?_ ?_
         rotate_left
         ·show Act.put _ (some 93) _ = _
          simp only [Act.put,List.setIfInBounds_toArray,List.set_cons_zero,List.set_cons_succ,i64_w,i32_w]
          rfl
         refine pure_ (i := 46) (N := some 94) (v := ?_) (a' := ?_) #[true,true,true,true,true,true,true,true,true,true,true,true,true,true,true,true,true,true,true,true,true,true,true,true,true,true,true,true,true,true,true,true,true,true,true,true,true,true,true,true,true,true,true,true,true,true,true,false] rfl rfl (any_of HT_.out (by kernel_rfl)) (fun _ _ _ h => h) (Or.inl ⟨by rfl,?_⟩) ?_ ?_
         rotate_left
         ·intro w'
          go_simp
          with_reducible rfl
         rotate_left
         ·simp only [Act.put,List.setIfInBounds_toArray,List.set_cons_zero,List.set_cons_succ,i64_w,i32_w]
          rfl
         refine pure_ (i := 47) (N := some 95) (v := ?_) (a' := ?_) #[true,true,true,true,true,true,true,true,true,true,true,true,true,true,true,true,true,true,true,true,true,true,true,true,true,true,true,true,true,true,true,true,true,true,true,true,true,true,true,true,true,true,true,true,true,true,true,true] rfl rfl (any_of HT_.out (by kernel_rfl)) (fun _ _ _ h => h) (Or.inl ⟨by rfl,?_⟩) ?_ ?_
         rotate_left
         ·intro w'
          go_simp
          with_reducible rfl
         rotate_left
         ·simp only [Act.put,List.setIfInBounds_toArray,List.set_cons_zero,List.set_cons_succ,i64_w,i32_w]
          rfl
         refine done_ (done_of HT_.out (by kernel_rfl)) ?_
         try go_wp2
         go_meet
         case rel => exact ⟨_,(!t546),(by first | rfl | (simp;done) | (simp [*];done)),H',⟨by first | omega | exact Nat.le_refl _⟩,⟨by (with_reducible repeat (first | apply Kd.R_alloc | apply Kd.R_drewN | apply Kd.R_drew));exact Kd.R_mono HO485.out (fun _ hk => trivial)⟩,⟨by (with_reducible repeat (first | apply Kd.R_alloc | apply Kd.R_drewN | apply Kd.R_drew));exact Kd.R_mono HO491.out (fun _ hk => ⟨hk.1.1.1,hk.1.1.2⟩)⟩,⟨by (with_reducible repeat (first | apply Kd.R_alloc | apply Kd.R_drewN | apply Kd.R_drew));exact Kd.R_mono HO504.out (fun _ hk => ⟨hk.1.1.1,hk.1.1.2⟩)⟩,⟨by (with_reducible repeat (first | apply Kd.R_alloc | apply Kd.R_drewN | apply Kd.R_drew));exact Kd.R_mono HO518.out (fun _ hk => ⟨hk.1.1.1,hk.1.1.2⟩)⟩,⟨by (with_reducible repeat (first | refine blk_drewN ?_ _ | refine blk_drew ?_ | refine blk_alloc ?_ _));exact BK492.out⟩,⟨by (with_reducible repeat (first | refine blk_drewN ?_ _ | refine blk_drew ?_ | refine blk_alloc ?_ _));exact BK507.out⟩,⟨by (with_reducible repeat (first | refine blk_drewN ?_ _ | refine blk_drew ?_ | refine blk_alloc ?_ _));exact BK522.out⟩,⟨by repeat (first | (with_reducible first | exact HB.out | apply below_alloc | apply pw_below_drewN | apply below_drew1 | refine below_set ?_ GE492.out | refine below_set ?_ GE507.out | refine below_set ?_ GE522.out) | exact HB.out)⟩⟩
        ·rw [if_neg c59] at H
         have c59b0 : (t505 == (t543.length : Int)) = false := beq_eq_false_iff_ne.mpr c59
         have c59b1 : (t505 != (t543.length : Int)) = true := bne_iff_ne.mpr c59
         rw [hrt] at H
         exact (laws_FnMans.dead0 _ _ _ _ _ _ _ _ H).elim
       ·replace c57 := Bool.eq_false_iff.mpr c57
        subst c57
        have H1 : (laws_FnMans.j0 k l0 t481 t483 true t486 t487 t488 t489) = some r := by rw [if_neg (show ¬ (false = true) by decide)] at H;exact H
        clear H
        have H := H1
        clear H1
        rw [hrt] at H
        exact (laws_FnMans.dead0 _ _ _ _ _ _ _ _ H).elim
      ·replace c55 := Bool.eq_false_iff.mpr c55
       subst c55
       have H1 : (laws_FnMans.j0 k l0 t481 t483 true t486 t487 t488 t489) = some r := by rw [if_neg (show ¬ (false = true) by decide)] at H;exact H
       clear H
       have H := H1
       clear H1
       rw [hrt] at H
       exact (laws_FnMans.dead0 _ _ _ _ _ _ _ _ H).elim
     ·replace c54 := Bool.eq_false_iff.mpr c54
      subst c54
      have H1 : (laws_FnMans.j0 k l0 t481 t483 true t486 t487 t488 t489) = some r := by rw [if_neg (show ¬ (false = true) by decide)] at H;exact H
      clear H
      have H := H1
      clear H1
      rw [hrt] at H
      exact (laws_FnMans.dead0 _ _ _ _ _ _ _ _ H).elim
   ·replace c38 := Bool.eq_false_iff.mpr c38
    subst c38
    have H1 : (laws_FnMans.j0 k l0 t481 t483 true t486 t487 t488 t489) = some r := by rw [if_neg (show ¬ (false = true) by decide)] at H;exact H
    clear H
    have H := H1
    clear H1
    rw [hrt] at H
    exact (laws_FnMans.dead0 _ _ _ _ _ _ _ _ H).elim
  case rest => as_aux_lemma =>
   clear HC10
   try clear p2
   try clear c3
   try clear c4
   try clear c36
   try clear c38
   try clear c39
   try clear c40
   obtain ⟨kq,x95_9,rfl,HA,HJ9,HO_3,HO_493003,HO_508003,HO_523003,BK492,BK507,BK522,HB⟩ := hcut
   cases kq with
   | zero => exact absurd HA.out (by simp [laws_FnMans.j0])
   | succ kj9 =>
    have H := HA.out
    clear HA
    simp only [laws_FnMans.j0] at H
    by_cases c143 : x95_9 = true
    ·subst c143
     rw [if_pos rfl] at H
     obtain rfl := Option.some.inj H
     go_wp2
     go_ret
     exact ⟨by first | rfl | (simp [errW_none,errW_some] <;> rfl) | (simp [*,errW_none,errW_some] <;> rfl),by repeat (first | (with_reducible first | exact HB.out | apply below_alloc | apply pw_below_drewN | apply below_drew1 | refine below_set ?_ GE492.out | refine below_set ?_ GE507.out | refine below_set ?_ GE522.out) | exact HB.out)⟩
    ·replace c143 := Bool.eq_false_iff.mpr c143
     subst c143
     have H1 : (laws_FnMans.l0 kj9 l0 t481 t483 0 t486 t487 t488 t489) = some r := by rw [if_neg (show ¬ (false = true) by decide)] at H;exact H
     clear H
     have H := H1
     clear H1
     have H' := Aside0.mk H
     clear H
     go_wp2
     go_loopg [15] kj9 (fun kq v15 w' => ∃ (x3_2 : List Int) (x15_2 : Int),v15 = .int .i64 x15_2 ∧ Aside0 (laws_FnMans.l0 kq l0 x3_2 t483 x15_2 t486 t487 t488 t489 = some r) ∧ Aside0 (kq ≤ kj9) ∧ Aside0 (Kd.R (Kd.int .u8) 5 w' w.heap.size (fun _ => True) (.slice Ao12 t481.length co12) x3_2) ∧ Aside0 (Kd.R k66 66 w' w.heap.size (fun k_ => some k_ ≠ ((.slice Ao27 t502.length co27) : Value).ownBlock ∧ some k_ ≠ ((.slice Ao34 t516.length co34) : Value).ownBlock) (.slice Ao16 t489.length co16) t489) ∧ Aside0 (Kd.R k66 66 w' w.heap.size (fun k_ => some k_ ≠ ((.slice Ao16 t489.length co16) : Value).ownBlock ∧ some k_ ≠ ((.slice Ao34 t516.length co34) : Value).ownBlock) (.slice Ao27 t502.length co27) t502) ∧ Aside0 (Kd.R k66 66 w' w.heap.size (fun k_ => some k_ ≠ ((.slice Ao16 t489.length co16) : Value).ownBlock ∧ some k_ ≠ ((.slice Ao27 t502.length co27) : Value).ownBlock) (.slice Ao34 t516.length co34) t516) ∧ Aside0 (w'.heap[gb492]? = some (.cells #[.int .i64 t486,.int .i64 t487,.int .i64 t488,(.slice Ao16 t489.length co16)] 31 (0,0))) ∧ Aside0 (w'.heap[gb507]? = some (.cells #[.int .i64 t499,.int .i64 t500,.int .i64 t501,(.slice Ao27 t502.length co27)] 31 (0,0))) ∧ Aside0 (w'.heap[gb522]? = some (.cells #[.int .i64 t513,.int .i64 t514,.int .i64 t515,(.slice Ao34 t516.length co34)] 31 (0,0))) ∧ Aside0 (Below w.heap.size w w'))
     case atStart => exact ⟨(t481),(0),(by first | rfl | (simp;done) | (simp [*];done)),H',⟨Nat.le_refl _⟩,⟨by (with_reducible repeat (first | apply Kd.R_alloc | apply Kd.R_drewN | apply Kd.R_drew));exact HO_3.out⟩,⟨by (with_reducible repeat (first | apply Kd.R_alloc | apply Kd.R_drewN | apply Kd.R_drew));exact HO_493003.out⟩,⟨by (with_reducible repeat (first | apply Kd.R_alloc | apply Kd.R_drewN | apply Kd.R_drew));exact HO_508003.out⟩,⟨by (with_reducible repeat (first | apply Kd.R_alloc | apply Kd.R_drewN | apply Kd.R_drew));exact HO_523003.out⟩,⟨by (with_reducible repeat (first | refine blk_drewN ?_ _ | refine blk_drew ?_ | refine blk_alloc ?_ _));exact BK492.out⟩,⟨by (with_reducible repeat (first | refine blk_drewN ?_ _ | refine blk_drew ?_ | refine blk_alloc ?_ _));exact BK507.out⟩,⟨by (with_reducible repeat (first | refine blk_drewN ?_ _ | refine blk_drew ?_ | refine blk_alloc ?_ _));exact BK522.out⟩,⟨by repeat (first | (with_reducible first | exact HB.out | apply below_alloc | apply pw_below_drewN | apply below_drew1 | refine below_set ?_ GE492.out | refine below_set ?_ GE507.out | refine below_set ?_ GE522.out) | exact HB.out)⟩⟩
     case round =>
      clear H'
      try clear c1
      try clear p2
      try clear c3
      try clear c4
      try clear c14
      try clear c36
      try clear c38
      try clear c39
      try clear c40
      try clear c143
      try clear p2
      obtain ⟨x3_2,x15_2,rfl,HA,HK2,HO_3,HO_493003,HO_508003,HO_523003,BK492,BK507,BK522,HB⟩ := hrel
      have hl3_2 := (Kd.R_reads' HO_3.out).1
      rw [hl3_2] at HO_3
      (try simp only [hl3_2])
      (try simp only [hl3_2] at BK492)
      (try simp only [hl3_2] at BK507)
      (try simp only [hl3_2] at BK522)
      (try simp only [hl3_2] at HO_493003)
      (try simp only [hl3_2] at HO_508003)
      (try simp only [hl3_2] at HO_523003)
      cases gk with
      | zero => exact absurd HA.out (by simp [laws_FnMans.l0])
      | succ k2 =>
       have H := HA.out
       clear HA
       simp only [laws_FnMans.l0] at H
       by_cases c144 : x15_2 < (x3_2.length : Int)
       ·rw [if_pos c144] at H
        have c144b0 : decide (x15_2 < (x3_2.length : Int)) = true := decide_eq_true c144
        clear c144
        obtain ⟨y550,hy550⟩ : ∃ y_ : List Int,y_ = (([] : List Int)) := ⟨_,rfl⟩
        replace H : (if y550.length + x3_2.length < 140737488355328 then ((some (y550 ++ x3_2 : List Int)).bind fun y553 => (if 0 ≤ x15_2 then (if x15_2 < (y553.length : Int) then ((laws_at.f l0 x15_2).bind fun t557 => ((impl_Tells.f k2 t486 t487 t488 t489 (y553.set (x15_2 : Int).toNat (((((rd y553 x15_2) + 1) % 256) + ((Int.tmod t557 255) % 256)) % 256))).bind fun t559 => (if t559 = true then (some false) else (laws_FnMans.l0 k2 l0 x3_2 t483 (wrap64 (x15_2 + 1)) t486 t487 t488 t489)))) else (none)) else (none))) else (none)) = some r := by first | (rw [hy550];with_reducible exact H) | (have H2_ := (Option.bind_some _ _).symm.trans H;rw [hy550];with_reducible exact H2_) | (have H2_ := (Option.bind_some _ _).symm.trans H;with_reducible exact H2_) | with_reducible exact H | (rw [hy550];exact H) | exact H
        have Ny550 := Aside0.mk hy550
        clear hy550
        by_cases c145 : y550.length + x3_2.length < 140737488355328
        ·rw [if_pos c145] at H
         have LMc145 := Aside0.mk c145
         clear c145
         obtain ⟨y553,hy553⟩ : ∃ y_ : List Int,y_ = (y550 ++ x3_2) := ⟨_,rfl⟩
         replace H : (if 0 ≤ x15_2 then (if x15_2 < (y553.length : Int) then ((laws_at.f l0 x15_2).bind fun t557 => ((impl_Tells.f k2 t486 t487 t488 t489 (y553.set (x15_2 : Int).toNat (((((rd y553 x15_2) + 1) % 256) + ((Int.tmod t557 255) % 256)) % 256))).bind fun t559 => (if t559 = true then (some false) else (laws_FnMans.l0 k2 l0 x3_2 t483 (wrap64 (x15_2 + 1)) t486 t487 t488 t489)))) else (none)) else (none)) = some r := by first | (rw [hy553];with_reducible exact H) | (have H2_ := (Option.bind_some _ _).symm.trans H;rw [hy553];with_reducible exact H2_) | (have H2_ := (Option.bind_some _ _).symm.trans H;with_reducible exact H2_) | with_reducible exact H | (rw [hy553];exact H) | exact H
         have Ny553 := Aside0.mk hy553
         clear hy553
         by_cases c146 : 0 ≤ x15_2
         ·rw [if_pos c146] at H
          have c146b0 : decide (0 ≤ x15_2) = true := decide_eq_true c146
          clear c146
          by_cases c147 : x15_2 < (y553.length : Int)
          ·rw [if_pos c147] at H
           have c147b0 : decide (x15_2 < (y553.length : Int)) = true := decide_eq_true c147
           clear c147
           replace H := Option.bind_eq_some_iff.mp H
           obtain ⟨t557,A1480,H⟩ := H
           (try dsimp only at H)
           have A148 := Aside0.mk A1480
           clear A1480
           obtain ⟨y558,hy558⟩ : ∃ y_ : List Int,y_ = (y553.set (x15_2 : Int).toNat (((((rd y553 x15_2) + 1) % 256) + ((Int.tmod t557 255) % 256)) % 256)) := ⟨_,rfl⟩
           replace H : ((impl_Tells.f k2 t486 t487 t488 t489 y558).bind fun t559 => (if t559 = true then (some false) else (laws_FnMans.l0 k2 l0 x3_2 t483 (wrap64 (x15_2 + 1)) t486 t487 t488 t489))) = some r := by first | (rw [hy558];with_reducible exact H) | (have H2_ := (Option.bind_some _ _).symm.trans H;rw [hy558];with_reducible exact H2_) | (have H2_ := (Option.bind_some _ _).symm.trans H;with_reducible exact H2_) | with_reducible exact H | (rw [hy558];exact H) | exact H
           have Ny558 := Aside0.mk hy558
           clear hy558
           replace H := Option.bind_eq_some_iff.mp H
           obtain ⟨t559,A1500,H⟩ := H
           (try dsimp only at H)
           have A150 := Aside0.mk A1500
           clear A1500
           by_cases c151 : t559 = true
           ·subst c151
            rw [if_pos rfl] at H
            obtain rfl := Option.some.inj H
            cases hrt
           ·replace c151 := Bool.eq_false_iff.mpr c151
            subst c151
            have H1 : (laws_FnMans.l0 k2 l0 x3_2 t483 (wrap64 (x15_2 + 1)) t486 t487 t488 t489) = some r := by rw [if_neg (show ¬ (false = true) by decide)] at H;exact H
            clear H
            have H := H1
            clear H1
            have H' := Aside0.mk H
            clear H
            try go_wp2_with (first | ((with_reducible refine gate_dst (N := 102) rfl ?_);(try (refine gate_guard (by rfl) ?_;dsimp only));refine Kd.R_lit (Kd.int .u8) _ 5 ?hg (N := 102) ?hd (xs := ([] : List Int)) (inner := []) (ok := fun _ => True) (okp := fun _ => True) ?hr ?hp (fun _ hk => hk) trivial (Below.refl _ _) (Nat.le_refl _) (by simp) ?_;(case hd => rfl);(case hg => rfl);(case hr => first | (go_simp;done) | (go_simp;rfl));(case hp => exact (Reps.none _ _));intro v551 w162 ho163 hb hg_ hnew_;clear hg_ hnew_;(first | rw [← Ny550.out] at ho163 | (simp only [Int.reduceToNat] at ho163;rw [← Ny550.out] at ho163));have n0_ := Aside0.mk (Kd.R_elder' (Kd.R_up HO_3.out) (Kd.R_base ho163) hb);have n1_ := Aside0.mk (Kd.R_below (Kd.R_up HO_493003.out) hb);have n2_ := Aside0.mk (Kd.R_below (Kd.R_up HO_508003.out) hb);have n3_ := Aside0.mk (Kd.R_below (Kd.R_up HO_523003.out) hb);have n4_ := Aside0.mk (Kd.R_lower (Kd.R_new' ho163 (Kd.R_lt (Kd.R_up HO_3.out))) (below_size (B_set HB.out)));have n5_ := Aside0.mk (blk_below (g := gb492) (o := .cells #[.int .i64 t486,.int .i64 t487,.int .i64 t488,.slice Ao16 t489.length co16] 31 (0,0)) (blk_up BK492.out) hb);have n6_ := Aside0.mk (blk_below (g := gb507) (o := .cells #[.int .i64 t499,.int .i64 t500,.int .i64 t501,.slice Ao27 t502.length co27] 31 (0,0)) (blk_up BK507.out) hb);have n7_ := Aside0.mk (blk_below (g := gb522) (o := .cells #[.int .i64 t513,.int .i64 t514,.int .i64 t515,.slice Ao34 t516.length co34] 31 (0,0)) (blk_up BK522.out) hb);have n8_ := Aside0.mk (below_step (B_set HB.out) hb);clear HO_3;clear HO_493003;clear HO_508003;clear HO_523003;clear BK492;clear BK507;clear BK522;clear HB;have HO_3 := n0_;have HO_493003 := n1_;have HO_508003 := n2_;have HO_523003 := n3_;have HO552 := n4_;have BK492 := n5_;have BK507 := n6_;have BK522 := n7_;have HB := n8_;clear n0_ n1_ n2_ n3_ n4_ n5_ n6_ n7_ n8_;clear hb ho163) | ((with_reducible refine gate_builtin (b := .append) (xs := #[.tmp 102,.tmp 103]) rfl ?_);(try (refine gate_guard (by rfl) ?_;dsimp only));at_builtin;refine Kd.R_append_rows (Kd.int .u8) (w0 := w) w.heap.size rfl (.tmp 102) (.tmp 103) 22 5 (.int .u8 0) 1 rfl Try.underlying22 info5 rfl (by decide) (by omega) v551 y550 x3_2 _ _ _ (fun k_ => some k_ ≠ (.slice Ao12 x3_2.length co12 : Value).ownBlock) (fun _ => False) rfl rfl ?aO ?aR (fun _ _ h => h) (fun _ h => h.elim) ?aF ?aB ?aS ?aL ?_;(case aR => exact Kd.C_up (Kd.R_reads' HO_3.out).2.2);(case aB => exact (B_set HB.out));(case aF => exact (fun k_ hk => Kd.fresh' (Kd.R_lt (Kd.R_up HO_3.out)) k_ hk));(case aO => exact (by (with_reducible repeat (first | apply Kd.R_alloc | apply Kd.R_drewN | apply Kd.R_drew));exact Kd.R_mono HO552.out (fun _ hk => hk.2)));(case aS => exact (below_size (B_set HB.out)));(case aL => have := LMc145.out;omega);intro v554 w164 ho hb hg hat;rw [← Ny553.out] at ho;have n0_ := Aside0.mk (Kd.R_after (ok := (fun _ => True)) (Kd.R_up HO_3.out) hg hat);have n1_ := Aside0.mk (Kd.R_over' (Kd.R_up HO_493003.out) (Kd.R_typed (Kd.R_up HO552.out)) (by decide) hg);have n2_ := Aside0.mk (Kd.R_over' (Kd.R_up HO_508003.out) (Kd.R_typed (Kd.R_up HO552.out)) (by decide) hg);have n3_ := Aside0.mk (Kd.R_over' (Kd.R_up HO_523003.out) (Kd.R_typed (Kd.R_up HO552.out)) (by decide) hg);have n4_ := Aside0.mk (blk_grown (g := gb492) (o := .cells #[.int .i64 t486,.int .i64 t487,.int .i64 t488,.slice Ao16 t489.length co16] 31 (0,0)) (blk_up BK492.out) hg (Kd.R_ne HO552.out BK492.out (by decide)));have n5_ := Aside0.mk (blk_grown (g := gb507) (o := .cells #[.int .i64 t499,.int .i64 t500,.int .i64 t501,.slice Ao27 t502.length co27] 31 (0,0)) (blk_up BK507.out) hg (Kd.R_ne HO552.out BK507.out (by decide)));have n6_ := Aside0.mk (blk_grown (g := gb522) (o := .cells #[.int .i64 t513,.int .i64 t514,.int .i64 t515,.slice Ao34 t516.length co34] 31 (0,0)) (blk_up BK522.out) hg (Kd.R_ne HO552.out BK522.out (by decide)));have n7_ := Aside0.mk (hb);have n8_ := Aside0.mk (ho);clear HO_3;clear HO_493003;clear HO_508003;clear HO_523003;clear BK492;clear BK507;clear BK522;clear HB;clear HO552;have HO_3 := n0_;have HO_493003 := n1_;have HO_508003 := n2_;have HO_523003 := n3_;have BK492 := n4_;have BK507 := n5_;have BK522 := n6_;have HB := n7_;have HO555 := n8_;clear n0_ n1_ n2_ n3_ n4_ n5_ n6_ n7_ n8_;clear ho hb hg hat))
            have n0_ := Aside0.mk (Kd.R_drew HO_3.out)
            have n1_ := Aside0.mk (Kd.R_drew HO_493003.out)
            have n2_ := Aside0.mk (Kd.R_drew HO_508003.out)
            have n3_ := Aside0.mk (Kd.R_drew HO_523003.out)
            have n4_ := Aside0.mk (Kd.R_drew HO555.out)
            have n5_ := Aside0.mk (blk_drew BK492.out)
            have n6_ := Aside0.mk (blk_drew BK507.out)
            have n7_ := Aside0.mk (blk_drew BK522.out)
            have n8_ := Aside0.mk (below_drew1 HB.out)
            clear HO_3
            clear HO_493003
            clear HO_508003
            clear HO_523003
            clear HO555
            clear BK492
            clear BK507
            clear BK522
            clear HB
            have HO_3 := n0_
            have HO_493003 := n1_
            have HO_508003 := n2_
            have HO_523003 := n3_
            have HO555 := n4_
            have BK492 := n5_
            have BK507 := n6_
            have BK522 := n7_
            have HB := n8_
            clear n0_ n1_ n2_ n3_ n4_ n5_ n6_ n7_ n8_
            obtain ⟨Ao166,co166,eo166⟩ := Kd.R_slice HO555.out
            (first | subst eo166 | (injection eo166 with f1_ f2_ f3_;have f4_ := f1_.symm;have f5_ := f3_.symm;clear f1_ f2_ f3_;subst f4_;subst f5_))
            have p556 : 0 ≤ (x15_2 : Int) := of_decide_eq_true (by first | (with_reducible assumption) | assumption)
            have q556 : x15_2 < (y553.length : Int) := of_decide_eq_true (by first | (with_reducible assumption) | assumption)
            obtain ⟨ad556,e556,hx556_0⟩ := Kd.at_int (Kd.R_reads' HO555.out).2.2 x15_2 p556 q556
            cases e556
            replace p556 := eq_true p556
            replace q556 := eq_true q556
            refine start_ (n := 15) (S := fun w' => w'.cell? (ad556.add (x15_2).toNat) = some (.int .u8 (rd y553 x15_2))) (ds := [14]) #[false,false,false,false,false,false,false,false,false,false,false,false,false,false,false] (by kernel_rfl) rfl rfl (hx556_0) (fun hHeld => ?_);refine with_tabW laws_FnMans.tab14 laws_FnMans.bits14 (fun HT_ HW_ => ?_)
            generalize w164.drew = w165 at HO_3 HO_493003 HO_508003 HO_523003 HO555 BK492 BK507 BK522 HB hx556_0 hHeld ⊢
            refine pure_ (i := 0) (N := some 105) (v := ?_) (a' := ?_) #[true,false,false,false,false,false,false,false,false,false,false,false,false,false,false] rfl rfl (any_of HT_.out (by kernel_rfl)) (fun _ _ _ h => h) (Or.inl ⟨by rfl,?_⟩) ?_ ?_
            rotate_left
            ·intro w'
             go_simp
             with_reducible rfl
            rotate_left
            ·simp only [Act.put,List.setIfInBounds_toArray,List.set_cons_zero,List.set_cons_succ,i64_w,i32_w]
             rfl
            refine pure_ (i := 1) (N := some 106) (v := ?_) (a' := ?_) #[true,true,false,false,false,false,false,false,false,false,false,false,false,false,false] rfl rfl (any_of HT_.out (by kernel_rfl)) (fun _ _ _ h => h) (Or.inl ⟨by rfl,?_⟩) ?_ ?_
            rotate_left
            ·intro w'
             go_simp
             with_reducible rfl
            rotate_left
            ·simp only [Act.put,List.setIfInBounds_toArray,List.set_cons_zero,List.set_cons_succ,i64_w,i32_w]
             rfl
            refine pure_ (i := 2) (N := some 107) (v := ?_) (a' := ?_) #[true,true,true,false,false,false,false,false,false,false,false,false,false,false,false] rfl rfl (any_of HT_.out (by kernel_rfl)) (fun _ _ _ h => h) (Or.inl ⟨by rfl,?_⟩) ?_ ?_
            rotate_left
            ·intro w'
             go_simp
             with_reducible rfl
            rotate_left
            ·simp only [Act.put,List.setIfInBounds_toArray,List.set_cons_zero,List.set_cons_succ,i64_w,i32_w]
             rfl
            refine pure_ (i := 3) (N := some 108) (v := ?_) (a' := ?_) #[true,true,true,true,false,false,false,false,false,false,false,false,false,false,false] rfl rfl (any_of HT_.out (by kernel_rfl)) (fun _ _ _ h => h) (Or.inl ⟨by rfl,?_⟩) ?_ ?_
            rotate_left
            ·intro w'
             go_simp
             with_reducible rfl
            rotate_left
            ·simp only [Act.put,List.setIfInBounds_toArray,List.set_cons_zero,List.set_cons_succ,i64_w,i32_w]
             rfl
            refine pure_ (i := 4) (N := some 109) (v := ?_) (a' := ?_) #[true,true,true,true,true,false,false,false,false,false,false,false,false,false,false] rfl rfl (any_of HT_.out (by kernel_rfl)) (fun _ _ _ h => h) (Or.inl ⟨by rfl,?_⟩) ?_ ?_
            rotate_left
            ·intro w'
             go_simp
             with_reducible rfl
            rotate_left
            ·simp only [Act.put,List.setIfInBounds_toArray,List.set_cons_zero,List.set_cons_succ,i64_w,i32_w]
             rfl
            refine pure_ (i := 7) (N := some 112) (v := ?_) (a' := ?_) #[true,true,true,true,true,false,false,true,false,false,false,false,false,false,false] rfl rfl (any_of HT_.out (by kernel_rfl)) (fun _ _ _ h => h) (Or.inl ⟨by rfl,?_⟩) ?_ ?_
            rotate_left
            ·intro w'
             go_simp
             with_reducible rfl
            rotate_left
            ·simp only [Act.put,List.setIfInBounds_toArray,List.set_cons_zero,List.set_cons_succ,i64_w,i32_w]
             rfl
            refine pure_ (i := 8) (N := some 113) (v := ?_) (a' := ?_) #[true,true,true,true,true,false,false,true,true,false,false,false,false,false,false] rfl rfl (any_of HT_.out (by kernel_rfl)) (fun _ _ _ h => h) (Or.inl ⟨by rfl,?_⟩) ?_ ?_
            rotate_left
            ·intro w'
             go_simp
             with_reducible rfl
            rotate_left
            ·simp only [Act.put,List.setIfInBounds_toArray,List.set_cons_zero,List.set_cons_succ,i64_w,i32_w]
             rfl
            refine take_ (i := 5) (N := some 110) (v := ?_) (a' := ?_) #[true,true,true,true,true,true,false,true,true,false,false,false,false,false,false] rfl rfl (take_ofW HT_.out HW_.out (by kernel_rfl)) (fun _ _ _ h => h) (Or.inl ⟨by rfl,?_⟩) hHeld ?_ ?_
            rotate_left
            ·intro w' s0
             go_simp
             with_reducible rfl
            rotate_left
            ·simp only [Act.put,List.setIfInBounds_toArray,List.set_cons_zero,List.set_cons_succ,i64_w,i32_w]
             rfl
            refine pure_ (i := 6) (N := some 111) (v := ?_) (a' := ?_) #[true,true,true,true,true,true,true,true,true,false,false,false,false,false,false] rfl rfl (any_of HT_.out (by kernel_rfl)) (fun _ _ _ h => h) (Or.inl ⟨by rfl,?_⟩) ?_ ?_
            rotate_left
            ·intro w'
             go_simp
             with_reducible rfl
            rotate_left
            ·simp only [Act.put,List.setIfInBounds_toArray,List.set_cons_zero,List.set_cons_succ,i64_w,i32_w]
             rfl
            refine one_ (i := 9) (N := some 114) #[true,true,true,true,true,true,true,true,true,true,false,false,false,false,false] rfl rfl (one_of HT_.out (by kernel_rfl)) (by decide) (fun K hK => ?_)
            refine goes_ Try.func44 (by kernel_rfl) rfl #[.slice A0 l0.length c0,.int .i64 x15_2] (by rfl) rfl rfl eq_up ?_
            with_reducible refine (laws_at.calls _ _ l0 x15_2 t557 _ ?side1 ?side2 A148.out).mono ?_
            (case side1 => repeat (first | exact (Kd.C_below HR0.out HB.out) | (with_reducible refine Kd.C_alloc ?_ _) | (with_reducible refine Kd.C_drewN ?_ _) | (with_reducible refine Kd.C_drew ?_)))
            (case side2 => exact HC0.out)
            rintro e w' ⟨rfl,⟨nd,rfl⟩⟩
            refine ⟨_,rfl,?_⟩
            have p149 : 0 ≤ (x15_2 : Int) := of_decide_eq_true (by first | (with_reducible assumption) | assumption)
            have q149 : (x15_2 : Int) < ((y553.length : Int) : Int) := of_decide_eq_true (by first | (with_reducible assumption) | assumption)
            obtain ⟨go149,co149,eo149,gb149,gl149,cl149,HG149⟩ := Kd.R_form HO555.out (by omega)
            (first | cases eo149 | (injection eo149 with ea_ en_ ec_;(first | subst ea_ | (injection ea_ with ea_;subst ea_));subst ec_;clear en_))
            have GB149 := Aside0.mk gb149
            have GG149 := Aside0.mk HG149
            clear gb149 gl149 HG149
            (first | simp only [add_plain] at hx556_0 | skip)
            obtain ⟨hx149_0,hf149_0⟩ := Kd.R_celln 0 HO555.out (x15_2 : Int) p149 q149
            replace p149 := eq_true p149
            replace q149 := eq_true q149
            have HP167 := Kd.R_putn HO555.out (x15_2 : Int) (((((rd y553 x15_2) + 1) % 256) + ((Int.tmod t557 255) % 256)) % 256)
            rw [← Ny558.out] at HP167
            have HQ167 := Aside0.mk HP167
            clear HP167
            refine hK.out _ _ (hHeld) (fun hHeld => ?_)
            clear hK K
            refine norm_ (a' := ?_) ?_ ?_
            rotate_left
            ·show Act.put _ (some 114) _ = _
             simp only [Act.put,List.setIfInBounds_toArray,List.set_cons_zero,List.set_cons_succ,i64_w,i32_w]
             rfl
            refine pure_ (i := 10) (N := some 115) (v := ?_) (a' := ?_) #[true,true,true,true,true,true,true,true,true,true,true,false,false,false,false] rfl rfl (any_of HT_.out (by kernel_rfl)) (fun _ _ _ h => h) (Or.inl ⟨by rfl,?_⟩) ?_ ?_
            rotate_left
            ·intro w'
             go_simp
             with_reducible rfl
            rotate_left
            ·simp only [Act.put,List.setIfInBounds_toArray,List.set_cons_zero,List.set_cons_succ,i64_w,i32_w]
             rfl
            refine pure_ (i := 11) (N := some 116) (v := ?_) (a' := ?_) #[true,true,true,true,true,true,true,true,true,true,true,true,false,false,false] rfl rfl (any_of HT_.out (by kernel_rfl)) (fun _ _ _ h => h) (Or.inl ⟨by rfl,?_⟩) ?_ ?_
            rotate_left
            ·intro w'
             go_simp
             with_reducible rfl
            rotate_left
            ·simp only [Act.put,List.setIfInBounds_toArray,List.set_cons_zero,List.set_cons_succ,i64_w,i32_w]
             rfl
            refine pure_ (i := 12) (N := some 117) (v := ?_) (a' := ?_) #[true,true,true,true,true,true,true,true,true,true,true,true,true,false,false] rfl rfl (any_of HT_.out (by kernel_rfl)) (fun _ _ _ h => h) (Or.inl ⟨by rfl,?_⟩) ?_ ?_
            rotate_left
            ·intro w'
             go_simp
             with_reducible rfl
            rotate_left
            ·simp only [Act.put,List.setIfInBounds_toArray,List.set_cons_zero,List.set_cons_succ,i64_w,i32_w]
             rfl
            refine pure_ (i := 13) (N := some 118) (v := ?_) (a' := ?_) #[true,true,true,true,true,true,true,true,true,true,true,true,true,true,false] rfl rfl (any_of HT_.out (by kernel_rfl)) (fun _ _ _ h => h) (Or.inl ⟨by rfl,?_⟩) ?_ ?_
            rotate_left
            ·intro w'
             go_simp
             with_reducible rfl
            rotate_left
            ·simp only [Act.put,List.setIfInBounds_toArray,List.set_cons_zero,List.set_cons_succ,i64_w,i32_w]
             rfl
            refine last_ (i := 14) (N := none) #[true,true,true,true,true,true,true,true,true,true,true,true,true,true,true] rfl rfl (one_of HT_.out (by kernel_rfl)) (by decide) (fun K hK => ?_)
            refine skip_ (w1 := ?_) (by rfl) rfl ?_ ?_
            rotate_left
            ·go_simp
             rfl
            refine hK.out _ _ ?_
            clear hK K
            refine done_ (done_of HT_.out (by kernel_rfl)) ?_
            have hnb168 := NB492_507.out
            have hnc168 := NB507_492.out
            have hnb169 := NB492_522.out
            have hnc169 := NB522_492.out
            have hng170 : gb492 ≠ go149 := by have h_ := Kd.R_ne HO555.out BK492.out (by decide);intro e_;exact h_ (by rw [e_];rfl)
            have hnh170 : go149 ≠ gb492 := fun e_ => hng170 e_.symm
            have hcz170_0 : w165.cell? ⟨gb492,0,none⟩ = some (.int .i64 t486) := (blk_cell BK492.out 0).trans rfl
            have hcz170_1 : w165.cell? ⟨gb492,1,none⟩ = some (.int .i64 t487) := (blk_cell BK492.out 1).trans rfl
            have hcz170_2 : w165.cell? ⟨gb492,2,none⟩ = some (.int .i64 t488) := (blk_cell BK492.out 2).trans rfl
            have hcz170_3 : w165.cell? ⟨gb492,3,none⟩ = some (.slice Ao16 t489.length co16) := (blk_cell BK492.out 3).trans rfl
            have hfz170_0 := blk_frozen BK492.out 0
            have hfz170_1 := blk_frozen BK492.out 1
            have hfz170_2 := blk_frozen BK492.out 2
            have hfz170_3 := blk_frozen BK492.out 3
            try go_wp2_with (first | ((with_reducible refine gate_callee (f := 41) rfl ?_);refine goesL_ (some 121) rfl rfl Try.func41 (by kernel_rfl) rfl #[.agg #[.int .i64 t486,.int .i64 t487,.int .i64 t488,.slice Ao16 t489.length co16],.slice (some ⟨go149,0,none⟩) y558.length co166] rfl (by (try simp only [List.map_toArray,List.map_cons,List.map_nil]);first | done | (rw [show y558.length = y553.length from (Kd.R_reads' HQ167.out).1.symm] <;> rfl) | rfl | (simp only [List.length_drop,List.length_take];rfl)) ?_;(with_reducible refine (impl_Tells.calls k2 t486 t487 t488 _ _ t489 _ _ y558 false _ ?side1 ?side2 ?side3 ?side4 A150.out).mono ?_);(case side1 => refine (Kd.R_reads' (e := 66) (base := w.heap.size) (ok := fun k_ => (some k_ ≠ (.slice Ao27 t502.length co27 : Value).ownBlock ∧ some k_ ≠ (.slice Ao34 t516.length co34 : Value).ownBlock)) (n := t489.length) (c := co16) ?_).2.2;exact (by (with_reducible repeat (first | apply Kd.R_alloc | apply Kd.R_drewN | apply Kd.R_drew));exact (Kd.R_mono (Kd.R_far (p := ⟨go149,(x15_2 : Int).toNat,none⟩) (Kd.R_types HO_493003.out GG149.out (by decide)) (fun _ hk => hk.2) (.int .u8 (((((rd y553 x15_2) + 1) % 256) + ((Int.tmod t557 255) % 256)) % 256))) (fun _ h_ => h_.1))));(case side2 => exact (Kd.R_reads' HO_493003.out).2.1);(case side3 => refine (Kd.R_reads' (e := 5) (base := w.heap.size) (ok := fun k_ => some k_ ≠ (.slice Ao12 x3_2.length co12 : Value).ownBlock) (n := y553.length) (c := co166) ?_).2.2;exact (Kd.R_up HQ167.out));(case side4 => rw [show y558.length = y553.length from (Kd.R_reads' HQ167.out).1.symm];exact (Kd.R_reads' HO555.out).2.1);rintro e w171 ⟨rfl,hb⟩;refine ⟨_,rfl,?_⟩;have n0_ := Aside0.mk (Kd.R_below (by (with_reducible repeat (first | apply Kd.R_alloc | apply Kd.R_drewN | apply Kd.R_drew));exact (Kd.R_mono (Kd.R_far (p := ⟨go149,(x15_2 : Int).toNat,none⟩) (Kd.R_mono HO_3.out (fun k_ hk => (⟨hk,fun e_ => hk.2 (by rw [e_];rfl)⟩ : _ ∧ k_ ≠ go149))) (fun _ hk => hk.2) (.int .u8 (((((rd y553 x15_2) + 1) % 256) + ((Int.tmod t557 255) % 256)) % 256))) (fun _ h_ => h_.1))) hb);have n1_ := Aside0.mk (Kd.R_below (by (with_reducible repeat (first | apply Kd.R_alloc | apply Kd.R_drewN | apply Kd.R_drew));exact (Kd.R_mono (Kd.R_far (p := ⟨go149,(x15_2 : Int).toNat,none⟩) (Kd.R_types HO_493003.out GG149.out (by decide)) (fun _ hk => hk.2) (.int .u8 (((((rd y553 x15_2) + 1) % 256) + ((Int.tmod t557 255) % 256)) % 256))) (fun _ h_ => h_.1))) hb);have n2_ := Aside0.mk (Kd.R_below (by (with_reducible repeat (first | apply Kd.R_alloc | apply Kd.R_drewN | apply Kd.R_drew));exact (Kd.R_mono (Kd.R_far (p := ⟨go149,(x15_2 : Int).toNat,none⟩) (Kd.R_types HO_508003.out GG149.out (by decide)) (fun _ hk => hk.2) (.int .u8 (((((rd y553 x15_2) + 1) % 256) + ((Int.tmod t557 255) % 256)) % 256))) (fun _ h_ => h_.1))) hb);have n3_ := Aside0.mk (Kd.R_below (by (with_reducible repeat (first | apply Kd.R_alloc | apply Kd.R_drewN | apply Kd.R_drew));exact (Kd.R_mono (Kd.R_far (p := ⟨go149,(x15_2 : Int).toNat,none⟩) (Kd.R_types HO_523003.out GG149.out (by decide)) (fun _ hk => hk.2) (.int .u8 (((((rd y553 x15_2) + 1) % 256) + ((Int.tmod t557 255) % 256)) % 256))) (fun _ h_ => h_.1))) hb);have n4_ := Aside0.mk (Kd.R_below (Kd.R_up HQ167.out) hb);have n5_ := Aside0.mk (blk_below (g := gb492) (o := .cells #[.int .i64 t486,.int .i64 t487,.int .i64 t488,.slice Ao16 t489.length co16] 31 (0,0)) (by (with_reducible repeat (first | refine blk_drewN ?_ _ | refine blk_drew ?_ | refine blk_alloc ?_ _));refine blk_far ?_ (by have h_ := Kd.R_ne HO555.out BK492.out (by decide);intro e_;exact h_ (by rw [e_];rfl)) _;(with_reducible repeat (first | refine blk_drewN ?_ _ | refine blk_drew ?_ | refine blk_alloc ?_ _));exact BK492.out) hb);have n6_ := Aside0.mk (blk_below (g := gb507) (o := .cells #[.int .i64 t499,.int .i64 t500,.int .i64 t501,.slice Ao27 t502.length co27] 31 (0,0)) (by (with_reducible repeat (first | refine blk_drewN ?_ _ | refine blk_drew ?_ | refine blk_alloc ?_ _));refine blk_far ?_ (by have h_ := Kd.R_ne HO555.out BK507.out (by decide);intro e_;exact h_ (by rw [e_];rfl)) _;(with_reducible repeat (first | refine blk_drewN ?_ _ | refine blk_drew ?_ | refine blk_alloc ?_ _));exact BK507.out) hb);have n7_ := Aside0.mk (blk_below (g := gb522) (o := .cells #[.int .i64 t513,.int .i64 t514,.int .i64 t515,.slice Ao34 t516.length co34] 31 (0,0)) (by (with_reducible repeat (first | refine blk_drewN ?_ _ | refine blk_drew ?_ | refine blk_alloc ?_ _));refine blk_far ?_ (by have h_ := Kd.R_ne HO555.out BK522.out (by decide);intro e_;exact h_ (by rw [e_];rfl)) _;(with_reducible repeat (first | refine blk_drewN ?_ _ | refine blk_drew ?_ | refine blk_alloc ?_ _));exact BK522.out) hb);have n8_ := Aside0.mk (below_step (by repeat (first | (with_reducible first | exact HB.out | apply below_alloc | apply pw_below_drewN | apply below_drew1 | refine below_set ?_ GB149.out | refine below_set ?_ GE492.out | refine below_set ?_ GE507.out | refine below_set ?_ GE522.out) | exact HB.out)) hb);clear HO_3;clear HO_493003;clear HO_508003;clear HO_523003;clear HO555;clear BK492;clear BK507;clear BK522;clear HB;have HO_3 := n0_;have HO_493003 := n1_;have HO_508003 := n2_;have HO_523003 := n3_;have HO555 := n4_;have BK492 := n5_;have BK507 := n6_;have BK522 := n7_;have HB := n8_;clear n0_ n1_ n2_ n3_ n4_ n5_ n6_ n7_ n8_;(try clear hb);(try clear hb2);(try clear hk);(try clear hi)))
            (try simp only [← hl3_2])
            go_roundg k2
            case measure => have := HJ9.out;have := HK2.out;omega
            case rel => exact ⟨(x3_2),(wrap64 (x15_2 + 1)),(by first | rfl | (simp;done) | (simp [*];done)),H',⟨by have := HJ9.out;have := HK2.out;omega⟩,⟨by (try simp only [hl3_2]);(with_reducible repeat (first | apply Kd.R_alloc | apply Kd.R_drewN | apply Kd.R_drew));exact Kd.R_mono HO_3.out (fun _ hk => trivial)⟩,⟨by (try simp only [hl3_2]);(with_reducible repeat (first | apply Kd.R_alloc | apply Kd.R_drewN | apply Kd.R_drew));exact HO_493003.out⟩,⟨by (try simp only [hl3_2]);(with_reducible repeat (first | apply Kd.R_alloc | apply Kd.R_drewN | apply Kd.R_drew));exact HO_508003.out⟩,⟨by (try simp only [hl3_2]);(with_reducible repeat (first | apply Kd.R_alloc | apply Kd.R_drewN | apply Kd.R_drew));exact HO_523003.out⟩,⟨by (try simp only [hl3_2]);(with_reducible repeat (first | refine blk_drewN ?_ _ | refine blk_drew ?_ | refine blk_alloc ?_ _));exact BK492.out⟩,⟨by (try simp only [hl3_2]);(with_reducible repeat (first | refine blk_drewN ?_ _ | refine blk_drew ?_ | refine blk_alloc ?_ _));exact BK507.out⟩,⟨by (try simp only [hl3_2]);(with_reducible repeat (first | refine blk_drewN ?_ _ | refine blk_drew ?_ | refine blk_alloc ?_ _));exact BK522.out⟩,⟨by repeat (first | (with_reducible first | exact HB.out | apply below_alloc | apply pw_below_drewN | apply below_drew1 | refine below_set ?_ GE492.out | refine below_set ?_ GE507.out | refine below_set ?_ GE522.out) | exact HB.out)⟩⟩
          ·rw [if_neg c147] at H
           exact absurd H (by simp)
         ·rw [if_neg c146] at H
          exact absurd H (by simp)
        ·rw [if_neg c145] at H
         exact absurd H (by simp)
       ·rw [if_neg c144] at H
        have c144b0 : decide (x15_2 < (x3_2.length : Int)) = false := decide_eq_false c144
        clear c144
        replace H := Option.bind_eq_some_iff.mp H
        obtain ⟨t547,A1720,H⟩ := H
        (try dsimp only at H)
        have A172 := Aside0.mk A1720
        clear A1720
        replace H := Option.bind_eq_some_iff.mp H
        obtain ⟨t548,A1730,H⟩ := H
        replace H : ((impl_FullSet.f t548).bind fun t549 => (some (t547 == t549))) = some r := H
        have A173 := Aside0.mk A1730
        clear A1730
        replace H := Option.bind_eq_some_iff.mp H
        obtain ⟨t549,A1740,H⟩ := H
        replace H : (some (t547 == t549)) = some r := H
        have A174 := Aside0.mk A1740
        clear A1740
        obtain rfl := Option.some.inj H
        have hnb175 := NB492_507.out
        have hnc175 := NB507_492.out
        have hnb176 := NB492_522.out
        have hnc176 := NB522_492.out
        have hcz177_0 : wr.cell? ⟨gb492,0,none⟩ = some (.int .i64 t486) := (blk_cell BK492.out 0).trans rfl
        have hcz177_1 : wr.cell? ⟨gb492,1,none⟩ = some (.int .i64 t487) := (blk_cell BK492.out 1).trans rfl
        have hcz177_2 : wr.cell? ⟨gb492,2,none⟩ = some (.int .i64 t488) := (blk_cell BK492.out 2).trans rfl
        have hcz177_3 : wr.cell? ⟨gb492,3,none⟩ = some (.slice Ao16 t489.length co16) := (blk_cell BK492.out 3).trans rfl
        have hfz177_0 := blk_frozen BK492.out 0
        have hfz177_1 := blk_frozen BK492.out 1
        have hfz177_2 := blk_frozen BK492.out 2
        have hfz177_3 := blk_frozen BK492.out 3
        go_wp2_with (first | ((with_reducible refine gate_callee (f := 45) rfl ?_);refine goesL_ (some 123) rfl rfl Try.func45 (by kernel_rfl) rfl #[.agg #[.int .i64 t486,.int .i64 t487,.int .i64 t488,.slice Ao16 t489.length co16]] rfl eq_up ?_;(with_reducible refine (impl_AllParts.calls t486 t487 t488 _ _ t489 t547 _ ?side1 ?side2 A172.out).mono ?_);(case side1 => exact Kd.C_up (Kd.R_reads' HO_493003.out).2.2);(case side2 => exact (Kd.R_reads' HO_493003.out).2.1);rintro e w178 ⟨rfl,hb⟩;refine ⟨_,rfl,?_⟩;have n0_ := Aside0.mk (Kd.R_below (Kd.R_up HO_3.out) hb);have n1_ := Aside0.mk (Kd.R_below (Kd.R_up HO_493003.out) hb);have n2_ := Aside0.mk (Kd.R_below (Kd.R_up HO_508003.out) hb);have n3_ := Aside0.mk (Kd.R_below (Kd.R_up HO_523003.out) hb);have n4_ := Aside0.mk (blk_below (g := gb492) (o := .cells #[.int .i64 t486,.int .i64 t487,.int .i64 t488,.slice Ao16 t489.length co16] 31 (0,0)) (blk_up BK492.out) hb);have n5_ := Aside0.mk (blk_below (g := gb507) (o := .cells #[.int .i64 t499,.int .i64 t500,.int .i64 t501,.slice Ao27 t502.length co27] 31 (0,0)) (blk_up BK507.out) hb);have n6_ := Aside0.mk (blk_below (g := gb522) (o := .cells #[.int .i64 t513,.int .i64 t514,.int .i64 t515,.slice Ao34 t516.length co34] 31 (0,0)) (blk_up BK522.out) hb);have n7_ := Aside0.mk (below_step (B_set HB.out) hb);clear HO_3;clear HO_493003;clear HO_508003;clear HO_523003;clear BK492;clear BK507;clear BK522;clear HB;have HO_3 := n0_;have HO_493003 := n1_;have HO_508003 := n2_;have HO_523003 := n3_;have BK492 := n4_;have BK507 := n5_;have BK522 := n6_;have HB := n7_;clear n0_ n1_ n2_ n3_ n4_ n5_ n6_ n7_;(try clear hb);(try clear hb2);(try clear hk);(try clear hi)) | ((with_reducible refine gate_callee (f := 47) rfl ?_);refine goesL_ (some 127) rfl rfl Try.func47 (by kernel_rfl) rfl #[.int .i64 t483,.int .i64 (x3_2.length : Int)] rfl eq_up ?_;(with_reducible refine (impl_Blocks.calls t483 (x3_2.length : Int) t548 _ A173.out).mono ?_);rintro e w' ⟨rfl,⟨nd,rfl⟩⟩;refine ⟨_,rfl,?_⟩) | ((with_reducible refine gate_callee (f := 46) rfl ?_);refine goesL_ (some 128) rfl rfl Try.func46 (by kernel_rfl) rfl #[.int .i64 t548] rfl eq_up ?_;(with_reducible refine (impl_FullSet.calls t548 t549 _ A174.out).mono ?_);rintro e w' ⟨rfl,⟨nd,rfl⟩⟩;refine ⟨_,rfl,?_⟩))
        go_ret
        exact ⟨by first | rfl | (simp [errW_none,errW_some] <;> rfl) | (simp [*,errW_none,errW_some] <;> rfl),by repeat (first | (with_reducible first | exact HB.out | apply below_alloc | apply pw_below_drewN | apply below_drew1 | refine below_set ?_ GE492.out | refine below_set ?_ GE507.out | refine below_set ?_ GE522.out) | exact HB.out)⟩

/-- THE ONE PURE STATEMENT of laws_FnMans: yours. -/
def laws_FnMans.Pure : Prop := ∀ (l0 : List Int),l0.length ≤ maxLen → l0.length * 1 ≤ 140737488351232 → (∀ x ∈ l0,(Lit.int .u8 x).wf = true) → ∃ k,laws_FnMans.f k l0 = some true
theorem laws_FnMans.walk (P : laws_FnMans.Pure) (a0 : Option Addr) (len0 cap0 : Nat) (z0 : List Int) (w : World) (w0 : (a0 = none ∧ len0 = 0 ∧ cap0 = 0 ∧ z0 = []) ∨ ∃ x,a0 = some x ∧ len0 ≤ cap0 ∧ cap0 ≤ maxLen ∧ z0.length = cap0 ∧ (∀ i,i < z0.length → w.cell? (x.add i) = some (.int .u8 (z0.getD i 0))) ∧ ∀ n ∈ z0,(Lit.int .u8 n).wf = true) (y0 : len0 * 1 ≤ 140737488351232) :
  Calls Try.prog 9 #[.slice a0 len0 cap0] w fun e w' => e = .returned (.bool true) ∧ Below w.heap.size w w' := by
 obtain ⟨l0,rfl,hr0,hm0,hw0,hc0⟩ := ReadsInt.ofRowC w0
 obtain ⟨k,h⟩ := P l0 hm0 y0 hw0
 refine (laws_FnMans.calls k _ _ l0 true w (Kd.C_of_reads (d := (0 : Int)) (h1 := fun _ => rfl) hr0) hc0 h rfl).mono ?_
 rintro e w' ⟨rfl,hd⟩
 exact ⟨rfl,hd⟩

end Go.Proofs.Ytdkgcloempbgpaa.PFnMans
