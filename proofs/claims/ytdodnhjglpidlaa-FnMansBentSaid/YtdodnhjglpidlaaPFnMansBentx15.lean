-- by a program of this session (a turned copy of the print: make with a capacity)
import Derived.Test.YtdodnhjglpidlaaVMade2
import Derived.Test.YtdodnhjglpidlaaPFnMansBentx0
import Derived.Test.YtdodnhjglpidlaaPFnMansBentx2
import Derived.Test.YtdodnhjglpidlaaPFnMansBentx3
import Derived.Test.YtdodnhjglpidlaaPFnMansBentx4
import Derived.Test.YtdodnhjglpidlaaPFnMansBentx6
import Derived.Test.YtdodnhjglpidlaaPFnMansBentx8
import Derived.Test.YtdodnhjglpidlaaPFnMansBentx9
import Derived.Test.YtdodnhjglpidlaaPFnMansBentx11
import Derived.Test.YtdodnhjglpidlaaPFnMansBentx12
import Derived.Test.YtdodnhjglpidlaaPFnMansBentx13
import Derived.Test.YtdodnhjglpidlaaPFnMansBentx14
namespace Go.Proofs.Ytdodnhjglpidlaa.PFnMansBent
open Go.RowKit Go.Proofs.YtdodnhjglpidlaaW.PrintWords Go.Proofs.YtdodnhjglpidlaaW.PrintLast Go.Proofs.YtdodnhjglpidlaaW.PrintMore
attribute [local go_sem] max2_int min2_int max_two min_two max_three min_three max_four min_four   -- for this text's walks alone
set_option linter.unusedVariables false
set_option linter.unusedSimpArgs false

/-! ### laws_FnMansBent: function 3 -/
def laws_FnMansBent.j0 : Nat → List Int → Int → Int → Bool → Bool → Int → Int → Int → List (S56) → Option (Bool)
 | 0,_,_,_,_,_,_,_,_,_ => none
 | k + 1,x3,x4,x6,x7,x95,x637000,x637001,x637002,x637003 => if x95 = true then (some false) else (if x7 = true then ((impl_ManOk.f k x637000 x637001 x637002 x637003).bind fun t691 => (if t691 = true then (if 0 ≤ x4 then (if x4 ≤ (x3.length : Int) then ((impl_PutMan.f k (x3.take (x4 : Int).toNat) x637000 x637001 x637002 x637003).bind fun t696 => (if 0 ≤ x6 then (if x6 ≤ (x3.length : Int) then ((laws_same.f k t696 (x3.take (x6 : Int).toNat)).bind fun t703 => (some t703)) else (none)) else (none))) else (none)) else (none)) else (some false))) else ((laws_sameMan.f k x637000 x637001 x637002 x637003 0 0 0 ([] : List (S56))).bind fun t704 => (some t704)))
def laws_FnMansBent.f (k : Nat) (l0 : List Int) : Option (Bool) := (laws_big.f l0).bind fun t623 => (if t623 = true then (some true) else ((spec_DrawGetMan.f k l0).bind fun bt624 => ((impl_GetMan.f k bt624.1 bt624.2).bind fun bt628 => ((spec_GetMan.f k bt624.1 bt624.2).bind fun bt637 => ((spec_DrawPutMan.f k l0).bind fun bt646 => ((spec_DrawSameMan.f k l0).bind fun bt656 => ((spec_DrawManOk.f k l0).bind fun bt670 => ((laws_sameMan.f k bt628.1 bt628.2.1 bt628.2.2.1 bt628.2.2.2.1 bt637.1 bt637.2.1 bt637.2.2.1 bt637.2.2.2.1).bind fun t677 => (if t677 = true then (if bt628.2.2.2.2.1 = bt637.2.2.2.2.1 then (if (bt628.2.2.2.2.2 != bt637.2.2.2.2.2) = true then (laws_FnMansBent.j0 k bt624.1 bt624.2 bt628.2.2.2.2.1 bt628.2.2.2.2.2 true bt628.1 bt628.2.1 bt628.2.2.1 bt628.2.2.2.1) else ((impl_PutMan.f k bt646.1 bt646.2.1 bt646.2.2.1 bt646.2.2.2.1 bt646.2.2.2.2).bind fun t678 => ((spec_PutMan.f k bt646.1 bt646.2.1 bt646.2.2.1 bt646.2.2.2.1 bt646.2.2.2.2).bind fun t681 => ((laws_same.f k t678 t681).bind fun t684 => (if t684 = true then ((impl_SameMan.f k bt656.1 bt656.2.1 bt656.2.2.1 bt656.2.2.2.1 bt656.2.2.2.2.1 bt656.2.2.2.2.2.1 bt656.2.2.2.2.2.2.1 bt656.2.2.2.2.2.2.2).bind fun t685 => ((laws_sameMan.f k bt656.1 bt656.2.1 bt656.2.2.1 bt656.2.2.2.1 bt656.2.2.2.2.1 bt656.2.2.2.2.2.1 bt656.2.2.2.2.2.2.1 bt656.2.2.2.2.2.2.2).bind fun t686 => (if (t685 != t686) = true then (laws_FnMansBent.j0 k bt624.1 bt624.2 bt628.2.2.2.2.1 bt628.2.2.2.2.2 true bt628.1 bt628.2.1 bt628.2.2.1 bt628.2.2.2.1) else ((impl_ManOk.f k bt670.1 bt670.2.1 bt670.2.2.1 bt670.2.2.2).bind fun t687 => ((spec_ManOk.f k bt670.1 bt670.2.1 bt670.2.2.1 bt670.2.2.2).bind fun t688 => (if (t687 != t688) = true then (laws_FnMansBent.j0 k bt624.1 bt624.2 bt628.2.2.2.2.1 bt628.2.2.2.2.2 true bt628.1 bt628.2.1 bt628.2.2.1 bt628.2.2.2.1) else ((impl_AllParts.f bt670.1 bt670.2.1 bt670.2.2.1 bt670.2.2.2).bind fun t689 => ((spec_AllParts.f bt670.1 bt670.2.1 bt670.2.2.1 bt670.2.2.2).bind fun t690 => (laws_FnMansBent.j0 k bt624.1 bt624.2 bt628.2.2.2.2.1 bt628.2.2.2.2.2 (t689 != t690) bt628.1 bt628.2.1 bt628.2.2.1 bt628.2.2.2.1))))))))) else (laws_FnMansBent.j0 k bt624.1 bt624.2 bt628.2.2.2.2.1 bt628.2.2.2.2.2 true bt628.1 bt628.2.1 bt628.2.2.1 bt628.2.2.2.1)))))) else (laws_FnMansBent.j0 k bt624.1 bt624.2 bt628.2.2.2.2.1 bt628.2.2.2.2.2 true bt628.1 bt628.2.1 bt628.2.2.1 bt628.2.2.2.1)) else (laws_FnMansBent.j0 k bt624.1 bt624.2 bt628.2.2.2.2.1 bt628.2.2.2.2.2 true bt628.1 bt628.2.1 bt628.2.2.1 bt628.2.2.2.1))))))))))
theorem laws_FnMansBent.mono_l : ∀ k,(∀ y0 y1 y2 y3 y4 y5 y6 y7 y8,LeO (laws_FnMansBent.j0 k y0 y1 y2 y3 y4 y5 y6 y7 y8) (laws_FnMansBent.j0 (k + 1) y0 y1 y2 y3 y4 y5 y6 y7 y8))
 | 0 => fun _ _ _ _ _ _ _ _ _ r h => by simp [laws_FnMansBent.j0] at h
 | k + 1 => by
  have ih0 := laws_FnMansBent.mono_l k
  ·intro y0 y1 y2 y3 y4 y5 y6 y7 y8
   unfold laws_FnMansBent.j0
   repeat' first
   | (with_reducible exact ih0 _ _ _ _ _ _ _ _ _)
   | (with_reducible exact impl_GetMan.mono _ _ _)
   | (with_reducible exact impl_ManOk.mono _ _ _ _ _)
   | (with_reducible exact impl_PutMan.mono _ _ _ _ _ _)
   | (with_reducible exact impl_SameMan.mono _ _ _ _ _ _ _ _ _)
   | (with_reducible exact laws_same.mono _ _ _)
   | (with_reducible exact laws_sameMan.mono _ _ _ _ _ _ _ _ _)
   | (with_reducible exact spec_DrawGetMan.mono _ _)
   | (with_reducible exact spec_DrawManOk.mono _ _)
   | (with_reducible exact spec_DrawPutMan.mono _ _)
   | (with_reducible exact spec_DrawSameMan.mono _ _)
   | (with_reducible exact spec_GetMan.mono _ _ _)
   | (with_reducible exact spec_ManOk.mono _ _ _ _ _)
   | (with_reducible exact spec_PutMan.mono _ _ _ _ _ _)
   | (with_reducible exact LeO.refl _)
   | (with_reducible exact LeO.none _)
   | (with_reducible refine LeO.ite ?_ ?_)
   | (with_reducible refine LeO.bind ?_ (fun _ => ?_))
   | exact ih0 _ _ _ _ _ _ _ _ _
   | exact impl_GetMan.mono _ _ _
   | exact impl_ManOk.mono _ _ _ _ _
   | exact impl_PutMan.mono _ _ _ _ _ _
   | exact impl_SameMan.mono _ _ _ _ _ _ _ _ _
   | exact laws_same.mono _ _ _
   | exact laws_sameMan.mono _ _ _ _ _ _ _ _ _
   | exact spec_DrawGetMan.mono _ _
   | exact spec_DrawManOk.mono _ _
   | exact spec_DrawPutMan.mono _ _
   | exact spec_DrawSameMan.mono _ _
   | exact spec_GetMan.mono _ _ _
   | exact spec_ManOk.mono _ _ _ _ _
   | exact spec_PutMan.mono _ _ _ _ _ _
   | exact LeO.none _
   | refine LeO.ite ?_ ?_
   | refine LeO.bind ?_ (fun _ => ?_)
theorem laws_FnMansBent.mono : ∀ a0 k,LeO (laws_FnMansBent.f k a0) (laws_FnMansBent.f (k + 1) a0) := by
 intro a0 k
 have ih0 := laws_FnMansBent.mono_l k
 unfold laws_FnMansBent.f
 repeat' first
   | (with_reducible exact ih0 _ _ _ _ _ _ _ _ _)
   | (with_reducible exact impl_GetMan.mono _ _ _)
   | (with_reducible exact impl_ManOk.mono _ _ _ _ _)
   | (with_reducible exact impl_PutMan.mono _ _ _ _ _ _)
   | (with_reducible exact impl_SameMan.mono _ _ _ _ _ _ _ _ _)
   | (with_reducible exact laws_same.mono _ _ _)
   | (with_reducible exact laws_sameMan.mono _ _ _ _ _ _ _ _ _)
   | (with_reducible exact spec_DrawGetMan.mono _ _)
   | (with_reducible exact spec_DrawManOk.mono _ _)
   | (with_reducible exact spec_DrawPutMan.mono _ _)
   | (with_reducible exact spec_DrawSameMan.mono _ _)
   | (with_reducible exact spec_GetMan.mono _ _ _)
   | (with_reducible exact spec_ManOk.mono _ _ _ _ _)
   | (with_reducible exact spec_PutMan.mono _ _ _ _ _ _)
   | (with_reducible exact LeO.refl _)
   | (with_reducible exact LeO.none _)
   | (with_reducible refine LeO.ite ?_ ?_)
   | (with_reducible refine LeO.bind ?_ (fun _ => ?_))
   | exact ih0 _ _ _ _ _ _ _ _ _
   | exact impl_GetMan.mono _ _ _
   | exact impl_ManOk.mono _ _ _ _ _
   | exact impl_PutMan.mono _ _ _ _ _ _
   | exact impl_SameMan.mono _ _ _ _ _ _ _ _ _
   | exact laws_same.mono _ _ _
   | exact laws_sameMan.mono _ _ _ _ _ _ _ _ _
   | exact spec_DrawGetMan.mono _ _
   | exact spec_DrawManOk.mono _ _
   | exact spec_DrawPutMan.mono _ _
   | exact spec_DrawSameMan.mono _ _
   | exact spec_GetMan.mono _ _ _
   | exact spec_ManOk.mono _ _ _ _ _
   | exact spec_PutMan.mono _ _ _ _ _ _
   | exact LeO.none _
   | refine LeO.ite ?_ ?_
   | refine LeO.bind ?_ (fun _ => ?_)
def laws_FnMansBent.T9 : Bool × List (List Nat × List Nat) := (true,[([],[]),([],[]),([0,1],[0,1]),([2],[2]),([3,2],[3]),([4],[4]),([4],[4]),([5,6,4],[4,5,6]),([4,7],[4,7]),([8,4],[8]),([9],[9]),([9],[9]),([10,11,9],[9,10,11]),([9,12],[9,12]),([13,9],[13]),([14],[14]),([14],[14]),([15,16,14,14],[14,15,16]),([14],[14]),([14],[14]),([18,19,17,14],[14,18,19]),([17,20,20,14],[14,17,20]),([21,14],[14,21]),([14,22],[14,22]),([23,21],[23]),([24],[24]),([24],[24]),([25,26,24,24],[24,25,26]),([24],[24]),([24],[24]),([28,29,27,24],[24,28,29]),([27,30,24],[24,27,30]),([24,31],[24,31]),([32,30],[32]),([33],[33]),([34,33,33],[33,34]),([33],[33]),([36,35,33],[33,36]),([35,37,33],[33,35,37]),([33,38],[33,38]),([39,37],[39]),([40],[40]),([41,40,40],[40,41]),([40],[40]),([43,42,40],[40,43]),([42,44,40],[40,42,44]),([40,45],[40,45])])
def laws_FnMansBent.B9 : List Nat := [0,0,3,7,15,31,31,127,255,511,1023,1023,4095,8191,16383,32767,32767,131071,32767,32767,1048575,2097151,4194303,8388607,16777215,33554431,33554431,134217727,33554431,33554431,1073741823,2147483647,4294967295,8589934591,17179869183,34359738367,17179869183,137438953471,274877906943,549755813887,1099511627775,2199023255551,4398046511103,2199023255551,17592186044415,35184372088831,70368744177663]
theorem laws_FnMansBent.tab9 : rtab .any (opsOf Try.f3 9) = laws_FnMansBent.T9 := by kernel_rfl
theorem laws_FnMansBent.bits9 : waitsOk laws_FnMansBent.T9.2 laws_FnMansBent.B9 = true := by kernel_rfl
def laws_FnMansBent.T13 : Bool × List (List Nat × List Nat) := (true,[([],[]),([0],[0]),([1,1],[1]),([2],[2]),([2],[2]),([3,4,2],[2,3,4]),([2],[2]),([5,6,2,2],[2,5,6]),([2],[2]),([2],[2]),([8,9,2],[2,8,9]),([7,10,7,2],[2,7,10]),([2,11],[2,11]),([12,11,0,1,2,3,4,5,6,7,8,9,10,11,12],[12])])
def laws_FnMansBent.B13 : List Nat := [0,1,3,7,7,31,7,127,7,7,775,2047,4095,8191]
theorem laws_FnMansBent.tab13 : rtab .any (opsOf Try.f3 13) = laws_FnMansBent.T13 := by kernel_rfl
theorem laws_FnMansBent.bits13 : waitsOk laws_FnMansBent.T13.2 laws_FnMansBent.B13 = true := by kernel_rfl
theorem laws_FnMansBent.dead0 (k : Nat) (a0 : List Int) (a1 : Int) (a2 : Int) (a3 : Bool) (a5 : Int) (a6 : Int) (a7 : Int) (a8 : List (S56)) (h : laws_FnMansBent.j0 k a0 a1 a2 a3 true a5 a6 a7 a8 = some true) : False := by
 cases k <;> simp [laws_FnMansBent.j0] at h
set_option maxHeartbeats 8000000 in
set_option maxRecDepth 100000 in
theorem laws_FnMansBent.calls (k : Nat) (A0 : Option Addr) (c0 : Nat) (l0 : List Int) (r : Bool) (w : World) (hr0 : Kd.C (Kd.int .u8) w A0 l0.length l0) (hc0 : l0.length ≤ c0) (h : laws_FnMansBent.f k l0 = some r) (hrt : r = true) :
  Calls Try.prog 3 #[.slice A0 l0.length c0] w fun e w' => e = .returned (.bool r) ∧ Below w.heap.size w w' := by
 have hu28 := Try.underlying28
 have HR0 := Mk hr0
 have HC0 := Mk hc0
 clear hr0 hc0
 have HB := Mk (Below.refl w.heap.size w)
 have H : ((laws_big.f l0).bind fun t623 => (if t623 = true then (some true) else ((spec_DrawGetMan.f k l0).bind fun bt624 => ((impl_GetMan.f k bt624.1 bt624.2).bind fun bt628 => ((spec_GetMan.f k bt624.1 bt624.2).bind fun bt637 => ((spec_DrawPutMan.f k l0).bind fun bt646 => ((spec_DrawSameMan.f k l0).bind fun bt656 => ((spec_DrawManOk.f k l0).bind fun bt670 => ((laws_sameMan.f k bt628.1 bt628.2.1 bt628.2.2.1 bt628.2.2.2.1 bt637.1 bt637.2.1 bt637.2.2.1 bt637.2.2.2.1).bind fun t677 => (if t677 = true then (if bt628.2.2.2.2.1 = bt637.2.2.2.2.1 then (if (bt628.2.2.2.2.2 != bt637.2.2.2.2.2) = true then (laws_FnMansBent.j0 k bt624.1 bt624.2 bt628.2.2.2.2.1 bt628.2.2.2.2.2 true bt628.1 bt628.2.1 bt628.2.2.1 bt628.2.2.2.1) else ((impl_PutMan.f k bt646.1 bt646.2.1 bt646.2.2.1 bt646.2.2.2.1 bt646.2.2.2.2).bind fun t678 => ((spec_PutMan.f k bt646.1 bt646.2.1 bt646.2.2.1 bt646.2.2.2.1 bt646.2.2.2.2).bind fun t681 => ((laws_same.f k t678 t681).bind fun t684 => (if t684 = true then ((impl_SameMan.f k bt656.1 bt656.2.1 bt656.2.2.1 bt656.2.2.2.1 bt656.2.2.2.2.1 bt656.2.2.2.2.2.1 bt656.2.2.2.2.2.2.1 bt656.2.2.2.2.2.2.2).bind fun t685 => ((laws_sameMan.f k bt656.1 bt656.2.1 bt656.2.2.1 bt656.2.2.2.1 bt656.2.2.2.2.1 bt656.2.2.2.2.2.1 bt656.2.2.2.2.2.2.1 bt656.2.2.2.2.2.2.2).bind fun t686 => (if (t685 != t686) = true then (laws_FnMansBent.j0 k bt624.1 bt624.2 bt628.2.2.2.2.1 bt628.2.2.2.2.2 true bt628.1 bt628.2.1 bt628.2.2.1 bt628.2.2.2.1) else ((impl_ManOk.f k bt670.1 bt670.2.1 bt670.2.2.1 bt670.2.2.2).bind fun t687 => ((spec_ManOk.f k bt670.1 bt670.2.1 bt670.2.2.1 bt670.2.2.2).bind fun t688 => (if (t687 != t688) = true then (laws_FnMansBent.j0 k bt624.1 bt624.2 bt628.2.2.2.2.1 bt628.2.2.2.2.2 true bt628.1 bt628.2.1 bt628.2.2.1 bt628.2.2.2.1) else ((impl_AllParts.f bt670.1 bt670.2.1 bt670.2.2.1 bt670.2.2.2).bind fun t689 => ((spec_AllParts.f bt670.1 bt670.2.1 bt670.2.2.1 bt670.2.2.2).bind fun t690 => (laws_FnMansBent.j0 k bt624.1 bt624.2 bt628.2.2.2.2.1 bt628.2.2.2.2.2 (t689 != t690) bt628.1 bt628.2.1 bt628.2.2.1 bt628.2.2.2.1))))))))) else (laws_FnMansBent.j0 k bt624.1 bt624.2 bt628.2.2.2.2.1 bt628.2.2.2.2.2 true bt628.1 bt628.2.1 bt628.2.2.1 bt628.2.2.2.1)))))) else (laws_FnMansBent.j0 k bt624.1 bt624.2 bt628.2.2.2.2.1 bt628.2.2.2.2.2 true bt628.1 bt628.2.1 bt628.2.2.1 bt628.2.2.2.1)) else (laws_FnMansBent.j0 k bt624.1 bt624.2 bt628.2.2.2.2.1 bt628.2.2.2.2.2 true bt628.1 bt628.2.1 bt628.2.2.1 bt628.2.2.2.1))))))))))) = some r := h
 clear h
 replace H := bsm H
 obtain ⟨t623,A2,H⟩ := H
 (try dsimp only at H)
 by_cases c3 : t623 = true
 ·subst c3
  rw [if_pos rfl] at H
  obtain rfl := Option.some.inj H
  go_enter Try.func3,Try.ntmps3
  go_wp2_with (first | ((with_reducible refine gate_callee (f := 4) rfl ?_);refine goesL_ (some 17) rfl rfl Try.func4 (by kernel_rfl) rfl #[.slice A0 l0.length c0] rfl eq_up ?_;(with_reducible refine (laws_big.calls _ _ l0 true _ ?side1 ?side2 A2.out).mono ?_);(case side1 => exact Kd.C_up HR0.out);(case side2 => exact HC0.out);rintro e w' ⟨rfl,⟨nd,rfl⟩⟩;refine ⟨_,rfl,?_⟩))
  go_ret
  exact ⟨err_,B_set HB.out⟩
 ·replace c3 := Bool.eq_false_iff.mpr c3
  subst c3
  have H1 : ((spec_DrawGetMan.f k l0).bind fun bt624 => ((impl_GetMan.f k bt624.1 bt624.2).bind fun bt628 => ((spec_GetMan.f k bt624.1 bt624.2).bind fun bt637 => ((spec_DrawPutMan.f k l0).bind fun bt646 => ((spec_DrawSameMan.f k l0).bind fun bt656 => ((spec_DrawManOk.f k l0).bind fun bt670 => ((laws_sameMan.f k bt628.1 bt628.2.1 bt628.2.2.1 bt628.2.2.2.1 bt637.1 bt637.2.1 bt637.2.2.1 bt637.2.2.2.1).bind fun t677 => (if t677 = true then (if bt628.2.2.2.2.1 = bt637.2.2.2.2.1 then (if (bt628.2.2.2.2.2 != bt637.2.2.2.2.2) = true then (laws_FnMansBent.j0 k bt624.1 bt624.2 bt628.2.2.2.2.1 bt628.2.2.2.2.2 true bt628.1 bt628.2.1 bt628.2.2.1 bt628.2.2.2.1) else ((impl_PutMan.f k bt646.1 bt646.2.1 bt646.2.2.1 bt646.2.2.2.1 bt646.2.2.2.2).bind fun t678 => ((spec_PutMan.f k bt646.1 bt646.2.1 bt646.2.2.1 bt646.2.2.2.1 bt646.2.2.2.2).bind fun t681 => ((laws_same.f k t678 t681).bind fun t684 => (if t684 = true then ((impl_SameMan.f k bt656.1 bt656.2.1 bt656.2.2.1 bt656.2.2.2.1 bt656.2.2.2.2.1 bt656.2.2.2.2.2.1 bt656.2.2.2.2.2.2.1 bt656.2.2.2.2.2.2.2).bind fun t685 => ((laws_sameMan.f k bt656.1 bt656.2.1 bt656.2.2.1 bt656.2.2.2.1 bt656.2.2.2.2.1 bt656.2.2.2.2.2.1 bt656.2.2.2.2.2.2.1 bt656.2.2.2.2.2.2.2).bind fun t686 => (if (t685 != t686) = true then (laws_FnMansBent.j0 k bt624.1 bt624.2 bt628.2.2.2.2.1 bt628.2.2.2.2.2 true bt628.1 bt628.2.1 bt628.2.2.1 bt628.2.2.2.1) else ((impl_ManOk.f k bt670.1 bt670.2.1 bt670.2.2.1 bt670.2.2.2).bind fun t687 => ((spec_ManOk.f k bt670.1 bt670.2.1 bt670.2.2.1 bt670.2.2.2).bind fun t688 => (if (t687 != t688) = true then (laws_FnMansBent.j0 k bt624.1 bt624.2 bt628.2.2.2.2.1 bt628.2.2.2.2.2 true bt628.1 bt628.2.1 bt628.2.2.1 bt628.2.2.2.1) else ((impl_AllParts.f bt670.1 bt670.2.1 bt670.2.2.1 bt670.2.2.2).bind fun t689 => ((spec_AllParts.f bt670.1 bt670.2.1 bt670.2.2.1 bt670.2.2.2).bind fun t690 => (laws_FnMansBent.j0 k bt624.1 bt624.2 bt628.2.2.2.2.1 bt628.2.2.2.2.2 (t689 != t690) bt628.1 bt628.2.1 bt628.2.2.1 bt628.2.2.2.1))))))))) else (laws_FnMansBent.j0 k bt624.1 bt624.2 bt628.2.2.2.2.1 bt628.2.2.2.2.2 true bt628.1 bt628.2.1 bt628.2.2.1 bt628.2.2.2.1)))))) else (laws_FnMansBent.j0 k bt624.1 bt624.2 bt628.2.2.2.2.1 bt628.2.2.2.2.2 true bt628.1 bt628.2.1 bt628.2.2.1 bt628.2.2.2.1)) else (laws_FnMansBent.j0 k bt624.1 bt624.2 bt628.2.2.2.2.1 bt628.2.2.2.2.2 true bt628.1 bt628.2.1 bt628.2.2.1 bt628.2.2.2.1))))))))) = some r := by rw [if_neg (show ¬ (false = true) by decide)] at H;exact H
  clear H
  have H := H1
  clear H1
  replace H := bsm H
  obtain ⟨⟨t624,t625⟩,A4,H⟩ := H
  (try dsimp only at H)
  replace H := bsm H
  obtain ⟨⟨t628,t629,t630,t631,t634,t635⟩,A5,H⟩ := H
  (try dsimp only at H)
  replace H := bsm H
  obtain ⟨⟨t637,t638,t639,t640,t643,t644⟩,A6,H⟩ := H
  (try dsimp only at H)
  replace H := bsm H
  obtain ⟨⟨t646,t649,t650,t651,t652⟩,A7,H⟩ := H
  (try dsimp only at H)
  replace H := bsm H
  obtain ⟨⟨t656,t657,t658,t659,t662,t663,t664,t665⟩,A8,H⟩ := H
  (try dsimp only at H)
  replace H := bsm H
  obtain ⟨⟨t670,t671,t672,t673⟩,A9,H⟩ := H
  (try dsimp only at H)
  have HC10 := Mk H
  clear H
  go_enter Try.func3,Try.ntmps3
  go_upto_region 9 with (first | ((with_reducible refine gate_callee (f := 4) rfl ?_);refine goesL_ (some 17) rfl rfl Try.func4 (by kernel_rfl) rfl #[.slice A0 l0.length c0] rfl eq_up ?_;(with_reducible refine (laws_big.calls _ _ l0 false _ ?side1 ?side2 A2.out).mono ?_);(case side1 => exact Kd.C_up HR0.out);(case side2 => exact HC0.out);rintro e w' ⟨rfl,⟨nd,rfl⟩⟩;refine ⟨_,rfl,?_⟩) | ((with_reducible refine gate_callee (f := 5) rfl ?_);refine goesL_ (some 20) rfl rfl Try.func5 (by kernel_rfl) rfl #[.slice A0 l0.length c0] rfl eq_up ?_;(with_reducible refine (spec_DrawGetMan.calls k _ _ l0 t624 t625 _ ?side1 ?side2 A4.out).mono ?_);(case side1 => exact Kd.C_up HR0.out);(case side2 => exact HC0.out);rintro e w11 ⟨v626,rfl,ho0,hb⟩;refine ⟨_,rfl,?_⟩;have HO627 := Mk (Kd.R_lower ho0 (below_size (B_up HB.out)));replace HB := Mk (below_step (B_up HB.out) hb);(try clear hb);(try clear hb2);(try clear hk);(try clear hi);(try clear ho0);obtain ⟨Ao12,co12,eo12⟩ := Kd.R_slice HO627.out;subst eo12) | ((with_reducible refine gate_callee (f := 6) rfl ?_);refine goesL_ (some 26) rfl rfl Try.func6 (by kernel_rfl) rfl #[.slice Ao12 t624.length co12,.int .i64 t625] rfl eq_up ?_;(with_reducible refine (impl_GetMan.calls k _ _ t624 t625 t628 t629 t630 t631 t634 t635 _ ?side1 ?side2 A5.out).mono ?_);(case side1 => exact Kd.C_up (Kd.R_reads' HO627.out).2.2);(case side2 => exact (Kd.R_reads' HO627.out).2.1);rintro e w13 ⟨v632,rfl,ho0,hb⟩;refine ⟨_,rfl,?_⟩;replace HO627 := Mk (Kd.R_below (Kd.R_up HO627.out) hb);have HO633 := Mk (Kd.R_lower ho0 (below_size (B_up HB.out)));replace HB := Mk (below_step (B_up HB.out) hb);(try clear hb);(try clear hb2);(try clear hk);(try clear hi);(try clear ho0)) | ((with_reducible refine gate_dst (N := 5) rfl ?_);refine box_event ?hg (N := 5) ?hd (cs := #[.int .i64 0,.int .i64 0,.int .i64 0,.slice none 0 0]) (t := 28) ?hr ?_;(case hd => rfl);(case hg => rfl);(case hr => first | (go_simp;done) | (go_simp;rfl));intro gb636 hg w14 hbox hb;replace HO627 := Mk (Kd.R_below (Kd.R_up HO627.out) hb);replace HO633 := Mk (Kd.R_below (Kd.R_up HO633.out) hb);have BK636 := Mk (hbox);have GW636 := Mk ((by rw [hg];exact (below_size (B_up HB.out)) : w.heap.size ≤ gb636));have GE636 := Mk ((by rw [hg];exact (below_size (B_up HB.out)) : w.heap.size ≤ gb636));replace HB := Mk (below_step (B_up HB.out) hb);clear hb hbox hg;obtain ⟨hcz15_0,hcz15_1,hcz15_2,hcz15_3⟩ := cz4 BK636.out;obtain ⟨hfz15_0,hfz15_1,hfz15_2,hfz15_3⟩ := fz4 BK636.out;obtain ⟨Ao16,co16,eo16⟩ := Kd.R_slice HO633.out;subst eo16) | ((with_reducible refine gate_callee (f := 7) rfl ?_);refine goesL_ (some 33) rfl rfl Try.func7 (by kernel_rfl) rfl #[.slice Ao12 t624.length co12,.int .i64 t625] rfl eq_up ?_;(with_reducible refine (spec_GetMan.calls k _ _ t624 t625 t637 t638 t639 t640 t643 t644 _ ?side1 ?side2 A6.out).mono ?_);(case side1 => refine (Kd.R_reads' (e := 5) (base := w.heap.size) (ok := fun k_ => True) (n := t624.length) (c := co12) ?_).2.2;exact (Kd.R_up (Kd.R_mono (Kd.R_far (p := ⟨gb636,3,none⟩) (Kd.R_far (p := ⟨gb636,2,none⟩) (Kd.R_far (p := ⟨gb636,1,none⟩) (Kd.R_far (p := ⟨gb636,0,none⟩) (Kd.R_types HO627.out BK636.out (by decide)) (fun _ hk => hk.2) (.int .i64 t628)) (fun _ hk => hk.2) (.int .i64 t629)) (fun _ hk => hk.2) (.int .i64 t630)) (fun _ hk => hk.2) (.slice Ao16 t631.length co16)) (fun _ h_ => h_.1))));(case side2 => exact (Kd.R_reads' HO627.out).2.1);rintro e w17 ⟨v641,rfl,ho0,hb⟩;refine ⟨_,rfl,?_⟩;replace HO627 := Mk (Kd.R_below (Kd.R_up (Kd.R_mono (Kd.R_far (p := ⟨gb636,3,none⟩) (Kd.R_far (p := ⟨gb636,2,none⟩) (Kd.R_far (p := ⟨gb636,1,none⟩) (Kd.R_far (p := ⟨gb636,0,none⟩) (Kd.R_types HO627.out BK636.out (by decide)) (fun _ hk => hk.2) (.int .i64 t628)) (fun _ hk => hk.2) (.int .i64 t629)) (fun _ hk => hk.2) (.int .i64 t630)) (fun _ hk => hk.2) (.slice Ao16 t631.length co16)) (fun _ h_ => h_.1))) hb);have HO642 := Mk (Kd.R_lower (Kd.R_new' ho0 (Kd.R_lt (Kd.R_up (Kd.R_mono (Kd.R_far (p := ⟨gb636,3,none⟩) (Kd.R_far (p := ⟨gb636,2,none⟩) (Kd.R_far (p := ⟨gb636,1,none⟩) (Kd.R_far (p := ⟨gb636,0,none⟩) (Kd.R_types HO633.out BK636.out (by decide)) (fun _ hk => hk.2) (.int .i64 t628)) (fun _ hk => hk.2) (.int .i64 t629)) (fun _ hk => hk.2) (.int .i64 t630)) (fun _ hk => hk.2) (.slice Ao16 t631.length co16)) (fun _ h_ => h_.1))))) (below_size (B_set HB.out)));replace HO633 := Mk (Kd.R_elder' (Kd.R_up (Kd.R_mono (Kd.R_far (p := ⟨gb636,3,none⟩) (Kd.R_far (p := ⟨gb636,2,none⟩) (Kd.R_far (p := ⟨gb636,1,none⟩) (Kd.R_far (p := ⟨gb636,0,none⟩) (Kd.R_types HO633.out BK636.out (by decide)) (fun _ hk => hk.2) (.int .i64 t628)) (fun _ hk => hk.2) (.int .i64 t629)) (fun _ hk => hk.2) (.int .i64 t630)) (fun _ hk => hk.2) (.slice Ao16 t631.length co16)) (fun _ h_ => h_.1))) (Kd.R_base ho0) hb);replace BK636 := Mk (blk_below (g := gb636) (o := .cells #[.int .i64 t628,.int .i64 t629,.int .i64 t630,.slice Ao16 t631.length co16] 28 (0,0)) (by (with_reducible repeat (first | refine blk_drewN ?_ _ | refine blk_drew ?_ | refine blk_alloc ?_ _));refine blk_put (cs := #[.int .i64 t628,.int .i64 t629,.int .i64 t630,.slice none 0 0]) ?_ 3 _ rfl;(with_reducible repeat (first | refine blk_drewN ?_ _ | refine blk_drew ?_ | refine blk_alloc ?_ _));refine blk_put (cs := #[.int .i64 t628,.int .i64 t629,.int .i64 0,.slice none 0 0]) ?_ 2 _ rfl;(with_reducible repeat (first | refine blk_drewN ?_ _ | refine blk_drew ?_ | refine blk_alloc ?_ _));refine blk_put (cs := #[.int .i64 t628,.int .i64 0,.int .i64 0,.slice none 0 0]) ?_ 1 _ rfl;(with_reducible repeat (first | refine blk_drewN ?_ _ | refine blk_drew ?_ | refine blk_alloc ?_ _));refine blk_put (cs := #[.int .i64 0,.int .i64 0,.int .i64 0,.slice none 0 0]) ?_ 0 _ rfl;(with_reducible repeat (first | refine blk_drewN ?_ _ | refine blk_drew ?_ | refine blk_alloc ?_ _));exact BK636.out) hb);replace HB := Mk (below_step (B_set HB.out) hb);(try clear hb);(try clear hb2);(try clear hk);(try clear hi);(try clear ho0)) | ((with_reducible refine gate_dst (N := 8) rfl ?_);refine box_event ?hg (N := 8) ?hd (cs := #[.int .i64 0,.int .i64 0,.int .i64 0,.slice none 0 0]) (t := 28) ?hr ?_;(case hd => rfl);(case hg => rfl);(case hr => first | (go_simp;done) | (go_simp;rfl));intro gb645 hg w18 hbox hb;replace HO627 := Mk (Kd.R_below (Kd.R_up HO627.out) hb);replace HO633 := Mk (Kd.R_below (Kd.R_up HO633.out) hb);replace HO642 := Mk (Kd.R_below (Kd.R_up HO642.out) hb);have BK645 := Mk (hbox);have GW645 := Mk ((by rw [hg];exact (below_size (B_set HB.out)) : w.heap.size ≤ gb645));have GE645 := Mk ((by rw [hg];exact (below_size (B_set HB.out)) : w.heap.size ≤ gb645));replace HB := Mk (below_step (B_set HB.out) hb);have NB636_645 := Mk ((by rw [hg];exact Nat.ne_of_lt (blk_lt (blk_up BK636.out)) : gb636 ≠ gb645));have NB645_636 := Mk ((by rw [hg];exact Nat.ne_of_gt (blk_lt (blk_up BK636.out)) : gb645 ≠ gb636));replace BK636 := Mk (blk_below (blk_up BK636.out) hb);clear hb hbox hg;have hnb19 := NB645_636.out;have hnc19 := NB636_645.out;obtain ⟨hcz20_0,hcz20_1,hcz20_2,hcz20_3⟩ := cz4 BK645.out;obtain ⟨hfz20_0,hfz20_1,hfz20_2,hfz20_3⟩ := fz4 BK645.out;obtain ⟨Ao21,co21,eo21⟩ := Kd.R_slice HO642.out;subst eo21) | ((with_reducible refine gate_callee (f := 8) rfl ?_);refine goesL_ (some 39) rfl rfl Try.func8 (by kernel_rfl) rfl #[.slice A0 l0.length c0] rfl eq_up ?_;(with_reducible refine (spec_DrawPutMan.calls k _ _ l0 t646 t649 t650 t651 t652 _ ?side1 ?side2 A7.out).mono ?_);(case side1 => exact Kd.C_below HR0.out (B_set HB.out));(case side2 => exact HC0.out);rintro e w22 ⟨v647,v653,rfl,ho0,ho1,hb⟩;refine ⟨_,rfl,?_⟩;have HO648 := Mk (Kd.R_lower (Kd.R_new' ho0 (Kd.R_lt (Kd.R_up (Kd.R_mono (Kd.R_far (p := ⟨gb645,3,none⟩) (Kd.R_far (p := ⟨gb645,2,none⟩) (Kd.R_far (p := ⟨gb645,1,none⟩) (Kd.R_far (p := ⟨gb645,0,none⟩) (Kd.R_types HO627.out BK645.out (by decide)) (fun _ hk => hk.2) (.int .i64 t637)) (fun _ hk => hk.2) (.int .i64 t638)) (fun _ hk => hk.2) (.int .i64 t639)) (fun _ hk => hk.2) (.slice Ao21 t640.length co21)) (fun _ h_ => h_.1))))) (below_size (B_set HB.out)));replace HO627 := Mk (Kd.R_elder' (Kd.R_up (Kd.R_mono (Kd.R_far (p := ⟨gb645,3,none⟩) (Kd.R_far (p := ⟨gb645,2,none⟩) (Kd.R_far (p := ⟨gb645,1,none⟩) (Kd.R_far (p := ⟨gb645,0,none⟩) (Kd.R_types HO627.out BK645.out (by decide)) (fun _ hk => hk.2) (.int .i64 t637)) (fun _ hk => hk.2) (.int .i64 t638)) (fun _ hk => hk.2) (.int .i64 t639)) (fun _ hk => hk.2) (.slice Ao21 t640.length co21)) (fun _ h_ => h_.1))) (Kd.R_base ho0) hb);have HO654 := Mk (Kd.R_lower (Kd.R_new' (Kd.R_new' ho1 (Kd.R_lt (Kd.R_up (Kd.R_mono (Kd.R_far (p := ⟨gb645,3,none⟩) (Kd.R_far (p := ⟨gb645,2,none⟩) (Kd.R_far (p := ⟨gb645,1,none⟩) (Kd.R_far (p := ⟨gb645,0,none⟩) (Kd.R_types HO633.out BK645.out (by decide)) (fun _ hk => hk.2) (.int .i64 t637)) (fun _ hk => hk.2) (.int .i64 t638)) (fun _ hk => hk.2) (.int .i64 t639)) (fun _ hk => hk.2) (.slice Ao21 t640.length co21)) (fun _ h_ => h_.1))))) (Kd.R_lt (Kd.R_up (Kd.R_mono (Kd.R_far (p := ⟨gb645,3,none⟩) (Kd.R_far (p := ⟨gb645,2,none⟩) (Kd.R_far (p := ⟨gb645,1,none⟩) (Kd.R_far (p := ⟨gb645,0,none⟩) (Kd.R_types HO642.out BK645.out (by decide)) (fun _ hk => hk.2) (.int .i64 t637)) (fun _ hk => hk.2) (.int .i64 t638)) (fun _ hk => hk.2) (.int .i64 t639)) (fun _ hk => hk.2) (.slice Ao21 t640.length co21)) (fun _ h_ => h_.1))))) (below_size (B_set HB.out)));replace HO633 := Mk (Kd.R_elder' (Kd.R_up (Kd.R_mono (Kd.R_far (p := ⟨gb645,3,none⟩) (Kd.R_far (p := ⟨gb645,2,none⟩) (Kd.R_far (p := ⟨gb645,1,none⟩) (Kd.R_far (p := ⟨gb645,0,none⟩) (Kd.R_types HO633.out BK645.out (by decide)) (fun _ hk => hk.2) (.int .i64 t637)) (fun _ hk => hk.2) (.int .i64 t638)) (fun _ hk => hk.2) (.int .i64 t639)) (fun _ hk => hk.2) (.slice Ao21 t640.length co21)) (fun _ h_ => h_.1))) (Kd.R_base ho1) hb);replace HO642 := Mk (Kd.R_elder' (Kd.R_up (Kd.R_mono (Kd.R_far (p := ⟨gb645,3,none⟩) (Kd.R_far (p := ⟨gb645,2,none⟩) (Kd.R_far (p := ⟨gb645,1,none⟩) (Kd.R_far (p := ⟨gb645,0,none⟩) (Kd.R_types HO642.out BK645.out (by decide)) (fun _ hk => hk.2) (.int .i64 t637)) (fun _ hk => hk.2) (.int .i64 t638)) (fun _ hk => hk.2) (.int .i64 t639)) (fun _ hk => hk.2) (.slice Ao21 t640.length co21)) (fun _ h_ => h_.1))) (Kd.R_base ho1) hb);replace BK636 := Mk (blk_below (g := gb636) (o := .cells #[.int .i64 t628,.int .i64 t629,.int .i64 t630,.slice Ao16 t631.length co16] 28 (0,0)) (by (with_reducible repeat (first | refine blk_drewN ?_ _ | refine blk_drew ?_ | refine blk_alloc ?_ _));refine blk_far ?_ NB636_645.out _;(with_reducible repeat (first | refine blk_drewN ?_ _ | refine blk_drew ?_ | refine blk_alloc ?_ _));refine blk_far ?_ NB636_645.out _;(with_reducible repeat (first | refine blk_drewN ?_ _ | refine blk_drew ?_ | refine blk_alloc ?_ _));refine blk_far ?_ NB636_645.out _;(with_reducible repeat (first | refine blk_drewN ?_ _ | refine blk_drew ?_ | refine blk_alloc ?_ _));refine blk_far ?_ NB636_645.out _;(with_reducible repeat (first | refine blk_drewN ?_ _ | refine blk_drew ?_ | refine blk_alloc ?_ _));exact BK636.out) hb);replace BK645 := Mk (blk_below (g := gb645) (o := .cells #[.int .i64 t637,.int .i64 t638,.int .i64 t639,.slice Ao21 t640.length co21] 28 (0,0)) (by (with_reducible repeat (first | refine blk_drewN ?_ _ | refine blk_drew ?_ | refine blk_alloc ?_ _));refine blk_put (cs := #[.int .i64 t637,.int .i64 t638,.int .i64 t639,.slice none 0 0]) ?_ 3 _ rfl;(with_reducible repeat (first | refine blk_drewN ?_ _ | refine blk_drew ?_ | refine blk_alloc ?_ _));refine blk_put (cs := #[.int .i64 t637,.int .i64 t638,.int .i64 0,.slice none 0 0]) ?_ 2 _ rfl;(with_reducible repeat (first | refine blk_drewN ?_ _ | refine blk_drew ?_ | refine blk_alloc ?_ _));refine blk_put (cs := #[.int .i64 t637,.int .i64 0,.int .i64 0,.slice none 0 0]) ?_ 1 _ rfl;(with_reducible repeat (first | refine blk_drewN ?_ _ | refine blk_drew ?_ | refine blk_alloc ?_ _));refine blk_put (cs := #[.int .i64 0,.int .i64 0,.int .i64 0,.slice none 0 0]) ?_ 0 _ rfl;(with_reducible repeat (first | refine blk_drewN ?_ _ | refine blk_drew ?_ | refine blk_alloc ?_ _));exact BK645.out) hb);replace HB := Mk (below_step (B_set HB.out) hb);(try clear hb);(try clear hb2);(try clear hk);(try clear hi);(try clear ho0);(try clear ho1)) | ((with_reducible refine gate_dst (N := 12) rfl ?_);refine box_event ?hg (N := 12) ?hd (cs := #[.int .i64 0,.int .i64 0,.int .i64 0,.slice none 0 0]) (t := 28) ?hr ?_;(case hd => rfl);(case hg => rfl);(case hr => first | (go_simp;done) | (go_simp;rfl));intro gb655 hg w23 hbox hb;replace HO627 := Mk (Kd.R_below (Kd.R_up HO627.out) hb);replace HO633 := Mk (Kd.R_below (Kd.R_up HO633.out) hb);replace HO642 := Mk (Kd.R_below (Kd.R_up HO642.out) hb);replace HO648 := Mk (Kd.R_below (Kd.R_up HO648.out) hb);replace HO654 := Mk (Kd.R_below (Kd.R_up HO654.out) hb);have BK655 := Mk (hbox);have GW655 := Mk ((by rw [hg];exact (below_size (B_set HB.out)) : w.heap.size ≤ gb655));have GE655 := Mk ((by rw [hg];exact (below_size (B_set HB.out)) : w.heap.size ≤ gb655));replace HB := Mk (below_step (B_set HB.out) hb);have NB636_655 := Mk ((by rw [hg];exact Nat.ne_of_lt (blk_lt (blk_up BK636.out)) : gb636 ≠ gb655));have NB655_636 := Mk ((by rw [hg];exact Nat.ne_of_gt (blk_lt (blk_up BK636.out)) : gb655 ≠ gb636));replace BK636 := Mk (blk_below (blk_up BK636.out) hb);have NB645_655 := Mk ((by rw [hg];exact Nat.ne_of_lt (blk_lt (blk_up BK645.out)) : gb645 ≠ gb655));have NB655_645 := Mk ((by rw [hg];exact Nat.ne_of_gt (blk_lt (blk_up BK645.out)) : gb655 ≠ gb645));replace BK645 := Mk (blk_below (blk_up BK645.out) hb);clear hb hbox hg;have hnb24 := NB655_636.out;have hnc24 := NB636_655.out;have hnb25 := NB655_645.out;have hnc25 := NB645_655.out;obtain ⟨hcz26_0,hcz26_1,hcz26_2,hcz26_3⟩ := cz4 BK655.out;obtain ⟨hfz26_0,hfz26_1,hfz26_2,hfz26_3⟩ := fz4 BK655.out;obtain ⟨Ao27,co27,eo27⟩ := Kd.R_slice HO654.out;subst eo27) | ((with_reducible refine gate_callee (f := 9) rfl ?_);refine goesL_ (some 44) rfl rfl Try.func9 (by kernel_rfl) rfl #[.slice A0 l0.length c0] rfl eq_up ?_;(with_reducible refine (spec_DrawSameMan.calls k _ _ l0 t656 t657 t658 t659 t662 t663 t664 t665 _ ?side1 ?side2 A8.out).mono ?_);(case side1 => exact Kd.C_below HR0.out (B_set HB.out));(case side2 => exact HC0.out);rintro e w28 ⟨v660,v666,rfl,ho0,ho1,hb⟩;refine ⟨_,rfl,?_⟩;replace HO627 := Mk (Kd.R_below (Kd.R_up (Kd.R_mono (Kd.R_far (p := ⟨gb655,3,none⟩) (Kd.R_far (p := ⟨gb655,2,none⟩) (Kd.R_far (p := ⟨gb655,1,none⟩) (Kd.R_far (p := ⟨gb655,0,none⟩) (Kd.R_types HO627.out BK655.out (by decide)) (fun _ hk => hk.2) (.int .i64 t649)) (fun _ hk => hk.2) (.int .i64 t650)) (fun _ hk => hk.2) (.int .i64 t651)) (fun _ hk => hk.2) (.slice Ao27 t652.length co27)) (fun _ h_ => h_.1))) hb);replace HO648 := Mk (Kd.R_below (Kd.R_up (Kd.R_mono (Kd.R_far (p := ⟨gb655,3,none⟩) (Kd.R_far (p := ⟨gb655,2,none⟩) (Kd.R_far (p := ⟨gb655,1,none⟩) (Kd.R_far (p := ⟨gb655,0,none⟩) (Kd.R_types HO648.out BK655.out (by decide)) (fun _ hk => hk.2) (.int .i64 t649)) (fun _ hk => hk.2) (.int .i64 t650)) (fun _ hk => hk.2) (.int .i64 t651)) (fun _ hk => hk.2) (.slice Ao27 t652.length co27)) (fun _ h_ => h_.1))) hb);have HO661 := Mk (Kd.R_lower (Kd.R_new' (Kd.R_new' (Kd.R_new' ho0 (Kd.R_lt (Kd.R_up (Kd.R_mono (Kd.R_far (p := ⟨gb655,3,none⟩) (Kd.R_far (p := ⟨gb655,2,none⟩) (Kd.R_far (p := ⟨gb655,1,none⟩) (Kd.R_far (p := ⟨gb655,0,none⟩) (Kd.R_types HO633.out BK655.out (by decide)) (fun _ hk => hk.2) (.int .i64 t649)) (fun _ hk => hk.2) (.int .i64 t650)) (fun _ hk => hk.2) (.int .i64 t651)) (fun _ hk => hk.2) (.slice Ao27 t652.length co27)) (fun _ h_ => h_.1))))) (Kd.R_lt (Kd.R_up (Kd.R_mono (Kd.R_far (p := ⟨gb655,3,none⟩) (Kd.R_far (p := ⟨gb655,2,none⟩) (Kd.R_far (p := ⟨gb655,1,none⟩) (Kd.R_far (p := ⟨gb655,0,none⟩) (Kd.R_types HO642.out BK655.out (by decide)) (fun _ hk => hk.2) (.int .i64 t649)) (fun _ hk => hk.2) (.int .i64 t650)) (fun _ hk => hk.2) (.int .i64 t651)) (fun _ hk => hk.2) (.slice Ao27 t652.length co27)) (fun _ h_ => h_.1))))) (Kd.R_lt (Kd.R_up (Kd.R_mono (Kd.R_far (p := ⟨gb655,3,none⟩) (Kd.R_far (p := ⟨gb655,2,none⟩) (Kd.R_far (p := ⟨gb655,1,none⟩) (Kd.R_far (p := ⟨gb655,0,none⟩) (Kd.R_types HO654.out BK655.out (by decide)) (fun _ hk => hk.2) (.int .i64 t649)) (fun _ hk => hk.2) (.int .i64 t650)) (fun _ hk => hk.2) (.int .i64 t651)) (fun _ hk => hk.2) (.slice Ao27 t652.length co27)) (fun _ h_ => h_.1))))) (below_size (B_set HB.out)));have HO667 := Mk (Kd.R_lower (Kd.R_new' (Kd.R_new' (Kd.R_new' ho1 (Kd.R_lt (Kd.R_up (Kd.R_mono (Kd.R_far (p := ⟨gb655,3,none⟩) (Kd.R_far (p := ⟨gb655,2,none⟩) (Kd.R_far (p := ⟨gb655,1,none⟩) (Kd.R_far (p := ⟨gb655,0,none⟩) (Kd.R_types HO633.out BK655.out (by decide)) (fun _ hk => hk.2) (.int .i64 t649)) (fun _ hk => hk.2) (.int .i64 t650)) (fun _ hk => hk.2) (.int .i64 t651)) (fun _ hk => hk.2) (.slice Ao27 t652.length co27)) (fun _ h_ => h_.1))))) (Kd.R_lt (Kd.R_up (Kd.R_mono (Kd.R_far (p := ⟨gb655,3,none⟩) (Kd.R_far (p := ⟨gb655,2,none⟩) (Kd.R_far (p := ⟨gb655,1,none⟩) (Kd.R_far (p := ⟨gb655,0,none⟩) (Kd.R_types HO642.out BK655.out (by decide)) (fun _ hk => hk.2) (.int .i64 t649)) (fun _ hk => hk.2) (.int .i64 t650)) (fun _ hk => hk.2) (.int .i64 t651)) (fun _ hk => hk.2) (.slice Ao27 t652.length co27)) (fun _ h_ => h_.1))))) (Kd.R_lt (Kd.R_up (Kd.R_mono (Kd.R_far (p := ⟨gb655,3,none⟩) (Kd.R_far (p := ⟨gb655,2,none⟩) (Kd.R_far (p := ⟨gb655,1,none⟩) (Kd.R_far (p := ⟨gb655,0,none⟩) (Kd.R_types HO654.out BK655.out (by decide)) (fun _ hk => hk.2) (.int .i64 t649)) (fun _ hk => hk.2) (.int .i64 t650)) (fun _ hk => hk.2) (.int .i64 t651)) (fun _ hk => hk.2) (.slice Ao27 t652.length co27)) (fun _ h_ => h_.1))))) (below_size (B_set HB.out)));replace HO633 := Mk (Kd.R_mono (Kd.R_told (Kd.R_told (Kd.R_old (Kd.R_up (Kd.R_mono (Kd.R_far (p := ⟨gb655,3,none⟩) (Kd.R_far (p := ⟨gb655,2,none⟩) (Kd.R_far (p := ⟨gb655,1,none⟩) (Kd.R_far (p := ⟨gb655,0,none⟩) (Kd.R_types HO633.out BK655.out (by decide)) (fun _ hk => hk.2) (.int .i64 t649)) (fun _ hk => hk.2) (.int .i64 t650)) (fun _ hk => hk.2) (.int .i64 t651)) (fun _ hk => hk.2) (.slice Ao27 t652.length co27)) (fun _ h_ => h_.1))) hb) (Kd.R_base ho0)) (Kd.R_base ho1)) (fun _ h_ => h_.1));replace HO642 := Mk (Kd.R_mono (Kd.R_told (Kd.R_told (Kd.R_old (Kd.R_up (Kd.R_mono (Kd.R_far (p := ⟨gb655,3,none⟩) (Kd.R_far (p := ⟨gb655,2,none⟩) (Kd.R_far (p := ⟨gb655,1,none⟩) (Kd.R_far (p := ⟨gb655,0,none⟩) (Kd.R_types HO642.out BK655.out (by decide)) (fun _ hk => hk.2) (.int .i64 t649)) (fun _ hk => hk.2) (.int .i64 t650)) (fun _ hk => hk.2) (.int .i64 t651)) (fun _ hk => hk.2) (.slice Ao27 t652.length co27)) (fun _ h_ => h_.1))) hb) (Kd.R_base ho0)) (Kd.R_base ho1)) (fun _ h_ => h_.1));replace HO654 := Mk (Kd.R_mono (Kd.R_told (Kd.R_told (Kd.R_old (Kd.R_up (Kd.R_mono (Kd.R_far (p := ⟨gb655,3,none⟩) (Kd.R_far (p := ⟨gb655,2,none⟩) (Kd.R_far (p := ⟨gb655,1,none⟩) (Kd.R_far (p := ⟨gb655,0,none⟩) (Kd.R_types HO654.out BK655.out (by decide)) (fun _ hk => hk.2) (.int .i64 t649)) (fun _ hk => hk.2) (.int .i64 t650)) (fun _ hk => hk.2) (.int .i64 t651)) (fun _ hk => hk.2) (.slice Ao27 t652.length co27)) (fun _ h_ => h_.1))) hb) (Kd.R_base ho0)) (Kd.R_base ho1)) (fun _ h_ => h_.1));replace BK636 := Mk (blk_below (g := gb636) (o := .cells #[.int .i64 t628,.int .i64 t629,.int .i64 t630,.slice Ao16 t631.length co16] 28 (0,0)) (by (with_reducible repeat (first | refine blk_drewN ?_ _ | refine blk_drew ?_ | refine blk_alloc ?_ _));refine blk_far ?_ NB636_655.out _;(with_reducible repeat (first | refine blk_drewN ?_ _ | refine blk_drew ?_ | refine blk_alloc ?_ _));refine blk_far ?_ NB636_655.out _;(with_reducible repeat (first | refine blk_drewN ?_ _ | refine blk_drew ?_ | refine blk_alloc ?_ _));refine blk_far ?_ NB636_655.out _;(with_reducible repeat (first | refine blk_drewN ?_ _ | refine blk_drew ?_ | refine blk_alloc ?_ _));refine blk_far ?_ NB636_655.out _;(with_reducible repeat (first | refine blk_drewN ?_ _ | refine blk_drew ?_ | refine blk_alloc ?_ _));exact BK636.out) hb);replace BK645 := Mk (blk_below (g := gb645) (o := .cells #[.int .i64 t637,.int .i64 t638,.int .i64 t639,.slice Ao21 t640.length co21] 28 (0,0)) (by (with_reducible repeat (first | refine blk_drewN ?_ _ | refine blk_drew ?_ | refine blk_alloc ?_ _));refine blk_far ?_ NB645_655.out _;(with_reducible repeat (first | refine blk_drewN ?_ _ | refine blk_drew ?_ | refine blk_alloc ?_ _));refine blk_far ?_ NB645_655.out _;(with_reducible repeat (first | refine blk_drewN ?_ _ | refine blk_drew ?_ | refine blk_alloc ?_ _));refine blk_far ?_ NB645_655.out _;(with_reducible repeat (first | refine blk_drewN ?_ _ | refine blk_drew ?_ | refine blk_alloc ?_ _));refine blk_far ?_ NB645_655.out _;(with_reducible repeat (first | refine blk_drewN ?_ _ | refine blk_drew ?_ | refine blk_alloc ?_ _));exact BK645.out) hb);replace BK655 := Mk (blk_below (g := gb655) (o := .cells #[.int .i64 t649,.int .i64 t650,.int .i64 t651,.slice Ao27 t652.length co27] 28 (0,0)) (by (with_reducible repeat (first | refine blk_drewN ?_ _ | refine blk_drew ?_ | refine blk_alloc ?_ _));refine blk_put (cs := #[.int .i64 t649,.int .i64 t650,.int .i64 t651,.slice none 0 0]) ?_ 3 _ rfl;(with_reducible repeat (first | refine blk_drewN ?_ _ | refine blk_drew ?_ | refine blk_alloc ?_ _));refine blk_put (cs := #[.int .i64 t649,.int .i64 t650,.int .i64 0,.slice none 0 0]) ?_ 2 _ rfl;(with_reducible repeat (first | refine blk_drewN ?_ _ | refine blk_drew ?_ | refine blk_alloc ?_ _));refine blk_put (cs := #[.int .i64 t649,.int .i64 0,.int .i64 0,.slice none 0 0]) ?_ 1 _ rfl;(with_reducible repeat (first | refine blk_drewN ?_ _ | refine blk_drew ?_ | refine blk_alloc ?_ _));refine blk_put (cs := #[.int .i64 0,.int .i64 0,.int .i64 0,.slice none 0 0]) ?_ 0 _ rfl;(with_reducible repeat (first | refine blk_drewN ?_ _ | refine blk_drew ?_ | refine blk_alloc ?_ _));exact BK655.out) hb);replace HB := Mk (below_step (B_set HB.out) hb);(try clear hb);(try clear hb2);(try clear hk);(try clear hi);(try clear ho0);(try clear ho1)) | ((with_reducible refine gate_dst (N := 13) rfl ?_);refine box_event ?hg (N := 13) ?hd (cs := #[.int .i64 0,.int .i64 0,.int .i64 0,.slice none 0 0]) (t := 28) ?hr ?_;(case hd => rfl);(case hg => rfl);(case hr => first | (go_simp;done) | (go_simp;rfl));intro gb668 hg w29 hbox hb;replace HO627 := Mk (Kd.R_below (Kd.R_up HO627.out) hb);replace HO633 := Mk (Kd.R_below (Kd.R_up HO633.out) hb);replace HO642 := Mk (Kd.R_below (Kd.R_up HO642.out) hb);replace HO648 := Mk (Kd.R_below (Kd.R_up HO648.out) hb);replace HO654 := Mk (Kd.R_below (Kd.R_up HO654.out) hb);replace HO661 := Mk (Kd.R_below (Kd.R_up HO661.out) hb);replace HO667 := Mk (Kd.R_below (Kd.R_up HO667.out) hb);have BK668 := Mk (hbox);have GW668 := Mk ((by rw [hg];exact (below_size (B_set HB.out)) : w.heap.size ≤ gb668));have GE668 := Mk ((by rw [hg];exact (below_size (B_set HB.out)) : w.heap.size ≤ gb668));replace HB := Mk (below_step (B_set HB.out) hb);have NB636_668 := Mk ((by rw [hg];exact Nat.ne_of_lt (blk_lt (blk_up BK636.out)) : gb636 ≠ gb668));have NB668_636 := Mk ((by rw [hg];exact Nat.ne_of_gt (blk_lt (blk_up BK636.out)) : gb668 ≠ gb636));replace BK636 := Mk (blk_below (blk_up BK636.out) hb);have NB645_668 := Mk ((by rw [hg];exact Nat.ne_of_lt (blk_lt (blk_up BK645.out)) : gb645 ≠ gb668));have NB668_645 := Mk ((by rw [hg];exact Nat.ne_of_gt (blk_lt (blk_up BK645.out)) : gb668 ≠ gb645));replace BK645 := Mk (blk_below (blk_up BK645.out) hb);have NB655_668 := Mk ((by rw [hg];exact Nat.ne_of_lt (blk_lt (blk_up BK655.out)) : gb655 ≠ gb668));have NB668_655 := Mk ((by rw [hg];exact Nat.ne_of_gt (blk_lt (blk_up BK655.out)) : gb668 ≠ gb655));replace BK655 := Mk (blk_below (blk_up BK655.out) hb);clear hb hbox hg) | ((with_reducible refine gate_dst (N := 14) rfl ?_);refine box_event ?hg (N := 14) ?hd (cs := #[.int .i64 0,.int .i64 0,.int .i64 0,.slice none 0 0]) (t := 28) ?hr ?_;(case hd => rfl);(case hg => rfl);(case hr => first | (go_simp;done) | (go_simp;rfl));intro gb669 hg w30 hbox hb;replace HO627 := Mk (Kd.R_below (Kd.R_up HO627.out) hb);replace HO633 := Mk (Kd.R_below (Kd.R_up HO633.out) hb);replace HO642 := Mk (Kd.R_below (Kd.R_up HO642.out) hb);replace HO648 := Mk (Kd.R_below (Kd.R_up HO648.out) hb);replace HO654 := Mk (Kd.R_below (Kd.R_up HO654.out) hb);replace HO661 := Mk (Kd.R_below (Kd.R_up HO661.out) hb);replace HO667 := Mk (Kd.R_below (Kd.R_up HO667.out) hb);have BK669 := Mk (hbox);have GW669 := Mk ((by rw [hg];exact (below_size (B_set HB.out)) : w.heap.size ≤ gb669));have GE669 := Mk ((by rw [hg];exact (below_size (B_set HB.out)) : w.heap.size ≤ gb669));replace HB := Mk (below_step (B_set HB.out) hb);have NB636_669 := Mk ((by rw [hg];exact Nat.ne_of_lt (blk_lt (blk_up BK636.out)) : gb636 ≠ gb669));have NB669_636 := Mk ((by rw [hg];exact Nat.ne_of_gt (blk_lt (blk_up BK636.out)) : gb669 ≠ gb636));replace BK636 := Mk (blk_below (blk_up BK636.out) hb);have NB645_669 := Mk ((by rw [hg];exact Nat.ne_of_lt (blk_lt (blk_up BK645.out)) : gb645 ≠ gb669));have NB669_645 := Mk ((by rw [hg];exact Nat.ne_of_gt (blk_lt (blk_up BK645.out)) : gb669 ≠ gb645));replace BK645 := Mk (blk_below (blk_up BK645.out) hb);have NB655_669 := Mk ((by rw [hg];exact Nat.ne_of_lt (blk_lt (blk_up BK655.out)) : gb655 ≠ gb669));have NB669_655 := Mk ((by rw [hg];exact Nat.ne_of_gt (blk_lt (blk_up BK655.out)) : gb669 ≠ gb655));replace BK655 := Mk (blk_below (blk_up BK655.out) hb);have NB668_669 := Mk ((by rw [hg];exact Nat.ne_of_lt (blk_lt (blk_up BK668.out)) : gb668 ≠ gb669));have NB669_668 := Mk ((by rw [hg];exact Nat.ne_of_gt (blk_lt (blk_up BK668.out)) : gb669 ≠ gb668));replace BK668 := Mk (blk_below (blk_up BK668.out) hb);clear hb hbox hg;have hnb31 := NB668_636.out;have hnc31 := NB636_668.out;have hnb32 := NB668_645.out;have hnc32 := NB645_668.out;have hnb33 := NB668_655.out;have hnc33 := NB655_668.out;have hnb34 := NB668_669.out;have hnc34 := NB669_668.out;obtain ⟨hcz35_0,hcz35_1,hcz35_2,hcz35_3⟩ := cz4 BK668.out;obtain ⟨hfz35_0,hfz35_1,hfz35_2,hfz35_3⟩ := fz4 BK668.out;obtain ⟨Ao36,co36,eo36⟩ := Kd.R_slice HO661.out;subst eo36;have hnb37 := NB669_636.out;have hnc37 := NB636_669.out;have hnb38 := NB669_645.out;have hnc38 := NB645_669.out;have hnb39 := NB669_655.out;have hnc39 := NB655_669.out;obtain ⟨hcz40_0,hcz40_1,hcz40_2,hcz40_3⟩ := cz4 BK669.out;obtain ⟨hfz40_0,hfz40_1,hfz40_2,hfz40_3⟩ := fz4 BK669.out;obtain ⟨Ao41,co41,eo41⟩ := Kd.R_slice HO667.out;subst eo41) | ((with_reducible refine gate_callee (f := 10) rfl ?_);refine goesL_ (some 48) rfl rfl Try.func10 (by kernel_rfl) rfl #[.slice A0 l0.length c0] rfl eq_up ?_;(with_reducible refine (spec_DrawManOk.calls k _ _ l0 t670 t671 t672 t673 _ ?side1 ?side2 A9.out).mono ?_);(case side1 => exact Kd.C_below HR0.out (B_set HB.out));(case side2 => exact HC0.out);rintro e w42 ⟨v674,rfl,ho0,hb⟩;refine ⟨_,rfl,?_⟩;replace HO627 := Mk (Kd.R_below (Kd.R_up (Kd.R_mono (Kd.R_mono (Kd.R_far (p := ⟨gb669,3,none⟩) (Kd.R_far (p := ⟨gb669,2,none⟩) (Kd.R_far (p := ⟨gb669,1,none⟩) (Kd.R_far (p := ⟨gb669,0,none⟩) (Kd.R_far (p := ⟨gb668,3,none⟩) (Kd.R_far (p := ⟨gb668,2,none⟩) (Kd.R_far (p := ⟨gb668,1,none⟩) (Kd.R_far (p := ⟨gb668,0,none⟩) (Kd.R_types (Kd.R_types HO627.out BK668.out (by decide)) BK669.out (by decide)) (fun _ hk => hk.1.2) (.int .i64 t656)) (fun _ hk => hk.1.2) (.int .i64 t657)) (fun _ hk => hk.1.2) (.int .i64 t658)) (fun _ hk => hk.1.2) (.slice Ao36 t659.length co36)) (fun _ hk => hk.2) (.int .i64 t662)) (fun _ hk => hk.2) (.int .i64 t663)) (fun _ hk => hk.2) (.int .i64 t664)) (fun _ hk => hk.2) (.slice Ao41 t665.length co41)) (fun _ h_ => h_.1)) (fun _ h_ => h_.1))) hb);replace HO648 := Mk (Kd.R_below (Kd.R_up (Kd.R_mono (Kd.R_mono (Kd.R_far (p := ⟨gb669,3,none⟩) (Kd.R_far (p := ⟨gb669,2,none⟩) (Kd.R_far (p := ⟨gb669,1,none⟩) (Kd.R_far (p := ⟨gb669,0,none⟩) (Kd.R_far (p := ⟨gb668,3,none⟩) (Kd.R_far (p := ⟨gb668,2,none⟩) (Kd.R_far (p := ⟨gb668,1,none⟩) (Kd.R_far (p := ⟨gb668,0,none⟩) (Kd.R_types (Kd.R_types HO648.out BK668.out (by decide)) BK669.out (by decide)) (fun _ hk => hk.1.2) (.int .i64 t656)) (fun _ hk => hk.1.2) (.int .i64 t657)) (fun _ hk => hk.1.2) (.int .i64 t658)) (fun _ hk => hk.1.2) (.slice Ao36 t659.length co36)) (fun _ hk => hk.2) (.int .i64 t662)) (fun _ hk => hk.2) (.int .i64 t663)) (fun _ hk => hk.2) (.int .i64 t664)) (fun _ hk => hk.2) (.slice Ao41 t665.length co41)) (fun _ h_ => h_.1)) (fun _ h_ => h_.1))) hb);have HO675 := Mk (Kd.R_lower (Kd.R_new' (Kd.R_new' (Kd.R_new' (Kd.R_new' (Kd.R_new' ho0 (Kd.R_lt (Kd.R_up (Kd.R_mono (Kd.R_mono (Kd.R_far (p := ⟨gb669,3,none⟩) (Kd.R_far (p := ⟨gb669,2,none⟩) (Kd.R_far (p := ⟨gb669,1,none⟩) (Kd.R_far (p := ⟨gb669,0,none⟩) (Kd.R_far (p := ⟨gb668,3,none⟩) (Kd.R_far (p := ⟨gb668,2,none⟩) (Kd.R_far (p := ⟨gb668,1,none⟩) (Kd.R_far (p := ⟨gb668,0,none⟩) (Kd.R_types (Kd.R_types HO633.out BK668.out (by decide)) BK669.out (by decide)) (fun _ hk => hk.1.2) (.int .i64 t656)) (fun _ hk => hk.1.2) (.int .i64 t657)) (fun _ hk => hk.1.2) (.int .i64 t658)) (fun _ hk => hk.1.2) (.slice Ao36 t659.length co36)) (fun _ hk => hk.2) (.int .i64 t662)) (fun _ hk => hk.2) (.int .i64 t663)) (fun _ hk => hk.2) (.int .i64 t664)) (fun _ hk => hk.2) (.slice Ao41 t665.length co41)) (fun _ h_ => h_.1)) (fun _ h_ => h_.1))))) (Kd.R_lt (Kd.R_up (Kd.R_mono (Kd.R_mono (Kd.R_far (p := ⟨gb669,3,none⟩) (Kd.R_far (p := ⟨gb669,2,none⟩) (Kd.R_far (p := ⟨gb669,1,none⟩) (Kd.R_far (p := ⟨gb669,0,none⟩) (Kd.R_far (p := ⟨gb668,3,none⟩) (Kd.R_far (p := ⟨gb668,2,none⟩) (Kd.R_far (p := ⟨gb668,1,none⟩) (Kd.R_far (p := ⟨gb668,0,none⟩) (Kd.R_types (Kd.R_types HO642.out BK668.out (by decide)) BK669.out (by decide)) (fun _ hk => hk.1.2) (.int .i64 t656)) (fun _ hk => hk.1.2) (.int .i64 t657)) (fun _ hk => hk.1.2) (.int .i64 t658)) (fun _ hk => hk.1.2) (.slice Ao36 t659.length co36)) (fun _ hk => hk.2) (.int .i64 t662)) (fun _ hk => hk.2) (.int .i64 t663)) (fun _ hk => hk.2) (.int .i64 t664)) (fun _ hk => hk.2) (.slice Ao41 t665.length co41)) (fun _ h_ => h_.1)) (fun _ h_ => h_.1))))) (Kd.R_lt (Kd.R_up (Kd.R_mono (Kd.R_mono (Kd.R_far (p := ⟨gb669,3,none⟩) (Kd.R_far (p := ⟨gb669,2,none⟩) (Kd.R_far (p := ⟨gb669,1,none⟩) (Kd.R_far (p := ⟨gb669,0,none⟩) (Kd.R_far (p := ⟨gb668,3,none⟩) (Kd.R_far (p := ⟨gb668,2,none⟩) (Kd.R_far (p := ⟨gb668,1,none⟩) (Kd.R_far (p := ⟨gb668,0,none⟩) (Kd.R_types (Kd.R_types HO654.out BK668.out (by decide)) BK669.out (by decide)) (fun _ hk => hk.1.2) (.int .i64 t656)) (fun _ hk => hk.1.2) (.int .i64 t657)) (fun _ hk => hk.1.2) (.int .i64 t658)) (fun _ hk => hk.1.2) (.slice Ao36 t659.length co36)) (fun _ hk => hk.2) (.int .i64 t662)) (fun _ hk => hk.2) (.int .i64 t663)) (fun _ hk => hk.2) (.int .i64 t664)) (fun _ hk => hk.2) (.slice Ao41 t665.length co41)) (fun _ h_ => h_.1)) (fun _ h_ => h_.1))))) (Kd.R_lt (Kd.R_up (Kd.R_mono (Kd.R_mono (Kd.R_far (p := ⟨gb669,3,none⟩) (Kd.R_far (p := ⟨gb669,2,none⟩) (Kd.R_far (p := ⟨gb669,1,none⟩) (Kd.R_far (p := ⟨gb669,0,none⟩) (Kd.R_far (p := ⟨gb668,3,none⟩) (Kd.R_far (p := ⟨gb668,2,none⟩) (Kd.R_far (p := ⟨gb668,1,none⟩) (Kd.R_far (p := ⟨gb668,0,none⟩) (Kd.R_types (Kd.R_types HO661.out BK668.out (by decide)) BK669.out (by decide)) (fun _ hk => hk.1.2) (.int .i64 t656)) (fun _ hk => hk.1.2) (.int .i64 t657)) (fun _ hk => hk.1.2) (.int .i64 t658)) (fun _ hk => hk.1.2) (.slice Ao36 t659.length co36)) (fun _ hk => hk.2) (.int .i64 t662)) (fun _ hk => hk.2) (.int .i64 t663)) (fun _ hk => hk.2) (.int .i64 t664)) (fun _ hk => hk.2) (.slice Ao41 t665.length co41)) (fun _ h_ => h_.1)) (fun _ h_ => h_.1))))) (Kd.R_lt (Kd.R_up (Kd.R_mono (Kd.R_mono (Kd.R_far (p := ⟨gb669,3,none⟩) (Kd.R_far (p := ⟨gb669,2,none⟩) (Kd.R_far (p := ⟨gb669,1,none⟩) (Kd.R_far (p := ⟨gb669,0,none⟩) (Kd.R_far (p := ⟨gb668,3,none⟩) (Kd.R_far (p := ⟨gb668,2,none⟩) (Kd.R_far (p := ⟨gb668,1,none⟩) (Kd.R_far (p := ⟨gb668,0,none⟩) (Kd.R_types (Kd.R_types HO667.out BK668.out (by decide)) BK669.out (by decide)) (fun _ hk => hk.1.2) (.int .i64 t656)) (fun _ hk => hk.1.2) (.int .i64 t657)) (fun _ hk => hk.1.2) (.int .i64 t658)) (fun _ hk => hk.1.2) (.slice Ao36 t659.length co36)) (fun _ hk => hk.2) (.int .i64 t662)) (fun _ hk => hk.2) (.int .i64 t663)) (fun _ hk => hk.2) (.int .i64 t664)) (fun _ hk => hk.2) (.slice Ao41 t665.length co41)) (fun _ h_ => h_.1)) (fun _ h_ => h_.1))))) (below_size (B_set HB.out)));replace HO633 := Mk (Kd.R_elder' (Kd.R_up (Kd.R_mono (Kd.R_mono (Kd.R_far (p := ⟨gb669,3,none⟩) (Kd.R_far (p := ⟨gb669,2,none⟩) (Kd.R_far (p := ⟨gb669,1,none⟩) (Kd.R_far (p := ⟨gb669,0,none⟩) (Kd.R_far (p := ⟨gb668,3,none⟩) (Kd.R_far (p := ⟨gb668,2,none⟩) (Kd.R_far (p := ⟨gb668,1,none⟩) (Kd.R_far (p := ⟨gb668,0,none⟩) (Kd.R_types (Kd.R_types HO633.out BK668.out (by decide)) BK669.out (by decide)) (fun _ hk => hk.1.2) (.int .i64 t656)) (fun _ hk => hk.1.2) (.int .i64 t657)) (fun _ hk => hk.1.2) (.int .i64 t658)) (fun _ hk => hk.1.2) (.slice Ao36 t659.length co36)) (fun _ hk => hk.2) (.int .i64 t662)) (fun _ hk => hk.2) (.int .i64 t663)) (fun _ hk => hk.2) (.int .i64 t664)) (fun _ hk => hk.2) (.slice Ao41 t665.length co41)) (fun _ h_ => h_.1)) (fun _ h_ => h_.1))) (Kd.R_base ho0) hb);replace HO642 := Mk (Kd.R_elder' (Kd.R_up (Kd.R_mono (Kd.R_mono (Kd.R_far (p := ⟨gb669,3,none⟩) (Kd.R_far (p := ⟨gb669,2,none⟩) (Kd.R_far (p := ⟨gb669,1,none⟩) (Kd.R_far (p := ⟨gb669,0,none⟩) (Kd.R_far (p := ⟨gb668,3,none⟩) (Kd.R_far (p := ⟨gb668,2,none⟩) (Kd.R_far (p := ⟨gb668,1,none⟩) (Kd.R_far (p := ⟨gb668,0,none⟩) (Kd.R_types (Kd.R_types HO642.out BK668.out (by decide)) BK669.out (by decide)) (fun _ hk => hk.1.2) (.int .i64 t656)) (fun _ hk => hk.1.2) (.int .i64 t657)) (fun _ hk => hk.1.2) (.int .i64 t658)) (fun _ hk => hk.1.2) (.slice Ao36 t659.length co36)) (fun _ hk => hk.2) (.int .i64 t662)) (fun _ hk => hk.2) (.int .i64 t663)) (fun _ hk => hk.2) (.int .i64 t664)) (fun _ hk => hk.2) (.slice Ao41 t665.length co41)) (fun _ h_ => h_.1)) (fun _ h_ => h_.1))) (Kd.R_base ho0) hb);replace HO654 := Mk (Kd.R_elder' (Kd.R_up (Kd.R_mono (Kd.R_mono (Kd.R_far (p := ⟨gb669,3,none⟩) (Kd.R_far (p := ⟨gb669,2,none⟩) (Kd.R_far (p := ⟨gb669,1,none⟩) (Kd.R_far (p := ⟨gb669,0,none⟩) (Kd.R_far (p := ⟨gb668,3,none⟩) (Kd.R_far (p := ⟨gb668,2,none⟩) (Kd.R_far (p := ⟨gb668,1,none⟩) (Kd.R_far (p := ⟨gb668,0,none⟩) (Kd.R_types (Kd.R_types HO654.out BK668.out (by decide)) BK669.out (by decide)) (fun _ hk => hk.1.2) (.int .i64 t656)) (fun _ hk => hk.1.2) (.int .i64 t657)) (fun _ hk => hk.1.2) (.int .i64 t658)) (fun _ hk => hk.1.2) (.slice Ao36 t659.length co36)) (fun _ hk => hk.2) (.int .i64 t662)) (fun _ hk => hk.2) (.int .i64 t663)) (fun _ hk => hk.2) (.int .i64 t664)) (fun _ hk => hk.2) (.slice Ao41 t665.length co41)) (fun _ h_ => h_.1)) (fun _ h_ => h_.1))) (Kd.R_base ho0) hb);replace HO661 := Mk (Kd.R_elder' (Kd.R_up (Kd.R_mono (Kd.R_mono (Kd.R_far (p := ⟨gb669,3,none⟩) (Kd.R_far (p := ⟨gb669,2,none⟩) (Kd.R_far (p := ⟨gb669,1,none⟩) (Kd.R_far (p := ⟨gb669,0,none⟩) (Kd.R_far (p := ⟨gb668,3,none⟩) (Kd.R_far (p := ⟨gb668,2,none⟩) (Kd.R_far (p := ⟨gb668,1,none⟩) (Kd.R_far (p := ⟨gb668,0,none⟩) (Kd.R_types (Kd.R_types HO661.out BK668.out (by decide)) BK669.out (by decide)) (fun _ hk => hk.1.2) (.int .i64 t656)) (fun _ hk => hk.1.2) (.int .i64 t657)) (fun _ hk => hk.1.2) (.int .i64 t658)) (fun _ hk => hk.1.2) (.slice Ao36 t659.length co36)) (fun _ hk => hk.2) (.int .i64 t662)) (fun _ hk => hk.2) (.int .i64 t663)) (fun _ hk => hk.2) (.int .i64 t664)) (fun _ hk => hk.2) (.slice Ao41 t665.length co41)) (fun _ h_ => h_.1)) (fun _ h_ => h_.1))) (Kd.R_base ho0) hb);replace HO667 := Mk (Kd.R_elder' (Kd.R_up (Kd.R_mono (Kd.R_mono (Kd.R_far (p := ⟨gb669,3,none⟩) (Kd.R_far (p := ⟨gb669,2,none⟩) (Kd.R_far (p := ⟨gb669,1,none⟩) (Kd.R_far (p := ⟨gb669,0,none⟩) (Kd.R_far (p := ⟨gb668,3,none⟩) (Kd.R_far (p := ⟨gb668,2,none⟩) (Kd.R_far (p := ⟨gb668,1,none⟩) (Kd.R_far (p := ⟨gb668,0,none⟩) (Kd.R_types (Kd.R_types HO667.out BK668.out (by decide)) BK669.out (by decide)) (fun _ hk => hk.1.2) (.int .i64 t656)) (fun _ hk => hk.1.2) (.int .i64 t657)) (fun _ hk => hk.1.2) (.int .i64 t658)) (fun _ hk => hk.1.2) (.slice Ao36 t659.length co36)) (fun _ hk => hk.2) (.int .i64 t662)) (fun _ hk => hk.2) (.int .i64 t663)) (fun _ hk => hk.2) (.int .i64 t664)) (fun _ hk => hk.2) (.slice Ao41 t665.length co41)) (fun _ h_ => h_.1)) (fun _ h_ => h_.1))) (Kd.R_base ho0) hb);replace BK636 := Mk (blk_below (g := gb636) (o := .cells #[.int .i64 t628,.int .i64 t629,.int .i64 t630,.slice Ao16 t631.length co16] 28 (0,0)) (by (with_reducible repeat (first | refine blk_drewN ?_ _ | refine blk_drew ?_ | refine blk_alloc ?_ _));refine blk_far ?_ NB636_669.out _;(with_reducible repeat (first | refine blk_drewN ?_ _ | refine blk_drew ?_ | refine blk_alloc ?_ _));refine blk_far ?_ NB636_669.out _;(with_reducible repeat (first | refine blk_drewN ?_ _ | refine blk_drew ?_ | refine blk_alloc ?_ _));refine blk_far ?_ NB636_669.out _;(with_reducible repeat (first | refine blk_drewN ?_ _ | refine blk_drew ?_ | refine blk_alloc ?_ _));refine blk_far ?_ NB636_669.out _;(with_reducible repeat (first | refine blk_drewN ?_ _ | refine blk_drew ?_ | refine blk_alloc ?_ _));refine blk_far ?_ NB636_668.out _;(with_reducible repeat (first | refine blk_drewN ?_ _ | refine blk_drew ?_ | refine blk_alloc ?_ _));refine blk_far ?_ NB636_668.out _;(with_reducible repeat (first | refine blk_drewN ?_ _ | refine blk_drew ?_ | refine blk_alloc ?_ _));refine blk_far ?_ NB636_668.out _;(with_reducible repeat (first | refine blk_drewN ?_ _ | refine blk_drew ?_ | refine blk_alloc ?_ _));refine blk_far ?_ NB636_668.out _;(with_reducible repeat (first | refine blk_drewN ?_ _ | refine blk_drew ?_ | refine blk_alloc ?_ _));exact BK636.out) hb);replace BK645 := Mk (blk_below (g := gb645) (o := .cells #[.int .i64 t637,.int .i64 t638,.int .i64 t639,.slice Ao21 t640.length co21] 28 (0,0)) (by (with_reducible repeat (first | refine blk_drewN ?_ _ | refine blk_drew ?_ | refine blk_alloc ?_ _));refine blk_far ?_ NB645_669.out _;(with_reducible repeat (first | refine blk_drewN ?_ _ | refine blk_drew ?_ | refine blk_alloc ?_ _));refine blk_far ?_ NB645_669.out _;(with_reducible repeat (first | refine blk_drewN ?_ _ | refine blk_drew ?_ | refine blk_alloc ?_ _));refine blk_far ?_ NB645_669.out _;(with_reducible repeat (first | refine blk_drewN ?_ _ | refine blk_drew ?_ | refine blk_alloc ?_ _));refine blk_far ?_ NB645_669.out _;(with_reducible repeat (first | refine blk_drewN ?_ _ | refine blk_drew ?_ | refine blk_alloc ?_ _));refine blk_far ?_ NB645_668.out _;(with_reducible repeat (first | refine blk_drewN ?_ _ | refine blk_drew ?_ | refine blk_alloc ?_ _));refine blk_far ?_ NB645_668.out _;(with_reducible repeat (first | refine blk_drewN ?_ _ | refine blk_drew ?_ | refine blk_alloc ?_ _));refine blk_far ?_ NB645_668.out _;(with_reducible repeat (first | refine blk_drewN ?_ _ | refine blk_drew ?_ | refine blk_alloc ?_ _));refine blk_far ?_ NB645_668.out _;(with_reducible repeat (first | refine blk_drewN ?_ _ | refine blk_drew ?_ | refine blk_alloc ?_ _));exact BK645.out) hb);replace BK655 := Mk (blk_below (g := gb655) (o := .cells #[.int .i64 t649,.int .i64 t650,.int .i64 t651,.slice Ao27 t652.length co27] 28 (0,0)) (by (with_reducible repeat (first | refine blk_drewN ?_ _ | refine blk_drew ?_ | refine blk_alloc ?_ _));refine blk_far ?_ NB655_669.out _;(with_reducible repeat (first | refine blk_drewN ?_ _ | refine blk_drew ?_ | refine blk_alloc ?_ _));refine blk_far ?_ NB655_669.out _;(with_reducible repeat (first | refine blk_drewN ?_ _ | refine blk_drew ?_ | refine blk_alloc ?_ _));refine blk_far ?_ NB655_669.out _;(with_reducible repeat (first | refine blk_drewN ?_ _ | refine blk_drew ?_ | refine blk_alloc ?_ _));refine blk_far ?_ NB655_669.out _;(with_reducible repeat (first | refine blk_drewN ?_ _ | refine blk_drew ?_ | refine blk_alloc ?_ _));refine blk_far ?_ NB655_668.out _;(with_reducible repeat (first | refine blk_drewN ?_ _ | refine blk_drew ?_ | refine blk_alloc ?_ _));refine blk_far ?_ NB655_668.out _;(with_reducible repeat (first | refine blk_drewN ?_ _ | refine blk_drew ?_ | refine blk_alloc ?_ _));refine blk_far ?_ NB655_668.out _;(with_reducible repeat (first | refine blk_drewN ?_ _ | refine blk_drew ?_ | refine blk_alloc ?_ _));refine blk_far ?_ NB655_668.out _;(with_reducible repeat (first | refine blk_drewN ?_ _ | refine blk_drew ?_ | refine blk_alloc ?_ _));exact BK655.out) hb);replace BK668 := Mk (blk_below (g := gb668) (o := .cells #[.int .i64 t656,.int .i64 t657,.int .i64 t658,.slice Ao36 t659.length co36] 28 (0,0)) (by (with_reducible repeat (first | refine blk_drewN ?_ _ | refine blk_drew ?_ | refine blk_alloc ?_ _));refine blk_far ?_ NB668_669.out _;(with_reducible repeat (first | refine blk_drewN ?_ _ | refine blk_drew ?_ | refine blk_alloc ?_ _));refine blk_far ?_ NB668_669.out _;(with_reducible repeat (first | refine blk_drewN ?_ _ | refine blk_drew ?_ | refine blk_alloc ?_ _));refine blk_far ?_ NB668_669.out _;(with_reducible repeat (first | refine blk_drewN ?_ _ | refine blk_drew ?_ | refine blk_alloc ?_ _));refine blk_far ?_ NB668_669.out _;(with_reducible repeat (first | refine blk_drewN ?_ _ | refine blk_drew ?_ | refine blk_alloc ?_ _));refine blk_put (cs := #[.int .i64 t656,.int .i64 t657,.int .i64 t658,.slice none 0 0]) ?_ 3 _ rfl;(with_reducible repeat (first | refine blk_drewN ?_ _ | refine blk_drew ?_ | refine blk_alloc ?_ _));refine blk_put (cs := #[.int .i64 t656,.int .i64 t657,.int .i64 0,.slice none 0 0]) ?_ 2 _ rfl;(with_reducible repeat (first | refine blk_drewN ?_ _ | refine blk_drew ?_ | refine blk_alloc ?_ _));refine blk_put (cs := #[.int .i64 t656,.int .i64 0,.int .i64 0,.slice none 0 0]) ?_ 1 _ rfl;(with_reducible repeat (first | refine blk_drewN ?_ _ | refine blk_drew ?_ | refine blk_alloc ?_ _));refine blk_put (cs := #[.int .i64 0,.int .i64 0,.int .i64 0,.slice none 0 0]) ?_ 0 _ rfl;(with_reducible repeat (first | refine blk_drewN ?_ _ | refine blk_drew ?_ | refine blk_alloc ?_ _));exact BK668.out) hb);replace BK669 := Mk (blk_below (g := gb669) (o := .cells #[.int .i64 t662,.int .i64 t663,.int .i64 t664,.slice Ao41 t665.length co41] 28 (0,0)) (by (with_reducible repeat (first | refine blk_drewN ?_ _ | refine blk_drew ?_ | refine blk_alloc ?_ _));refine blk_put (cs := #[.int .i64 t662,.int .i64 t663,.int .i64 t664,.slice none 0 0]) ?_ 3 _ rfl;(with_reducible repeat (first | refine blk_drewN ?_ _ | refine blk_drew ?_ | refine blk_alloc ?_ _));refine blk_put (cs := #[.int .i64 t662,.int .i64 t663,.int .i64 0,.slice none 0 0]) ?_ 2 _ rfl;(with_reducible repeat (first | refine blk_drewN ?_ _ | refine blk_drew ?_ | refine blk_alloc ?_ _));refine blk_put (cs := #[.int .i64 t662,.int .i64 0,.int .i64 0,.slice none 0 0]) ?_ 1 _ rfl;(with_reducible repeat (first | refine blk_drewN ?_ _ | refine blk_drew ?_ | refine blk_alloc ?_ _));refine blk_put (cs := #[.int .i64 0,.int .i64 0,.int .i64 0,.slice none 0 0]) ?_ 0 _ rfl;(with_reducible repeat (first | refine blk_drewN ?_ _ | refine blk_drew ?_ | refine blk_alloc ?_ _));refine blk_far ?_ NB669_668.out _;(with_reducible repeat (first | refine blk_drewN ?_ _ | refine blk_drew ?_ | refine blk_alloc ?_ _));refine blk_far ?_ NB669_668.out _;(with_reducible repeat (first | refine blk_drewN ?_ _ | refine blk_drew ?_ | refine blk_alloc ?_ _));refine blk_far ?_ NB669_668.out _;(with_reducible repeat (first | refine blk_drewN ?_ _ | refine blk_drew ?_ | refine blk_alloc ?_ _));refine blk_far ?_ NB669_668.out _;(with_reducible repeat (first | refine blk_drewN ?_ _ | refine blk_drew ?_ | refine blk_alloc ?_ _));exact BK669.out) hb);replace HB := Mk (below_step (B_set HB.out) hb);(try clear hb);(try clear hb2);(try clear hk);(try clear hi);(try clear ho0)) | ((with_reducible refine gate_dst (N := 15) rfl ?_);refine box_event ?hg (N := 15) ?hd (cs := #[.int .i64 0,.int .i64 0,.int .i64 0,.slice none 0 0]) (t := 28) ?hr ?_;(case hd => rfl);(case hg => rfl);(case hr => first | (go_simp;done) | (go_simp;rfl));intro gb676 hg w43 hbox hb;replace HO627 := Mk (Kd.R_below (Kd.R_up HO627.out) hb);replace HO633 := Mk (Kd.R_below (Kd.R_up HO633.out) hb);replace HO642 := Mk (Kd.R_below (Kd.R_up HO642.out) hb);replace HO648 := Mk (Kd.R_below (Kd.R_up HO648.out) hb);replace HO654 := Mk (Kd.R_below (Kd.R_up HO654.out) hb);replace HO661 := Mk (Kd.R_below (Kd.R_up HO661.out) hb);replace HO667 := Mk (Kd.R_below (Kd.R_up HO667.out) hb);replace HO675 := Mk (Kd.R_below (Kd.R_up HO675.out) hb);have BK676 := Mk (hbox);have GW676 := Mk ((by rw [hg];exact (below_size (B_set HB.out)) : w.heap.size ≤ gb676));have GE676 := Mk ((by rw [hg];exact (below_size (B_set HB.out)) : w.heap.size ≤ gb676));replace HB := Mk (below_step (B_set HB.out) hb);have NB636_676 := Mk ((by rw [hg];exact Nat.ne_of_lt (blk_lt (blk_up BK636.out)) : gb636 ≠ gb676));have NB676_636 := Mk ((by rw [hg];exact Nat.ne_of_gt (blk_lt (blk_up BK636.out)) : gb676 ≠ gb636));replace BK636 := Mk (blk_below (blk_up BK636.out) hb);have NB645_676 := Mk ((by rw [hg];exact Nat.ne_of_lt (blk_lt (blk_up BK645.out)) : gb645 ≠ gb676));have NB676_645 := Mk ((by rw [hg];exact Nat.ne_of_gt (blk_lt (blk_up BK645.out)) : gb676 ≠ gb645));replace BK645 := Mk (blk_below (blk_up BK645.out) hb);have NB655_676 := Mk ((by rw [hg];exact Nat.ne_of_lt (blk_lt (blk_up BK655.out)) : gb655 ≠ gb676));have NB676_655 := Mk ((by rw [hg];exact Nat.ne_of_gt (blk_lt (blk_up BK655.out)) : gb676 ≠ gb655));replace BK655 := Mk (blk_below (blk_up BK655.out) hb);have NB668_676 := Mk ((by rw [hg];exact Nat.ne_of_lt (blk_lt (blk_up BK668.out)) : gb668 ≠ gb676));have NB676_668 := Mk ((by rw [hg];exact Nat.ne_of_gt (blk_lt (blk_up BK668.out)) : gb676 ≠ gb668));replace BK668 := Mk (blk_below (blk_up BK668.out) hb);have NB669_676 := Mk ((by rw [hg];exact Nat.ne_of_lt (blk_lt (blk_up BK669.out)) : gb669 ≠ gb676));have NB676_669 := Mk ((by rw [hg];exact Nat.ne_of_gt (blk_lt (blk_up BK669.out)) : gb676 ≠ gb669));replace BK669 := Mk (blk_below (blk_up BK669.out) hb);clear hb hbox hg;have hnb44 := NB676_636.out;have hnc44 := NB636_676.out;have hnb45 := NB676_645.out;have hnc45 := NB645_676.out;have hnb46 := NB676_655.out;have hnc46 := NB655_676.out;have hnb47 := NB676_668.out;have hnc47 := NB668_676.out;have hnb48 := NB676_669.out;have hnc48 := NB669_676.out;obtain ⟨hcz49_0,hcz49_1,hcz49_2,hcz49_3⟩ := cz4 BK676.out;obtain ⟨hfz49_0,hfz49_1,hfz49_2,hfz49_3⟩ := fz4 BK676.out;obtain ⟨Ao50,co50,eo50⟩ := Kd.R_slice HO675.out;subst eo50))
  (try simp only [Act.put,List.setIfInBounds_toArray,List.set_cons_zero,List.set_cons_succ])
  go_cut [95] (fun v95 wc => ∃ (kq : Nat) (x95_9 : Bool),v95 = .bool x95_9 ∧ Aside0 (laws_FnMansBent.j0 kq t624 t625 t634 t635 x95_9 t628 t629 t630 t631 = some r) ∧ Aside0 (kq ≤ k) ∧ Aside0 (Kd.R (Kd.int .u8) 5 wc w.heap.size (fun _ => True) (.slice Ao12 t624.length co12) t624) ∧ Aside0 (Kd.R k56 56 wc w.heap.size (fun k_ => some k_ ≠ ((.slice Ao21 t640.length co21) : Value).ownBlock ∧ some k_ ≠ ((.slice Ao27 t652.length co27) : Value).ownBlock ∧ some k_ ≠ ((.slice Ao36 t659.length co36) : Value).ownBlock ∧ some k_ ≠ ((.slice Ao41 t665.length co41) : Value).ownBlock ∧ some k_ ≠ ((.slice Ao50 t673.length co50) : Value).ownBlock) (.slice Ao16 t631.length co16) t631) ∧ Aside0 (Kd.R k56 56 wc w.heap.size (fun k_ => some k_ ≠ ((.slice Ao16 t631.length co16) : Value).ownBlock ∧ some k_ ≠ ((.slice Ao27 t652.length co27) : Value).ownBlock ∧ some k_ ≠ ((.slice Ao36 t659.length co36) : Value).ownBlock ∧ some k_ ≠ ((.slice Ao41 t665.length co41) : Value).ownBlock ∧ some k_ ≠ ((.slice Ao50 t673.length co50) : Value).ownBlock) (.slice Ao21 t640.length co21) t640) ∧ Aside0 (Kd.R k56 56 wc w.heap.size (fun k_ => some k_ ≠ ((.slice Ao16 t631.length co16) : Value).ownBlock ∧ some k_ ≠ ((.slice Ao21 t640.length co21) : Value).ownBlock ∧ some k_ ≠ ((.slice Ao36 t659.length co36) : Value).ownBlock ∧ some k_ ≠ ((.slice Ao41 t665.length co41) : Value).ownBlock ∧ some k_ ≠ ((.slice Ao50 t673.length co50) : Value).ownBlock) (.slice Ao27 t652.length co27) t652) ∧ Aside0 (Kd.R k56 56 wc w.heap.size (fun k_ => some k_ ≠ ((.slice Ao16 t631.length co16) : Value).ownBlock ∧ some k_ ≠ ((.slice Ao21 t640.length co21) : Value).ownBlock ∧ some k_ ≠ ((.slice Ao27 t652.length co27) : Value).ownBlock ∧ some k_ ≠ ((.slice Ao41 t665.length co41) : Value).ownBlock ∧ some k_ ≠ ((.slice Ao50 t673.length co50) : Value).ownBlock) (.slice Ao36 t659.length co36) t659) ∧ Aside0 (Kd.R k56 56 wc w.heap.size (fun k_ => some k_ ≠ ((.slice Ao16 t631.length co16) : Value).ownBlock ∧ some k_ ≠ ((.slice Ao21 t640.length co21) : Value).ownBlock ∧ some k_ ≠ ((.slice Ao27 t652.length co27) : Value).ownBlock ∧ some k_ ≠ ((.slice Ao36 t659.length co36) : Value).ownBlock ∧ some k_ ≠ ((.slice Ao50 t673.length co50) : Value).ownBlock) (.slice Ao41 t665.length co41) t665) ∧ Aside0 (Kd.R k56 56 wc w.heap.size (fun k_ => some k_ ≠ ((.slice Ao16 t631.length co16) : Value).ownBlock ∧ some k_ ≠ ((.slice Ao21 t640.length co21) : Value).ownBlock ∧ some k_ ≠ ((.slice Ao27 t652.length co27) : Value).ownBlock ∧ some k_ ≠ ((.slice Ao36 t659.length co36) : Value).ownBlock ∧ some k_ ≠ ((.slice Ao41 t665.length co41) : Value).ownBlock) (.slice Ao50 t673.length co50) t673) ∧ Aside0 (wc.heap[gb636]? = some (.cells #[.int .i64 t628,.int .i64 t629,.int .i64 t630,(.slice Ao16 t631.length co16)] 28 (0,0))) ∧ Aside0 (wc.heap[gb645]? = some (.cells #[.int .i64 t637,.int .i64 t638,.int .i64 t639,(.slice Ao21 t640.length co21)] 28 (0,0))) ∧ Aside0 (wc.heap[gb655]? = some (.cells #[.int .i64 t649,.int .i64 t650,.int .i64 t651,(.slice Ao27 t652.length co27)] 28 (0,0))) ∧ Aside0 (wc.heap[gb668]? = some (.cells #[.int .i64 t656,.int .i64 t657,.int .i64 t658,(.slice Ao36 t659.length co36)] 28 (0,0))) ∧ Aside0 (wc.heap[gb669]? = some (.cells #[.int .i64 t662,.int .i64 t663,.int .i64 t664,(.slice Ao41 t665.length co41)] 28 (0,0))) ∧ Aside0 (wc.heap[gb676]? = some (.cells #[.int .i64 t670,.int .i64 t671,.int .i64 t672,(.slice Ao50 t673.length co50)] 28 (0,0))) ∧ Aside0 (Below w.heap.size w wc))
  case first => as_aux_lemma =>
   have H := HC10.out
   clear HC10
   replace H := bsm H
   obtain ⟨t677,A51,H⟩ := H
   (try dsimp only at H)
   by_cases c52 : t677 = true
   ·subst c52
    rw [if_pos rfl] at H
    by_cases c53 : t634 = t643
    ·rw [if_pos c53] at H
     have c53b0 : (t634 == t643) = true := beq_iff_eq.mpr c53
     have c53b1 : (t634 != t643) = false := bne_eq_false_iff_eq.mpr c53
     clear c53
     (first | rw [c53b0] | (simp only [i64_w,i32_w];rw [c53b0]) | skip)
     by_cases c54 : (t635 != t644) = true
     ·rw [if_pos c54] at H
      have c54b0 : (t635 != t644) = true := c54
      (try (have c54b1 : decide (t635 = t644) = false := by simpa using c54))
      (try (have c54b2 : (t635 == t644) = false := by simpa using c54))
      (try (have c54b3 : ¬ (t635 = t644) := by simpa using c54))
      clear c54
      rw [hrt] at H
      exact (laws_FnMansBent.dead0 _ _ _ _ _ _ _ _ _ H).elim
     ·rw [if_neg c54] at H
      have c54b0 : (t635 != t644) = false := by simpa using c54
      (try (have c54b1 : decide (t635 = t644) = true := by simpa using c54))
      (try (have c54b2 : (t635 == t644) = true := by simpa using c54))
      clear c54
      replace H := bsm H
      obtain ⟨t678,A58,H⟩ := H
      (try dsimp only at H)
      replace H := bsm H
      obtain ⟨t681,A59,H⟩ := H
      (try dsimp only at H)
      replace H := bsm H
      obtain ⟨t684,A60,H⟩ := H
      (try dsimp only at H)
      by_cases c61 : t684 = true
      ·subst c61
       rw [if_pos rfl] at H
       replace H := bsm H
       obtain ⟨t685,A62,H⟩ := H
       (try dsimp only at H)
       replace H := bsm H
       obtain ⟨t686,A63,H⟩ := H
       (try dsimp only at H)
       by_cases c64 : (t685 != t686) = true
       ·rw [if_pos c64] at H
        have c64b0 : (t685 != t686) = true := c64
        (try (have c64b1 : decide (t685 = t686) = false := by simpa using c64))
        (try (have c64b2 : (t685 == t686) = false := by simpa using c64))
        (try (have c64b3 : ¬ (t685 = t686) := by simpa using c64))
        clear c64
        rw [hrt] at H
        exact (laws_FnMansBent.dead0 _ _ _ _ _ _ _ _ _ H).elim
       ·rw [if_neg c64] at H
        have c64b0 : (t685 != t686) = false := by simpa using c64
        (try (have c64b1 : decide (t685 = t686) = true := by simpa using c64))
        (try (have c64b2 : (t685 == t686) = true := by simpa using c64))
        clear c64
        replace H := bsm H
        obtain ⟨t687,A75,H⟩ := H
        (try dsimp only at H)
        replace H := bsm H
        obtain ⟨t688,A76,H⟩ := H
        (try dsimp only at H)
        by_cases c77 : (t687 != t688) = true
        ·rw [if_pos c77] at H
         have c77b0 : (t687 != t688) = true := c77
         (try (have c77b1 : decide (t687 = t688) = false := by simpa using c77))
         (try (have c77b2 : (t687 == t688) = false := by simpa using c77))
         (try (have c77b3 : ¬ (t687 = t688) := by simpa using c77))
         clear c77
         rw [hrt] at H
         exact (laws_FnMansBent.dead0 _ _ _ _ _ _ _ _ _ H).elim
        ·rw [if_neg c77] at H
         have c77b0 : (t687 != t688) = false := by simpa using c77
         (try (have c77b1 : decide (t687 = t688) = true := by simpa using c77))
         (try (have c77b2 : (t687 == t688) = true := by simpa using c77))
         clear c77
         replace H := bsm H
         obtain ⟨t689,A90,H⟩ := H
         (try dsimp only at H)
         replace H := Option.bind_eq_some_iff.mp H
         obtain ⟨t690,A910,H⟩ := H
         replace H : (laws_FnMansBent.j0 k t624 t625 t634 t635 (t689 != t690) t628 t629 t630 t631) = some r := H
         have A91 := Mk A910
         clear A910
         have H' := Mk H
         clear H
         try go_wp2
         have n0_ : Aside0 (Kd.R (Kd.int .u8) 5 ((((w43.setCell ⟨gb676,0,none⟩ (.int .i64 t670)).setCell ⟨gb676,1,none⟩ (.int .i64 t671)).setCell ⟨gb676,2,none⟩ (.int .i64 t672)).setCell ⟨gb676,3,none⟩ (.slice Ao50 t673.length co50)) w.heap.size (fun k_ => some k_ ≠ (v647 : Value).ownBlock) (.slice Ao12 t624.length co12) t624) := ⟨Kd.R_up (Kd.R_mono (Kd.R_far (p := ⟨gb676,3,none⟩) (Kd.R_far (p := ⟨gb676,2,none⟩) (Kd.R_far (p := ⟨gb676,1,none⟩) (Kd.R_far (p := ⟨gb676,0,none⟩) (Kd.R_types HO627.out BK676.out (by decide)) (fun _ hk => hk.2) (.int .i64 t670)) (fun _ hk => hk.2) (.int .i64 t671)) (fun _ hk => hk.2) (.int .i64 t672)) (fun _ hk => hk.2) (.slice Ao50 t673.length co50)) (fun _ hk => hk.1.2))⟩
         have n1_ : Aside0 (Kd.R k56 56 ((((w43.setCell ⟨gb676,0,none⟩ (.int .i64 t670)).setCell ⟨gb676,1,none⟩ (.int .i64 t671)).setCell ⟨gb676,2,none⟩ (.int .i64 t672)).setCell ⟨gb676,3,none⟩ (.slice Ao50 t673.length co50)) w.heap.size (fun k_ => some k_ ≠ (.slice Ao21 t640.length co21 : Value).ownBlock ∧ some k_ ≠ (.slice Ao27 t652.length co27 : Value).ownBlock ∧ some k_ ≠ (.slice Ao36 t659.length co36 : Value).ownBlock ∧ some k_ ≠ (.slice Ao41 t665.length co41 : Value).ownBlock ∧ some k_ ≠ (.slice Ao50 t673.length co50 : Value).ownBlock) (.slice Ao16 t631.length co16) t631) := ⟨Kd.R_up (Kd.R_mono (Kd.R_far (p := ⟨gb676,3,none⟩) (Kd.R_far (p := ⟨gb676,2,none⟩) (Kd.R_far (p := ⟨gb676,1,none⟩) (Kd.R_far (p := ⟨gb676,0,none⟩) (Kd.R_types HO633.out BK676.out (by decide)) (fun _ hk => hk.2) (.int .i64 t670)) (fun _ hk => hk.2) (.int .i64 t671)) (fun _ hk => hk.2) (.int .i64 t672)) (fun _ hk => hk.2) (.slice Ao50 t673.length co50)) (fun _ hk => ⟨hk.1.1.1.1.1.2,⟨hk.1.1.1.1.2,⟨hk.1.1.1.2,⟨hk.1.1.2,hk.1.2⟩⟩⟩⟩))⟩
         have n2_ : Aside0 (Kd.R k56 56 ((((w43.setCell ⟨gb676,0,none⟩ (.int .i64 t670)).setCell ⟨gb676,1,none⟩ (.int .i64 t671)).setCell ⟨gb676,2,none⟩ (.int .i64 t672)).setCell ⟨gb676,3,none⟩ (.slice Ao50 t673.length co50)) w.heap.size (fun k_ => some k_ ≠ (.slice Ao16 t631.length co16 : Value).ownBlock ∧ some k_ ≠ (.slice Ao27 t652.length co27 : Value).ownBlock ∧ some k_ ≠ (.slice Ao36 t659.length co36 : Value).ownBlock ∧ some k_ ≠ (.slice Ao41 t665.length co41 : Value).ownBlock ∧ some k_ ≠ (.slice Ao50 t673.length co50 : Value).ownBlock) (.slice Ao21 t640.length co21) t640) := ⟨Kd.R_up (Kd.R_mono (Kd.R_far (p := ⟨gb676,3,none⟩) (Kd.R_far (p := ⟨gb676,2,none⟩) (Kd.R_far (p := ⟨gb676,1,none⟩) (Kd.R_far (p := ⟨gb676,0,none⟩) (Kd.R_types HO642.out BK676.out (by decide)) (fun _ hk => hk.2) (.int .i64 t670)) (fun _ hk => hk.2) (.int .i64 t671)) (fun _ hk => hk.2) (.int .i64 t672)) (fun _ hk => hk.2) (.slice Ao50 t673.length co50)) (fun _ hk => ⟨hk.1.1.1.1.1.2,⟨hk.1.1.1.1.2,⟨hk.1.1.1.2,⟨hk.1.1.2,hk.1.2⟩⟩⟩⟩))⟩
         have n3_ : Aside0 (Kd.R (Kd.int .u8) 5 ((((w43.setCell ⟨gb676,0,none⟩ (.int .i64 t670)).setCell ⟨gb676,1,none⟩ (.int .i64 t671)).setCell ⟨gb676,2,none⟩ (.int .i64 t672)).setCell ⟨gb676,3,none⟩ (.slice Ao50 t673.length co50)) w.heap.size (fun k_ => some k_ ≠ (.slice Ao12 t624.length co12 : Value).ownBlock) v647 t646) := ⟨Kd.R_up (Kd.R_mono (Kd.R_far (p := ⟨gb676,3,none⟩) (Kd.R_far (p := ⟨gb676,2,none⟩) (Kd.R_far (p := ⟨gb676,1,none⟩) (Kd.R_far (p := ⟨gb676,0,none⟩) (Kd.R_types HO648.out BK676.out (by decide)) (fun _ hk => hk.2) (.int .i64 t670)) (fun _ hk => hk.2) (.int .i64 t671)) (fun _ hk => hk.2) (.int .i64 t672)) (fun _ hk => hk.2) (.slice Ao50 t673.length co50)) (fun _ hk => hk.1.2))⟩
         have n4_ : Aside0 (Kd.R k56 56 ((((w43.setCell ⟨gb676,0,none⟩ (.int .i64 t670)).setCell ⟨gb676,1,none⟩ (.int .i64 t671)).setCell ⟨gb676,2,none⟩ (.int .i64 t672)).setCell ⟨gb676,3,none⟩ (.slice Ao50 t673.length co50)) w.heap.size (fun k_ => some k_ ≠ (.slice Ao16 t631.length co16 : Value).ownBlock ∧ some k_ ≠ (.slice Ao21 t640.length co21 : Value).ownBlock ∧ some k_ ≠ (.slice Ao36 t659.length co36 : Value).ownBlock ∧ some k_ ≠ (.slice Ao41 t665.length co41 : Value).ownBlock ∧ some k_ ≠ (.slice Ao50 t673.length co50 : Value).ownBlock) (.slice Ao27 t652.length co27) t652) := ⟨Kd.R_up (Kd.R_mono (Kd.R_far (p := ⟨gb676,3,none⟩) (Kd.R_far (p := ⟨gb676,2,none⟩) (Kd.R_far (p := ⟨gb676,1,none⟩) (Kd.R_far (p := ⟨gb676,0,none⟩) (Kd.R_types HO654.out BK676.out (by decide)) (fun _ hk => hk.2) (.int .i64 t670)) (fun _ hk => hk.2) (.int .i64 t671)) (fun _ hk => hk.2) (.int .i64 t672)) (fun _ hk => hk.2) (.slice Ao50 t673.length co50)) (fun _ hk => ⟨hk.1.1.1.1.1.2,⟨hk.1.1.1.1.2,⟨hk.1.1.1.2,⟨hk.1.1.2,hk.1.2⟩⟩⟩⟩))⟩
         have n5_ : Aside0 (Kd.R k56 56 ((((w43.setCell ⟨gb676,0,none⟩ (.int .i64 t670)).setCell ⟨gb676,1,none⟩ (.int .i64 t671)).setCell ⟨gb676,2,none⟩ (.int .i64 t672)).setCell ⟨gb676,3,none⟩ (.slice Ao50 t673.length co50)) w.heap.size (fun k_ => some k_ ≠ (.slice Ao16 t631.length co16 : Value).ownBlock ∧ some k_ ≠ (.slice Ao21 t640.length co21 : Value).ownBlock ∧ some k_ ≠ (.slice Ao27 t652.length co27 : Value).ownBlock ∧ some k_ ≠ (.slice Ao41 t665.length co41 : Value).ownBlock ∧ some k_ ≠ (.slice Ao50 t673.length co50 : Value).ownBlock) (.slice Ao36 t659.length co36) t659) := ⟨Kd.R_up (Kd.R_mono (Kd.R_far (p := ⟨gb676,3,none⟩) (Kd.R_far (p := ⟨gb676,2,none⟩) (Kd.R_far (p := ⟨gb676,1,none⟩) (Kd.R_far (p := ⟨gb676,0,none⟩) (Kd.R_types HO661.out BK676.out (by decide)) (fun _ hk => hk.2) (.int .i64 t670)) (fun _ hk => hk.2) (.int .i64 t671)) (fun _ hk => hk.2) (.int .i64 t672)) (fun _ hk => hk.2) (.slice Ao50 t673.length co50)) (fun _ hk => ⟨hk.1.1.1.1.2,⟨hk.1.1.1.2,⟨hk.1.1.2,⟨hk.1.1.1.1.1,hk.1.2⟩⟩⟩⟩))⟩
         have n6_ : Aside0 (Kd.R k56 56 ((((w43.setCell ⟨gb676,0,none⟩ (.int .i64 t670)).setCell ⟨gb676,1,none⟩ (.int .i64 t671)).setCell ⟨gb676,2,none⟩ (.int .i64 t672)).setCell ⟨gb676,3,none⟩ (.slice Ao50 t673.length co50)) w.heap.size (fun k_ => some k_ ≠ (.slice Ao16 t631.length co16 : Value).ownBlock ∧ some k_ ≠ (.slice Ao21 t640.length co21 : Value).ownBlock ∧ some k_ ≠ (.slice Ao27 t652.length co27 : Value).ownBlock ∧ some k_ ≠ (.slice Ao36 t659.length co36 : Value).ownBlock ∧ some k_ ≠ (.slice Ao50 t673.length co50 : Value).ownBlock) (.slice Ao41 t665.length co41) t665) := ⟨Kd.R_up (Kd.R_mono (Kd.R_far (p := ⟨gb676,3,none⟩) (Kd.R_far (p := ⟨gb676,2,none⟩) (Kd.R_far (p := ⟨gb676,1,none⟩) (Kd.R_far (p := ⟨gb676,0,none⟩) (Kd.R_types HO667.out BK676.out (by decide)) (fun _ hk => hk.2) (.int .i64 t670)) (fun _ hk => hk.2) (.int .i64 t671)) (fun _ hk => hk.2) (.int .i64 t672)) (fun _ hk => hk.2) (.slice Ao50 t673.length co50)) (fun _ hk => ⟨hk.1.1.1.1.2,⟨hk.1.1.1.2,⟨hk.1.1.2,⟨hk.1.1.1.1.1,hk.1.2⟩⟩⟩⟩))⟩
         have n7_ : Aside0 (Kd.R k56 56 ((((w43.setCell ⟨gb676,0,none⟩ (.int .i64 t670)).setCell ⟨gb676,1,none⟩ (.int .i64 t671)).setCell ⟨gb676,2,none⟩ (.int .i64 t672)).setCell ⟨gb676,3,none⟩ (.slice Ao50 t673.length co50)) w.heap.size (fun k_ => some k_ ≠ (.slice Ao16 t631.length co16 : Value).ownBlock ∧ some k_ ≠ (.slice Ao21 t640.length co21 : Value).ownBlock ∧ some k_ ≠ (.slice Ao27 t652.length co27 : Value).ownBlock ∧ some k_ ≠ (.slice Ao36 t659.length co36 : Value).ownBlock ∧ some k_ ≠ (.slice Ao41 t665.length co41 : Value).ownBlock) (.slice Ao50 t673.length co50) t673) := ⟨Kd.R_up (Kd.R_mono (Kd.R_far (p := ⟨gb676,3,none⟩) (Kd.R_far (p := ⟨gb676,2,none⟩) (Kd.R_far (p := ⟨gb676,1,none⟩) (Kd.R_far (p := ⟨gb676,0,none⟩) (Kd.R_types HO675.out BK676.out (by decide)) (fun _ hk => hk.2) (.int .i64 t670)) (fun _ hk => hk.2) (.int .i64 t671)) (fun _ hk => hk.2) (.int .i64 t672)) (fun _ hk => hk.2) (.slice Ao50 t673.length co50)) (fun _ hk => ⟨hk.1.1.1.1.1.2,⟨hk.1.1.1.1.2,⟨hk.1.1.1.2,⟨hk.1.1.2,hk.1.2⟩⟩⟩⟩))⟩
         have n8_ : Aside0 (((((w43.setCell ⟨gb676,0,none⟩ (.int .i64 t670)).setCell ⟨gb676,1,none⟩ (.int .i64 t671)).setCell ⟨gb676,2,none⟩ (.int .i64 t672)).setCell ⟨gb676,3,none⟩ (.slice Ao50 t673.length co50)).heap[gb636]? = some (.cells #[.int .i64 t628,.int .i64 t629,.int .i64 t630,.slice Ao16 t631.length co16] 28 (0,0))) := ⟨by (with_reducible repeat (first | refine blk_drewN ?_ _ | refine blk_drew ?_ | refine blk_alloc ?_ _));refine blk_far ?_ NB636_676.out _;(with_reducible repeat (first | refine blk_drewN ?_ _ | refine blk_drew ?_ | refine blk_alloc ?_ _));refine blk_far ?_ NB636_676.out _;(with_reducible repeat (first | refine blk_drewN ?_ _ | refine blk_drew ?_ | refine blk_alloc ?_ _));refine blk_far ?_ NB636_676.out _;(with_reducible repeat (first | refine blk_drewN ?_ _ | refine blk_drew ?_ | refine blk_alloc ?_ _));refine blk_far ?_ NB636_676.out _;(with_reducible repeat (first | refine blk_drewN ?_ _ | refine blk_drew ?_ | refine blk_alloc ?_ _));exact BK636.out⟩
         have n9_ : Aside0 (((((w43.setCell ⟨gb676,0,none⟩ (.int .i64 t670)).setCell ⟨gb676,1,none⟩ (.int .i64 t671)).setCell ⟨gb676,2,none⟩ (.int .i64 t672)).setCell ⟨gb676,3,none⟩ (.slice Ao50 t673.length co50)).heap[gb645]? = some (.cells #[.int .i64 t637,.int .i64 t638,.int .i64 t639,.slice Ao21 t640.length co21] 28 (0,0))) := ⟨by (with_reducible repeat (first | refine blk_drewN ?_ _ | refine blk_drew ?_ | refine blk_alloc ?_ _));refine blk_far ?_ NB645_676.out _;(with_reducible repeat (first | refine blk_drewN ?_ _ | refine blk_drew ?_ | refine blk_alloc ?_ _));refine blk_far ?_ NB645_676.out _;(with_reducible repeat (first | refine blk_drewN ?_ _ | refine blk_drew ?_ | refine blk_alloc ?_ _));refine blk_far ?_ NB645_676.out _;(with_reducible repeat (first | refine blk_drewN ?_ _ | refine blk_drew ?_ | refine blk_alloc ?_ _));refine blk_far ?_ NB645_676.out _;(with_reducible repeat (first | refine blk_drewN ?_ _ | refine blk_drew ?_ | refine blk_alloc ?_ _));exact BK645.out⟩
         have n10_ : Aside0 (((((w43.setCell ⟨gb676,0,none⟩ (.int .i64 t670)).setCell ⟨gb676,1,none⟩ (.int .i64 t671)).setCell ⟨gb676,2,none⟩ (.int .i64 t672)).setCell ⟨gb676,3,none⟩ (.slice Ao50 t673.length co50)).heap[gb655]? = some (.cells #[.int .i64 t649,.int .i64 t650,.int .i64 t651,.slice Ao27 t652.length co27] 28 (0,0))) := ⟨by (with_reducible repeat (first | refine blk_drewN ?_ _ | refine blk_drew ?_ | refine blk_alloc ?_ _));refine blk_far ?_ NB655_676.out _;(with_reducible repeat (first | refine blk_drewN ?_ _ | refine blk_drew ?_ | refine blk_alloc ?_ _));refine blk_far ?_ NB655_676.out _;(with_reducible repeat (first | refine blk_drewN ?_ _ | refine blk_drew ?_ | refine blk_alloc ?_ _));refine blk_far ?_ NB655_676.out _;(with_reducible repeat (first | refine blk_drewN ?_ _ | refine blk_drew ?_ | refine blk_alloc ?_ _));refine blk_far ?_ NB655_676.out _;(with_reducible repeat (first | refine blk_drewN ?_ _ | refine blk_drew ?_ | refine blk_alloc ?_ _));exact BK655.out⟩
         have n11_ : Aside0 (((((w43.setCell ⟨gb676,0,none⟩ (.int .i64 t670)).setCell ⟨gb676,1,none⟩ (.int .i64 t671)).setCell ⟨gb676,2,none⟩ (.int .i64 t672)).setCell ⟨gb676,3,none⟩ (.slice Ao50 t673.length co50)).heap[gb668]? = some (.cells #[.int .i64 t656,.int .i64 t657,.int .i64 t658,.slice Ao36 t659.length co36] 28 (0,0))) := ⟨by (with_reducible repeat (first | refine blk_drewN ?_ _ | refine blk_drew ?_ | refine blk_alloc ?_ _));refine blk_far ?_ NB668_676.out _;(with_reducible repeat (first | refine blk_drewN ?_ _ | refine blk_drew ?_ | refine blk_alloc ?_ _));refine blk_far ?_ NB668_676.out _;(with_reducible repeat (first | refine blk_drewN ?_ _ | refine blk_drew ?_ | refine blk_alloc ?_ _));refine blk_far ?_ NB668_676.out _;(with_reducible repeat (first | refine blk_drewN ?_ _ | refine blk_drew ?_ | refine blk_alloc ?_ _));refine blk_far ?_ NB668_676.out _;(with_reducible repeat (first | refine blk_drewN ?_ _ | refine blk_drew ?_ | refine blk_alloc ?_ _));exact BK668.out⟩
         have n12_ : Aside0 (((((w43.setCell ⟨gb676,0,none⟩ (.int .i64 t670)).setCell ⟨gb676,1,none⟩ (.int .i64 t671)).setCell ⟨gb676,2,none⟩ (.int .i64 t672)).setCell ⟨gb676,3,none⟩ (.slice Ao50 t673.length co50)).heap[gb669]? = some (.cells #[.int .i64 t662,.int .i64 t663,.int .i64 t664,.slice Ao41 t665.length co41] 28 (0,0))) := ⟨by (with_reducible repeat (first | refine blk_drewN ?_ _ | refine blk_drew ?_ | refine blk_alloc ?_ _));refine blk_far ?_ NB669_676.out _;(with_reducible repeat (first | refine blk_drewN ?_ _ | refine blk_drew ?_ | refine blk_alloc ?_ _));refine blk_far ?_ NB669_676.out _;(with_reducible repeat (first | refine blk_drewN ?_ _ | refine blk_drew ?_ | refine blk_alloc ?_ _));refine blk_far ?_ NB669_676.out _;(with_reducible repeat (first | refine blk_drewN ?_ _ | refine blk_drew ?_ | refine blk_alloc ?_ _));refine blk_far ?_ NB669_676.out _;(with_reducible repeat (first | refine blk_drewN ?_ _ | refine blk_drew ?_ | refine blk_alloc ?_ _));exact BK669.out⟩
         have n13_ : Aside0 (((((w43.setCell ⟨gb676,0,none⟩ (.int .i64 t670)).setCell ⟨gb676,1,none⟩ (.int .i64 t671)).setCell ⟨gb676,2,none⟩ (.int .i64 t672)).setCell ⟨gb676,3,none⟩ (.slice Ao50 t673.length co50)).heap[gb676]? = some (.cells #[.int .i64 t670,.int .i64 t671,.int .i64 t672,.slice Ao50 t673.length co50] 28 (0,0))) := ⟨by (with_reducible repeat (first | refine blk_drewN ?_ _ | refine blk_drew ?_ | refine blk_alloc ?_ _));refine blk_put (cs := #[.int .i64 t670,.int .i64 t671,.int .i64 t672,.slice none 0 0]) ?_ 3 _ rfl;(with_reducible repeat (first | refine blk_drewN ?_ _ | refine blk_drew ?_ | refine blk_alloc ?_ _));refine blk_put (cs := #[.int .i64 t670,.int .i64 t671,.int .i64 0,.slice none 0 0]) ?_ 2 _ rfl;(with_reducible repeat (first | refine blk_drewN ?_ _ | refine blk_drew ?_ | refine blk_alloc ?_ _));refine blk_put (cs := #[.int .i64 t670,.int .i64 0,.int .i64 0,.slice none 0 0]) ?_ 1 _ rfl;(with_reducible repeat (first | refine blk_drewN ?_ _ | refine blk_drew ?_ | refine blk_alloc ?_ _));refine blk_put (cs := #[.int .i64 0,.int .i64 0,.int .i64 0,.slice none 0 0]) ?_ 0 _ rfl;(with_reducible repeat (first | refine blk_drewN ?_ _ | refine blk_drew ?_ | refine blk_alloc ?_ _));exact BK676.out⟩
         have n14_ : Aside0 (Below w.heap.size w ((((w43.setCell ⟨gb676,0,none⟩ (.int .i64 t670)).setCell ⟨gb676,1,none⟩ (.int .i64 t671)).setCell ⟨gb676,2,none⟩ (.int .i64 t672)).setCell ⟨gb676,3,none⟩ (.slice Ao50 t673.length co50))) := ⟨B_set HB.out⟩
         (try clear HO627)
         (try clear HO633)
         (try clear HO642)
         (try clear HO648)
         (try clear HO654)
         (try clear HO661)
         (try clear HO667)
         (try clear HO675)
         (try clear BK636)
         (try clear BK645)
         (try clear BK655)
         (try clear BK668)
         (try clear BK669)
         (try clear BK676)
         (try clear HB)
         generalize ((((w43.setCell ⟨gb676,0,none⟩ (.int .i64 t670)).setCell ⟨gb676,1,none⟩ (.int .i64 t671)).setCell ⟨gb676,2,none⟩ (.int .i64 t672)).setCell ⟨gb676,3,none⟩ (.slice Ao50 t673.length co50)) = w92 at n0_ n1_ n2_ n3_ n4_ n5_ n6_ n7_ n8_ n9_ n10_ n11_ n12_ n13_ n14_ ⊢
         have HO627 := n0_
         have HO633 := n1_
         have HO642 := n2_
         have HO648 := n3_
         have HO654 := n4_
         have HO661 := n5_
         have HO667 := n6_
         have HO675 := n7_
         have BK636 := n8_
         have BK645 := n9_
         have BK655 := n10_
         have BK668 := n11_
         have BK669 := n12_
         have BK676 := n13_
         have HB := n14_
         clear n0_ n1_ n2_ n3_ n4_ n5_ n6_ n7_ n8_ n9_ n10_ n11_ n12_ n13_ n14_
         replace HO627 := Mk (Kd.R_drew HO627.out)
         replace HO633 := Mk (Kd.R_drew HO633.out)
         replace HO642 := Mk (Kd.R_drew HO642.out)
         replace HO648 := Mk (Kd.R_drew HO648.out)
         replace HO654 := Mk (Kd.R_drew HO654.out)
         replace HO661 := Mk (Kd.R_drew HO661.out)
         replace HO667 := Mk (Kd.R_drew HO667.out)
         replace HO675 := Mk (Kd.R_drew HO675.out)
         replace BK636 := Mk (blk_drew BK636.out)
         replace BK645 := Mk (blk_drew BK645.out)
         replace BK655 := Mk (blk_drew BK655.out)
         replace BK668 := Mk (blk_drew BK668.out)
         replace BK669 := Mk (blk_drew BK669.out)
         replace BK676 := Mk (blk_drew BK676.out)
         replace HB := Mk (below_drew1 HB.out)
         refine start_ (n := 47) (S := fun w' => w'.cell? ⟨gb636,0,none⟩ = some (.int .i64 t628) ∧ w'.cell? ⟨gb636,1,none⟩ = some (.int .i64 t629) ∧ w'.cell? ⟨gb636,2,none⟩ = some (.int .i64 t630) ∧ w'.cell? ⟨gb636,3,none⟩ = some (.slice Ao16 t631.length co16) ∧ w'.cell? ⟨gb645,0,none⟩ = some (.int .i64 t637) ∧ w'.cell? ⟨gb645,1,none⟩ = some (.int .i64 t638) ∧ w'.cell? ⟨gb645,2,none⟩ = some (.int .i64 t639) ∧ w'.cell? ⟨gb645,3,none⟩ = some (.slice Ao21 t640.length co21) ∧ w'.cell? ⟨gb655,0,none⟩ = some (.int .i64 t649) ∧ w'.cell? ⟨gb655,1,none⟩ = some (.int .i64 t650) ∧ w'.cell? ⟨gb655,2,none⟩ = some (.int .i64 t651) ∧ w'.cell? ⟨gb655,3,none⟩ = some (.slice Ao27 t652.length co27) ∧ w'.cell? ⟨gb668,0,none⟩ = some (.int .i64 t656) ∧ w'.cell? ⟨gb668,1,none⟩ = some (.int .i64 t657) ∧ w'.cell? ⟨gb668,2,none⟩ = some (.int .i64 t658) ∧ w'.cell? ⟨gb668,3,none⟩ = some (.slice Ao36 t659.length co36) ∧ w'.cell? ⟨gb669,0,none⟩ = some (.int .i64 t662) ∧ w'.cell? ⟨gb669,1,none⟩ = some (.int .i64 t663) ∧ w'.cell? ⟨gb669,2,none⟩ = some (.int .i64 t664) ∧ w'.cell? ⟨gb669,3,none⟩ = some (.slice Ao41 t665.length co41) ∧ w'.cell? ⟨gb676,0,none⟩ = some (.int .i64 t670) ∧ w'.cell? ⟨gb676,1,none⟩ = some (.int .i64 t671) ∧ w'.cell? ⟨gb676,2,none⟩ = some (.int .i64 t672) ∧ w'.cell? ⟨gb676,3,none⟩ = some (.slice Ao50 t673.length co50)) (ds := []) #[false,false,false,false,false,false,false,false,false,false,false,false,false,false,false,false,false,false,false,false,false,false,false,false,false,false,false,false,false,false,false,false,false,false,false,false,false,false,false,false,false,false,false,false,false,false,false] (by kernel_rfl) rfl rfl ⟨(blk_cell BK636.out 0).trans rfl,(blk_cell BK636.out 1).trans rfl,(blk_cell BK636.out 2).trans rfl,(blk_cell BK636.out 3).trans rfl,(blk_cell BK645.out 0).trans rfl,(blk_cell BK645.out 1).trans rfl,(blk_cell BK645.out 2).trans rfl,(blk_cell BK645.out 3).trans rfl,(blk_cell BK655.out 0).trans rfl,(blk_cell BK655.out 1).trans rfl,(blk_cell BK655.out 2).trans rfl,(blk_cell BK655.out 3).trans rfl,(blk_cell BK668.out 0).trans rfl,(blk_cell BK668.out 1).trans rfl,(blk_cell BK668.out 2).trans rfl,(blk_cell BK668.out 3).trans rfl,(blk_cell BK669.out 0).trans rfl,(blk_cell BK669.out 1).trans rfl,(blk_cell BK669.out 2).trans rfl,(blk_cell BK669.out 3).trans rfl,(blk_cell BK676.out 0).trans rfl,(blk_cell BK676.out 1).trans rfl,(blk_cell BK676.out 2).trans rfl,(blk_cell BK676.out 3).trans rfl⟩ (fun hHeld => ?_);refine with_tabW laws_FnMansBent.tab9 laws_FnMansBent.bits9 (fun HT_ HW_ => ?_)
         generalize w92.drew = w93 at HO627 HO633 HO642 HO648 HO654 HO661 HO667 HO675 BK636 BK645 BK655 BK668 BK669 BK676 HB hHeld ⊢
         refine take_ (i := 0) (N := some 49) (v := ?_) (a' := ?_) #[true,false,false,false,false,false,false,false,false,false,false,false,false,false,false,false,false,false,false,false,false,false,false,false,false,false,false,false,false,false,false,false,false,false,false,false,false,false,false,false,false,false,false,false,false,false,false] rfl rfl (take_ofW HT_.out HW_.out (by kernel_rfl)) (fun _ _ _ h => h) (Or.inl ⟨by rfl,?_⟩) hHeld ?_ ?_
         rotate_left
         ·rintro w' ⟨s0,s1,s2,s3,s4,s5,s6,s7,s8,s9,s10,s11,s12,s13,s14,s15,s16,s17,s18,s19,s20,s21,s22,s23⟩
          go_simp
          with_reducible rfl
         rotate_left
         ·simp only [Act.put,List.setIfInBounds_toArray,List.set_cons_zero,List.set_cons_succ,i64_w,i32_w]
          rfl
         refine take_ (i := 1) (N := some 50) (v := ?_) (a' := ?_) #[true,true,false,false,false,false,false,false,false,false,false,false,false,false,false,false,false,false,false,false,false,false,false,false,false,false,false,false,false,false,false,false,false,false,false,false,false,false,false,false,false,false,false,false,false,false,false] rfl rfl (take_ofW HT_.out HW_.out (by kernel_rfl)) (fun _ _ _ h => h) (Or.inl ⟨by rfl,?_⟩) hHeld ?_ ?_
         rotate_left
         ·rintro w' ⟨s0,s1,s2,s3,s4,s5,s6,s7,s8,s9,s10,s11,s12,s13,s14,s15,s16,s17,s18,s19,s20,s21,s22,s23⟩
          go_simp
          with_reducible rfl
         rotate_left
         ·simp only [Act.put,List.setIfInBounds_toArray,List.set_cons_zero,List.set_cons_succ,i64_w,i32_w]
          rfl
         refine one_ (i := 2) (N := some 51) #[true,true,true,false,false,false,false,false,false,false,false,false,false,false,false,false,false,false,false,false,false,false,false,false,false,false,false,false,false,false,false,false,false,false,false,false,false,false,false,false,false,false,false,false,false,false,false] rfl rfl (one_of HT_.out (by kernel_rfl)) (by decide) (fun K hK => ?_)
         refine goes_ Try.func11 (by kernel_rfl) rfl #[.agg #[.int .i64 t628,.int .i64 t629,.int .i64 t630,.slice Ao16 t631.length co16],.agg #[.int .i64 t637,.int .i64 t638,.int .i64 t639,.slice Ao21 t640.length co21]] (by rfl) rfl rfl eq_up ?_
         with_reducible refine (laws_sameMan.calls k t628 t629 t630 _ _ t631 t637 t638 t639 _ _ t640 true _ ?side1 ?side2 ?side3 ?side4 A51.out).mono ?_
         (case side1 => exact Kd.C_up (Kd.R_reads' HO633.out).2.2)
         (case side2 => exact (Kd.R_reads' HO633.out).2.1)
         (case side3 => exact Kd.C_up (Kd.R_reads' HO642.out).2.2)
         (case side4 => exact (Kd.R_reads' HO642.out).2.1)
         rintro e w94 ⟨rfl,hb⟩
         refine ⟨_,rfl,?_⟩
         replace HO627 := Mk (Kd.R_below (Kd.R_up HO627.out) hb)
         replace HO633 := Mk (Kd.R_below (Kd.R_up HO633.out) hb)
         replace HO642 := Mk (Kd.R_below (Kd.R_up HO642.out) hb)
         replace HO648 := Mk (Kd.R_below (Kd.R_up HO648.out) hb)
         replace HO654 := Mk (Kd.R_below (Kd.R_up HO654.out) hb)
         replace HO661 := Mk (Kd.R_below (Kd.R_up HO661.out) hb)
         replace HO667 := Mk (Kd.R_below (Kd.R_up HO667.out) hb)
         replace HO675 := Mk (Kd.R_below (Kd.R_up HO675.out) hb)
         replace BK636 := Mk (blk_below (blk_up BK636.out) hb)
         replace BK645 := Mk (blk_below (blk_up BK645.out) hb)
         replace BK655 := Mk (blk_below (blk_up BK655.out) hb)
         replace BK668 := Mk (blk_below (blk_up BK668.out) hb)
         replace BK669 := Mk (blk_below (blk_up BK669.out) hb)
         replace BK676 := Mk (blk_below (blk_up BK676.out) hb)
         replace HB := Mk (below_step (B_set HB.out) hb)
         (try clear hb)
         (try clear hb2)
         (try clear hk)
         (try clear hi)
         obtain ⟨Ao95,co95,eo95⟩ := Kd.R_slice HO648.out
         (first | subst eo95 | (injection eo95 with f1_ f2_ f3_;have f4_ := f1_.symm;have f5_ := f3_.symm;clear f1_ f2_ f3_;subst f4_;subst f5_))
         refine hK.out _ _ ⟨(blk_cell BK636.out 0).trans rfl,(blk_cell BK636.out 1).trans rfl,(blk_cell BK636.out 2).trans rfl,(blk_cell BK636.out 3).trans rfl,(blk_cell BK645.out 0).trans rfl,(blk_cell BK645.out 1).trans rfl,(blk_cell BK645.out 2).trans rfl,(blk_cell BK645.out 3).trans rfl,(blk_cell BK655.out 0).trans rfl,(blk_cell BK655.out 1).trans rfl,(blk_cell BK655.out 2).trans rfl,(blk_cell BK655.out 3).trans rfl,(blk_cell BK668.out 0).trans rfl,(blk_cell BK668.out 1).trans rfl,(blk_cell BK668.out 2).trans rfl,(blk_cell BK668.out 3).trans rfl,(blk_cell BK669.out 0).trans rfl,(blk_cell BK669.out 1).trans rfl,(blk_cell BK669.out 2).trans rfl,(blk_cell BK669.out 3).trans rfl,(blk_cell BK676.out 0).trans rfl,(blk_cell BK676.out 1).trans rfl,(blk_cell BK676.out 2).trans rfl,(blk_cell BK676.out 3).trans rfl⟩ (fun hHeld => ?_)
         clear hK K
         refine norm_ (a' := ?_) ?_ ?_
         rotate_left
         ·show Act.put _ (some 51) _ = _
          simp only [Act.put,List.setIfInBounds_toArray,List.set_cons_zero,List.set_cons_succ,i64_w,i32_w]
          rfl
         refine pure_ (i := 3) (N := some 52) (v := ?_) (a' := ?_) #[true,true,true,true,false,false,false,false,false,false,false,false,false,false,false,false,false,false,false,false,false,false,false,false,false,false,false,false,false,false,false,false,false,false,false,false,false,false,false,false,false,false,false,false,false,false,false] rfl rfl (any_of HT_.out (by kernel_rfl)) (fun _ _ _ h => h) (Or.inl ⟨by rfl,?_⟩) ?_ ?_
         rotate_left
         ·intro w'
          go_simp
          with_reducible rfl
         rotate_left
         ·simp only [Act.put,List.setIfInBounds_toArray,List.set_cons_zero,List.set_cons_succ,i64_w,i32_w]
          rfl
         refine pure_ (i := 4) (N := some 53) (v := ?_) (a' := ?_) #[true,true,true,true,true,false,false,false,false,false,false,false,false,false,false,false,false,false,false,false,false,false,false,false,false,false,false,false,false,false,false,false,false,false,false,false,false,false,false,false,false,false,false,false,false,false,false] rfl rfl (any_of HT_.out (by kernel_rfl)) (fun _ _ _ h => h) (Or.inl ⟨by rfl,?_⟩) ?_ ?_
         rotate_left
         ·intro w'
          go_simp
          with_reducible rfl
         rotate_left
         ·simp only [Act.put,List.setIfInBounds_toArray,List.set_cons_zero,List.set_cons_succ,i64_w,i32_w]
          rfl
         refine pure_ (i := 5) (N := some 54) (v := ?_) (a' := ?_) #[true,true,true,true,true,true,false,false,false,false,false,false,false,false,false,false,false,false,false,false,false,false,false,false,false,false,false,false,false,false,false,false,false,false,false,false,false,false,false,false,false,false,false,false,false,false,false] rfl rfl (any_of HT_.out (by kernel_rfl)) (fun _ _ _ h => h) (Or.inl ⟨by rfl,?_⟩) ?_ ?_
         rotate_left
         ·intro w'
          go_simp
          with_reducible rfl
         rotate_left
         ·simp only [Act.put,List.setIfInBounds_toArray,List.set_cons_zero,List.set_cons_succ,i64_w,i32_w]
          rfl
         refine pure_ (i := 6) (N := some 55) (v := ?_) (a' := ?_) #[true,true,true,true,true,true,true,false,false,false,false,false,false,false,false,false,false,false,false,false,false,false,false,false,false,false,false,false,false,false,false,false,false,false,false,false,false,false,false,false,false,false,false,false,false,false,false] rfl rfl (any_of HT_.out (by kernel_rfl)) (fun _ _ _ h => h) (Or.inl ⟨by rfl,?_⟩) ?_ ?_
         rotate_left
         ·intro w'
          go_simp
          with_reducible rfl
         rotate_left
         ·simp only [Act.put,List.setIfInBounds_toArray,List.set_cons_zero,List.set_cons_succ,i64_w,i32_w]
          rfl
         refine pure_ (i := 7) (N := some 56) (v := ?_) (a' := ?_) #[true,true,true,true,true,true,true,true,false,false,false,false,false,false,false,false,false,false,false,false,false,false,false,false,false,false,false,false,false,false,false,false,false,false,false,false,false,false,false,false,false,false,false,false,false,false,false] rfl rfl (any_of HT_.out (by kernel_rfl)) (fun _ _ _ h => h) (Or.inl ⟨by rfl,?_⟩) ?_ ?_
         rotate_left
         ·intro w'
          go_simp
          with_reducible rfl
         rotate_left
         ·simp only [Act.put,List.setIfInBounds_toArray,List.set_cons_zero,List.set_cons_succ,i64_w,i32_w]
          rfl
         refine pure_ (i := 8) (N := some 57) (v := ?_) (a' := ?_) #[true,true,true,true,true,true,true,true,true,false,false,false,false,false,false,false,false,false,false,false,false,false,false,false,false,false,false,false,false,false,false,false,false,false,false,false,false,false,false,false,false,false,false,false,false,false,false] rfl rfl (any_of HT_.out (by kernel_rfl)) (fun _ _ _ h => h) (Or.inl ⟨by rfl,?_⟩) ?_ ?_
         rotate_left
         ·intro w'
          go_simp
          with_reducible rfl
         rotate_left
         ·simp only [Act.put,List.setIfInBounds_toArray,List.set_cons_zero,List.set_cons_succ,i64_w,i32_w]
          rfl
         refine pure_ (i := 9) (N := some 58) (v := ?_) (a' := ?_) #[true,true,true,true,true,true,true,true,true,true,false,false,false,false,false,false,false,false,false,false,false,false,false,false,false,false,false,false,false,false,false,false,false,false,false,false,false,false,false,false,false,false,false,false,false,false,false] rfl rfl (any_of HT_.out (by kernel_rfl)) (fun _ _ _ h => h) (Or.inl ⟨by rfl,?_⟩) ?_ ?_
         rotate_left
         ·intro w'
          go_simp
          with_reducible rfl
         rotate_left
         ·simp only [Act.put,List.setIfInBounds_toArray,List.set_cons_zero,List.set_cons_succ,i64_w,i32_w]
          rfl
         refine pure_ (i := 10) (N := some 59) (v := ?_) (a' := ?_) #[true,true,true,true,true,true,true,true,true,true,true,false,false,false,false,false,false,false,false,false,false,false,false,false,false,false,false,false,false,false,false,false,false,false,false,false,false,false,false,false,false,false,false,false,false,false,false] rfl rfl (any_of HT_.out (by kernel_rfl)) (fun _ _ _ h => h) (Or.inl ⟨by rfl,?_⟩) ?_ ?_
         rotate_left
         ·intro w'
          go_simp
          with_reducible rfl
         rotate_left
         ·simp only [Act.put,List.setIfInBounds_toArray,List.set_cons_zero,List.set_cons_succ,i64_w,i32_w]
          rfl
         refine pure_ (i := 11) (N := some 60) (v := ?_) (a' := ?_) #[true,true,true,true,true,true,true,true,true,true,true,true,false,false,false,false,false,false,false,false,false,false,false,false,false,false,false,false,false,false,false,false,false,false,false,false,false,false,false,false,false,false,false,false,false,false,false] rfl rfl (any_of HT_.out (by kernel_rfl)) (fun _ _ _ h => h) (Or.inl ⟨by rfl,?_⟩) ?_ ?_
         rotate_left
         ·intro w'
          go_simp
          with_reducible rfl
         rotate_left
         ·simp only [Act.put,List.setIfInBounds_toArray,List.set_cons_zero,List.set_cons_succ,i64_w,i32_w]
          rfl
         refine pure_ (i := 12) (N := some 61) (v := ?_) (a' := ?_) #[true,true,true,true,true,true,true,true,true,true,true,true,true,false,false,false,false,false,false,false,false,false,false,false,false,false,false,false,false,false,false,false,false,false,false,false,false,false,false,false,false,false,false,false,false,false,false] rfl rfl (any_of HT_.out (by kernel_rfl)) (fun _ _ _ h => h) (Or.inl ⟨by rfl,?_⟩) ?_ ?_
         rotate_left
         ·intro w'
          go_simp
          with_reducible rfl
         rotate_left
         ·simp only [Act.put,List.setIfInBounds_toArray,List.set_cons_zero,List.set_cons_succ,i64_w,i32_w]
          rfl
         refine pure_ (i := 13) (N := some 62) (v := ?_) (a' := ?_) #[true,true,true,true,true,true,true,true,true,true,true,true,true,true,false,false,false,false,false,false,false,false,false,false,false,false,false,false,false,false,false,false,false,false,false,false,false,false,false,false,false,false,false,false,false,false,false] rfl rfl (any_of HT_.out (by kernel_rfl)) (fun _ _ _ h => h) (Or.inl ⟨by rfl,?_⟩) ?_ ?_
         rotate_left
         ·intro w'
          go_simp
          with_reducible rfl
         rotate_left
         ·simp only [Act.put,List.setIfInBounds_toArray,List.set_cons_zero,List.set_cons_succ,i64_w,i32_w]
          rfl
         refine pure_ (i := 14) (N := some 63) (v := ?_) (a' := ?_) #[true,true,true,true,true,true,true,true,true,true,true,true,true,true,true,false,false,false,false,false,false,false,false,false,false,false,false,false,false,false,false,false,false,false,false,false,false,false,false,false,false,false,false,false,false,false,false] rfl rfl (any_of HT_.out (by kernel_rfl)) (fun _ _ _ h => h) (Or.inl ⟨by rfl,?_⟩) ?_ ?_
         rotate_left
         ·intro w'
          go_simp
          with_reducible rfl
         rotate_left
         ·simp only [Act.put,List.setIfInBounds_toArray,List.set_cons_zero,List.set_cons_succ,i64_w,i32_w]
          rfl
         refine pure_ (i := 15) (N := some 64) (v := ?_) (a' := ?_) #[true,true,true,true,true,true,true,true,true,true,true,true,true,true,true,true,false,false,false,false,false,false,false,false,false,false,false,false,false,false,false,false,false,false,false,false,false,false,false,false,false,false,false,false,false,false,false] rfl rfl (any_of HT_.out (by kernel_rfl)) (fun _ _ _ h => h) (Or.inl ⟨by rfl,?_⟩) ?_ ?_
         rotate_left
         ·intro w'
          go_simp
          with_reducible rfl
         rotate_left
         ·simp only [Act.put,List.setIfInBounds_toArray,List.set_cons_zero,List.set_cons_succ,i64_w,i32_w]
          rfl
         refine pure_ (i := 18) (N := some 67) (v := ?_) (a' := ?_) #[true,true,true,true,true,true,true,true,true,true,true,true,true,true,true,true,false,false,true,false,false,false,false,false,false,false,false,false,false,false,false,false,false,false,false,false,false,false,false,false,false,false,false,false,false,false,false] rfl rfl (any_of HT_.out (by kernel_rfl)) (fun _ _ _ h => h) (Or.inl ⟨by rfl,?_⟩) ?_ ?_
         rotate_left
         ·intro w'
          go_simp
          with_reducible rfl
         rotate_left
         ·simp only [Act.put,List.setIfInBounds_toArray,List.set_cons_zero,List.set_cons_succ,i64_w,i32_w]
          rfl
         refine take_ (i := 16) (N := some 65) (v := ?_) (a' := ?_) #[true,true,true,true,true,true,true,true,true,true,true,true,true,true,true,true,true,false,true,false,false,false,false,false,false,false,false,false,false,false,false,false,false,false,false,false,false,false,false,false,false,false,false,false,false,false,false] rfl rfl (take_ofW HT_.out HW_.out (by kernel_rfl)) (fun _ _ _ h => h) (Or.inl ⟨by rfl,?_⟩) hHeld ?_ ?_
         rotate_left
         ·rintro w' ⟨s0,s1,s2,s3,s4,s5,s6,s7,s8,s9,s10,s11,s12,s13,s14,s15,s16,s17,s18,s19,s20,s21,s22,s23⟩
          go_simp
          with_reducible rfl
         rotate_left
         ·simp only [Act.put,List.setIfInBounds_toArray,List.set_cons_zero,List.set_cons_succ,i64_w,i32_w]
          rfl
         refine take_ (i := 19) (N := some 68) (v := ?_) (a' := ?_) #[true,true,true,true,true,true,true,true,true,true,true,true,true,true,true,true,true,false,true,true,false,false,false,false,false,false,false,false,false,false,false,false,false,false,false,false,false,false,false,false,false,false,false,false,false,false,false] rfl rfl (take_ofW HT_.out HW_.out (by kernel_rfl)) (fun _ _ _ h => h) (Or.inl ⟨by rfl,?_⟩) hHeld ?_ ?_
         rotate_left
         ·rintro w' ⟨s0,s1,s2,s3,s4,s5,s6,s7,s8,s9,s10,s11,s12,s13,s14,s15,s16,s17,s18,s19,s20,s21,s22,s23⟩
          go_simp
          with_reducible rfl
         rotate_left
         ·simp only [Act.put,List.setIfInBounds_toArray,List.set_cons_zero,List.set_cons_succ,i64_w,i32_w]
          rfl
         refine one_ (i := 17) (N := some 66) #[true,true,true,true,true,true,true,true,true,true,true,true,true,true,true,true,true,true,true,true,false,false,false,false,false,false,false,false,false,false,false,false,false,false,false,false,false,false,false,false,false,false,false,false,false,false,false] rfl rfl (one_of HT_.out (by kernel_rfl)) (by decide) (fun K hK => ?_)
         refine goes_ Try.func13 (by kernel_rfl) rfl #[.slice Ao95 t646.length co95,.agg #[.int .i64 t649,.int .i64 t650,.int .i64 t651,.slice Ao27 t652.length co27]] (by rfl) rfl rfl eq_up ?_
         with_reducible refine (impl_PutMan.calls k _ _ t646 t649 t650 t651 _ _ t652 t678 _ ?side1 ?side2 ?side3 ?side4 A58.out).mono ?_
         (case side1 => exact Kd.C_up (Kd.R_reads' HO648.out).2.2)
         (case side2 => exact (Kd.R_reads' HO648.out).2.1)
         (case side3 => exact Kd.C_up (Kd.R_reads' HO654.out).2.2)
         (case side4 => exact (Kd.R_reads' HO654.out).2.1)
         rintro e w96 ⟨v679,rfl,ho0,hb⟩
         refine ⟨_,rfl,?_⟩
         replace HO633 := Mk (Kd.R_below (Kd.R_up HO633.out) hb)
         replace HO642 := Mk (Kd.R_below (Kd.R_up HO642.out) hb)
         replace HO654 := Mk (Kd.R_below (Kd.R_up HO654.out) hb)
         replace HO661 := Mk (Kd.R_below (Kd.R_up HO661.out) hb)
         replace HO667 := Mk (Kd.R_below (Kd.R_up HO667.out) hb)
         replace HO675 := Mk (Kd.R_below (Kd.R_up HO675.out) hb)
         have HO680 := Mk (Kd.R_lower (Kd.R_new' (Kd.R_new' ho0 (Kd.R_lt (Kd.R_up HO627.out))) (Kd.R_lt (Kd.R_up HO648.out))) (below_size (B_set HB.out)))
         replace HO627 := Mk (Kd.R_elder' (Kd.R_up HO627.out) (Kd.R_base ho0) hb)
         replace HO648 := Mk (Kd.R_elder' (Kd.R_up HO648.out) (Kd.R_base ho0) hb)
         replace BK636 := Mk (blk_below (blk_up BK636.out) hb)
         replace BK645 := Mk (blk_below (blk_up BK645.out) hb)
         replace BK655 := Mk (blk_below (blk_up BK655.out) hb)
         replace BK668 := Mk (blk_below (blk_up BK668.out) hb)
         replace BK669 := Mk (blk_below (blk_up BK669.out) hb)
         replace BK676 := Mk (blk_below (blk_up BK676.out) hb)
         replace HB := Mk (below_step (B_set HB.out) hb)
         (try clear hb)
         (try clear hb2)
         (try clear hk)
         (try clear hi)
         (try clear ho0)
         refine hK.out _ _ ⟨(blk_cell BK636.out 0).trans rfl,(blk_cell BK636.out 1).trans rfl,(blk_cell BK636.out 2).trans rfl,(blk_cell BK636.out 3).trans rfl,(blk_cell BK645.out 0).trans rfl,(blk_cell BK645.out 1).trans rfl,(blk_cell BK645.out 2).trans rfl,(blk_cell BK645.out 3).trans rfl,(blk_cell BK655.out 0).trans rfl,(blk_cell BK655.out 1).trans rfl,(blk_cell BK655.out 2).trans rfl,(blk_cell BK655.out 3).trans rfl,(blk_cell BK668.out 0).trans rfl,(blk_cell BK668.out 1).trans rfl,(blk_cell BK668.out 2).trans rfl,(blk_cell BK668.out 3).trans rfl,(blk_cell BK669.out 0).trans rfl,(blk_cell BK669.out 1).trans rfl,(blk_cell BK669.out 2).trans rfl,(blk_cell BK669.out 3).trans rfl,(blk_cell BK676.out 0).trans rfl,(blk_cell BK676.out 1).trans rfl,(blk_cell BK676.out 2).trans rfl,(blk_cell BK676.out 3).trans rfl⟩ (fun hHeld => ?_)
         clear hK K
         refine norm_ (a' := ?_) ?_ ?_
         rotate_left
         ·show Act.put _ (some 66) _ = _
          simp only [Act.put,List.setIfInBounds_toArray,List.set_cons_zero,List.set_cons_succ,i64_w,i32_w]
          rfl
         refine one_ (i := 20) (N := some 69) #[true,true,true,true,true,true,true,true,true,true,true,true,true,true,true,true,true,true,true,true,true,false,false,false,false,false,false,false,false,false,false,false,false,false,false,false,false,false,false,false,false,false,false,false,false,false,false] rfl rfl (one_of HT_.out (by kernel_rfl)) (by decide) (fun K hK => ?_)
         refine goes_ Try.func14 (by kernel_rfl) rfl #[.slice Ao95 t646.length co95,.agg #[.int .i64 t649,.int .i64 t650,.int .i64 t651,.slice Ao27 t652.length co27]] (by rfl) rfl rfl eq_up ?_
         with_reducible refine (spec_PutMan.calls k _ _ t646 t649 t650 t651 _ _ t652 t681 _ ?side1 ?side2 ?side3 ?side4 A59.out).mono ?_
         (case side1 => exact Kd.C_up (Kd.R_reads' HO648.out).2.2)
         (case side2 => exact (Kd.R_reads' HO648.out).2.1)
         (case side3 => exact Kd.C_up (Kd.R_reads' HO654.out).2.2)
         (case side4 => exact (Kd.R_reads' HO654.out).2.1)
         rintro e w97 ⟨v682,rfl,ho0,hb⟩
         refine ⟨_,rfl,?_⟩
         replace HO633 := Mk (Kd.R_below (Kd.R_up HO633.out) hb)
         replace HO642 := Mk (Kd.R_below (Kd.R_up HO642.out) hb)
         replace HO654 := Mk (Kd.R_below (Kd.R_up HO654.out) hb)
         replace HO661 := Mk (Kd.R_below (Kd.R_up HO661.out) hb)
         replace HO667 := Mk (Kd.R_below (Kd.R_up HO667.out) hb)
         replace HO675 := Mk (Kd.R_below (Kd.R_up HO675.out) hb)
         have HO683 := Mk (Kd.R_lower (Kd.R_new' (Kd.R_new' (Kd.R_new' ho0 (Kd.R_lt (Kd.R_up HO627.out))) (Kd.R_lt (Kd.R_up HO648.out))) (Kd.R_lt (Kd.R_up HO680.out))) (below_size (B_set HB.out)))
         replace HO627 := Mk (Kd.R_elder' (Kd.R_up HO627.out) (Kd.R_base ho0) hb)
         replace HO648 := Mk (Kd.R_elder' (Kd.R_up HO648.out) (Kd.R_base ho0) hb)
         replace HO680 := Mk (Kd.R_elder' (Kd.R_up HO680.out) (Kd.R_base ho0) hb)
         replace BK636 := Mk (blk_below (blk_up BK636.out) hb)
         replace BK645 := Mk (blk_below (blk_up BK645.out) hb)
         replace BK655 := Mk (blk_below (blk_up BK655.out) hb)
         replace BK668 := Mk (blk_below (blk_up BK668.out) hb)
         replace BK669 := Mk (blk_below (blk_up BK669.out) hb)
         replace BK676 := Mk (blk_below (blk_up BK676.out) hb)
         replace HB := Mk (below_step (B_set HB.out) hb)
         (try clear hb)
         (try clear hb2)
         (try clear hk)
         (try clear hi)
         (try clear ho0)
         obtain ⟨Ao98,co98,eo98⟩ := Kd.R_slice HO680.out
         (first | subst eo98 | (injection eo98 with f1_ f2_ f3_;have f4_ := f1_.symm;have f5_ := f3_.symm;clear f1_ f2_ f3_;subst f4_;subst f5_))
         obtain ⟨Ao99,co99,eo99⟩ := Kd.R_slice HO683.out
         (first | subst eo99 | (injection eo99 with f1_ f2_ f3_;have f4_ := f1_.symm;have f5_ := f3_.symm;clear f1_ f2_ f3_;subst f4_;subst f5_))
         refine hK.out _ _ ⟨(blk_cell BK636.out 0).trans rfl,(blk_cell BK636.out 1).trans rfl,(blk_cell BK636.out 2).trans rfl,(blk_cell BK636.out 3).trans rfl,(blk_cell BK645.out 0).trans rfl,(blk_cell BK645.out 1).trans rfl,(blk_cell BK645.out 2).trans rfl,(blk_cell BK645.out 3).trans rfl,(blk_cell BK655.out 0).trans rfl,(blk_cell BK655.out 1).trans rfl,(blk_cell BK655.out 2).trans rfl,(blk_cell BK655.out 3).trans rfl,(blk_cell BK668.out 0).trans rfl,(blk_cell BK668.out 1).trans rfl,(blk_cell BK668.out 2).trans rfl,(blk_cell BK668.out 3).trans rfl,(blk_cell BK669.out 0).trans rfl,(blk_cell BK669.out 1).trans rfl,(blk_cell BK669.out 2).trans rfl,(blk_cell BK669.out 3).trans rfl,(blk_cell BK676.out 0).trans rfl,(blk_cell BK676.out 1).trans rfl,(blk_cell BK676.out 2).trans rfl,(blk_cell BK676.out 3).trans rfl⟩ (fun hHeld => ?_)
         clear hK K
         refine norm_ (a' := ?_) ?_ ?_
         rotate_left
         ·show Act.put _ (some 69) _ = _
          simp only [Act.put,List.setIfInBounds_toArray,List.set_cons_zero,List.set_cons_succ,i64_w,i32_w]
          rfl
         refine one_ (i := 21) (N := some 70) #[true,true,true,true,true,true,true,true,true,true,true,true,true,true,true,true,true,true,true,true,true,true,false,false,false,false,false,false,false,false,false,false,false,false,false,false,false,false,false,false,false,false,false,false,false,false,false] rfl rfl (one_of HT_.out (by kernel_rfl)) (by decide) (fun K hK => ?_)
         refine goes_ Try.func12 (by kernel_rfl) rfl #[.slice Ao98 t678.length co98,.slice Ao99 t681.length co99] (by rfl) rfl rfl eq_up ?_
         with_reducible refine (laws_same.calls k _ _ t678 _ _ t681 true _ ?side1 ?side2 ?side3 ?side4 A60.out).mono ?_
         (case side1 => exact Kd.C_up (Kd.R_reads' HO680.out).2.2)
         (case side2 => exact (Kd.R_reads' HO680.out).2.1)
         (case side3 => exact Kd.C_up (Kd.R_reads' HO683.out).2.2)
         (case side4 => exact (Kd.R_reads' HO683.out).2.1)
         rintro e w' ⟨rfl,⟨nd,rfl⟩⟩
         refine ⟨_,rfl,?_⟩
         refine hK.out _ _ ⟨(blk_cell BK636.out 0).trans rfl,(blk_cell BK636.out 1).trans rfl,(blk_cell BK636.out 2).trans rfl,(blk_cell BK636.out 3).trans rfl,(blk_cell BK645.out 0).trans rfl,(blk_cell BK645.out 1).trans rfl,(blk_cell BK645.out 2).trans rfl,(blk_cell BK645.out 3).trans rfl,(blk_cell BK655.out 0).trans rfl,(blk_cell BK655.out 1).trans rfl,(blk_cell BK655.out 2).trans rfl,(blk_cell BK655.out 3).trans rfl,(blk_cell BK668.out 0).trans rfl,(blk_cell BK668.out 1).trans rfl,(blk_cell BK668.out 2).trans rfl,(blk_cell BK668.out 3).trans rfl,(blk_cell BK669.out 0).trans rfl,(blk_cell BK669.out 1).trans rfl,(blk_cell BK669.out 2).trans rfl,(blk_cell BK669.out 3).trans rfl,(blk_cell BK676.out 0).trans rfl,(blk_cell BK676.out 1).trans rfl,(blk_cell BK676.out 2).trans rfl,(blk_cell BK676.out 3).trans rfl⟩ (fun hHeld => ?_)
         clear hK K
         refine norm_ (a' := ?_) ?_ ?_
         rotate_left
         ·show Act.put _ (some 70) _ = _
          simp only [Act.put,List.setIfInBounds_toArray,List.set_cons_zero,List.set_cons_succ,i64_w,i32_w]
          rfl
         refine pure_ (i := 22) (N := some 71) (v := ?_) (a' := ?_) #[true,true,true,true,true,true,true,true,true,true,true,true,true,true,true,true,true,true,true,true,true,true,true,false,false,false,false,false,false,false,false,false,false,false,false,false,false,false,false,false,false,false,false,false,false,false,false] rfl rfl (any_of HT_.out (by kernel_rfl)) (fun _ _ _ h => h) (Or.inl ⟨by rfl,?_⟩) ?_ ?_
         rotate_left
         ·intro w'
          go_simp
          with_reducible rfl
         rotate_left
         ·simp only [Act.put,List.setIfInBounds_toArray,List.set_cons_zero,List.set_cons_succ,i64_w,i32_w]
          rfl
         refine pure_ (i := 23) (N := some 72) (v := ?_) (a' := ?_) #[true,true,true,true,true,true,true,true,true,true,true,true,true,true,true,true,true,true,true,true,true,true,true,true,false,false,false,false,false,false,false,false,false,false,false,false,false,false,false,false,false,false,false,false,false,false,false] rfl rfl (any_of HT_.out (by kernel_rfl)) (fun _ _ _ h => h) (Or.inl ⟨by rfl,?_⟩) ?_ ?_
         rotate_left
         ·intro w'
          go_simp
          with_reducible rfl
         rotate_left
         ·simp only [Act.put,List.setIfInBounds_toArray,List.set_cons_zero,List.set_cons_succ,i64_w,i32_w]
          rfl
         refine pure_ (i := 24) (N := some 73) (v := ?_) (a' := ?_) #[true,true,true,true,true,true,true,true,true,true,true,true,true,true,true,true,true,true,true,true,true,true,true,true,true,false,false,false,false,false,false,false,false,false,false,false,false,false,false,false,false,false,false,false,false,false,false] rfl rfl (any_of HT_.out (by kernel_rfl)) (fun _ _ _ h => h) (Or.inl ⟨by rfl,?_⟩) ?_ ?_
         rotate_left
         ·intro w'
          go_simp
          with_reducible rfl
         rotate_left
         ·simp only [Act.put,List.setIfInBounds_toArray,List.set_cons_zero,List.set_cons_succ,i64_w,i32_w]
          rfl
         refine take_ (i := 25) (N := some 74) (v := ?_) (a' := ?_) #[true,true,true,true,true,true,true,true,true,true,true,true,true,true,true,true,true,true,true,true,true,true,true,true,true,true,false,false,false,false,false,false,false,false,false,false,false,false,false,false,false,false,false,false,false,false,false] rfl rfl (take_ofW HT_.out HW_.out (by kernel_rfl)) (fun _ _ _ h => h) (Or.inl ⟨by rfl,?_⟩) hHeld ?_ ?_
         rotate_left
         ·rintro w' ⟨s0,s1,s2,s3,s4,s5,s6,s7,s8,s9,s10,s11,s12,s13,s14,s15,s16,s17,s18,s19,s20,s21,s22,s23⟩
          go_simp
          with_reducible rfl
         rotate_left
         ·simp only [Act.put,List.setIfInBounds_toArray,List.set_cons_zero,List.set_cons_succ,i64_w,i32_w]
          rfl
         refine take_ (i := 26) (N := some 75) (v := ?_) (a' := ?_) #[true,true,true,true,true,true,true,true,true,true,true,true,true,true,true,true,true,true,true,true,true,true,true,true,true,true,true,false,false,false,false,false,false,false,false,false,false,false,false,false,false,false,false,false,false,false,false] rfl rfl (take_ofW HT_.out HW_.out (by kernel_rfl)) (fun _ _ _ h => h) (Or.inl ⟨by rfl,?_⟩) hHeld ?_ ?_
         rotate_left
         ·rintro w' ⟨s0,s1,s2,s3,s4,s5,s6,s7,s8,s9,s10,s11,s12,s13,s14,s15,s16,s17,s18,s19,s20,s21,s22,s23⟩
          go_simp
          with_reducible rfl
         rotate_left
         ·simp only [Act.put,List.setIfInBounds_toArray,List.set_cons_zero,List.set_cons_succ,i64_w,i32_w]
          rfl
         refine take_ (i := 28) (N := some 77) (v := ?_) (a' := ?_) #[true,true,true,true,true,true,true,true,true,true,true,true,true,true,true,true,true,true,true,true,true,true,true,true,true,true,true,false,true,false,false,false,false,false,false,false,false,false,false,false,false,false,false,false,false,false,false] rfl rfl (take_ofW HT_.out HW_.out (by kernel_rfl)) (fun _ _ _ h => h) (Or.inl ⟨by rfl,?_⟩) hHeld ?_ ?_
         rotate_left
         ·rintro w' ⟨s0,s1,s2,s3,s4,s5,s6,s7,s8,s9,s10,s11,s12,s13,s14,s15,s16,s17,s18,s19,s20,s21,s22,s23⟩
          go_simp
          with_reducible rfl
         rotate_left
         ·simp only [Act.put,List.setIfInBounds_toArray,List.set_cons_zero,List.set_cons_succ,i64_w,i32_w]
          rfl
         refine take_ (i := 29) (N := some 78) (v := ?_) (a' := ?_) #[true,true,true,true,true,true,true,true,true,true,true,true,true,true,true,true,true,true,true,true,true,true,true,true,true,true,true,false,true,true,false,false,false,false,false,false,false,false,false,false,false,false,false,false,false,false,false] rfl rfl (take_ofW HT_.out HW_.out (by kernel_rfl)) (fun _ _ _ h => h) (Or.inl ⟨by rfl,?_⟩) hHeld ?_ ?_
         rotate_left
         ·rintro w' ⟨s0,s1,s2,s3,s4,s5,s6,s7,s8,s9,s10,s11,s12,s13,s14,s15,s16,s17,s18,s19,s20,s21,s22,s23⟩
          go_simp
          with_reducible rfl
         rotate_left
         ·simp only [Act.put,List.setIfInBounds_toArray,List.set_cons_zero,List.set_cons_succ,i64_w,i32_w]
          rfl
         refine one_ (i := 27) (N := some 76) #[true,true,true,true,true,true,true,true,true,true,true,true,true,true,true,true,true,true,true,true,true,true,true,true,true,true,true,true,true,true,false,false,false,false,false,false,false,false,false,false,false,false,false,false,false,false,false] rfl rfl (one_of HT_.out (by kernel_rfl)) (by decide) (fun K hK => ?_)
         refine goes_ Try.func15 (by kernel_rfl) rfl #[.agg #[.int .i64 t656,.int .i64 t657,.int .i64 t658,.slice Ao36 t659.length co36],.agg #[.int .i64 t662,.int .i64 t663,.int .i64 t664,.slice Ao41 t665.length co41]] (by rfl) rfl rfl eq_up ?_
         with_reducible refine (impl_SameMan.calls k t656 t657 t658 _ _ t659 t662 t663 t664 _ _ t665 t685 _ ?side1 ?side2 ?side3 ?side4 A62.out).mono ?_
         (case side1 => exact Kd.C_up (Kd.R_reads' HO661.out).2.2)
         (case side2 => exact (Kd.R_reads' HO661.out).2.1)
         (case side3 => exact Kd.C_up (Kd.R_reads' HO667.out).2.2)
         (case side4 => exact (Kd.R_reads' HO667.out).2.1)
         rintro e w100 ⟨rfl,hb⟩
         refine ⟨_,rfl,?_⟩
         replace HO627 := Mk (Kd.R_below (Kd.R_up HO627.out) hb)
         replace HO633 := Mk (Kd.R_below (Kd.R_up HO633.out) hb)
         replace HO642 := Mk (Kd.R_below (Kd.R_up HO642.out) hb)
         replace HO648 := Mk (Kd.R_below (Kd.R_up HO648.out) hb)
         replace HO654 := Mk (Kd.R_below (Kd.R_up HO654.out) hb)
         replace HO661 := Mk (Kd.R_below (Kd.R_up HO661.out) hb)
         replace HO667 := Mk (Kd.R_below (Kd.R_up HO667.out) hb)
         replace HO675 := Mk (Kd.R_below (Kd.R_up HO675.out) hb)
         replace HO680 := Mk (Kd.R_below (Kd.R_up HO680.out) hb)
         replace HO683 := Mk (Kd.R_below (Kd.R_up HO683.out) hb)
         replace BK636 := Mk (blk_below (blk_up BK636.out) hb)
         replace BK645 := Mk (blk_below (blk_up BK645.out) hb)
         replace BK655 := Mk (blk_below (blk_up BK655.out) hb)
         replace BK668 := Mk (blk_below (blk_up BK668.out) hb)
         replace BK669 := Mk (blk_below (blk_up BK669.out) hb)
         replace BK676 := Mk (blk_below (blk_up BK676.out) hb)
         replace HB := Mk (below_step (B_set HB.out) hb)
         (try clear hb)
         (try clear hb2)
         (try clear hk)
         (try clear hi)
         refine hK.out _ _ ⟨(blk_cell BK636.out 0).trans rfl,(blk_cell BK636.out 1).trans rfl,(blk_cell BK636.out 2).trans rfl,(blk_cell BK636.out 3).trans rfl,(blk_cell BK645.out 0).trans rfl,(blk_cell BK645.out 1).trans rfl,(blk_cell BK645.out 2).trans rfl,(blk_cell BK645.out 3).trans rfl,(blk_cell BK655.out 0).trans rfl,(blk_cell BK655.out 1).trans rfl,(blk_cell BK655.out 2).trans rfl,(blk_cell BK655.out 3).trans rfl,(blk_cell BK668.out 0).trans rfl,(blk_cell BK668.out 1).trans rfl,(blk_cell BK668.out 2).trans rfl,(blk_cell BK668.out 3).trans rfl,(blk_cell BK669.out 0).trans rfl,(blk_cell BK669.out 1).trans rfl,(blk_cell BK669.out 2).trans rfl,(blk_cell BK669.out 3).trans rfl,(blk_cell BK676.out 0).trans rfl,(blk_cell BK676.out 1).trans rfl,(blk_cell BK676.out 2).trans rfl,(blk_cell BK676.out 3).trans rfl⟩ (fun hHeld => ?_)
         clear hK K
         refine norm_ (a' := ?_) ?_ ?_
         rotate_left
         ·show Act.put _ (some 76) _ = _
          simp only [Act.put,List.setIfInBounds_toArray,List.set_cons_zero,List.set_cons_succ,i64_w,i32_w]
          rfl
         refine one_ (i := 30) (N := some 79) #[true,true,true,true,true,true,true,true,true,true,true,true,true,true,true,true,true,true,true,true,true,true,true,true,true,true,true,true,true,true,true,false,false,false,false,false,false,false,false,false,false,false,false,false,false,false,false] rfl rfl (one_of HT_.out (by kernel_rfl)) (by decide) (fun K hK => ?_)
         refine goes_ Try.func11 (by kernel_rfl) rfl #[.agg #[.int .i64 t656,.int .i64 t657,.int .i64 t658,.slice Ao36 t659.length co36],.agg #[.int .i64 t662,.int .i64 t663,.int .i64 t664,.slice Ao41 t665.length co41]] (by rfl) rfl rfl eq_up ?_
         with_reducible refine (laws_sameMan.calls k t656 t657 t658 _ _ t659 t662 t663 t664 _ _ t665 t686 _ ?side1 ?side2 ?side3 ?side4 A63.out).mono ?_
         (case side1 => exact Kd.C_up (Kd.R_reads' HO661.out).2.2)
         (case side2 => exact (Kd.R_reads' HO661.out).2.1)
         (case side3 => exact Kd.C_up (Kd.R_reads' HO667.out).2.2)
         (case side4 => exact (Kd.R_reads' HO667.out).2.1)
         rintro e w101 ⟨rfl,hb⟩
         refine ⟨_,rfl,?_⟩
         replace HO627 := Mk (Kd.R_below (Kd.R_up HO627.out) hb)
         replace HO633 := Mk (Kd.R_below (Kd.R_up HO633.out) hb)
         replace HO642 := Mk (Kd.R_below (Kd.R_up HO642.out) hb)
         replace HO648 := Mk (Kd.R_below (Kd.R_up HO648.out) hb)
         replace HO654 := Mk (Kd.R_below (Kd.R_up HO654.out) hb)
         replace HO661 := Mk (Kd.R_below (Kd.R_up HO661.out) hb)
         replace HO667 := Mk (Kd.R_below (Kd.R_up HO667.out) hb)
         replace HO675 := Mk (Kd.R_below (Kd.R_up HO675.out) hb)
         replace HO680 := Mk (Kd.R_below (Kd.R_up HO680.out) hb)
         replace HO683 := Mk (Kd.R_below (Kd.R_up HO683.out) hb)
         replace BK636 := Mk (blk_below (blk_up BK636.out) hb)
         replace BK645 := Mk (blk_below (blk_up BK645.out) hb)
         replace BK655 := Mk (blk_below (blk_up BK655.out) hb)
         replace BK668 := Mk (blk_below (blk_up BK668.out) hb)
         replace BK669 := Mk (blk_below (blk_up BK669.out) hb)
         replace BK676 := Mk (blk_below (blk_up BK676.out) hb)
         replace HB := Mk (below_step (B_set HB.out) hb)
         (try clear hb)
         (try clear hb2)
         (try clear hk)
         (try clear hi)
         refine hK.out _ _ ⟨(blk_cell BK636.out 0).trans rfl,(blk_cell BK636.out 1).trans rfl,(blk_cell BK636.out 2).trans rfl,(blk_cell BK636.out 3).trans rfl,(blk_cell BK645.out 0).trans rfl,(blk_cell BK645.out 1).trans rfl,(blk_cell BK645.out 2).trans rfl,(blk_cell BK645.out 3).trans rfl,(blk_cell BK655.out 0).trans rfl,(blk_cell BK655.out 1).trans rfl,(blk_cell BK655.out 2).trans rfl,(blk_cell BK655.out 3).trans rfl,(blk_cell BK668.out 0).trans rfl,(blk_cell BK668.out 1).trans rfl,(blk_cell BK668.out 2).trans rfl,(blk_cell BK668.out 3).trans rfl,(blk_cell BK669.out 0).trans rfl,(blk_cell BK669.out 1).trans rfl,(blk_cell BK669.out 2).trans rfl,(blk_cell BK669.out 3).trans rfl,(blk_cell BK676.out 0).trans rfl,(blk_cell BK676.out 1).trans rfl,(blk_cell BK676.out 2).trans rfl,(blk_cell BK676.out 3).trans rfl⟩ (fun hHeld => ?_)
         clear hK K
         refine norm_ (a' := ?_) ?_ ?_
         rotate_left
         ·show Act.put _ (some 79) _ = _
          simp only [Act.put,List.setIfInBounds_toArray,List.set_cons_zero,List.set_cons_succ,i64_w,i32_w]
          rfl
         refine pure_ (i := 31) (N := some 80) (v := ?_) (a' := ?_) #[true,true,true,true,true,true,true,true,true,true,true,true,true,true,true,true,true,true,true,true,true,true,true,true,true,true,true,true,true,true,true,true,false,false,false,false,false,false,false,false,false,false,false,false,false,false,false] rfl rfl (any_of HT_.out (by kernel_rfl)) (fun _ _ _ h => h) (Or.inl ⟨by rfl,?_⟩) ?_ ?_
         rotate_left
         ·intro w'
          go_simp
          with_reducible rfl
         rotate_left
         ·simp only [Act.put,List.setIfInBounds_toArray,List.set_cons_zero,List.set_cons_succ,i64_w,i32_w]
          rfl
         refine pure_ (i := 32) (N := some 81) (v := ?_) (a' := ?_) #[true,true,true,true,true,true,true,true,true,true,true,true,true,true,true,true,true,true,true,true,true,true,true,true,true,true,true,true,true,true,true,true,true,false,false,false,false,false,false,false,false,false,false,false,false,false,false] rfl rfl (any_of HT_.out (by kernel_rfl)) (fun _ _ _ h => h) (Or.inl ⟨by rfl,?_⟩) ?_ ?_
         rotate_left
         ·intro w'
          go_simp
          with_reducible rfl
         rotate_left
         ·simp only [Act.put,List.setIfInBounds_toArray,List.set_cons_zero,List.set_cons_succ,i64_w,i32_w]
          rfl
         refine pure_ (i := 33) (N := some 82) (v := ?_) (a' := ?_) #[true,true,true,true,true,true,true,true,true,true,true,true,true,true,true,true,true,true,true,true,true,true,true,true,true,true,true,true,true,true,true,true,true,true,false,false,false,false,false,false,false,false,false,false,false,false,false] rfl rfl (any_of HT_.out (by kernel_rfl)) (fun _ _ _ h => h) (Or.inl ⟨by rfl,?_⟩) ?_ ?_
         rotate_left
         ·intro w'
          go_simp
          with_reducible rfl
         rotate_left
         ·simp only [Act.put,List.setIfInBounds_toArray,List.set_cons_zero,List.set_cons_succ,i64_w,i32_w]
          rfl
         refine take_ (i := 34) (N := some 83) (v := ?_) (a' := ?_) #[true,true,true,true,true,true,true,true,true,true,true,true,true,true,true,true,true,true,true,true,true,true,true,true,true,true,true,true,true,true,true,true,true,true,true,false,false,false,false,false,false,false,false,false,false,false,false] rfl rfl (take_ofW HT_.out HW_.out (by kernel_rfl)) (fun _ _ _ h => h) (Or.inl ⟨by rfl,?_⟩) hHeld ?_ ?_
         rotate_left
         ·rintro w' ⟨s0,s1,s2,s3,s4,s5,s6,s7,s8,s9,s10,s11,s12,s13,s14,s15,s16,s17,s18,s19,s20,s21,s22,s23⟩
          go_simp
          with_reducible rfl
         rotate_left
         ·simp only [Act.put,List.setIfInBounds_toArray,List.set_cons_zero,List.set_cons_succ,i64_w,i32_w]
          rfl
         refine take_ (i := 36) (N := some 85) (v := ?_) (a' := ?_) #[true,true,true,true,true,true,true,true,true,true,true,true,true,true,true,true,true,true,true,true,true,true,true,true,true,true,true,true,true,true,true,true,true,true,true,false,true,false,false,false,false,false,false,false,false,false,false] rfl rfl (take_ofW HT_.out HW_.out (by kernel_rfl)) (fun _ _ _ h => h) (Or.inl ⟨by rfl,?_⟩) hHeld ?_ ?_
         rotate_left
         ·rintro w' ⟨s0,s1,s2,s3,s4,s5,s6,s7,s8,s9,s10,s11,s12,s13,s14,s15,s16,s17,s18,s19,s20,s21,s22,s23⟩
          go_simp
          with_reducible rfl
         rotate_left
         ·simp only [Act.put,List.setIfInBounds_toArray,List.set_cons_zero,List.set_cons_succ,i64_w,i32_w]
          rfl
         refine one_ (i := 35) (N := some 84) #[true,true,true,true,true,true,true,true,true,true,true,true,true,true,true,true,true,true,true,true,true,true,true,true,true,true,true,true,true,true,true,true,true,true,true,true,true,false,false,false,false,false,false,false,false,false,false] rfl rfl (one_of HT_.out (by kernel_rfl)) (by decide) (fun K hK => ?_)
         refine goes_ Try.func16 (by kernel_rfl) rfl #[.agg #[.int .i64 t670,.int .i64 t671,.int .i64 t672,.slice Ao50 t673.length co50]] (by rfl) rfl rfl eq_up ?_
         with_reducible refine (impl_ManOk.calls k t670 t671 t672 _ _ t673 t687 _ ?side1 ?side2 A75.out).mono ?_
         (case side1 => exact Kd.C_up (Kd.R_reads' HO675.out).2.2)
         (case side2 => exact (Kd.R_reads' HO675.out).2.1)
         rintro e w102 ⟨rfl,hb⟩
         refine ⟨_,rfl,?_⟩
         replace HO627 := Mk (Kd.R_below (Kd.R_up HO627.out) hb)
         replace HO633 := Mk (Kd.R_below (Kd.R_up HO633.out) hb)
         replace HO642 := Mk (Kd.R_below (Kd.R_up HO642.out) hb)
         replace HO648 := Mk (Kd.R_below (Kd.R_up HO648.out) hb)
         replace HO654 := Mk (Kd.R_below (Kd.R_up HO654.out) hb)
         replace HO661 := Mk (Kd.R_below (Kd.R_up HO661.out) hb)
         replace HO667 := Mk (Kd.R_below (Kd.R_up HO667.out) hb)
         replace HO675 := Mk (Kd.R_below (Kd.R_up HO675.out) hb)
         replace HO680 := Mk (Kd.R_below (Kd.R_up HO680.out) hb)
         replace HO683 := Mk (Kd.R_below (Kd.R_up HO683.out) hb)
         replace BK636 := Mk (blk_below (blk_up BK636.out) hb)
         replace BK645 := Mk (blk_below (blk_up BK645.out) hb)
         replace BK655 := Mk (blk_below (blk_up BK655.out) hb)
         replace BK668 := Mk (blk_below (blk_up BK668.out) hb)
         replace BK669 := Mk (blk_below (blk_up BK669.out) hb)
         replace BK676 := Mk (blk_below (blk_up BK676.out) hb)
         replace HB := Mk (below_step (B_set HB.out) hb)
         (try clear hb)
         (try clear hb2)
         (try clear hk)
         (try clear hi)
         refine hK.out _ _ ⟨(blk_cell BK636.out 0).trans rfl,(blk_cell BK636.out 1).trans rfl,(blk_cell BK636.out 2).trans rfl,(blk_cell BK636.out 3).trans rfl,(blk_cell BK645.out 0).trans rfl,(blk_cell BK645.out 1).trans rfl,(blk_cell BK645.out 2).trans rfl,(blk_cell BK645.out 3).trans rfl,(blk_cell BK655.out 0).trans rfl,(blk_cell BK655.out 1).trans rfl,(blk_cell BK655.out 2).trans rfl,(blk_cell BK655.out 3).trans rfl,(blk_cell BK668.out 0).trans rfl,(blk_cell BK668.out 1).trans rfl,(blk_cell BK668.out 2).trans rfl,(blk_cell BK668.out 3).trans rfl,(blk_cell BK669.out 0).trans rfl,(blk_cell BK669.out 1).trans rfl,(blk_cell BK669.out 2).trans rfl,(blk_cell BK669.out 3).trans rfl,(blk_cell BK676.out 0).trans rfl,(blk_cell BK676.out 1).trans rfl,(blk_cell BK676.out 2).trans rfl,(blk_cell BK676.out 3).trans rfl⟩ (fun hHeld => ?_)
         clear hK K
         refine norm_ (a' := ?_) ?_ ?_
         rotate_left
         ·show Act.put _ (some 84) _ = _
          simp only [Act.put,List.setIfInBounds_toArray,List.set_cons_zero,List.set_cons_succ,i64_w,i32_w]
          rfl
         refine one_ (i := 37) (N := some 86) #[true,true,true,true,true,true,true,true,true,true,true,true,true,true,true,true,true,true,true,true,true,true,true,true,true,true,true,true,true,true,true,true,true,true,true,true,true,true,false,false,false,false,false,false,false,false,false] rfl rfl (one_of HT_.out (by kernel_rfl)) (by decide) (fun K hK => ?_)
         refine goes_ Try.func17 (by kernel_rfl) rfl #[.agg #[.int .i64 t670,.int .i64 t671,.int .i64 t672,.slice Ao50 t673.length co50]] (by rfl) rfl rfl eq_up ?_
         with_reducible refine (spec_ManOk.calls k t670 t671 t672 _ _ t673 t688 _ ?side1 ?side2 A76.out).mono ?_
         (case side1 => exact Kd.C_up (Kd.R_reads' HO675.out).2.2)
         (case side2 => exact (Kd.R_reads' HO675.out).2.1)
         rintro e w103 ⟨rfl,hb⟩
         refine ⟨_,rfl,?_⟩
         replace HO627 := Mk (Kd.R_below (Kd.R_up HO627.out) hb)
         replace HO633 := Mk (Kd.R_below (Kd.R_up HO633.out) hb)
         replace HO642 := Mk (Kd.R_below (Kd.R_up HO642.out) hb)
         replace HO648 := Mk (Kd.R_below (Kd.R_up HO648.out) hb)
         replace HO654 := Mk (Kd.R_below (Kd.R_up HO654.out) hb)
         replace HO661 := Mk (Kd.R_below (Kd.R_up HO661.out) hb)
         replace HO667 := Mk (Kd.R_below (Kd.R_up HO667.out) hb)
         replace HO675 := Mk (Kd.R_below (Kd.R_up HO675.out) hb)
         replace HO680 := Mk (Kd.R_below (Kd.R_up HO680.out) hb)
         replace HO683 := Mk (Kd.R_below (Kd.R_up HO683.out) hb)
         replace BK636 := Mk (blk_below (blk_up BK636.out) hb)
         replace BK645 := Mk (blk_below (blk_up BK645.out) hb)
         replace BK655 := Mk (blk_below (blk_up BK655.out) hb)
         replace BK668 := Mk (blk_below (blk_up BK668.out) hb)
         replace BK669 := Mk (blk_below (blk_up BK669.out) hb)
         replace BK676 := Mk (blk_below (blk_up BK676.out) hb)
         replace HB := Mk (below_step (B_set HB.out) hb)
         (try clear hb)
         (try clear hb2)
         (try clear hk)
         (try clear hi)
         refine hK.out _ _ ⟨(blk_cell BK636.out 0).trans rfl,(blk_cell BK636.out 1).trans rfl,(blk_cell BK636.out 2).trans rfl,(blk_cell BK636.out 3).trans rfl,(blk_cell BK645.out 0).trans rfl,(blk_cell BK645.out 1).trans rfl,(blk_cell BK645.out 2).trans rfl,(blk_cell BK645.out 3).trans rfl,(blk_cell BK655.out 0).trans rfl,(blk_cell BK655.out 1).trans rfl,(blk_cell BK655.out 2).trans rfl,(blk_cell BK655.out 3).trans rfl,(blk_cell BK668.out 0).trans rfl,(blk_cell BK668.out 1).trans rfl,(blk_cell BK668.out 2).trans rfl,(blk_cell BK668.out 3).trans rfl,(blk_cell BK669.out 0).trans rfl,(blk_cell BK669.out 1).trans rfl,(blk_cell BK669.out 2).trans rfl,(blk_cell BK669.out 3).trans rfl,(blk_cell BK676.out 0).trans rfl,(blk_cell BK676.out 1).trans rfl,(blk_cell BK676.out 2).trans rfl,(blk_cell BK676.out 3).trans rfl⟩ (fun hHeld => ?_)
         clear hK K
         refine norm_ (a' := ?_) ?_ ?_
         rotate_left
         ·show Act.put _ (some 86) _ = _
          simp only [Act.put,List.setIfInBounds_toArray,List.set_cons_zero,List.set_cons_succ,i64_w,i32_w]
          rfl
         refine pure_ (i := 38) (N := some 87) (v := ?_) (a' := ?_) #[true,true,true,true,true,true,true,true,true,true,true,true,true,true,true,true,true,true,true,true,true,true,true,true,true,true,true,true,true,true,true,true,true,true,true,true,true,true,true,false,false,false,false,false,false,false,false] rfl rfl (any_of HT_.out (by kernel_rfl)) (fun _ _ _ h => h) (Or.inl ⟨by rfl,?_⟩) ?_ ?_
         rotate_left
         ·intro w'
          go_simp
          with_reducible rfl
         rotate_left
         ·simp only [Act.put,List.setIfInBounds_toArray,List.set_cons_zero,List.set_cons_succ,i64_w,i32_w]
          rfl
         refine pure_ (i := 39) (N := some 88) (v := ?_) (a' := ?_) #[true,true,true,true,true,true,true,true,true,true,true,true,true,true,true,true,true,true,true,true,true,true,true,true,true,true,true,true,true,true,true,true,true,true,true,true,true,true,true,true,false,false,false,false,false,false,false] rfl rfl (any_of HT_.out (by kernel_rfl)) (fun _ _ _ h => h) (Or.inl ⟨by rfl,?_⟩) ?_ ?_
         rotate_left
         ·intro w'
          go_simp
          with_reducible rfl
         rotate_left
         ·simp only [Act.put,List.setIfInBounds_toArray,List.set_cons_zero,List.set_cons_succ,i64_w,i32_w]
          rfl
         refine pure_ (i := 40) (N := some 89) (v := ?_) (a' := ?_) #[true,true,true,true,true,true,true,true,true,true,true,true,true,true,true,true,true,true,true,true,true,true,true,true,true,true,true,true,true,true,true,true,true,true,true,true,true,true,true,true,true,false,false,false,false,false,false] rfl rfl (any_of HT_.out (by kernel_rfl)) (fun _ _ _ h => h) (Or.inl ⟨by rfl,?_⟩) ?_ ?_
         rotate_left
         ·intro w'
          go_simp
          with_reducible rfl
         rotate_left
         ·simp only [Act.put,List.setIfInBounds_toArray,List.set_cons_zero,List.set_cons_succ,i64_w,i32_w]
          rfl
         refine take_ (i := 41) (N := some 90) (v := ?_) (a' := ?_) #[true,true,true,true,true,true,true,true,true,true,true,true,true,true,true,true,true,true,true,true,true,true,true,true,true,true,true,true,true,true,true,true,true,true,true,true,true,true,true,true,true,true,false,false,false,false,false] rfl rfl (take_ofW HT_.out HW_.out (by kernel_rfl)) (fun _ _ _ h => h) (Or.inl ⟨by rfl,?_⟩) hHeld ?_ ?_
         rotate_left
         ·rintro w' ⟨s0,s1,s2,s3,s4,s5,s6,s7,s8,s9,s10,s11,s12,s13,s14,s15,s16,s17,s18,s19,s20,s21,s22,s23⟩
          go_simp
          with_reducible rfl
         rotate_left
         ·simp only [Act.put,List.setIfInBounds_toArray,List.set_cons_zero,List.set_cons_succ,i64_w,i32_w]
          rfl
         refine take_ (i := 43) (N := some 92) (v := ?_) (a' := ?_) #[true,true,true,true,true,true,true,true,true,true,true,true,true,true,true,true,true,true,true,true,true,true,true,true,true,true,true,true,true,true,true,true,true,true,true,true,true,true,true,true,true,true,false,true,false,false,false] rfl rfl (take_ofW HT_.out HW_.out (by kernel_rfl)) (fun _ _ _ h => h) (Or.inl ⟨by rfl,?_⟩) hHeld ?_ ?_
         rotate_left
         ·rintro w' ⟨s0,s1,s2,s3,s4,s5,s6,s7,s8,s9,s10,s11,s12,s13,s14,s15,s16,s17,s18,s19,s20,s21,s22,s23⟩
          go_simp
          with_reducible rfl
         rotate_left
         ·simp only [Act.put,List.setIfInBounds_toArray,List.set_cons_zero,List.set_cons_succ,i64_w,i32_w]
          rfl
         refine one_ (i := 42) (N := some 91) #[true,true,true,true,true,true,true,true,true,true,true,true,true,true,true,true,true,true,true,true,true,true,true,true,true,true,true,true,true,true,true,true,true,true,true,true,true,true,true,true,true,true,true,true,false,false,false] rfl rfl (one_of HT_.out (by kernel_rfl)) (by decide) (fun K hK => ?_)
         refine goes_ Try.func18 (by kernel_rfl) rfl #[.agg #[.int .i64 t670,.int .i64 t671,.int .i64 t672,.slice Ao50 t673.length co50]] (by rfl) rfl rfl eq_up ?_
         with_reducible refine (impl_AllParts.calls t670 t671 t672 _ _ t673 t689 _ ?side1 ?side2 A90.out).mono ?_
         (case side1 => exact Kd.C_up (Kd.R_reads' HO675.out).2.2)
         (case side2 => exact (Kd.R_reads' HO675.out).2.1)
         rintro e w104 ⟨rfl,hb⟩
         refine ⟨_,rfl,?_⟩
         replace HO627 := Mk (Kd.R_below (Kd.R_up HO627.out) hb)
         replace HO633 := Mk (Kd.R_below (Kd.R_up HO633.out) hb)
         replace HO642 := Mk (Kd.R_below (Kd.R_up HO642.out) hb)
         replace HO648 := Mk (Kd.R_below (Kd.R_up HO648.out) hb)
         replace HO654 := Mk (Kd.R_below (Kd.R_up HO654.out) hb)
         replace HO661 := Mk (Kd.R_below (Kd.R_up HO661.out) hb)
         replace HO667 := Mk (Kd.R_below (Kd.R_up HO667.out) hb)
         replace HO675 := Mk (Kd.R_below (Kd.R_up HO675.out) hb)
         replace HO680 := Mk (Kd.R_below (Kd.R_up HO680.out) hb)
         replace HO683 := Mk (Kd.R_below (Kd.R_up HO683.out) hb)
         replace BK636 := Mk (blk_below (blk_up BK636.out) hb)
         replace BK645 := Mk (blk_below (blk_up BK645.out) hb)
         replace BK655 := Mk (blk_below (blk_up BK655.out) hb)
         replace BK668 := Mk (blk_below (blk_up BK668.out) hb)
         replace BK669 := Mk (blk_below (blk_up BK669.out) hb)
         replace BK676 := Mk (blk_below (blk_up BK676.out) hb)
         replace HB := Mk (below_step (B_set HB.out) hb)
         (try clear hb)
         (try clear hb2)
         (try clear hk)
         (try clear hi)
         refine hK.out _ _ ⟨(blk_cell BK636.out 0).trans rfl,(blk_cell BK636.out 1).trans rfl,(blk_cell BK636.out 2).trans rfl,(blk_cell BK636.out 3).trans rfl,(blk_cell BK645.out 0).trans rfl,(blk_cell BK645.out 1).trans rfl,(blk_cell BK645.out 2).trans rfl,(blk_cell BK645.out 3).trans rfl,(blk_cell BK655.out 0).trans rfl,(blk_cell BK655.out 1).trans rfl,(blk_cell BK655.out 2).trans rfl,(blk_cell BK655.out 3).trans rfl,(blk_cell BK668.out 0).trans rfl,(blk_cell BK668.out 1).trans rfl,(blk_cell BK668.out 2).trans rfl,(blk_cell BK668.out 3).trans rfl,(blk_cell BK669.out 0).trans rfl,(blk_cell BK669.out 1).trans rfl,(blk_cell BK669.out 2).trans rfl,(blk_cell BK669.out 3).trans rfl,(blk_cell BK676.out 0).trans rfl,(blk_cell BK676.out 1).trans rfl,(blk_cell BK676.out 2).trans rfl,(blk_cell BK676.out 3).trans rfl⟩ (fun hHeld => ?_)
         clear hK K
         refine norm_ (a' := ?_) ?_ ?_
         rotate_left
         ·show Act.put _ (some 91) _ = _
          simp only [Act.put,List.setIfInBounds_toArray,List.set_cons_zero,List.set_cons_succ,i64_w,i32_w]
          rfl
         refine one_ (i := 44) (N := some 93) #[true,true,true,true,true,true,true,true,true,true,true,true,true,true,true,true,true,true,true,true,true,true,true,true,true,true,true,true,true,true,true,true,true,true,true,true,true,true,true,true,true,true,true,true,true,false,false] rfl rfl (one_of HT_.out (by kernel_rfl)) (by decide) (fun K hK => ?_)
         refine goes_ Try.func19 (by kernel_rfl) rfl #[.agg #[.int .i64 t670,.int .i64 t671,.int .i64 t672,.slice Ao50 t673.length co50]] (by rfl) rfl rfl eq_up ?_
         with_reducible refine (spec_AllParts.calls t670 t671 t672 _ _ t673 t690 _ ?side1 ?side2 A91.out).mono ?_
         (case side1 => exact Kd.C_up (Kd.R_reads' HO675.out).2.2)
         (case side2 => exact (Kd.R_reads' HO675.out).2.1)
         rintro e w105 ⟨rfl,hb⟩
         refine ⟨_,rfl,?_⟩
         replace HO627 := Mk (Kd.R_below (Kd.R_up HO627.out) hb)
         replace HO633 := Mk (Kd.R_below (Kd.R_up HO633.out) hb)
         replace HO642 := Mk (Kd.R_below (Kd.R_up HO642.out) hb)
         replace HO648 := Mk (Kd.R_below (Kd.R_up HO648.out) hb)
         replace HO654 := Mk (Kd.R_below (Kd.R_up HO654.out) hb)
         replace HO661 := Mk (Kd.R_below (Kd.R_up HO661.out) hb)
         replace HO667 := Mk (Kd.R_below (Kd.R_up HO667.out) hb)
         replace HO675 := Mk (Kd.R_below (Kd.R_up HO675.out) hb)
         replace HO680 := Mk (Kd.R_below (Kd.R_up HO680.out) hb)
         replace HO683 := Mk (Kd.R_below (Kd.R_up HO683.out) hb)
         replace BK636 := Mk (blk_below (blk_up BK636.out) hb)
         replace BK645 := Mk (blk_below (blk_up BK645.out) hb)
         replace BK655 := Mk (blk_below (blk_up BK655.out) hb)
         replace BK668 := Mk (blk_below (blk_up BK668.out) hb)
         replace BK669 := Mk (blk_below (blk_up BK669.out) hb)
         replace BK676 := Mk (blk_below (blk_up BK676.out) hb)
         replace HB := Mk (below_step (B_set HB.out) hb)
         (try clear hb)
         (try clear hb2)
         (try clear hk)
         (try clear hi)
         refine hK.out _ _ ⟨(blk_cell BK636.out 0).trans rfl,(blk_cell BK636.out 1).trans rfl,(blk_cell BK636.out 2).trans rfl,(blk_cell BK636.out 3).trans rfl,(blk_cell BK645.out 0).trans rfl,(blk_cell BK645.out 1).trans rfl,(blk_cell BK645.out 2).trans rfl,(blk_cell BK645.out 3).trans rfl,(blk_cell BK655.out 0).trans rfl,(blk_cell BK655.out 1).trans rfl,(blk_cell BK655.out 2).trans rfl,(blk_cell BK655.out 3).trans rfl,(blk_cell BK668.out 0).trans rfl,(blk_cell BK668.out 1).trans rfl,(blk_cell BK668.out 2).trans rfl,(blk_cell BK668.out 3).trans rfl,(blk_cell BK669.out 0).trans rfl,(blk_cell BK669.out 1).trans rfl,(blk_cell BK669.out 2).trans rfl,(blk_cell BK669.out 3).trans rfl,(blk_cell BK676.out 0).trans rfl,(blk_cell BK676.out 1).trans rfl,(blk_cell BK676.out 2).trans rfl,(blk_cell BK676.out 3).trans rfl⟩ (fun hHeld => ?_)
         clear hK K
         refine norm_ (a' := ?_) ?_ ?_
         rotate_left
         ·show Act.put _ (some 93) _ = _
          simp only [Act.put,List.setIfInBounds_toArray,List.set_cons_zero,List.set_cons_succ,i64_w,i32_w]
          rfl
         refine pure_ (i := 45) (N := some 94) (v := ?_) (a' := ?_) #[true,true,true,true,true,true,true,true,true,true,true,true,true,true,true,true,true,true,true,true,true,true,true,true,true,true,true,true,true,true,true,true,true,true,true,true,true,true,true,true,true,true,true,true,true,true,false] rfl rfl (any_of HT_.out (by kernel_rfl)) (fun _ _ _ h => h) (Or.inl ⟨by rfl,?_⟩) ?_ ?_
         rotate_left
         ·intro w'
          go_simp
          with_reducible rfl
         rotate_left
         ·simp only [Act.put,List.setIfInBounds_toArray,List.set_cons_zero,List.set_cons_succ,i64_w,i32_w]
          rfl
         refine pure_ (i := 46) (N := some 95) (v := ?_) (a' := ?_) #[true,true,true,true,true,true,true,true,true,true,true,true,true,true,true,true,true,true,true,true,true,true,true,true,true,true,true,true,true,true,true,true,true,true,true,true,true,true,true,true,true,true,true,true,true,true,true] rfl rfl (any_of HT_.out (by kernel_rfl)) (fun _ _ _ h => h) (Or.inl ⟨by rfl,?_⟩) ?_ ?_
         rotate_left
         ·intro w'
          go_simp
          with_reducible rfl
         rotate_left
         ·simp only [Act.put,List.setIfInBounds_toArray,List.set_cons_zero,List.set_cons_succ,i64_w,i32_w]
          rfl
         refine done_ (done_of HT_.out (by kernel_rfl)) ?_
         try go_wp2
         go_meet
         case rel => exact ⟨_,((t689 != t690)),eqs_,H',⟨by first | omega | exact Nat.le_refl _⟩,⟨Kd.R_up (Kd.R_mono HO627.out (fun _ hk => trivial))⟩,⟨Kd.R_up HO633.out⟩,⟨Kd.R_up HO642.out⟩,⟨Kd.R_up HO654.out⟩,⟨Kd.R_up HO661.out⟩,⟨Kd.R_up HO667.out⟩,⟨Kd.R_up HO675.out⟩,⟨by (with_reducible repeat (first | refine blk_drewN ?_ _ | refine blk_drew ?_ | refine blk_alloc ?_ _));exact BK636.out⟩,⟨by (with_reducible repeat (first | refine blk_drewN ?_ _ | refine blk_drew ?_ | refine blk_alloc ?_ _));exact BK645.out⟩,⟨by (with_reducible repeat (first | refine blk_drewN ?_ _ | refine blk_drew ?_ | refine blk_alloc ?_ _));exact BK655.out⟩,⟨by (with_reducible repeat (first | refine blk_drewN ?_ _ | refine blk_drew ?_ | refine blk_alloc ?_ _));exact BK668.out⟩,⟨by (with_reducible repeat (first | refine blk_drewN ?_ _ | refine blk_drew ?_ | refine blk_alloc ?_ _));exact BK669.out⟩,⟨by (with_reducible repeat (first | refine blk_drewN ?_ _ | refine blk_drew ?_ | refine blk_alloc ?_ _));exact BK676.out⟩,⟨B_set HB.out⟩⟩
      ·replace c61 := Bool.eq_false_iff.mpr c61
       subst c61
       have H1 : (laws_FnMansBent.j0 k t624 t625 t634 t635 true t628 t629 t630 t631) = some r := by rw [if_neg (show ¬ (false = true) by decide)] at H;exact H
       clear H
       have H := H1
       clear H1
       rw [hrt] at H
       exact (laws_FnMansBent.dead0 _ _ _ _ _ _ _ _ _ H).elim
    ·rw [if_neg c53] at H
     have c53b0 : (t634 == t643) = false := beq_eq_false_iff_ne.mpr c53
     have c53b1 : (t634 != t643) = true := bne_iff_ne.mpr c53
     (first | rw [c53b0] | (simp only [i64_w,i32_w];rw [c53b0]) | skip)
     rw [hrt] at H
     exact (laws_FnMansBent.dead0 _ _ _ _ _ _ _ _ _ H).elim
   ·replace c52 := Bool.eq_false_iff.mpr c52
    subst c52
    have H1 : (laws_FnMansBent.j0 k t624 t625 t634 t635 true t628 t629 t630 t631) = some r := by rw [if_neg (show ¬ (false = true) by decide)] at H;exact H
    clear H
    have H := H1
    clear H1
    rw [hrt] at H
    exact (laws_FnMansBent.dead0 _ _ _ _ _ _ _ _ _ H).elim
  case rest => as_aux_lemma =>
   clear HC10
   try clear c1
   try clear p2
   try clear c5
   try clear c11
   try clear c52
   obtain ⟨kq,x95_9,rfl,HA,HJ9,HO_3,HO_637003,HO_646003,HO_656003,HO_669003,HO_670003,HO_677003,BK636,BK645,BK655,BK668,BK669,BK676,HB⟩ := hcut
   cases kq with
   | zero => exact absurd HA.out (by simp [laws_FnMansBent.j0])
   | succ kj9 =>
    have H := HA.out
    clear HA
    simp only [laws_FnMansBent.j0] at H
    by_cases c120 : x95_9 = true
    ·subst c120
     rw [if_pos rfl] at H
     obtain rfl := Option.some.inj H
     go_wp2
     go_ret
     exact ⟨err_,B_set HB.out⟩
    ·replace c120 := Bool.eq_false_iff.mpr c120
     subst c120
     have H1 : (if t635 = true then ((impl_ManOk.f kj9 t628 t629 t630 t631).bind fun t691 => (if t691 = true then (if 0 ≤ t625 then (if t625 ≤ (t624.length : Int) then ((impl_PutMan.f kj9 (t624.take (t625 : Int).toNat) t628 t629 t630 t631).bind fun t696 => (if 0 ≤ t634 then (if t634 ≤ (t624.length : Int) then ((laws_same.f kj9 t696 (t624.take (t634 : Int).toNat)).bind fun t703 => (some t703)) else (none)) else (none))) else (none)) else (none)) else (some false))) else ((laws_sameMan.f kj9 t628 t629 t630 t631 0 0 0 ([] : List (S56))).bind fun t704 => (some t704))) = some r := by rw [if_neg (show ¬ (false = true) by decide)] at H;exact H
     clear H
     have H := H1
     clear H1
     by_cases c121 : t635 = true
     ·subst c121
      rw [if_pos rfl] at H
      replace H := bsm H
      obtain ⟨t691,A122,H⟩ := H
      (try dsimp only at H)
      by_cases c123 : t691 = true
      ·subst c123
       rw [if_pos rfl] at H
       by_cases c124 : 0 ≤ t625
       ·rw [if_pos c124] at H
        have c124b0 := eq_true c124
        have c124b1 : decide (0 ≤ t625) = true := decide_eq_true c124
        clear c124
        by_cases c125 : t625 ≤ (t624.length : Int)
        ·rw [if_pos c125] at H
         have c125b0 := eq_true c125
         have c125b1 : decide (t625 ≤ (t624.length : Int)) = true := decide_eq_true c125
         clear c125
         obtain ⟨y692,hy692⟩ : ∃ y_ : List Int,y_ = (t624.take (t625 : Int).toNat) := ⟨_,rfl⟩
         replace H : ((impl_PutMan.f kj9 y692 t628 t629 t630 t631).bind fun t696 => (if 0 ≤ t634 then (if t634 ≤ (t624.length : Int) then ((laws_same.f kj9 t696 (t624.take (t634 : Int).toNat)).bind fun t703 => (some t703)) else (none)) else (none))) = some r := by first | (rw [hy692];with_reducible exact H) | (have H2_ := (Option.bind_some _ _).symm.trans H;rw [hy692];with_reducible exact H2_) | (have H2_ := (Option.bind_some _ _).symm.trans H;with_reducible exact H2_) | with_reducible exact H | (rw [hy692];exact H) | exact H
         have Ny692 := Mk hy692
         clear hy692
         replace H := bsm H
         obtain ⟨t696,A126,H⟩ := H
         (try dsimp only at H)
         by_cases c127 : 0 ≤ t634
         ·rw [if_pos c127] at H
          have c127b0 := eq_true c127
          have c127b1 : decide (0 ≤ t634) = true := decide_eq_true c127
          clear c127
          by_cases c128 : t634 ≤ (t624.length : Int)
          ·rw [if_pos c128] at H
           have c128b0 := eq_true c128
           have c128b1 : decide (t634 ≤ (t624.length : Int)) = true := decide_eq_true c128
           clear c128
           obtain ⟨y699,hy699⟩ : ∃ y_ : List Int,y_ = (t624.take (t634 : Int).toNat) := ⟨_,rfl⟩
           replace H : ((laws_same.f kj9 t696 y699).bind fun t703 => (some t703)) = some r := by first | (rw [hy699];with_reducible exact H) | (have H2_ := (Option.bind_some _ _).symm.trans H;rw [hy699];with_reducible exact H2_) | (have H2_ := (Option.bind_some _ _).symm.trans H;with_reducible exact H2_) | with_reducible exact H | (rw [hy699];exact H) | exact H
           have Ny699 := Mk hy699
           clear hy699
           replace H := Option.bind_eq_some_iff.mp H
           obtain ⟨t703,A1290,H⟩ := H
           replace H : (some t703) = some r := H
           have A129 := Mk A1290
           clear A1290
           obtain rfl := Option.some.inj H
           try go_wp2
           replace HO_3 := Mk (Kd.R_drew HO_3.out)
           replace HO_637003 := Mk (Kd.R_drew HO_637003.out)
           replace HO_646003 := Mk (Kd.R_drew HO_646003.out)
           replace HO_656003 := Mk (Kd.R_drew HO_656003.out)
           replace HO_669003 := Mk (Kd.R_drew HO_669003.out)
           replace HO_670003 := Mk (Kd.R_drew HO_670003.out)
           replace HO_677003 := Mk (Kd.R_drew HO_677003.out)
           replace BK636 := Mk (blk_drew BK636.out)
           replace BK645 := Mk (blk_drew BK645.out)
           replace BK655 := Mk (blk_drew BK655.out)
           replace BK668 := Mk (blk_drew BK668.out)
           replace BK669 := Mk (blk_drew BK669.out)
           replace BK676 := Mk (blk_drew BK676.out)
           replace HB := Mk (below_drew1 HB.out)
           refine start_ (n := 14) (S := fun w' => w'.cell? ⟨gb636,0,none⟩ = some (.int .i64 t628) ∧ w'.cell? ⟨gb636,1,none⟩ = some (.int .i64 t629) ∧ w'.cell? ⟨gb636,2,none⟩ = some (.int .i64 t630) ∧ w'.cell? ⟨gb636,3,none⟩ = some (.slice Ao16 t631.length co16)) (ds := []) #[false,false,false,false,false,false,false,false,false,false,false,false,false,false] (by kernel_rfl) rfl rfl ⟨(blk_cell BK636.out 0).trans rfl,(blk_cell BK636.out 1).trans rfl,(blk_cell BK636.out 2).trans rfl,(blk_cell BK636.out 3).trans rfl⟩ (fun hHeld => ?_);refine with_tabW laws_FnMansBent.tab13 laws_FnMansBent.bits13 (fun HT_ HW_ => ?_)
           generalize wc.drew = w130 at HO_3 HO_637003 HO_646003 HO_656003 HO_669003 HO_670003 HO_677003 BK636 BK645 BK655 BK668 BK669 BK676 HB hHeld ⊢
           refine take_ (i := 0) (N := some 101) (v := ?_) (a' := ?_) #[true,false,false,false,false,false,false,false,false,false,false,false,false,false] rfl rfl (take_ofW HT_.out HW_.out (by kernel_rfl)) (fun _ _ _ h => h) (Or.inl ⟨by rfl,?_⟩) hHeld ?_ ?_
           rotate_left
           ·rintro w' ⟨s0,s1,s2,s3⟩
            go_simp
            with_reducible rfl
           rotate_left
           ·simp only [Act.put,List.setIfInBounds_toArray,List.set_cons_zero,List.set_cons_succ,i64_w,i32_w]
            rfl
           refine one_ (i := 1) (N := some 102) #[true,true,false,false,false,false,false,false,false,false,false,false,false,false] rfl rfl (one_of HT_.out (by kernel_rfl)) (by decide) (fun K hK => ?_)
           refine goes_ Try.func16 (by kernel_rfl) rfl #[.agg #[.int .i64 t628,.int .i64 t629,.int .i64 t630,.slice Ao16 t631.length co16]] (by rfl) rfl rfl eq_up ?_
           with_reducible refine (impl_ManOk.calls kj9 t628 t629 t630 _ _ t631 true _ ?side1 ?side2 A122.out).mono ?_
           (case side1 => exact Kd.C_up (Kd.R_reads' HO_637003.out).2.2)
           (case side2 => exact (Kd.R_reads' HO_637003.out).2.1)
           rintro e w131 ⟨rfl,hb⟩
           refine ⟨_,rfl,?_⟩
           replace HO_3 := Mk (Kd.R_below (Kd.R_up HO_3.out) hb)
           replace HO_637003 := Mk (Kd.R_below (Kd.R_up HO_637003.out) hb)
           replace HO_646003 := Mk (Kd.R_below (Kd.R_up HO_646003.out) hb)
           replace HO_656003 := Mk (Kd.R_below (Kd.R_up HO_656003.out) hb)
           replace HO_669003 := Mk (Kd.R_below (Kd.R_up HO_669003.out) hb)
           replace HO_670003 := Mk (Kd.R_below (Kd.R_up HO_670003.out) hb)
           replace HO_677003 := Mk (Kd.R_below (Kd.R_up HO_677003.out) hb)
           replace BK636 := Mk (blk_below (blk_up BK636.out) hb)
           replace BK645 := Mk (blk_below (blk_up BK645.out) hb)
           replace BK655 := Mk (blk_below (blk_up BK655.out) hb)
           replace BK668 := Mk (blk_below (blk_up BK668.out) hb)
           replace BK669 := Mk (blk_below (blk_up BK669.out) hb)
           replace BK676 := Mk (blk_below (blk_up BK676.out) hb)
           replace HB := Mk (below_step (B_set HB.out) hb)
           (try clear hb)
           (try clear hb2)
           (try clear hk)
           (try clear hi)
           have hcap_ : t634 ≤ (co12 : Int) := by have h_ := (Kd.R_reads' HO_3.out).2.1;have h2_ : t634 ≤ (t624.length : Int) := ofd;omega
           replace hcap_ := eq_true hcap_
           have q132 : (t625 : Int) ≤ ((t624.length : Int) : Int) := ofd
           obtain ⟨i0132,hi0132,_,hsz132,_⟩ := info_parts info5
           have hroom132 : t624.length ≤ co12 := (Kd.R_reads' HO_3.out).2.1
           have hC132 : Kd.C (Kd.int .u8) _ Ao12 t624.length t624 := (Kd.R_reads' HO_3.out).2.2
           have hcut132 := cut_to (P := Try.prog) 22 5 .i64 Try.underlying22 hi0132 Ao12 t624.length co12 t625 ofd q132 hroom132
           have hr132 := Kd.C_take (m := (t625 : Int).toNat) hC132 (by omega)
           have hy132 : y692.length = (t625 : Int).toNat := (by rw [Ny692.out,List.length_take];omega)
           rw [← Ny692.out] at hr132
           rw [← hy132] at hcut132
           have HR695 := Mk hr132
           have HC695 := Mk (show y692.length ≤ co12 from by omega)
           clear hr132 hC132 hroom132 hi0132 hsz132
           have KY132 := Mk hy132
           clear hy132
           have KL132 := Mk (show (t625 : Int).toNat ≤ t624.length from by omega)
           replace q132 := eq_true q132
           refine hK.out _ _ ⟨(blk_cell BK636.out 0).trans rfl,(blk_cell BK636.out 1).trans rfl,(blk_cell BK636.out 2).trans rfl,(blk_cell BK636.out 3).trans rfl⟩ (fun hHeld => ?_)
           clear hK K
           refine norm_ (a' := ?_) ?_ ?_
           rotate_left
           ·show Act.put _ (some 102) _ = _
            simp only [Act.put,List.setIfInBounds_toArray,List.set_cons_zero,List.set_cons_succ,i64_w,i32_w]
            rfl
           refine pure_ (i := 2) (N := some 103) (v := ?_) (a' := ?_) #[true,true,true,false,false,false,false,false,false,false,false,false,false,false] rfl rfl (any_of HT_.out (by kernel_rfl)) (fun _ _ _ h => h) (Or.inl ⟨by rfl,?_⟩) ?_ ?_
           rotate_left
           ·intro w'
            go_simp
            with_reducible rfl
           rotate_left
           ·simp only [Act.put,List.setIfInBounds_toArray,List.set_cons_zero,List.set_cons_succ,i64_w,i32_w]
            rfl
           refine pure_ (i := 3) (N := some 104) (v := ?_) (a' := ?_) #[true,true,true,true,false,false,false,false,false,false,false,false,false,false] rfl rfl (any_of HT_.out (by kernel_rfl)) (fun _ _ _ h => h) (Or.inl ⟨by rfl,?_⟩) ?_ ?_
           rotate_left
           ·intro w'
            go_simp
            with_reducible rfl
           rotate_left
           ·simp only [Act.put,List.setIfInBounds_toArray,List.set_cons_zero,List.set_cons_succ,i64_w,i32_w]
            rfl
           refine pure_ (i := 4) (N := some 105) (v := ?_) (a' := ?_) #[true,true,true,true,true,false,false,false,false,false,false,false,false,false] rfl rfl (any_of HT_.out (by kernel_rfl)) (fun _ _ _ h => h) (Or.inl ⟨by rfl,?_⟩) ?_ ?_
           rotate_left
           ·intro w'
            go_simp
            with_reducible rfl
           rotate_left
           ·simp only [Act.put,List.setIfInBounds_toArray,List.set_cons_zero,List.set_cons_succ,i64_w,i32_w]
            rfl
           refine pure_ (i := 5) (N := some 106) (v := ?_) (a' := ?_) #[true,true,true,true,true,true,false,false,false,false,false,false,false,false] rfl rfl (any_of HT_.out (by kernel_rfl)) (fun _ _ _ h => h) (Or.inl ⟨by rfl,?_⟩) ?_ ?_
           rotate_left
           ·intro w'
            go_simp
            with_reducible rfl
           rotate_left
           ·simp only [Act.put,List.setIfInBounds_toArray,List.set_cons_zero,List.set_cons_succ,i64_w,i32_w]
            rfl
           refine pure_ (i := 8) (N := some 109) (v := ?_) (a' := ?_) #[true,true,true,true,true,true,false,false,true,false,false,false,false,false] rfl rfl (any_of HT_.out (by kernel_rfl)) (fun _ _ _ h => h) (Or.inl ⟨by rfl,?_⟩) ?_ ?_
           rotate_left
           ·intro w'
            go_simp
            with_reducible rfl
           rotate_left
           ·simp only [Act.put,List.setIfInBounds_toArray,List.set_cons_zero,List.set_cons_succ,i64_w,i32_w]
            rfl
           refine pure_ (i := 9) (N := some 110) (v := ?_) (a' := ?_) #[true,true,true,true,true,true,false,false,true,true,false,false,false,false] rfl rfl (any_of HT_.out (by kernel_rfl)) (fun _ _ _ h => h) (Or.inl ⟨by rfl,?_⟩) ?_ ?_
           rotate_left
           ·intro w'
            go_simp
            with_reducible rfl
           rotate_left
           ·simp only [Act.put,List.setIfInBounds_toArray,List.set_cons_zero,List.set_cons_succ,i64_w,i32_w]
            rfl
           refine pure_ (i := 10) (N := some 111) (v := ?_) (a' := ?_) #[true,true,true,true,true,true,false,false,true,true,true,false,false,false] rfl rfl (any_of HT_.out (by kernel_rfl)) (fun _ _ _ h => h) (Or.inl ⟨by rfl,?_⟩) ?_ ?_
           rotate_left
           ·intro w'
            go_simp
            with_reducible rfl
           rotate_left
           ·simp only [Act.put,List.setIfInBounds_toArray,List.set_cons_zero,List.set_cons_succ,i64_w,i32_w]
            rfl
           refine take_ (i := 6) (N := some 107) (v := ?_) (a' := ?_) #[true,true,true,true,true,true,true,false,true,true,true,false,false,false] rfl rfl (take_ofW HT_.out HW_.out (by kernel_rfl)) (fun _ _ _ h => h) (Or.inl ⟨by rfl,?_⟩) hHeld ?_ ?_
           rotate_left
           ·rintro w' ⟨s0,s1,s2,s3⟩
            go_simp
            with_reducible rfl
           rotate_left
           ·simp only [Act.put,List.setIfInBounds_toArray,List.set_cons_zero,List.set_cons_succ,i64_w,i32_w]
            rfl
           refine one_ (i := 7) (N := some 108) #[true,true,true,true,true,true,true,true,true,true,true,false,false,false] rfl rfl (one_of HT_.out (by kernel_rfl)) (by decide) (fun K hK => ?_)
           refine goes_ Try.func13 (by kernel_rfl) rfl #[.slice Ao12 y692.length co12,.agg #[.int .i64 t628,.int .i64 t629,.int .i64 t630,.slice Ao16 t631.length co16]] (by rfl) rfl rfl eq_up ?_
           with_reducible refine (impl_PutMan.calls kj9 _ _ y692 t628 t629 t630 _ _ t631 t696 _ ?side1 ?side2 ?side3 ?side4 A126.out).mono ?_
           (case side1 => repeat (first | exact (by repeat (first | (with_reducible exact HR695.out) | (with_reducible refine Kd.C_alloc ?_ _) | (with_reducible refine Kd.C_drewN ?_ _) | (with_reducible refine Kd.C_drew ?_) | exact HR695.out)) | (with_reducible refine Kd.C_alloc ?_ _) | (with_reducible refine Kd.C_drewN ?_ _) | (with_reducible refine Kd.C_drew ?_)))
           (case side2 => exact HC695.out)
           (case side3 => exact Kd.C_up (Kd.R_reads' HO_637003.out).2.2)
           (case side4 => exact (Kd.R_reads' HO_637003.out).2.1)
           rintro e w133 ⟨v697,rfl,ho0,hb⟩
           refine ⟨_,rfl,?_⟩
           replace HO_637003 := Mk (Kd.R_below (Kd.R_up HO_637003.out) hb)
           replace HO_646003 := Mk (Kd.R_below (Kd.R_up HO_646003.out) hb)
           replace HO_656003 := Mk (Kd.R_below (Kd.R_up HO_656003.out) hb)
           replace HO_669003 := Mk (Kd.R_below (Kd.R_up HO_669003.out) hb)
           replace HO_670003 := Mk (Kd.R_below (Kd.R_up HO_670003.out) hb)
           replace HO_677003 := Mk (Kd.R_below (Kd.R_up HO_677003.out) hb)
           have HO698 := Mk (Kd.R_lower (Kd.R_new' ho0 (Kd.R_lt (Kd.R_up HO_3.out))) (below_size (B_set HB.out)))
           replace HO_3 := Mk (Kd.R_elder' (Kd.R_up HO_3.out) (Kd.R_base ho0) hb)
           replace BK636 := Mk (blk_below (blk_up BK636.out) hb)
           replace BK645 := Mk (blk_below (blk_up BK645.out) hb)
           replace BK655 := Mk (blk_below (blk_up BK655.out) hb)
           replace BK668 := Mk (blk_below (blk_up BK668.out) hb)
           replace BK669 := Mk (blk_below (blk_up BK669.out) hb)
           replace BK676 := Mk (blk_below (blk_up BK676.out) hb)
           replace HR695 := Mk (Kd.C_below (by repeat (first | (with_reducible exact HR695.out) | (with_reducible refine Kd.C_alloc ?_ _) | (with_reducible refine Kd.C_drewN ?_ _) | (with_reducible refine Kd.C_drew ?_) | exact HR695.out)) hb)
           replace HB := Mk (below_step (B_set HB.out) hb)
           (try clear hb)
           (try clear hb2)
           (try clear hk)
           (try clear hi)
           (try clear ho0)
           have q134 : (t634 : Int) ≤ ((t624.length : Int) : Int) := ofd
           obtain ⟨i0134,hi0134,_,hsz134,_⟩ := info_parts info5
           have hroom134 : t624.length ≤ co12 := (Kd.R_reads' HO_3.out).2.1
           have hC134 : Kd.C (Kd.int .u8) _ Ao12 t624.length t624 := (Kd.R_reads' HO_3.out).2.2
           have hcut134 := cut_to (P := Try.prog) 22 5 .i64 Try.underlying22 hi0134 Ao12 t624.length co12 t634 ofd q134 hroom134
           have hr134 := Kd.C_take (m := (t634 : Int).toNat) hC134 (by omega)
           have hy134 : y699.length = (t634 : Int).toNat := (by rw [Ny699.out,List.length_take];omega)
           rw [← Ny699.out] at hr134
           rw [← hy134] at hcut134
           have HR702 := Mk hr134
           have HC702 := Mk (show y699.length ≤ co12 from by omega)
           clear hr134 hC134 hroom134 hi0134 hsz134
           have KY134 := Mk hy134
           clear hy134
           have KL134 := Mk (show (t634 : Int).toNat ≤ t624.length from by omega)
           replace q134 := eq_true q134
           obtain ⟨Ao135,co135,eo135⟩ := Kd.R_slice HO698.out
           (first | subst eo135 | (injection eo135 with f1_ f2_ f3_;have f4_ := f1_.symm;have f5_ := f3_.symm;clear f1_ f2_ f3_;subst f4_;subst f5_))
           refine hK.out _ _ ⟨(blk_cell BK636.out 0).trans rfl,(blk_cell BK636.out 1).trans rfl,(blk_cell BK636.out 2).trans rfl,(blk_cell BK636.out 3).trans rfl⟩ (fun hHeld => ?_)
           clear hK K
           refine norm_ (a' := ?_) ?_ ?_
           rotate_left
           ·show Act.put _ (some 108) _ = _
            simp only [Act.put,List.setIfInBounds_toArray,List.set_cons_zero,List.set_cons_succ,i64_w,i32_w]
            rfl
           refine one_ (i := 11) (N := some 112) #[true,true,true,true,true,true,true,true,true,true,true,true,false,false] rfl rfl (one_of HT_.out (by kernel_rfl)) (by decide) (fun K hK => ?_)
           refine goes_ Try.func12 (by kernel_rfl) rfl #[.slice Ao135 t696.length co135,.slice Ao12 y699.length co12] (by rfl) rfl rfl (by go_simp;exact KY134.out.symm) ?_
           with_reducible refine (laws_same.calls kj9 _ _ t696 _ _ y699 t703 _ ?side1 ?side2 ?side3 ?side4 A129.out).mono ?_
           (case side1 => exact Kd.C_up (Kd.R_reads' HO698.out).2.2)
           (case side2 => exact (Kd.R_reads' HO698.out).2.1)
           (case side3 => repeat (first | exact (by repeat (first | (with_reducible exact HR702.out) | (with_reducible refine Kd.C_alloc ?_ _) | (with_reducible refine Kd.C_drewN ?_ _) | (with_reducible refine Kd.C_drew ?_) | exact HR702.out)) | (with_reducible refine Kd.C_alloc ?_ _) | (with_reducible refine Kd.C_drewN ?_ _) | (with_reducible refine Kd.C_drew ?_)))
           (case side4 => exact HC702.out)
           rintro e w' ⟨rfl,⟨nd,rfl⟩⟩
           refine ⟨_,rfl,?_⟩
           refine hK.out _ _ ⟨(blk_cell BK636.out 0).trans rfl,(blk_cell BK636.out 1).trans rfl,(blk_cell BK636.out 2).trans rfl,(blk_cell BK636.out 3).trans rfl⟩ (fun hHeld => ?_)
           clear hK K
           refine norm_ (a' := ?_) ?_ ?_
           rotate_left
           ·show Act.put _ (some 112) _ = _
            simp only [Act.put,List.setIfInBounds_toArray,List.set_cons_zero,List.set_cons_succ,i64_w,i32_w]
            rfl
           refine pure_ (i := 12) (N := some 113) (v := ?_) (a' := ?_) #[true,true,true,true,true,true,true,true,true,true,true,true,true,false] rfl rfl (any_of HT_.out (by kernel_rfl)) (fun _ _ _ h => h) (Or.inl ⟨by rfl,?_⟩) ?_ ?_
           rotate_left
           ·intro w'
            go_simp
            with_reducible rfl
           rotate_left
           ·simp only [Act.put,List.setIfInBounds_toArray,List.set_cons_zero,List.set_cons_succ,i64_w,i32_w]
            rfl
           refine pure_ (i := 13) (N := some 2) (v := ?_) (a' := ?_) #[true,true,true,true,true,true,true,true,true,true,true,true,true,true] rfl rfl (any_of HT_.out (by kernel_rfl)) (fun _ _ _ h => h) (Or.inl ⟨by rfl,?_⟩) ?_ ?_
           rotate_left
           ·intro w'
            go_simp
            with_reducible rfl
           rotate_left
           ·simp only [Act.put,List.setIfInBounds_toArray,List.set_cons_zero,List.set_cons_succ,i64_w,i32_w]
            rfl
           refine done_ (done_of HT_.out (by kernel_rfl)) ?_
           try go_wp2
           go_ret
           exact ⟨err_,B_set HB.out⟩
          ·rw [if_neg c128] at H
           exact absurd H (by simp)
         ·rw [if_neg c127] at H
          exact absurd H (by simp)
        ·rw [if_neg c125] at H
         exact absurd H (by simp)
       ·rw [if_neg c124] at H
        exact absurd H (by simp)
      ·replace c123 := Bool.eq_false_iff.mpr c123
       subst c123
       have H1 : (some false) = some r := by rw [if_neg (show ¬ (false = true) by decide)] at H;exact H
       clear H
       have H := H1
       clear H1
       obtain rfl := Option.some.inj H
       cases hrt
     ·replace c121 := Bool.eq_false_iff.mpr c121
      subst c121
      have H1 : ((laws_sameMan.f kj9 t628 t629 t630 t631 0 0 0 ([] : List (S56))).bind fun t704 => (some t704)) = some r := by rw [if_neg (show ¬ (false = true) by decide)] at H;exact H
      clear H
      have H := H1
      clear H1
      replace H := Option.bind_eq_some_iff.mp H
      obtain ⟨t704,A1380,H⟩ := H
      replace H : (some t704) = some r := H
      have A138 := Mk A1380
      clear A1380
      obtain rfl := Option.some.inj H
      have hnb139 := NB636_645.out
      have hnc139 := NB645_636.out
      have hnb140 := NB636_655.out
      have hnc140 := NB655_636.out
      have hnb141 := NB636_668.out
      have hnc141 := NB668_636.out
      have hnb142 := NB636_669.out
      have hnc142 := NB669_636.out
      have hnb143 := NB636_676.out
      have hnc143 := NB676_636.out
      obtain ⟨hcz144_0,hcz144_1,hcz144_2,hcz144_3⟩ := cz4 BK636.out
      obtain ⟨hfz144_0,hfz144_1,hfz144_2,hfz144_3⟩ := fz4 BK636.out
      go_wp2_with (first | ((with_reducible refine gate_callee (f := 11) rfl ?_);refine goesL_ (some 100) rfl rfl Try.func11 (by kernel_rfl) rfl #[.agg #[.int .i64 t628,.int .i64 t629,.int .i64 t630,.slice Ao16 t631.length co16],.agg #[.int .i64 0,.int .i64 0,.int .i64 0,.slice none 0 0]] rfl eq_up ?_;(refine (laws_sameMan.calls kj9 t628 t629 t630 _ _ t631 0 0 0 _ _ ([] : List (S56)) t704 _ ?side1 ?side2 ?side3 ?side4 A138.out).mono ?_);(case side1 => exact Kd.C_up (Kd.R_reads' HO_637003.out).2.2);(case side2 => exact (Kd.R_reads' HO_637003.out).2.1);(case side3 => exact Kd.C_nil _ _);(case side4 => exact Nat.le_refl _);rintro e w145 ⟨rfl,hb⟩;refine ⟨_,rfl,?_⟩;replace HO_3 := Mk (Kd.R_below (Kd.R_up HO_3.out) hb);replace HO_637003 := Mk (Kd.R_below (Kd.R_up HO_637003.out) hb);replace HO_646003 := Mk (Kd.R_below (Kd.R_up HO_646003.out) hb);replace HO_656003 := Mk (Kd.R_below (Kd.R_up HO_656003.out) hb);replace HO_669003 := Mk (Kd.R_below (Kd.R_up HO_669003.out) hb);replace HO_670003 := Mk (Kd.R_below (Kd.R_up HO_670003.out) hb);replace HO_677003 := Mk (Kd.R_below (Kd.R_up HO_677003.out) hb);replace BK636 := Mk (blk_below (blk_up BK636.out) hb);replace BK645 := Mk (blk_below (blk_up BK645.out) hb);replace BK655 := Mk (blk_below (blk_up BK655.out) hb);replace BK668 := Mk (blk_below (blk_up BK668.out) hb);replace BK669 := Mk (blk_below (blk_up BK669.out) hb);replace BK676 := Mk (blk_below (blk_up BK676.out) hb);replace HB := Mk (below_step (B_set HB.out) hb);(try clear hb);(try clear hb2);(try clear hk);(try clear hi)))
      go_ret
      exact ⟨err_,B_set HB.out⟩

/-- THE ONE PURE STATEMENT of laws_FnMansBent: yours. -/
def laws_FnMansBent.Pure : Prop := ∀ (l0 : List Int),l0.length ≤ maxLen → l0.length * 1 ≤ 140737488351232 → (∀ x ∈ l0,(Lit.int .u8 x).wf = true) → ∃ k,laws_FnMansBent.f k l0 = some true
theorem laws_FnMansBent.walk (P : laws_FnMansBent.Pure) (a0 : Option Addr) (len0 cap0 : Nat) (z0 : List Int) (w : World) (w0 : (a0 = none ∧ len0 = 0 ∧ cap0 = 0 ∧ z0 = []) ∨ ∃ x,a0 = some x ∧ len0 ≤ cap0 ∧ cap0 ≤ maxLen ∧ z0.length = cap0 ∧ (∀ i,i < z0.length → w.cell? (x.add i) = some (.int .u8 (z0.getD i 0))) ∧ ∀ n ∈ z0,(Lit.int .u8 n).wf = true) (y0 : len0 * 1 ≤ 140737488351232) :
  Calls Try.prog 3 #[.slice a0 len0 cap0] w fun e w' => e = .returned (.bool true) ∧ Below w.heap.size w w' := by
 obtain ⟨l0,rfl,hr0,hm0,hw0,hc0⟩ := ReadsInt.ofRowC w0
 obtain ⟨k,h⟩ := P l0 hm0 y0 hw0
 refine (laws_FnMansBent.calls k _ _ l0 true w (Kd.C_of_reads (d := (0 : Int)) (h1 := fun _ => rfl) hr0) hc0 h rfl).mono ?_
 rintro e w' ⟨rfl,hd⟩
 exact ⟨rfl,hd⟩

end Go.Proofs.Ytdodnhjglpidlaa.PFnMansBent
