-- by a program of this session (a turned copy of the print: make with a capacity)
import Derived.Test.YtfmhhjlhaklljaaPFnBlocksx0
import Derived.Test.YtfmhhjlhaklljaaPFnBlocksx1
import Derived.Test.YtfmhhjlhaklljaaPFnBlocksx2
import Derived.Test.YtfmhhjlhaklljaaPFnBlocksx3
import Derived.Test.YtfmhhjlhaklljaaPFnBlocksx4
import Derived.Test.YtfmhhjlhaklljaaPFnBlocksx5
namespace Go.Proofs.Ytfmhhjlhaklljaa.PFnBlocks
open Go.RowKit Go.Proofs.YtfmhhjlhaklljaaW.PrintWords Go.Proofs.YtfmhhjlhaklljaaW.PrintLast Go.Proofs.YtfmhhjlhaklljaaW.PrintMore
attribute [local go_sem] max2_int min2_int max_two min_two max_three min_three max_four min_four   -- for this text's walks alone
set_option linter.unusedVariables false
set_option linter.unusedSimpArgs false

attribute [local go_sem high] eqA81
/-! ### laws_FnBlocks: function 11 -/
mutual
def laws_FnBlocks.j0 : Nat → List Int → Int → Int → List Int → Bool → List (S81) → Bool → Option (Bool)
 | 0,_,_,_,_,_,_,_ => none
 | k + 1,x3,x4,x5,x6,x7,x15,x99 => if x99 = true then (some false) else (if x7 = true then ((impl_SumOf.f k x6).bind fun bt364 => (laws_FnBlocks.j1 k x3 x4 x15 (bt364.2 != x5))) else (laws_FnBlocks.j1 k x3 x4 x15 false))
def laws_FnBlocks.j1 : Nat → List Int → Int → List (S81) → Bool → Option (Bool)
 | 0,_,_,_,_ => none
 | k + 1,x3,x4,x15,x107 => if x107 = true then (some false) else ((impl_SizeOk.f x4 (x3.length : Int)).bind fun t366 => (if t366 = true then (laws_FnBlocks.l0 k x3 x4 x15 (([] : List Int)) 0) else (some ((x15.length : Int) == 0))))
def laws_FnBlocks.l0 : Nat → List Int → Int → List (S81) → List Int → Int → Option (Bool)
 | 0,_,_,_,_,_ => none
 | k + 1,x3,x4,x15,x16,x17 => (impl_Blocks.f x4 (x3.length : Int)).bind fun t370 => (if x17 < t370 then ((impl_BlockAt.f x3 x4 x17).bind fun bt373 => (if 0 ≤ x17 then (if x17 < (x15.length : Int) then ((impl_BytesOf.f k ((rd_T81 x15 x17).f1)).bind fun bt378 => ((impl_SpanOf.f x4 (x3.length : Int) x17).bind fun bt382 => (if bt373.2 = true then (if bt378.2 = true then ((laws_same.f k bt373.1 bt378.1).bind fun t384 => (if t384 = true then ((impl_SumOf.f k bt373.1).bind fun bt385 => (if (!(bt385.1 == ((rd_T81 x15 x17).f0)) || (!(bt385.2 == ((rd_T81 x15 x17).f1)))) = true then (some false) else (if bt382.1 = (x16.length : Int) then (if bt382.2 = (bt373.1.length : Int) then (if x16.length + bt373.1.length < 140737488355328 then (laws_FnBlocks.l0 k x3 x4 x15 (x16 ++ bt373.1) (wrap64 (x17 + 1))) else (none)) else (some false)) else (some false)))) else (some false))) else (some false)) else (some false)))) else (none)) else (none))) else ((laws_same.f k x16 x3).bind fun t371 => (if t371 = true then ((impl_Blocks.f x4 (x3.length : Int)).bind fun t372 => (some ((x15.length : Int) == t372))) else (some false))))
end
def laws_FnBlocks.f (k : Nat) (l0 : List Int) : Option (Bool) := (laws_big.f l0).bind fun t327 => (if t327 = true then (some true) else ((spec_DrawSumsOf.f k l0).bind fun bt328 => ((spec_DrawBytesOf.f k l0).bind fun t332 => ((impl_BytesOf.f k t332).bind fun bt333 => ((spec_BytesOf.f k t332).bind fun bt337 => ((spec_DrawSumOf.f k l0).bind fun t341 => ((spec_DrawBlocks.f k l0).bind fun bt344 => ((spec_DrawSizeOk.f k l0).bind fun bt346 => ((impl_SumsOf.f k bt328.1 bt328.2).bind fun t348 => ((spec_SumsOf.f k bt328.1 bt328.2).bind fun t351 => ((laws_sameSums.f k t348 t351).bind fun t354 => (if t354 = true then ((laws_same.f k bt333.1 bt337.1).bind fun t355 => (if t355 = true then (if (bt333.2 != bt337.2) = true then (laws_FnBlocks.j0 k bt328.1 bt328.2 t332 bt333.1 bt333.2 t348 true) else ((impl_SumOf.f k t341).bind fun bt356 => ((spec_SumOf.f k t341).bind fun bt358 => (if (!(bt356.1 == bt358.1) || (!(bt356.2 == bt358.2))) = true then (laws_FnBlocks.j0 k bt328.1 bt328.2 t332 bt333.1 bt333.2 t348 true) else ((impl_Blocks.f bt344.1 bt344.2).bind fun t360 => ((spec_Blocks.f bt344.1 bt344.2).bind fun t361 => (if t360 = t361 then ((impl_SizeOk.f bt346.1 bt346.2).bind fun t362 => ((spec_SizeOk.f bt346.1 bt346.2).bind fun t363 => (laws_FnBlocks.j0 k bt328.1 bt328.2 t332 bt333.1 bt333.2 t348 (t362 != t363)))) else (laws_FnBlocks.j0 k bt328.1 bt328.2 t332 bt333.1 bt333.2 t348 true)))))))) else (laws_FnBlocks.j0 k bt328.1 bt328.2 t332 bt333.1 bt333.2 t348 true))) else (laws_FnBlocks.j0 k bt328.1 bt328.2 t332 bt333.1 bt333.2 t348 true)))))))))))))
theorem laws_FnBlocks.mono_l : ∀ k,(∀ y0 y1 y2 y3 y4 y5 y6,LeO (laws_FnBlocks.j0 k y0 y1 y2 y3 y4 y5 y6) (laws_FnBlocks.j0 (k + 1) y0 y1 y2 y3 y4 y5 y6)) ∧ (∀ y0 y1 y2 y3,LeO (laws_FnBlocks.j1 k y0 y1 y2 y3) (laws_FnBlocks.j1 (k + 1) y0 y1 y2 y3)) ∧ (∀ y0 y1 y2 y3 y4,LeO (laws_FnBlocks.l0 k y0 y1 y2 y3 y4) (laws_FnBlocks.l0 (k + 1) y0 y1 y2 y3 y4))
 | 0 => ⟨fun _ _ _ _ _ _ _ r h => by simp [laws_FnBlocks.j0] at h,fun _ _ _ _ r h => by simp [laws_FnBlocks.j1] at h,fun _ _ _ _ _ r h => by simp [laws_FnBlocks.l0] at h⟩
 | k + 1 => by
  obtain ⟨ih0,ih1,ih2⟩ := laws_FnBlocks.mono_l k
  refine ⟨?_,?_,?_⟩
  ·intro y0 y1 y2 y3 y4 y5 y6
   unfold laws_FnBlocks.j0
   repeat' first
   | (with_reducible exact ih0 _ _ _ _ _ _ _)
   | (with_reducible exact ih1 _ _ _ _)
   | (with_reducible exact ih2 _ _ _ _ _)
   | (with_reducible exact impl_BytesOf.mono _ _)
   | (with_reducible exact impl_SumOf.mono _ _)
   | (with_reducible exact impl_SumsOf.mono _ _ _)
   | (with_reducible exact laws_same.mono _ _ _)
   | (with_reducible exact laws_sameSums.mono _ _ _)
   | (with_reducible exact spec_BytesOf.mono _ _)
   | (with_reducible exact spec_DrawBlocks.mono _ _)
   | (with_reducible exact spec_DrawBytesOf.mono _ _)
   | (with_reducible exact spec_DrawSizeOk.mono _ _)
   | (with_reducible exact spec_DrawSumOf.mono _ _)
   | (with_reducible exact spec_DrawSumsOf.mono _ _)
   | (with_reducible exact spec_SumOf.mono _ _)
   | (with_reducible exact spec_SumsOf.mono _ _ _)
   | (with_reducible exact LeO.refl _)
   | (with_reducible exact LeO.none _)
   | (with_reducible refine LeO.ite ?_ ?_)
   | (with_reducible refine LeO.bind ?_ (fun _ => ?_))
   | exact ih0 _ _ _ _ _ _ _
   | exact ih1 _ _ _ _
   | exact ih2 _ _ _ _ _
   | exact impl_BytesOf.mono _ _
   | exact impl_SumOf.mono _ _
   | exact impl_SumsOf.mono _ _ _
   | exact laws_same.mono _ _ _
   | exact laws_sameSums.mono _ _ _
   | exact spec_BytesOf.mono _ _
   | exact spec_DrawBlocks.mono _ _
   | exact spec_DrawBytesOf.mono _ _
   | exact spec_DrawSizeOk.mono _ _
   | exact spec_DrawSumOf.mono _ _
   | exact spec_DrawSumsOf.mono _ _
   | exact spec_SumOf.mono _ _
   | exact spec_SumsOf.mono _ _ _
   | exact LeO.none _
   | refine LeO.ite ?_ ?_
   | refine LeO.bind ?_ (fun _ => ?_)
  ·intro y0 y1 y2 y3
   unfold laws_FnBlocks.j1
   repeat' first
   | (with_reducible exact ih0 _ _ _ _ _ _ _)
   | (with_reducible exact ih1 _ _ _ _)
   | (with_reducible exact ih2 _ _ _ _ _)
   | (with_reducible exact impl_BytesOf.mono _ _)
   | (with_reducible exact impl_SumOf.mono _ _)
   | (with_reducible exact impl_SumsOf.mono _ _ _)
   | (with_reducible exact laws_same.mono _ _ _)
   | (with_reducible exact laws_sameSums.mono _ _ _)
   | (with_reducible exact spec_BytesOf.mono _ _)
   | (with_reducible exact spec_DrawBlocks.mono _ _)
   | (with_reducible exact spec_DrawBytesOf.mono _ _)
   | (with_reducible exact spec_DrawSizeOk.mono _ _)
   | (with_reducible exact spec_DrawSumOf.mono _ _)
   | (with_reducible exact spec_DrawSumsOf.mono _ _)
   | (with_reducible exact spec_SumOf.mono _ _)
   | (with_reducible exact spec_SumsOf.mono _ _ _)
   | (with_reducible exact LeO.refl _)
   | (with_reducible exact LeO.none _)
   | (with_reducible refine LeO.ite ?_ ?_)
   | (with_reducible refine LeO.bind ?_ (fun _ => ?_))
   | exact ih0 _ _ _ _ _ _ _
   | exact ih1 _ _ _ _
   | exact ih2 _ _ _ _ _
   | exact impl_BytesOf.mono _ _
   | exact impl_SumOf.mono _ _
   | exact impl_SumsOf.mono _ _ _
   | exact laws_same.mono _ _ _
   | exact laws_sameSums.mono _ _ _
   | exact spec_BytesOf.mono _ _
   | exact spec_DrawBlocks.mono _ _
   | exact spec_DrawBytesOf.mono _ _
   | exact spec_DrawSizeOk.mono _ _
   | exact spec_DrawSumOf.mono _ _
   | exact spec_DrawSumsOf.mono _ _
   | exact spec_SumOf.mono _ _
   | exact spec_SumsOf.mono _ _ _
   | exact LeO.none _
   | refine LeO.ite ?_ ?_
   | refine LeO.bind ?_ (fun _ => ?_)
  ·intro y0 y1 y2 y3 y4
   unfold laws_FnBlocks.l0
   repeat' first
   | (with_reducible exact ih0 _ _ _ _ _ _ _)
   | (with_reducible exact ih1 _ _ _ _)
   | (with_reducible exact ih2 _ _ _ _ _)
   | (with_reducible exact impl_BytesOf.mono _ _)
   | (with_reducible exact impl_SumOf.mono _ _)
   | (with_reducible exact impl_SumsOf.mono _ _ _)
   | (with_reducible exact laws_same.mono _ _ _)
   | (with_reducible exact laws_sameSums.mono _ _ _)
   | (with_reducible exact spec_BytesOf.mono _ _)
   | (with_reducible exact spec_DrawBlocks.mono _ _)
   | (with_reducible exact spec_DrawBytesOf.mono _ _)
   | (with_reducible exact spec_DrawSizeOk.mono _ _)
   | (with_reducible exact spec_DrawSumOf.mono _ _)
   | (with_reducible exact spec_DrawSumsOf.mono _ _)
   | (with_reducible exact spec_SumOf.mono _ _)
   | (with_reducible exact spec_SumsOf.mono _ _ _)
   | (with_reducible exact LeO.refl _)
   | (with_reducible exact LeO.none _)
   | (with_reducible refine LeO.ite ?_ ?_)
   | (with_reducible refine LeO.bind ?_ (fun _ => ?_))
   | exact ih0 _ _ _ _ _ _ _
   | exact ih1 _ _ _ _
   | exact ih2 _ _ _ _ _
   | exact impl_BytesOf.mono _ _
   | exact impl_SumOf.mono _ _
   | exact impl_SumsOf.mono _ _ _
   | exact laws_same.mono _ _ _
   | exact laws_sameSums.mono _ _ _
   | exact spec_BytesOf.mono _ _
   | exact spec_DrawBlocks.mono _ _
   | exact spec_DrawBytesOf.mono _ _
   | exact spec_DrawSizeOk.mono _ _
   | exact spec_DrawSumOf.mono _ _
   | exact spec_DrawSumsOf.mono _ _
   | exact spec_SumOf.mono _ _
   | exact spec_SumsOf.mono _ _ _
   | exact LeO.none _
   | refine LeO.ite ?_ ?_
   | refine LeO.bind ?_ (fun _ => ?_)
theorem laws_FnBlocks.mono : ∀ a0 k,LeO (laws_FnBlocks.f k a0) (laws_FnBlocks.f (k + 1) a0) := by
 intro a0 k
 obtain ⟨ih0,ih1,ih2⟩ := laws_FnBlocks.mono_l k
 unfold laws_FnBlocks.f
 repeat' first
   | (with_reducible exact ih0 _ _ _ _ _ _ _)
   | (with_reducible exact ih1 _ _ _ _)
   | (with_reducible exact ih2 _ _ _ _ _)
   | (with_reducible exact impl_BytesOf.mono _ _)
   | (with_reducible exact impl_SumOf.mono _ _)
   | (with_reducible exact impl_SumsOf.mono _ _ _)
   | (with_reducible exact laws_same.mono _ _ _)
   | (with_reducible exact laws_sameSums.mono _ _ _)
   | (with_reducible exact spec_BytesOf.mono _ _)
   | (with_reducible exact spec_DrawBlocks.mono _ _)
   | (with_reducible exact spec_DrawBytesOf.mono _ _)
   | (with_reducible exact spec_DrawSizeOk.mono _ _)
   | (with_reducible exact spec_DrawSumOf.mono _ _)
   | (with_reducible exact spec_DrawSumsOf.mono _ _)
   | (with_reducible exact spec_SumOf.mono _ _)
   | (with_reducible exact spec_SumsOf.mono _ _ _)
   | (with_reducible exact LeO.refl _)
   | (with_reducible exact LeO.none _)
   | (with_reducible refine LeO.ite ?_ ?_)
   | (with_reducible refine LeO.bind ?_ (fun _ => ?_))
   | exact ih0 _ _ _ _ _ _ _
   | exact ih1 _ _ _ _
   | exact ih2 _ _ _ _ _
   | exact impl_BytesOf.mono _ _
   | exact impl_SumOf.mono _ _
   | exact impl_SumsOf.mono _ _ _
   | exact laws_same.mono _ _ _
   | exact laws_sameSums.mono _ _ _
   | exact spec_BytesOf.mono _ _
   | exact spec_DrawBlocks.mono _ _
   | exact spec_DrawBytesOf.mono _ _
   | exact spec_DrawSizeOk.mono _ _
   | exact spec_DrawSumOf.mono _ _
   | exact spec_DrawSumsOf.mono _ _
   | exact spec_SumOf.mono _ _
   | exact spec_SumsOf.mono _ _ _
   | exact LeO.none _
   | refine LeO.ite ?_ ?_
   | refine LeO.bind ?_ (fun _ => ?_)
def laws_FnBlocks.T24 : Bool × List (List Nat × List Nat) := (true,[([],[]),([0],[0]),([1],[1]),([2],[2]),([3,2],[2,3]),([2,4],[2,4]),([5,2],[5]),([6],[6]),([6],[6]),([7,8,6,6],[6,7,8]),([9,6],[6,9]),([6,10],[6,10]),([11,9],[11]),([12],[12]),([13,12,12],[12,13]),([12],[12]),([12],[12]),([15,16,12],[12,15,16]),([17,12],[12,17]),([14,18,12],[12,14,18]),([12,19],[12,19]),([20,14],[20]),([21],[21]),([21],[21]),([23,21],[21,23]),([22,24,21],[21,22,24]),([21,25],[21,25]),([26,21],[26]),([27],[27]),([27],[27]),([29,27],[27,29]),([28,30,27],[27,28,30]),([27,31],[27,31])])
def laws_FnBlocks.B24 : List Nat := [0,1,3,7,15,31,63,127,127,511,1023,2047,4095,8191,16383,8191,8191,106495,237567,524287,1048575,2097151,4194303,4194303,12582911,33554431,67108863,134217727,268435455,268435455,805306367,2147483647,4294967295]
theorem laws_FnBlocks.tab24 : rtab .any (opsOf Try.f11 24) = laws_FnBlocks.T24 := by kernel_rfl
theorem laws_FnBlocks.bits24 : waitsOk laws_FnBlocks.T24.2 laws_FnBlocks.B24 = true := by kernel_rfl
set_option maxHeartbeats 8000000 in
set_option maxRecDepth 100000 in
theorem laws_FnBlocks.calls (k : Nat) (A0 : Option Addr) (c0 : Nat) (l0 : List Int) (r : Bool) (w : World) (hr0 : Kd.C (Kd.int .u8) w A0 l0.length l0) (hc0 : l0.length ≤ c0) (h : laws_FnBlocks.f k l0 = some r) :
  Calls Try.prog 11 #[.slice A0 l0.length c0] w fun e w' => e = .returned (.bool r) ∧ Below w.heap.size w w' := by
 have hu81 := Try.underlying81
 have hf81_0 : ∀ (a_ b_ : Int) (W_ : World),(Instr.field 81 (.agg #[.int .i64 a_,.int .i64 b_]) 0).run Try.prog W_ = .ok (.int .i64 a_) W_ := fun _ _ _ => by kernel_rfl
 have hf81_1 : ∀ (a_ b_ : Int) (W_ : World),(Instr.field 81 (.agg #[.int .i64 a_,.int .i64 b_]) 1).run Try.prog W_ = .ok (.int .i64 b_) W_ := fun _ _ _ => by kernel_rfl
 have HR0 := Aside0.mk hr0
 have HC0 := Aside0.mk hc0
 clear hr0 hc0
 have HB := Aside0.mk (Below.refl w.heap.size w)
 have H : ((laws_big.f l0).bind fun t327 => (if t327 = true then (some true) else ((spec_DrawSumsOf.f k l0).bind fun bt328 => ((spec_DrawBytesOf.f k l0).bind fun t332 => ((impl_BytesOf.f k t332).bind fun bt333 => ((spec_BytesOf.f k t332).bind fun bt337 => ((spec_DrawSumOf.f k l0).bind fun t341 => ((spec_DrawBlocks.f k l0).bind fun bt344 => ((spec_DrawSizeOk.f k l0).bind fun bt346 => ((impl_SumsOf.f k bt328.1 bt328.2).bind fun t348 => ((spec_SumsOf.f k bt328.1 bt328.2).bind fun t351 => ((laws_sameSums.f k t348 t351).bind fun t354 => (if t354 = true then ((laws_same.f k bt333.1 bt337.1).bind fun t355 => (if t355 = true then (if (bt333.2 != bt337.2) = true then (laws_FnBlocks.j0 k bt328.1 bt328.2 t332 bt333.1 bt333.2 t348 true) else ((impl_SumOf.f k t341).bind fun bt356 => ((spec_SumOf.f k t341).bind fun bt358 => (if (!(bt356.1 == bt358.1) || (!(bt356.2 == bt358.2))) = true then (laws_FnBlocks.j0 k bt328.1 bt328.2 t332 bt333.1 bt333.2 t348 true) else ((impl_Blocks.f bt344.1 bt344.2).bind fun t360 => ((spec_Blocks.f bt344.1 bt344.2).bind fun t361 => (if t360 = t361 then ((impl_SizeOk.f bt346.1 bt346.2).bind fun t362 => ((spec_SizeOk.f bt346.1 bt346.2).bind fun t363 => (laws_FnBlocks.j0 k bt328.1 bt328.2 t332 bt333.1 bt333.2 t348 (t362 != t363)))) else (laws_FnBlocks.j0 k bt328.1 bt328.2 t332 bt333.1 bt333.2 t348 true)))))))) else (laws_FnBlocks.j0 k bt328.1 bt328.2 t332 bt333.1 bt333.2 t348 true))) else (laws_FnBlocks.j0 k bt328.1 bt328.2 t332 bt333.1 bt333.2 t348 true)))))))))))))) = some r := h
 clear h
 replace H := Option.bind_eq_some_iff.mp H
 obtain ⟨t327,A20,H⟩ := H
 (try dsimp only at H)
 have A2 := Aside0.mk A20
 clear A20
 by_cases c3 : t327 = true
 ·subst c3
  rw [if_pos rfl] at H
  obtain rfl := Option.some.inj H
  go_enter Try.func11,Try.ntmps11
  go_wp2_with (first | ((with_reducible refine gate_callee (f := 12) rfl ?_);refine goesL_ (some 25) rfl rfl Try.func12 (by kernel_rfl) rfl #[.slice A0 l0.length c0] rfl (by (try simp only [List.map_toArray,List.map_cons,List.map_nil]);first | done | rfl | (simp only [List.length_drop,List.length_take];rfl)) ?_;(with_reducible refine (laws_big.calls _ _ l0 true _ ?side1 ?side2 A2.out).mono ?_);(case side1 => exact Kd.C_up HR0.out);(case side2 => exact HC0.out);rintro e w' ⟨rfl,⟨nd,rfl⟩⟩;refine ⟨_,rfl,?_⟩))
  go_ret
  exact ⟨by first | rfl | (simp [errW_none,errW_some] <;> rfl) | (simp [*,errW_none,errW_some] <;> rfl),by repeat (first | (with_reducible first | exact HB.out | apply below_alloc | apply pw_below_drewN | apply below_drew1) | exact HB.out)⟩
 ·replace c3 := Bool.eq_false_iff.mpr c3
  subst c3
  have H1 : ((spec_DrawSumsOf.f k l0).bind fun bt328 => ((spec_DrawBytesOf.f k l0).bind fun t332 => ((impl_BytesOf.f k t332).bind fun bt333 => ((spec_BytesOf.f k t332).bind fun bt337 => ((spec_DrawSumOf.f k l0).bind fun t341 => ((spec_DrawBlocks.f k l0).bind fun bt344 => ((spec_DrawSizeOk.f k l0).bind fun bt346 => ((impl_SumsOf.f k bt328.1 bt328.2).bind fun t348 => ((spec_SumsOf.f k bt328.1 bt328.2).bind fun t351 => ((laws_sameSums.f k t348 t351).bind fun t354 => (if t354 = true then ((laws_same.f k bt333.1 bt337.1).bind fun t355 => (if t355 = true then (if (bt333.2 != bt337.2) = true then (laws_FnBlocks.j0 k bt328.1 bt328.2 t332 bt333.1 bt333.2 t348 true) else ((impl_SumOf.f k t341).bind fun bt356 => ((spec_SumOf.f k t341).bind fun bt358 => (if (!(bt356.1 == bt358.1) || (!(bt356.2 == bt358.2))) = true then (laws_FnBlocks.j0 k bt328.1 bt328.2 t332 bt333.1 bt333.2 t348 true) else ((impl_Blocks.f bt344.1 bt344.2).bind fun t360 => ((spec_Blocks.f bt344.1 bt344.2).bind fun t361 => (if t360 = t361 then ((impl_SizeOk.f bt346.1 bt346.2).bind fun t362 => ((spec_SizeOk.f bt346.1 bt346.2).bind fun t363 => (laws_FnBlocks.j0 k bt328.1 bt328.2 t332 bt333.1 bt333.2 t348 (t362 != t363)))) else (laws_FnBlocks.j0 k bt328.1 bt328.2 t332 bt333.1 bt333.2 t348 true)))))))) else (laws_FnBlocks.j0 k bt328.1 bt328.2 t332 bt333.1 bt333.2 t348 true))) else (laws_FnBlocks.j0 k bt328.1 bt328.2 t332 bt333.1 bt333.2 t348 true)))))))))))) = some r := by rw [if_neg (show ¬ (false = true) by decide)] at H;exact H
  clear H
  have H := H1
  clear H1
  replace H := Option.bind_eq_some_iff.mp H
  obtain ⟨⟨t328,t329⟩,A40,H⟩ := H
  (try dsimp only at H)
  have A4 := Aside0.mk A40
  clear A40
  replace H := Option.bind_eq_some_iff.mp H
  obtain ⟨t332,A50,H⟩ := H
  (try dsimp only at H)
  have A5 := Aside0.mk A50
  clear A50
  replace H := Option.bind_eq_some_iff.mp H
  obtain ⟨⟨t333,t334⟩,A60,H⟩ := H
  (try dsimp only at H)
  have A6 := Aside0.mk A60
  clear A60
  replace H := Option.bind_eq_some_iff.mp H
  obtain ⟨⟨t337,t338⟩,A70,H⟩ := H
  (try dsimp only at H)
  have A7 := Aside0.mk A70
  clear A70
  replace H := Option.bind_eq_some_iff.mp H
  obtain ⟨t341,A80,H⟩ := H
  (try dsimp only at H)
  have A8 := Aside0.mk A80
  clear A80
  replace H := Option.bind_eq_some_iff.mp H
  obtain ⟨⟨t344,t345⟩,A90,H⟩ := H
  (try dsimp only at H)
  have A9 := Aside0.mk A90
  clear A90
  replace H := Option.bind_eq_some_iff.mp H
  obtain ⟨⟨t346,t347⟩,A100,H⟩ := H
  (try dsimp only at H)
  have A10 := Aside0.mk A100
  clear A100
  replace H := Option.bind_eq_some_iff.mp H
  obtain ⟨t348,A110,H⟩ := H
  (try dsimp only at H)
  have A11 := Aside0.mk A110
  clear A110
  have HC12 := Aside0.mk H
  clear H
  go_enter Try.func11,Try.ntmps11
  go_upto_region 11 with (first | ((with_reducible refine gate_callee (f := 12) rfl ?_);refine goesL_ (some 25) rfl rfl Try.func12 (by kernel_rfl) rfl #[.slice A0 l0.length c0] rfl (by (try simp only [List.map_toArray,List.map_cons,List.map_nil]);first | done | rfl | (simp only [List.length_drop,List.length_take];rfl)) ?_;(with_reducible refine (laws_big.calls _ _ l0 false _ ?side1 ?side2 A2.out).mono ?_);(case side1 => exact Kd.C_up HR0.out);(case side2 => exact HC0.out);rintro e w' ⟨rfl,⟨nd,rfl⟩⟩;refine ⟨_,rfl,?_⟩) | ((with_reducible refine gate_callee (f := 89) rfl ?_);refine goesL_ (some 28) rfl rfl Try.func89 (by kernel_rfl) rfl #[.slice A0 l0.length c0] rfl (by (try simp only [List.map_toArray,List.map_cons,List.map_nil]);first | done | rfl | (simp only [List.length_drop,List.length_take];rfl)) ?_;(with_reducible refine (spec_DrawSumsOf.calls k _ _ l0 t328 t329 _ ?side1 ?side2 A4.out).mono ?_);(case side1 => exact Kd.C_up HR0.out);(case side2 => exact HC0.out);rintro e w13 ⟨v330,rfl,ho0,hb⟩;refine ⟨_,rfl,?_⟩;have n0_ := Aside0.mk (Kd.R_lower ho0 (below_size (B_up HB.out)));have n1_ := Aside0.mk (below_step (B_up HB.out) hb);clear HB;have HO331 := n0_;have HB := n1_;clear n0_ n1_;(try clear hb);(try clear hb2);(try clear hk);(try clear hi);(try clear ho0)) | ((with_reducible refine gate_callee (f := 90) rfl ?_);refine goesL_ (some 32) rfl rfl Try.func90 (by kernel_rfl) rfl #[.slice A0 l0.length c0] rfl (by (try simp only [List.map_toArray,List.map_cons,List.map_nil]);first | done | rfl | (simp only [List.length_drop,List.length_take];rfl)) ?_;(with_reducible refine (spec_DrawBytesOf.calls k _ _ l0 t332 _ ?side1 ?side2 A5.out).mono ?_);(case side1 => repeat (first | exact (Kd.C_below HR0.out HB.out) | (with_reducible refine Kd.C_alloc ?_ _) | (with_reducible refine Kd.C_drewN ?_ _) | (with_reducible refine Kd.C_drew ?_)));(case side2 => exact HC0.out);rintro e w14 ⟨rfl,hb⟩;refine ⟨_,rfl,?_⟩;have n0_ := Aside0.mk (Kd.R_below (Kd.R_up HO331.out) hb);have n1_ := Aside0.mk (below_step (B_up HB.out) hb);clear HO331;clear HB;have HO331 := n0_;have HB := n1_;clear n0_ n1_;(try clear hb);(try clear hb2);(try clear hk);(try clear hi)) | ((with_reducible refine gate_callee (f := 91) rfl ?_);refine goesL_ (some 35) rfl rfl Try.func91 (by kernel_rfl) rfl #[.int .i64 t332] rfl (by (try simp only [List.map_toArray,List.map_cons,List.map_nil]);first | done | rfl | (simp only [List.length_drop,List.length_take];rfl)) ?_;(with_reducible refine (impl_BytesOf.calls k t332 t333 t334 _ A6.out).mono ?_);rintro e w15 ⟨v335,rfl,ho0,hb⟩;refine ⟨_,rfl,?_⟩;have n0_ := Aside0.mk (Kd.R_elder' (Kd.R_up HO331.out) (Kd.R_base ho0) hb);have n1_ := Aside0.mk (Kd.R_lower (Kd.R_new' ho0 (Kd.R_lt (Kd.R_up HO331.out))) (below_size (B_up HB.out)));have n2_ := Aside0.mk (below_step (B_up HB.out) hb);clear HO331;clear HB;have HO331 := n0_;have HO336 := n1_;have HB := n2_;clear n0_ n1_ n2_;(try clear hb);(try clear hb2);(try clear hk);(try clear hi);(try clear ho0)) | ((with_reducible refine gate_callee (f := 92) rfl ?_);refine goesL_ (some 40) rfl rfl Try.func92 (by kernel_rfl) rfl #[.int .i64 t332] rfl (by (try simp only [List.map_toArray,List.map_cons,List.map_nil]);first | done | rfl | (simp only [List.length_drop,List.length_take];rfl)) ?_;(with_reducible refine (spec_BytesOf.calls k t332 t337 t338 _ A7.out).mono ?_);rintro e w16 ⟨v339,rfl,ho0,hb⟩;refine ⟨_,rfl,?_⟩;have n0_ := Aside0.mk (Kd.R_elder' (Kd.R_up HO331.out) (Kd.R_base ho0) hb);have n1_ := Aside0.mk (Kd.R_elder' (Kd.R_up HO336.out) (Kd.R_base ho0) hb);have n2_ := Aside0.mk (Kd.R_lower (Kd.R_new' (Kd.R_new' ho0 (Kd.R_lt (Kd.R_up HO331.out))) (Kd.R_lt (Kd.R_up HO336.out))) (below_size (B_up HB.out)));have n3_ := Aside0.mk (below_step (B_up HB.out) hb);clear HO331;clear HO336;clear HB;have HO331 := n0_;have HO336 := n1_;have HO340 := n2_;have HB := n3_;clear n0_ n1_ n2_ n3_;(try clear hb);(try clear hb2);(try clear hk);(try clear hi);(try clear ho0)) | ((with_reducible refine gate_callee (f := 93) rfl ?_);refine goesL_ (some 44) rfl rfl Try.func93 (by kernel_rfl) rfl #[.slice A0 l0.length c0] rfl (by (try simp only [List.map_toArray,List.map_cons,List.map_nil]);first | done | rfl | (simp only [List.length_drop,List.length_take];rfl)) ?_;(with_reducible refine (spec_DrawSumOf.calls k _ _ l0 t341 _ ?side1 ?side2 A8.out).mono ?_);(case side1 => repeat (first | exact (Kd.C_below HR0.out HB.out) | (with_reducible refine Kd.C_alloc ?_ _) | (with_reducible refine Kd.C_drewN ?_ _) | (with_reducible refine Kd.C_drew ?_)));(case side2 => exact HC0.out);rintro e w17 ⟨v342,rfl,ho0,hb⟩;refine ⟨_,rfl,?_⟩;have n0_ := Aside0.mk (Kd.R_elder' (Kd.R_up HO331.out) (Kd.R_base ho0) hb);have n1_ := Aside0.mk (Kd.R_elder' (Kd.R_up HO336.out) (Kd.R_base ho0) hb);have n2_ := Aside0.mk (Kd.R_elder' (Kd.R_up HO340.out) (Kd.R_base ho0) hb);have n3_ := Aside0.mk (Kd.R_lower (Kd.R_new' (Kd.R_new' (Kd.R_new' ho0 (Kd.R_lt (Kd.R_up HO331.out))) (Kd.R_lt (Kd.R_up HO336.out))) (Kd.R_lt (Kd.R_up HO340.out))) (below_size (B_up HB.out)));have n4_ := Aside0.mk (below_step (B_up HB.out) hb);clear HO331;clear HO336;clear HO340;clear HB;have HO331 := n0_;have HO336 := n1_;have HO340 := n2_;have HO343 := n3_;have HB := n4_;clear n0_ n1_ n2_ n3_ n4_;(try clear hb);(try clear hb2);(try clear hk);(try clear hi);(try clear ho0)) | ((with_reducible refine gate_callee (f := 94) rfl ?_);refine goesL_ (some 47) rfl rfl Try.func94 (by kernel_rfl) rfl #[.slice A0 l0.length c0] rfl (by (try simp only [List.map_toArray,List.map_cons,List.map_nil]);first | done | rfl | (simp only [List.length_drop,List.length_take];rfl)) ?_;(with_reducible refine (spec_DrawBlocks.calls k _ _ l0 t344 t345 _ ?side1 ?side2 A9.out).mono ?_);(case side1 => repeat (first | exact (Kd.C_below HR0.out HB.out) | (with_reducible refine Kd.C_alloc ?_ _) | (with_reducible refine Kd.C_drewN ?_ _) | (with_reducible refine Kd.C_drew ?_)));(case side2 => exact HC0.out);rintro e w18 ⟨rfl,hb⟩;refine ⟨_,rfl,?_⟩;have n0_ := Aside0.mk (Kd.R_below (Kd.R_up HO331.out) hb);have n1_ := Aside0.mk (Kd.R_below (Kd.R_up HO336.out) hb);have n2_ := Aside0.mk (Kd.R_below (Kd.R_up HO340.out) hb);have n3_ := Aside0.mk (Kd.R_below (Kd.R_up HO343.out) hb);have n4_ := Aside0.mk (below_step (B_up HB.out) hb);clear HO331;clear HO336;clear HO340;clear HO343;clear HB;have HO331 := n0_;have HO336 := n1_;have HO340 := n2_;have HO343 := n3_;have HB := n4_;clear n0_ n1_ n2_ n3_ n4_;(try clear hb);(try clear hb2);(try clear hk);(try clear hi)) | ((with_reducible refine gate_callee (f := 95) rfl ?_);refine goesL_ (some 52) rfl rfl Try.func95 (by kernel_rfl) rfl #[.slice A0 l0.length c0] rfl (by (try simp only [List.map_toArray,List.map_cons,List.map_nil]);first | done | rfl | (simp only [List.length_drop,List.length_take];rfl)) ?_;(with_reducible refine (spec_DrawSizeOk.calls k _ _ l0 t346 t347 _ ?side1 ?side2 A10.out).mono ?_);(case side1 => repeat (first | exact (Kd.C_below HR0.out HB.out) | (with_reducible refine Kd.C_alloc ?_ _) | (with_reducible refine Kd.C_drewN ?_ _) | (with_reducible refine Kd.C_drew ?_)));(case side2 => exact HC0.out);rintro e w19 ⟨rfl,hb⟩;refine ⟨_,rfl,?_⟩;have n0_ := Aside0.mk (Kd.R_below (Kd.R_up HO331.out) hb);have n1_ := Aside0.mk (Kd.R_below (Kd.R_up HO336.out) hb);have n2_ := Aside0.mk (Kd.R_below (Kd.R_up HO340.out) hb);have n3_ := Aside0.mk (Kd.R_below (Kd.R_up HO343.out) hb);have n4_ := Aside0.mk (below_step (B_up HB.out) hb);clear HO331;clear HO336;clear HO340;clear HO343;clear HB;have HO331 := n0_;have HO336 := n1_;have HO340 := n2_;have HO343 := n3_;have HB := n4_;clear n0_ n1_ n2_ n3_ n4_;(try clear hb);(try clear hb2);(try clear hk);(try clear hi);obtain ⟨Ao20,co20,eo20⟩ := Kd.R_slice HO331.out;subst eo20) | ((with_reducible refine gate_callee (f := 30) rfl ?_);refine goesL_ (some 57) rfl rfl Try.func30 (by kernel_rfl) rfl #[.slice Ao20 t328.length co20,.int .i64 t329] rfl (by (try simp only [List.map_toArray,List.map_cons,List.map_nil]);first | done | rfl | (simp only [List.length_drop,List.length_take];rfl)) ?_;(with_reducible refine (impl_SumsOf.calls k _ _ t328 t329 t348 _ ?side1 ?side2 A11.out).mono ?_);(case side1 => exact Kd.C_up (Kd.R_reads' HO331.out).2.2);(case side2 => exact (Kd.R_reads' HO331.out).2.1);rintro e w21 ⟨v349,rfl,ho0,hb⟩;refine ⟨_,rfl,?_⟩;have n0_ := Aside0.mk (Kd.R_below (Kd.R_up HO331.out) hb);have n1_ := Aside0.mk (Kd.R_below (Kd.R_up HO336.out) hb);have n2_ := Aside0.mk (Kd.R_below (Kd.R_up HO340.out) hb);have n3_ := Aside0.mk (Kd.R_below (Kd.R_up HO343.out) hb);have n4_ := Aside0.mk (Kd.R_lower ho0 (below_size (B_up HB.out)));have n5_ := Aside0.mk (below_step (B_up HB.out) hb);clear HO331;clear HO336;clear HO340;clear HO343;clear HB;have HO331 := n0_;have HO336 := n1_;have HO340 := n2_;have HO343 := n3_;have HO350 := n4_;have HB := n5_;clear n0_ n1_ n2_ n3_ n4_ n5_;(try clear hb);(try clear hb2);(try clear hk);(try clear hi);(try clear ho0)))
  (try simp only [Act.put,List.setIfInBounds_toArray,List.set_cons_zero,List.set_cons_succ])
  go_cut [99] (fun v99 wc => ∃ (kq : Nat) (x99_11 : Bool),v99 = .bool x99_11 ∧ Aside0 (laws_FnBlocks.j0 kq t328 t329 t332 t333 t334 t348 x99_11 = some r) ∧ Aside0 (kq ≤ k) ∧ Aside0 (Kd.R (Kd.int .u8) 5 wc w.heap.size (fun k_ => some k_ ≠ (v335 : Value).ownBlock) (.slice Ao20 t328.length co20) t328) ∧ Aside0 (Kd.R (Kd.int .u8) 5 wc w.heap.size (fun k_ => some k_ ≠ ((.slice Ao20 t328.length co20) : Value).ownBlock) v335 t333) ∧ Aside0 (Kd.R k81 81 wc w.heap.size (fun _ => True) v349 t348) ∧ Aside0 (Below w.heap.size w wc))
  case first => as_aux_lemma =>
   have H := HC12.out
   clear HC12
   replace H := Option.bind_eq_some_iff.mp H
   obtain ⟨t351,A220,H⟩ := H
   (try dsimp only at H)
   have A22 := Aside0.mk A220
   clear A220
   replace H := Option.bind_eq_some_iff.mp H
   obtain ⟨t354,A230,H⟩ := H
   (try dsimp only at H)
   have A23 := Aside0.mk A230
   clear A230
   by_cases c24 : t354 = true
   ·subst c24
    rw [if_pos rfl] at H
    replace H := Option.bind_eq_some_iff.mp H
    obtain ⟨t355,A250,H⟩ := H
    (try dsimp only at H)
    have A25 := Aside0.mk A250
    clear A250
    by_cases c26 : t355 = true
    ·subst c26
     rw [if_pos rfl] at H
     by_cases c27 : (t334 != t338) = true
     ·rw [if_pos c27] at H
      have c27b0 : (t334 != t338) = true := c27
      (try (have c27b1 : decide (t334 = t338) = false := by simpa using c27))
      (try (have c27b2 : (t334 == t338) = false := by simpa using c27))
      (try (have c27b3 : ¬ (t334 = t338) := by simpa using c27))
      clear c27
      (first | rw [c27b0] | (simp only [i64_w,i32_w];rw [c27b0]) | skip)
      have H' := Aside0.mk H
      clear H
      go_wp2_with (first | ((with_reducible refine gate_callee (f := 28) rfl ?_);refine goesL_ (some 61) rfl rfl Try.func28 (by kernel_rfl) rfl #[.slice Ao20 t328.length co20,.int .i64 t329] rfl (by (try simp only [List.map_toArray,List.map_cons,List.map_nil]);first | done | rfl | (simp only [List.length_drop,List.length_take];rfl)) ?_;(with_reducible refine (spec_SumsOf.calls k _ _ t328 t329 t351 _ ?side1 ?side2 A22.out).mono ?_);(case side1 => exact Kd.C_up (Kd.R_reads' HO331.out).2.2);(case side2 => exact (Kd.R_reads' HO331.out).2.1);rintro e w28 ⟨v352,rfl,ho0,hb⟩;refine ⟨_,rfl,?_⟩;have n0_ := Aside0.mk (Kd.R_below (Kd.R_up HO331.out) hb);have n1_ := Aside0.mk (Kd.R_below (Kd.R_up HO336.out) hb);have n2_ := Aside0.mk (Kd.R_below (Kd.R_up HO340.out) hb);have n3_ := Aside0.mk (Kd.R_below (Kd.R_up HO343.out) hb);have n4_ := Aside0.mk (Kd.R_elder' (Kd.R_up HO350.out) (Kd.R_base ho0) hb);have n5_ := Aside0.mk (Kd.R_lower (Kd.R_new' ho0 (Kd.R_lt (Kd.R_up HO350.out))) (below_size (B_up HB.out)));have n6_ := Aside0.mk (below_step (B_up HB.out) hb);clear HO331;clear HO336;clear HO340;clear HO343;clear HO350;clear HB;have HO331 := n0_;have HO336 := n1_;have HO340 := n2_;have HO343 := n3_;have HO350 := n4_;have HO353 := n5_;have HB := n6_;clear n0_ n1_ n2_ n3_ n4_ n5_ n6_;(try clear hb);(try clear hb2);(try clear hk);(try clear hi);(try clear ho0);obtain ⟨Ao29,co29,eo29⟩ := Kd.R_slice HO350.out;subst eo29;obtain ⟨Ao30,co30,eo30⟩ := Kd.R_slice HO353.out;subst eo30) | ((with_reducible refine gate_callee (f := 96) rfl ?_);refine goesL_ (some 62) rfl rfl Try.func96 (by kernel_rfl) rfl #[.slice Ao29 t348.length co29,.slice Ao30 t351.length co30] rfl (by (try simp only [List.map_toArray,List.map_cons,List.map_nil]);first | done | rfl | (simp only [List.length_drop,List.length_take];rfl)) ?_;(with_reducible refine (laws_sameSums.calls k _ _ t348 _ _ t351 true _ ?side1 ?side2 ?side3 ?side4 A23.out).mono ?_);(case side1 => exact Kd.C_up (Kd.R_reads' HO350.out).2.2);(case side2 => exact (Kd.R_reads' HO350.out).2.1);(case side3 => exact Kd.C_up (Kd.R_reads' HO353.out).2.2);(case side4 => exact (Kd.R_reads' HO353.out).2.1);rintro e w' ⟨rfl,⟨nd,rfl⟩⟩;refine ⟨_,rfl,?_⟩;obtain ⟨Ao31,co31,eo31⟩ := Kd.R_slice HO336.out;subst eo31;obtain ⟨Ao32,co32,eo32⟩ := Kd.R_slice HO340.out;subst eo32) | (go_at_call 46;(with_reducible refine (laws_same.calls k _ _ t333 _ _ t337 true _ ?side1 ?side2 ?side3 ?side4 A25.out).mono ?_);(case side1 => exact Kd.C_up (Kd.R_reads' HO336.out).2.2);(case side2 => exact (Kd.R_reads' HO336.out).2.1);(case side3 => exact Kd.C_up (Kd.R_reads' HO340.out).2.2);(case side4 => exact (Kd.R_reads' HO340.out).2.1);rintro e w' ⟨rfl,⟨nd,rfl⟩⟩))
      go_meet
      case rel => exact ⟨_,(true),(by first | rfl | (simp;done) | (simp [*];done)),H',⟨by first | omega | exact Nat.le_refl _⟩,⟨by (with_reducible repeat (first | apply Kd.R_alloc | apply Kd.R_drewN | apply Kd.R_drew));exact Kd.R_mono HO331.out (fun _ hk => hk.1.1.2)⟩,⟨by (with_reducible repeat (first | apply Kd.R_alloc | apply Kd.R_drewN | apply Kd.R_drew));exact Kd.R_mono HO336.out (fun _ hk => hk.1.1.2)⟩,⟨by (with_reducible repeat (first | apply Kd.R_alloc | apply Kd.R_drewN | apply Kd.R_drew));exact Kd.R_mono HO350.out (fun _ hk => trivial)⟩,⟨by repeat (first | (with_reducible first | exact HB.out | apply below_alloc | apply pw_below_drewN | apply below_drew1) | exact HB.out)⟩⟩
     ·rw [if_neg c27] at H
      have c27b0 : (t334 != t338) = false := by simpa using c27
      (try (have c27b1 : decide (t334 = t338) = true := by simpa using c27))
      (try (have c27b2 : (t334 == t338) = true := by simpa using c27))
      clear c27
      (first | rw [c27b0] | (simp only [i64_w,i32_w];rw [c27b0]) | skip)
      replace H := Option.bind_eq_some_iff.mp H
      obtain ⟨⟨t356,t357⟩,A330,H⟩ := H
      (try dsimp only at H)
      have A33 := Aside0.mk A330
      clear A330
      replace H := Option.bind_eq_some_iff.mp H
      obtain ⟨⟨t358,t359⟩,A340,H⟩ := H
      (try dsimp only at H)
      have A34 := Aside0.mk A340
      clear A340
      by_cases c35 : (!(t356 == t358) || (!(t357 == t359))) = true
      ·rw [if_pos c35] at H
       have c35b0 : (!(t356 == t358) || (!(t357 == t359))) = true := c35
       clear c35
       have H' := Aside0.mk H
       clear H
       go_wp2_with (first | ((with_reducible refine gate_callee (f := 28) rfl ?_);refine goesL_ (some 61) rfl rfl Try.func28 (by kernel_rfl) rfl #[.slice Ao20 t328.length co20,.int .i64 t329] rfl (by (try simp only [List.map_toArray,List.map_cons,List.map_nil]);first | done | rfl | (simp only [List.length_drop,List.length_take];rfl)) ?_;(with_reducible refine (spec_SumsOf.calls k _ _ t328 t329 t351 _ ?side1 ?side2 A22.out).mono ?_);(case side1 => exact Kd.C_up (Kd.R_reads' HO331.out).2.2);(case side2 => exact (Kd.R_reads' HO331.out).2.1);rintro e w36 ⟨v352,rfl,ho0,hb⟩;refine ⟨_,rfl,?_⟩;have n0_ := Aside0.mk (Kd.R_below (Kd.R_up HO331.out) hb);have n1_ := Aside0.mk (Kd.R_below (Kd.R_up HO336.out) hb);have n2_ := Aside0.mk (Kd.R_below (Kd.R_up HO340.out) hb);have n3_ := Aside0.mk (Kd.R_below (Kd.R_up HO343.out) hb);have n4_ := Aside0.mk (Kd.R_elder' (Kd.R_up HO350.out) (Kd.R_base ho0) hb);have n5_ := Aside0.mk (Kd.R_lower (Kd.R_new' ho0 (Kd.R_lt (Kd.R_up HO350.out))) (below_size (B_up HB.out)));have n6_ := Aside0.mk (below_step (B_up HB.out) hb);clear HO331;clear HO336;clear HO340;clear HO343;clear HO350;clear HB;have HO331 := n0_;have HO336 := n1_;have HO340 := n2_;have HO343 := n3_;have HO350 := n4_;have HO353 := n5_;have HB := n6_;clear n0_ n1_ n2_ n3_ n4_ n5_ n6_;(try clear hb);(try clear hb2);(try clear hk);(try clear hi);(try clear ho0);obtain ⟨Ao37,co37,eo37⟩ := Kd.R_slice HO350.out;subst eo37;obtain ⟨Ao38,co38,eo38⟩ := Kd.R_slice HO353.out;subst eo38) | ((with_reducible refine gate_callee (f := 96) rfl ?_);refine goesL_ (some 62) rfl rfl Try.func96 (by kernel_rfl) rfl #[.slice Ao37 t348.length co37,.slice Ao38 t351.length co38] rfl (by (try simp only [List.map_toArray,List.map_cons,List.map_nil]);first | done | rfl | (simp only [List.length_drop,List.length_take];rfl)) ?_;(with_reducible refine (laws_sameSums.calls k _ _ t348 _ _ t351 true _ ?side1 ?side2 ?side3 ?side4 A23.out).mono ?_);(case side1 => exact Kd.C_up (Kd.R_reads' HO350.out).2.2);(case side2 => exact (Kd.R_reads' HO350.out).2.1);(case side3 => exact Kd.C_up (Kd.R_reads' HO353.out).2.2);(case side4 => exact (Kd.R_reads' HO353.out).2.1);rintro e w' ⟨rfl,⟨nd,rfl⟩⟩;refine ⟨_,rfl,?_⟩;obtain ⟨Ao39,co39,eo39⟩ := Kd.R_slice HO336.out;subst eo39;obtain ⟨Ao40,co40,eo40⟩ := Kd.R_slice HO340.out;subst eo40) | (go_at_call 46;(with_reducible refine (laws_same.calls k _ _ t333 _ _ t337 true _ ?side1 ?side2 ?side3 ?side4 A25.out).mono ?_);(case side1 => exact Kd.C_up (Kd.R_reads' HO336.out).2.2);(case side2 => exact (Kd.R_reads' HO336.out).2.1);(case side3 => exact Kd.C_up (Kd.R_reads' HO340.out).2.2);(case side4 => exact (Kd.R_reads' HO340.out).2.1);rintro e w' ⟨rfl,⟨nd,rfl⟩⟩;obtain ⟨Ao41,co41,eo41⟩ := Kd.R_slice HO343.out;subst eo41) | (go_at_call 97;(with_reducible refine (impl_SumOf.calls k _ _ t341 t356 t357 _ ?side1 ?side2 A33.out).mono ?_);(case side1 => exact Kd.C_up (Kd.R_reads' HO343.out).2.2);(case side2 => exact (Kd.R_reads' HO343.out).2.1);rintro e w42 ⟨rfl,hb⟩;have n0_ := Aside0.mk (Kd.R_below (Kd.R_up HO331.out) hb);have n1_ := Aside0.mk (Kd.R_below (Kd.R_up HO336.out) hb);have n2_ := Aside0.mk (Kd.R_below (Kd.R_up HO340.out) hb);have n3_ := Aside0.mk (Kd.R_below (Kd.R_up HO343.out) hb);have n4_ := Aside0.mk (Kd.R_below (Kd.R_up HO350.out) hb);have n5_ := Aside0.mk (Kd.R_below (Kd.R_up HO353.out) hb);have n6_ := Aside0.mk (below_step (B_up HB.out) hb);clear HO331;clear HO336;clear HO340;clear HO343;clear HO350;clear HO353;clear HB;have HO331 := n0_;have HO336 := n1_;have HO340 := n2_;have HO343 := n3_;have HO350 := n4_;have HO353 := n5_;have HB := n6_;clear n0_ n1_ n2_ n3_ n4_ n5_ n6_;(try clear hb);(try clear hb2);(try clear hk);(try clear hi)) | (go_at_call 98;(with_reducible refine (spec_SumOf.calls k _ _ t341 t358 t359 _ ?side1 ?side2 A34.out).mono ?_);(case side1 => exact Kd.C_up (Kd.R_reads' HO343.out).2.2);(case side2 => exact (Kd.R_reads' HO343.out).2.1);rintro e w43 ⟨rfl,hb⟩;have n0_ := Aside0.mk (Kd.R_below (Kd.R_up HO331.out) hb);have n1_ := Aside0.mk (Kd.R_below (Kd.R_up HO336.out) hb);have n2_ := Aside0.mk (Kd.R_below (Kd.R_up HO340.out) hb);have n3_ := Aside0.mk (Kd.R_below (Kd.R_up HO343.out) hb);have n4_ := Aside0.mk (Kd.R_below (Kd.R_up HO350.out) hb);have n5_ := Aside0.mk (Kd.R_below (Kd.R_up HO353.out) hb);have n6_ := Aside0.mk (below_step (B_up HB.out) hb);clear HO331;clear HO336;clear HO340;clear HO343;clear HO350;clear HO353;clear HB;have HO331 := n0_;have HO336 := n1_;have HO340 := n2_;have HO343 := n3_;have HO350 := n4_;have HO353 := n5_;have HB := n6_;clear n0_ n1_ n2_ n3_ n4_ n5_ n6_;(try clear hb);(try clear hb2);(try clear hk);(try clear hi)))
       go_meet
       case rel => exact ⟨_,(true),(by first | rfl | (simp;done) | (simp [*];done)),H',⟨by first | omega | exact Nat.le_refl _⟩,⟨by (with_reducible repeat (first | apply Kd.R_alloc | apply Kd.R_drewN | apply Kd.R_drew));exact Kd.R_mono HO331.out (fun _ hk => hk.1.1.2)⟩,⟨by (with_reducible repeat (first | apply Kd.R_alloc | apply Kd.R_drewN | apply Kd.R_drew));exact Kd.R_mono HO336.out (fun _ hk => hk.1.1.2)⟩,⟨by (with_reducible repeat (first | apply Kd.R_alloc | apply Kd.R_drewN | apply Kd.R_drew));exact Kd.R_mono HO350.out (fun _ hk => trivial)⟩,⟨by repeat (first | (with_reducible first | exact HB.out | apply below_alloc | apply pw_below_drewN | apply below_drew1) | exact HB.out)⟩⟩
      ·rw [if_neg c35] at H
       have c35b0 : (!(t356 == t358) || (!(t357 == t359))) = false := by simpa using c35
       clear c35
       replace H := Option.bind_eq_some_iff.mp H
       obtain ⟨t360,A440,H⟩ := H
       (try dsimp only at H)
       have A44 := Aside0.mk A440
       clear A440
       replace H := Option.bind_eq_some_iff.mp H
       obtain ⟨t361,A450,H⟩ := H
       (try dsimp only at H)
       have A45 := Aside0.mk A450
       clear A450
       by_cases c46 : t360 = t361
       ·rw [if_pos c46] at H
        have c46b0 : (t360 == t361) = true := beq_iff_eq.mpr c46
        have c46b1 : (t360 != t361) = false := bne_eq_false_iff_eq.mpr c46
        clear c46
        replace H := Option.bind_eq_some_iff.mp H
        obtain ⟨t362,A470,H⟩ := H
        (try dsimp only at H)
        have A47 := Aside0.mk A470
        clear A470
        replace H := Option.bind_eq_some_iff.mp H
        obtain ⟨t363,A480,H⟩ := H
        replace H : (laws_FnBlocks.j0 k t328 t329 t332 t333 t334 t348 (t362 != t363)) = some r := H
        have A48 := Aside0.mk A480
        clear A480
        have H' := Aside0.mk H
        clear H
        go_wp2_with (first | ((with_reducible refine gate_callee (f := 28) rfl ?_);refine goesL_ (some 61) rfl rfl Try.func28 (by kernel_rfl) rfl #[.slice Ao20 t328.length co20,.int .i64 t329] rfl (by (try simp only [List.map_toArray,List.map_cons,List.map_nil]);first | done | rfl | (simp only [List.length_drop,List.length_take];rfl)) ?_;(with_reducible refine (spec_SumsOf.calls k _ _ t328 t329 t351 _ ?side1 ?side2 A22.out).mono ?_);(case side1 => exact Kd.C_up (Kd.R_reads' HO331.out).2.2);(case side2 => exact (Kd.R_reads' HO331.out).2.1);rintro e w49 ⟨v352,rfl,ho0,hb⟩;refine ⟨_,rfl,?_⟩;have n0_ := Aside0.mk (Kd.R_below (Kd.R_up HO331.out) hb);have n1_ := Aside0.mk (Kd.R_below (Kd.R_up HO336.out) hb);have n2_ := Aside0.mk (Kd.R_below (Kd.R_up HO340.out) hb);have n3_ := Aside0.mk (Kd.R_below (Kd.R_up HO343.out) hb);have n4_ := Aside0.mk (Kd.R_elder' (Kd.R_up HO350.out) (Kd.R_base ho0) hb);have n5_ := Aside0.mk (Kd.R_lower (Kd.R_new' ho0 (Kd.R_lt (Kd.R_up HO350.out))) (below_size (B_up HB.out)));have n6_ := Aside0.mk (below_step (B_up HB.out) hb);clear HO331;clear HO336;clear HO340;clear HO343;clear HO350;clear HB;have HO331 := n0_;have HO336 := n1_;have HO340 := n2_;have HO343 := n3_;have HO350 := n4_;have HO353 := n5_;have HB := n6_;clear n0_ n1_ n2_ n3_ n4_ n5_ n6_;(try clear hb);(try clear hb2);(try clear hk);(try clear hi);(try clear ho0);obtain ⟨Ao50,co50,eo50⟩ := Kd.R_slice HO350.out;subst eo50;obtain ⟨Ao51,co51,eo51⟩ := Kd.R_slice HO353.out;subst eo51) | ((with_reducible refine gate_callee (f := 96) rfl ?_);refine goesL_ (some 62) rfl rfl Try.func96 (by kernel_rfl) rfl #[.slice Ao50 t348.length co50,.slice Ao51 t351.length co51] rfl (by (try simp only [List.map_toArray,List.map_cons,List.map_nil]);first | done | rfl | (simp only [List.length_drop,List.length_take];rfl)) ?_;(with_reducible refine (laws_sameSums.calls k _ _ t348 _ _ t351 true _ ?side1 ?side2 ?side3 ?side4 A23.out).mono ?_);(case side1 => exact Kd.C_up (Kd.R_reads' HO350.out).2.2);(case side2 => exact (Kd.R_reads' HO350.out).2.1);(case side3 => exact Kd.C_up (Kd.R_reads' HO353.out).2.2);(case side4 => exact (Kd.R_reads' HO353.out).2.1);rintro e w' ⟨rfl,⟨nd,rfl⟩⟩;refine ⟨_,rfl,?_⟩;obtain ⟨Ao52,co52,eo52⟩ := Kd.R_slice HO336.out;subst eo52;obtain ⟨Ao53,co53,eo53⟩ := Kd.R_slice HO340.out;subst eo53) | (go_at_call 46;(with_reducible refine (laws_same.calls k _ _ t333 _ _ t337 true _ ?side1 ?side2 ?side3 ?side4 A25.out).mono ?_);(case side1 => exact Kd.C_up (Kd.R_reads' HO336.out).2.2);(case side2 => exact (Kd.R_reads' HO336.out).2.1);(case side3 => exact Kd.C_up (Kd.R_reads' HO340.out).2.2);(case side4 => exact (Kd.R_reads' HO340.out).2.1);rintro e w' ⟨rfl,⟨nd,rfl⟩⟩;obtain ⟨Ao54,co54,eo54⟩ := Kd.R_slice HO343.out;subst eo54) | (go_at_call 97;(with_reducible refine (impl_SumOf.calls k _ _ t341 t356 t357 _ ?side1 ?side2 A33.out).mono ?_);(case side1 => exact Kd.C_up (Kd.R_reads' HO343.out).2.2);(case side2 => exact (Kd.R_reads' HO343.out).2.1);rintro e w55 ⟨rfl,hb⟩;have n0_ := Aside0.mk (Kd.R_below (Kd.R_up HO331.out) hb);have n1_ := Aside0.mk (Kd.R_below (Kd.R_up HO336.out) hb);have n2_ := Aside0.mk (Kd.R_below (Kd.R_up HO340.out) hb);have n3_ := Aside0.mk (Kd.R_below (Kd.R_up HO343.out) hb);have n4_ := Aside0.mk (Kd.R_below (Kd.R_up HO350.out) hb);have n5_ := Aside0.mk (Kd.R_below (Kd.R_up HO353.out) hb);have n6_ := Aside0.mk (below_step (B_up HB.out) hb);clear HO331;clear HO336;clear HO340;clear HO343;clear HO350;clear HO353;clear HB;have HO331 := n0_;have HO336 := n1_;have HO340 := n2_;have HO343 := n3_;have HO350 := n4_;have HO353 := n5_;have HB := n6_;clear n0_ n1_ n2_ n3_ n4_ n5_ n6_;(try clear hb);(try clear hb2);(try clear hk);(try clear hi)) | (go_at_call 98;(with_reducible refine (spec_SumOf.calls k _ _ t341 t358 t359 _ ?side1 ?side2 A34.out).mono ?_);(case side1 => exact Kd.C_up (Kd.R_reads' HO343.out).2.2);(case side2 => exact (Kd.R_reads' HO343.out).2.1);rintro e w56 ⟨rfl,hb⟩;have n0_ := Aside0.mk (Kd.R_below (Kd.R_up HO331.out) hb);have n1_ := Aside0.mk (Kd.R_below (Kd.R_up HO336.out) hb);have n2_ := Aside0.mk (Kd.R_below (Kd.R_up HO340.out) hb);have n3_ := Aside0.mk (Kd.R_below (Kd.R_up HO343.out) hb);have n4_ := Aside0.mk (Kd.R_below (Kd.R_up HO350.out) hb);have n5_ := Aside0.mk (Kd.R_below (Kd.R_up HO353.out) hb);have n6_ := Aside0.mk (below_step (B_up HB.out) hb);clear HO331;clear HO336;clear HO340;clear HO343;clear HO350;clear HO353;clear HB;have HO331 := n0_;have HO336 := n1_;have HO340 := n2_;have HO343 := n3_;have HO350 := n4_;have HO353 := n5_;have HB := n6_;clear n0_ n1_ n2_ n3_ n4_ n5_ n6_;(try clear hb);(try clear hb2);(try clear hk);(try clear hi)) | (go_at_call 99;(with_reducible refine (impl_Blocks.calls t344 t345 t360 _ A44.out).mono ?_);rintro e w' ⟨rfl,⟨nd,rfl⟩⟩) | (go_at_call 100;(with_reducible refine (spec_Blocks.calls t344 t345 t361 _ A45.out).mono ?_);rintro e w' ⟨rfl,⟨nd,rfl⟩⟩) | (go_at_call 53;(with_reducible refine (impl_SizeOk.calls t346 t347 t362 _ A47.out).mono ?_);rintro e w' ⟨rfl,⟨nd,rfl⟩⟩) | (go_at_call 101;(with_reducible refine (spec_SizeOk.calls t346 t347 t363 _ A48.out).mono ?_);rintro e w' ⟨rfl,⟨nd,rfl⟩⟩))
        go_meet
        case rel => exact ⟨_,((t362 != t363)),(by first | rfl | (simp;done) | (simp [*];done)),H',⟨by first | omega | exact Nat.le_refl _⟩,⟨by (with_reducible repeat (first | apply Kd.R_alloc | apply Kd.R_drewN | apply Kd.R_drew));exact Kd.R_mono HO331.out (fun _ hk => hk.1.1.2)⟩,⟨by (with_reducible repeat (first | apply Kd.R_alloc | apply Kd.R_drewN | apply Kd.R_drew));exact Kd.R_mono HO336.out (fun _ hk => hk.1.1.2)⟩,⟨by (with_reducible repeat (first | apply Kd.R_alloc | apply Kd.R_drewN | apply Kd.R_drew));exact Kd.R_mono HO350.out (fun _ hk => trivial)⟩,⟨by repeat (first | (with_reducible first | exact HB.out | apply below_alloc | apply pw_below_drewN | apply below_drew1) | exact HB.out)⟩⟩
       ·rw [if_neg c46] at H
        have c46b0 : (t360 == t361) = false := beq_eq_false_iff_ne.mpr c46
        have c46b1 : (t360 != t361) = true := bne_iff_ne.mpr c46
        have H' := Aside0.mk H
        clear H
        go_wp2_with (first | ((with_reducible refine gate_callee (f := 28) rfl ?_);refine goesL_ (some 61) rfl rfl Try.func28 (by kernel_rfl) rfl #[.slice Ao20 t328.length co20,.int .i64 t329] rfl (by (try simp only [List.map_toArray,List.map_cons,List.map_nil]);first | done | rfl | (simp only [List.length_drop,List.length_take];rfl)) ?_;(with_reducible refine (spec_SumsOf.calls k _ _ t328 t329 t351 _ ?side1 ?side2 A22.out).mono ?_);(case side1 => exact Kd.C_up (Kd.R_reads' HO331.out).2.2);(case side2 => exact (Kd.R_reads' HO331.out).2.1);rintro e w57 ⟨v352,rfl,ho0,hb⟩;refine ⟨_,rfl,?_⟩;have n0_ := Aside0.mk (Kd.R_below (Kd.R_up HO331.out) hb);have n1_ := Aside0.mk (Kd.R_below (Kd.R_up HO336.out) hb);have n2_ := Aside0.mk (Kd.R_below (Kd.R_up HO340.out) hb);have n3_ := Aside0.mk (Kd.R_below (Kd.R_up HO343.out) hb);have n4_ := Aside0.mk (Kd.R_elder' (Kd.R_up HO350.out) (Kd.R_base ho0) hb);have n5_ := Aside0.mk (Kd.R_lower (Kd.R_new' ho0 (Kd.R_lt (Kd.R_up HO350.out))) (below_size (B_up HB.out)));have n6_ := Aside0.mk (below_step (B_up HB.out) hb);clear HO331;clear HO336;clear HO340;clear HO343;clear HO350;clear HB;have HO331 := n0_;have HO336 := n1_;have HO340 := n2_;have HO343 := n3_;have HO350 := n4_;have HO353 := n5_;have HB := n6_;clear n0_ n1_ n2_ n3_ n4_ n5_ n6_;(try clear hb);(try clear hb2);(try clear hk);(try clear hi);(try clear ho0);obtain ⟨Ao58,co58,eo58⟩ := Kd.R_slice HO350.out;subst eo58;obtain ⟨Ao59,co59,eo59⟩ := Kd.R_slice HO353.out;subst eo59) | ((with_reducible refine gate_callee (f := 96) rfl ?_);refine goesL_ (some 62) rfl rfl Try.func96 (by kernel_rfl) rfl #[.slice Ao58 t348.length co58,.slice Ao59 t351.length co59] rfl (by (try simp only [List.map_toArray,List.map_cons,List.map_nil]);first | done | rfl | (simp only [List.length_drop,List.length_take];rfl)) ?_;(with_reducible refine (laws_sameSums.calls k _ _ t348 _ _ t351 true _ ?side1 ?side2 ?side3 ?side4 A23.out).mono ?_);(case side1 => exact Kd.C_up (Kd.R_reads' HO350.out).2.2);(case side2 => exact (Kd.R_reads' HO350.out).2.1);(case side3 => exact Kd.C_up (Kd.R_reads' HO353.out).2.2);(case side4 => exact (Kd.R_reads' HO353.out).2.1);rintro e w' ⟨rfl,⟨nd,rfl⟩⟩;refine ⟨_,rfl,?_⟩;obtain ⟨Ao60,co60,eo60⟩ := Kd.R_slice HO336.out;subst eo60;obtain ⟨Ao61,co61,eo61⟩ := Kd.R_slice HO340.out;subst eo61) | (go_at_call 46;(with_reducible refine (laws_same.calls k _ _ t333 _ _ t337 true _ ?side1 ?side2 ?side3 ?side4 A25.out).mono ?_);(case side1 => exact Kd.C_up (Kd.R_reads' HO336.out).2.2);(case side2 => exact (Kd.R_reads' HO336.out).2.1);(case side3 => exact Kd.C_up (Kd.R_reads' HO340.out).2.2);(case side4 => exact (Kd.R_reads' HO340.out).2.1);rintro e w' ⟨rfl,⟨nd,rfl⟩⟩;obtain ⟨Ao62,co62,eo62⟩ := Kd.R_slice HO343.out;subst eo62) | (go_at_call 97;(with_reducible refine (impl_SumOf.calls k _ _ t341 t356 t357 _ ?side1 ?side2 A33.out).mono ?_);(case side1 => exact Kd.C_up (Kd.R_reads' HO343.out).2.2);(case side2 => exact (Kd.R_reads' HO343.out).2.1);rintro e w63 ⟨rfl,hb⟩;have n0_ := Aside0.mk (Kd.R_below (Kd.R_up HO331.out) hb);have n1_ := Aside0.mk (Kd.R_below (Kd.R_up HO336.out) hb);have n2_ := Aside0.mk (Kd.R_below (Kd.R_up HO340.out) hb);have n3_ := Aside0.mk (Kd.R_below (Kd.R_up HO343.out) hb);have n4_ := Aside0.mk (Kd.R_below (Kd.R_up HO350.out) hb);have n5_ := Aside0.mk (Kd.R_below (Kd.R_up HO353.out) hb);have n6_ := Aside0.mk (below_step (B_up HB.out) hb);clear HO331;clear HO336;clear HO340;clear HO343;clear HO350;clear HO353;clear HB;have HO331 := n0_;have HO336 := n1_;have HO340 := n2_;have HO343 := n3_;have HO350 := n4_;have HO353 := n5_;have HB := n6_;clear n0_ n1_ n2_ n3_ n4_ n5_ n6_;(try clear hb);(try clear hb2);(try clear hk);(try clear hi)) | (go_at_call 98;(with_reducible refine (spec_SumOf.calls k _ _ t341 t358 t359 _ ?side1 ?side2 A34.out).mono ?_);(case side1 => exact Kd.C_up (Kd.R_reads' HO343.out).2.2);(case side2 => exact (Kd.R_reads' HO343.out).2.1);rintro e w64 ⟨rfl,hb⟩;have n0_ := Aside0.mk (Kd.R_below (Kd.R_up HO331.out) hb);have n1_ := Aside0.mk (Kd.R_below (Kd.R_up HO336.out) hb);have n2_ := Aside0.mk (Kd.R_below (Kd.R_up HO340.out) hb);have n3_ := Aside0.mk (Kd.R_below (Kd.R_up HO343.out) hb);have n4_ := Aside0.mk (Kd.R_below (Kd.R_up HO350.out) hb);have n5_ := Aside0.mk (Kd.R_below (Kd.R_up HO353.out) hb);have n6_ := Aside0.mk (below_step (B_up HB.out) hb);clear HO331;clear HO336;clear HO340;clear HO343;clear HO350;clear HO353;clear HB;have HO331 := n0_;have HO336 := n1_;have HO340 := n2_;have HO343 := n3_;have HO350 := n4_;have HO353 := n5_;have HB := n6_;clear n0_ n1_ n2_ n3_ n4_ n5_ n6_;(try clear hb);(try clear hb2);(try clear hk);(try clear hi)) | (go_at_call 99;(with_reducible refine (impl_Blocks.calls t344 t345 t360 _ A44.out).mono ?_);rintro e w' ⟨rfl,⟨nd,rfl⟩⟩) | (go_at_call 100;(with_reducible refine (spec_Blocks.calls t344 t345 t361 _ A45.out).mono ?_);rintro e w' ⟨rfl,⟨nd,rfl⟩⟩))
        go_meet
        case rel => exact ⟨_,(true),(by first | rfl | (simp;done) | (simp [*];done)),H',⟨by first | omega | exact Nat.le_refl _⟩,⟨by (with_reducible repeat (first | apply Kd.R_alloc | apply Kd.R_drewN | apply Kd.R_drew));exact Kd.R_mono HO331.out (fun _ hk => hk.1.1.2)⟩,⟨by (with_reducible repeat (first | apply Kd.R_alloc | apply Kd.R_drewN | apply Kd.R_drew));exact Kd.R_mono HO336.out (fun _ hk => hk.1.1.2)⟩,⟨by (with_reducible repeat (first | apply Kd.R_alloc | apply Kd.R_drewN | apply Kd.R_drew));exact Kd.R_mono HO350.out (fun _ hk => trivial)⟩,⟨by repeat (first | (with_reducible first | exact HB.out | apply below_alloc | apply pw_below_drewN | apply below_drew1) | exact HB.out)⟩⟩
    ·replace c26 := Bool.eq_false_iff.mpr c26
     subst c26
     have H1 : (laws_FnBlocks.j0 k t328 t329 t332 t333 t334 t348 true) = some r := by rw [if_neg (show ¬ (false = true) by decide)] at H;exact H
     clear H
     have H := H1
     clear H1
     have H' := Aside0.mk H
     clear H
     go_wp2_with (first | ((with_reducible refine gate_callee (f := 28) rfl ?_);refine goesL_ (some 61) rfl rfl Try.func28 (by kernel_rfl) rfl #[.slice Ao20 t328.length co20,.int .i64 t329] rfl (by (try simp only [List.map_toArray,List.map_cons,List.map_nil]);first | done | rfl | (simp only [List.length_drop,List.length_take];rfl)) ?_;(with_reducible refine (spec_SumsOf.calls k _ _ t328 t329 t351 _ ?side1 ?side2 A22.out).mono ?_);(case side1 => exact Kd.C_up (Kd.R_reads' HO331.out).2.2);(case side2 => exact (Kd.R_reads' HO331.out).2.1);rintro e w65 ⟨v352,rfl,ho0,hb⟩;refine ⟨_,rfl,?_⟩;have n0_ := Aside0.mk (Kd.R_below (Kd.R_up HO331.out) hb);have n1_ := Aside0.mk (Kd.R_below (Kd.R_up HO336.out) hb);have n2_ := Aside0.mk (Kd.R_below (Kd.R_up HO340.out) hb);have n3_ := Aside0.mk (Kd.R_below (Kd.R_up HO343.out) hb);have n4_ := Aside0.mk (Kd.R_elder' (Kd.R_up HO350.out) (Kd.R_base ho0) hb);have n5_ := Aside0.mk (Kd.R_lower (Kd.R_new' ho0 (Kd.R_lt (Kd.R_up HO350.out))) (below_size (B_up HB.out)));have n6_ := Aside0.mk (below_step (B_up HB.out) hb);clear HO331;clear HO336;clear HO340;clear HO343;clear HO350;clear HB;have HO331 := n0_;have HO336 := n1_;have HO340 := n2_;have HO343 := n3_;have HO350 := n4_;have HO353 := n5_;have HB := n6_;clear n0_ n1_ n2_ n3_ n4_ n5_ n6_;(try clear hb);(try clear hb2);(try clear hk);(try clear hi);(try clear ho0);obtain ⟨Ao66,co66,eo66⟩ := Kd.R_slice HO350.out;subst eo66;obtain ⟨Ao67,co67,eo67⟩ := Kd.R_slice HO353.out;subst eo67) | ((with_reducible refine gate_callee (f := 96) rfl ?_);refine goesL_ (some 62) rfl rfl Try.func96 (by kernel_rfl) rfl #[.slice Ao66 t348.length co66,.slice Ao67 t351.length co67] rfl (by (try simp only [List.map_toArray,List.map_cons,List.map_nil]);first | done | rfl | (simp only [List.length_drop,List.length_take];rfl)) ?_;(with_reducible refine (laws_sameSums.calls k _ _ t348 _ _ t351 true _ ?side1 ?side2 ?side3 ?side4 A23.out).mono ?_);(case side1 => exact Kd.C_up (Kd.R_reads' HO350.out).2.2);(case side2 => exact (Kd.R_reads' HO350.out).2.1);(case side3 => exact Kd.C_up (Kd.R_reads' HO353.out).2.2);(case side4 => exact (Kd.R_reads' HO353.out).2.1);rintro e w' ⟨rfl,⟨nd,rfl⟩⟩;refine ⟨_,rfl,?_⟩;obtain ⟨Ao68,co68,eo68⟩ := Kd.R_slice HO336.out;subst eo68;obtain ⟨Ao69,co69,eo69⟩ := Kd.R_slice HO340.out;subst eo69) | (go_at_call 46;(with_reducible refine (laws_same.calls k _ _ t333 _ _ t337 false _ ?side1 ?side2 ?side3 ?side4 A25.out).mono ?_);(case side1 => exact Kd.C_up (Kd.R_reads' HO336.out).2.2);(case side2 => exact (Kd.R_reads' HO336.out).2.1);(case side3 => exact Kd.C_up (Kd.R_reads' HO340.out).2.2);(case side4 => exact (Kd.R_reads' HO340.out).2.1);rintro e w' ⟨rfl,⟨nd,rfl⟩⟩))
     go_meet
     case rel => exact ⟨_,(true),(by first | rfl | (simp;done) | (simp [*];done)),H',⟨by first | omega | exact Nat.le_refl _⟩,⟨by (with_reducible repeat (first | apply Kd.R_alloc | apply Kd.R_drewN | apply Kd.R_drew));exact Kd.R_mono HO331.out (fun _ hk => hk.1.1.2)⟩,⟨by (with_reducible repeat (first | apply Kd.R_alloc | apply Kd.R_drewN | apply Kd.R_drew));exact Kd.R_mono HO336.out (fun _ hk => hk.1.1.2)⟩,⟨by (with_reducible repeat (first | apply Kd.R_alloc | apply Kd.R_drewN | apply Kd.R_drew));exact Kd.R_mono HO350.out (fun _ hk => trivial)⟩,⟨by repeat (first | (with_reducible first | exact HB.out | apply below_alloc | apply pw_below_drewN | apply below_drew1) | exact HB.out)⟩⟩
   ·replace c24 := Bool.eq_false_iff.mpr c24
    subst c24
    have H1 : (laws_FnBlocks.j0 k t328 t329 t332 t333 t334 t348 true) = some r := by rw [if_neg (show ¬ (false = true) by decide)] at H;exact H
    clear H
    have H := H1
    clear H1
    have H' := Aside0.mk H
    clear H
    go_wp2_with (first | ((with_reducible refine gate_callee (f := 28) rfl ?_);refine goesL_ (some 61) rfl rfl Try.func28 (by kernel_rfl) rfl #[.slice Ao20 t328.length co20,.int .i64 t329] rfl (by (try simp only [List.map_toArray,List.map_cons,List.map_nil]);first | done | rfl | (simp only [List.length_drop,List.length_take];rfl)) ?_;(with_reducible refine (spec_SumsOf.calls k _ _ t328 t329 t351 _ ?side1 ?side2 A22.out).mono ?_);(case side1 => exact Kd.C_up (Kd.R_reads' HO331.out).2.2);(case side2 => exact (Kd.R_reads' HO331.out).2.1);rintro e w70 ⟨v352,rfl,ho0,hb⟩;refine ⟨_,rfl,?_⟩;have n0_ := Aside0.mk (Kd.R_below (Kd.R_up HO331.out) hb);have n1_ := Aside0.mk (Kd.R_below (Kd.R_up HO336.out) hb);have n2_ := Aside0.mk (Kd.R_below (Kd.R_up HO340.out) hb);have n3_ := Aside0.mk (Kd.R_below (Kd.R_up HO343.out) hb);have n4_ := Aside0.mk (Kd.R_elder' (Kd.R_up HO350.out) (Kd.R_base ho0) hb);have n5_ := Aside0.mk (Kd.R_lower (Kd.R_new' ho0 (Kd.R_lt (Kd.R_up HO350.out))) (below_size (B_up HB.out)));have n6_ := Aside0.mk (below_step (B_up HB.out) hb);clear HO331;clear HO336;clear HO340;clear HO343;clear HO350;clear HB;have HO331 := n0_;have HO336 := n1_;have HO340 := n2_;have HO343 := n3_;have HO350 := n4_;have HO353 := n5_;have HB := n6_;clear n0_ n1_ n2_ n3_ n4_ n5_ n6_;(try clear hb);(try clear hb2);(try clear hk);(try clear hi);(try clear ho0);obtain ⟨Ao71,co71,eo71⟩ := Kd.R_slice HO350.out;subst eo71;obtain ⟨Ao72,co72,eo72⟩ := Kd.R_slice HO353.out;subst eo72) | ((with_reducible refine gate_callee (f := 96) rfl ?_);refine goesL_ (some 62) rfl rfl Try.func96 (by kernel_rfl) rfl #[.slice Ao71 t348.length co71,.slice Ao72 t351.length co72] rfl (by (try simp only [List.map_toArray,List.map_cons,List.map_nil]);first | done | rfl | (simp only [List.length_drop,List.length_take];rfl)) ?_;(with_reducible refine (laws_sameSums.calls k _ _ t348 _ _ t351 false _ ?side1 ?side2 ?side3 ?side4 A23.out).mono ?_);(case side1 => exact Kd.C_up (Kd.R_reads' HO350.out).2.2);(case side2 => exact (Kd.R_reads' HO350.out).2.1);(case side3 => exact Kd.C_up (Kd.R_reads' HO353.out).2.2);(case side4 => exact (Kd.R_reads' HO353.out).2.1);rintro e w' ⟨rfl,⟨nd,rfl⟩⟩;refine ⟨_,rfl,?_⟩))
    go_meet
    case rel => exact ⟨_,(true),(by first | rfl | (simp;done) | (simp [*];done)),H',⟨by first | omega | exact Nat.le_refl _⟩,⟨by (with_reducible repeat (first | apply Kd.R_alloc | apply Kd.R_drewN | apply Kd.R_drew));exact Kd.R_mono HO331.out (fun _ hk => hk.1.1.2)⟩,⟨by (with_reducible repeat (first | apply Kd.R_alloc | apply Kd.R_drewN | apply Kd.R_drew));exact Kd.R_mono HO336.out (fun _ hk => hk.1.1.2)⟩,⟨by (with_reducible repeat (first | apply Kd.R_alloc | apply Kd.R_drewN | apply Kd.R_drew));exact Kd.R_mono HO350.out (fun _ hk => trivial)⟩,⟨by repeat (first | (with_reducible first | exact HB.out | apply below_alloc | apply pw_below_drewN | apply below_drew1) | exact HB.out)⟩⟩
  case rest => as_aux_lemma =>
   clear HC12
   try clear c1
   try clear c2
   try clear p2
   try clear c3
   try clear c4
   try clear c8
   try clear c9
   try clear c11
   try clear c12
   try clear c24
   try clear c26
   try clear c27
   try clear c27b0
   try clear c27b1
   try clear c27b2
   try clear c28
   try clear c30
   try clear c35
   try clear c35b0
   try clear c46
   try clear c46b0
   try clear c46b1
   obtain ⟨kq,x99_11,rfl,HA,HJ11,HO_3,HO_6,HO_15,HB⟩ := hcut
   cases kq with
   | zero => exact absurd HA.out (by simp [laws_FnBlocks.j0])
   | succ kj11 =>
    have H := HA.out
    clear HA
    simp only [laws_FnBlocks.j0] at H
    by_cases c73 : x99_11 = true
    ·subst c73
     rw [if_pos rfl] at H
     obtain rfl := Option.some.inj H
     go_wp2
     go_ret
     exact ⟨by first | rfl | (simp [errW_none,errW_some] <;> rfl) | (simp [*,errW_none,errW_some] <;> rfl),by repeat (first | (with_reducible first | exact HB.out | apply below_alloc | apply pw_below_drewN | apply below_drew1) | exact HB.out)⟩
    ·replace c73 := Bool.eq_false_iff.mpr c73
     subst c73
     have H1 : (if t334 = true then ((impl_SumOf.f kj11 t333).bind fun bt364 => (laws_FnBlocks.j1 kj11 t328 t329 t348 (bt364.2 != t332))) else (laws_FnBlocks.j1 kj11 t328 t329 t348 false)) = some r := by rw [if_neg (show ¬ (false = true) by decide)] at H;exact H
     clear H
     have H := H1
     clear H1
     have HC74 := Aside0.mk H
     clear H
     go_upto_region 13 with (fail)
     go_cut [107] (fun v107 wc => ∃ (kq : Nat) (x107_73 : Bool),v107 = .bool x107_73 ∧ Aside0 (laws_FnBlocks.j1 kq t328 t329 t348 x107_73 = some r) ∧ Aside0 (kq ≤ kj11) ∧ Aside0 (Kd.R (Kd.int .u8) 5 wc w.heap.size (fun _ => True) (.slice Ao20 t328.length co20) t328) ∧ Aside0 (Kd.R k81 81 wc w.heap.size (fun _ => True) v349 t348) ∧ Aside0 (Below w.heap.size w wc))
     case first => as_aux_lemma =>
      have H := HC74.out
      clear HC74
      by_cases c75 : t334 = true
      ·subst c75
       rw [if_pos rfl] at H
       replace H := Option.bind_eq_some_iff.mp H
       obtain ⟨⟨t364,t365⟩,A760,H⟩ := H
       replace H : (laws_FnBlocks.j1 kj11 t328 t329 t348 (t365 != t332)) = some r := H
       have A76 := Aside0.mk A760
       clear A760
       have H' := Aside0.mk H
       clear H
       obtain ⟨Ao77,co77,eo77⟩ := Kd.R_slice HO_6.out
       subst eo77
       go_wp2_with (first | (go_at_call 97;(with_reducible refine (impl_SumOf.calls kj11 _ _ t333 t364 t365 _ ?side1 ?side2 A76.out).mono ?_);(case side1 => exact Kd.C_up (Kd.R_reads' HO_6.out).2.2);(case side2 => exact (Kd.R_reads' HO_6.out).2.1);rintro e w78 ⟨rfl,hb⟩;have n0_ := Aside0.mk (Kd.R_below (Kd.R_up HO_3.out) hb);have n1_ := Aside0.mk (Kd.R_below (Kd.R_up HO_6.out) hb);have n2_ := Aside0.mk (Kd.R_below (Kd.R_up HO_15.out) hb);have n3_ := Aside0.mk (below_step (B_up HB.out) hb);clear HO_3;clear HO_6;clear HO_15;clear HB;have HO_3 := n0_;have HO_6 := n1_;have HO_15 := n2_;have HB := n3_;clear n0_ n1_ n2_ n3_;(try clear hb);(try clear hb2);(try clear hk);(try clear hi)))
       go_meet
       case rel => exact ⟨_,((t365 != t332)),(by first | rfl | (simp;done) | (simp [*];done)),H',⟨by have := HJ11.out;first | omega | exact Nat.le_refl _⟩,⟨by (with_reducible repeat (first | apply Kd.R_alloc | apply Kd.R_drewN | apply Kd.R_drew));exact Kd.R_mono HO_3.out (fun _ hk => trivial)⟩,⟨by (with_reducible repeat (first | apply Kd.R_alloc | apply Kd.R_drewN | apply Kd.R_drew));exact HO_15.out⟩,⟨by repeat (first | (with_reducible first | exact HB.out | apply below_alloc | apply pw_below_drewN | apply below_drew1) | exact HB.out)⟩⟩
      ·replace c75 := Bool.eq_false_iff.mpr c75
       subst c75
       have H1 : (laws_FnBlocks.j1 kj11 t328 t329 t348 false) = some r := by rw [if_neg (show ¬ (false = true) by decide)] at H;exact H
       clear H
       have H := H1
       clear H1
       have H' := Aside0.mk H
       clear H
       go_wp2
       go_meet
       case rel => exact ⟨_,(false),(by first | rfl | (simp;done) | (simp [*];done)),H',⟨by have := HJ11.out;first | omega | exact Nat.le_refl _⟩,⟨by (with_reducible repeat (first | apply Kd.R_alloc | apply Kd.R_drewN | apply Kd.R_drew));exact Kd.R_mono HO_3.out (fun _ hk => trivial)⟩,⟨by (with_reducible repeat (first | apply Kd.R_alloc | apply Kd.R_drewN | apply Kd.R_drew));exact HO_15.out⟩,⟨by repeat (first | (with_reducible first | exact HB.out | apply below_alloc | apply pw_below_drewN | apply below_drew1) | exact HB.out)⟩⟩
     case rest => as_aux_lemma =>
      clear HC74
      try clear c1
      try clear c2
      try clear p2
      try clear c3
      try clear c4
      try clear c7
      try clear c8
      try clear c9
      try clear c11
      try clear c12
      try clear c24
      try clear c26
      try clear c27
      try clear c27b0
      try clear c27b1
      try clear c27b2
      try clear c28
      try clear c30
      try clear c35
      try clear c35b0
      try clear c46
      try clear c46b0
      try clear c46b1
      try clear c73
      try clear c75
      try clear p2
      obtain ⟨kq,x107_73,rfl,HA,HJ73,HO_3,HO_15,HB⟩ := hcut
      cases kq with
      | zero => exact absurd HA.out (by simp [laws_FnBlocks.j1])
      | succ kj73 =>
       have H := HA.out
       clear HA
       simp only [laws_FnBlocks.j1] at H
       by_cases c79 : x107_73 = true
       ·subst c79
        rw [if_pos rfl] at H
        obtain rfl := Option.some.inj H
        go_wp2
        go_ret
        exact ⟨by first | rfl | (simp [errW_none,errW_some] <;> rfl) | (simp [*,errW_none,errW_some] <;> rfl),by repeat (first | (with_reducible first | exact HB.out | apply below_alloc | apply pw_below_drewN | apply below_drew1) | exact HB.out)⟩
       ·replace c79 := Bool.eq_false_iff.mpr c79
        subst c79
        have H1 : ((impl_SizeOk.f t329 (t328.length : Int)).bind fun t366 => (if t366 = true then (laws_FnBlocks.l0 kj73 t328 t329 t348 (([] : List Int)) 0) else (some ((t348.length : Int) == 0)))) = some r := by rw [if_neg (show ¬ (false = true) by decide)] at H;exact H
        clear H
        have H := H1
        clear H1
        replace H := Option.bind_eq_some_iff.mp H
        obtain ⟨t366,A800,H⟩ := H
        (try dsimp only at H)
        have A80 := Aside0.mk A800
        clear A800
        by_cases c81 : t366 = true
        ·subst c81
         rw [if_pos rfl] at H
         obtain ⟨y367,hy367⟩ : ∃ y_ : List Int,y_ = (([] : List Int)) := ⟨_,rfl⟩
         replace H : (laws_FnBlocks.l0 kj73 t328 t329 t348 y367 0) = some r := by first | (rw [hy367];with_reducible exact H) | (have H2_ := (Option.bind_some _ _).symm.trans H;rw [hy367];with_reducible exact H2_) | (have H2_ := (Option.bind_some _ _).symm.trans H;with_reducible exact H2_) | with_reducible exact H | (rw [hy367];exact H) | exact H
         have Ny367 := Aside0.mk hy367
         clear hy367
         have H' := Aside0.mk H
         clear H
         go_wp2_with (first | ((with_reducible refine gate_callee (f := 53) rfl ?_);refine goesL_ (some 111) rfl rfl Try.func53 (by kernel_rfl) rfl #[.int .i64 t329,.int .i64 (t328.length : Int)] rfl (by (try simp only [List.map_toArray,List.map_cons,List.map_nil]);first | done | rfl | (simp only [List.length_drop,List.length_take];rfl)) ?_;(with_reducible refine (impl_SizeOk.calls t329 (t328.length : Int) true _ A80.out).mono ?_);rintro e w' ⟨rfl,⟨nd,rfl⟩⟩;refine ⟨_,rfl,?_⟩) | ((with_reducible refine gate_dst (N := 116) rfl ?_);(try (refine gate_guard (by rfl) ?_;dsimp only));refine Kd.R_lit (Kd.int .u8) _ 5 ?hg (N := 116) ?hd (xs := ([] : List Int)) (inner := []) (ok := fun _ => True) (okp := fun _ => True) ?hr ?hp (fun _ hk => hk) trivial (Below.refl _ _) (Nat.le_refl _) (by simp) ?_;(case hd => rfl);(case hg => rfl);(case hr => first | (go_simp;done) | (go_simp;rfl));(case hp => exact (Reps.none _ _));intro v368 w82 ho83 hb hg_ hnew_;clear hg_ hnew_;(first | rw [← Ny367.out] at ho83 | (simp only [Int.reduceToNat] at ho83;rw [← Ny367.out] at ho83));have n0_ := Aside0.mk (Kd.R_elder' (Kd.R_up HO_3.out) (Kd.R_base ho83) hb);have n1_ := Aside0.mk (Kd.R_below (Kd.R_up HO_15.out) hb);have n2_ := Aside0.mk (Kd.R_lower (Kd.R_new' ho83 (Kd.R_lt (Kd.R_up HO_3.out))) (below_size (B_up HB.out)));have n3_ := Aside0.mk (below_step (B_up HB.out) hb);clear HO_3;clear HO_15;clear HB;have HO_3 := n0_;have HO_15 := n1_;have HO369 := n2_;have HB := n3_;clear n0_ n1_ n2_ n3_;clear hb ho83))
         go_loopg [16,17] kj73 (fun kq v16 v17 w' => ∃ (x16_3 : List Int) (x17_3 : Int),v17 = .int .i64 x17_3 ∧ Aside0 (laws_FnBlocks.l0 kq t328 t329 t348 x16_3 x17_3 = some r) ∧ Aside0 (kq ≤ kj73) ∧ Aside0 (Kd.R (Kd.int .u8) 5 w' w.heap.size (fun k_ => some k_ ≠ (v16 : Value).ownBlock) (.slice Ao20 t328.length co20) t328) ∧ Aside0 (Kd.R k81 81 w' w.heap.size (fun _ => True) v349 t348) ∧ Aside0 (Kd.R (Kd.int .u8) 5 w' w.heap.size (fun k_ => some k_ ≠ ((.slice Ao20 t328.length co20) : Value).ownBlock) v16 x16_3) ∧ Aside0 (Below w.heap.size w w'))
         case atStart => exact ⟨(y367),(0),(by first | rfl | (simp;done) | (simp [*];done)),H',⟨Nat.le_refl _⟩,⟨by (with_reducible repeat (first | apply Kd.R_alloc | apply Kd.R_drewN | apply Kd.R_drew));exact Kd.R_mono HO_3.out (fun _ hk => hk.2)⟩,⟨by (with_reducible repeat (first | apply Kd.R_alloc | apply Kd.R_drewN | apply Kd.R_drew));exact HO_15.out⟩,⟨by (with_reducible repeat (first | apply Kd.R_alloc | apply Kd.R_drewN | apply Kd.R_drew));exact Kd.R_mono HO369.out (fun _ hk => hk.2)⟩,⟨by repeat (first | (with_reducible first | exact HB.out | apply below_alloc | apply pw_below_drewN | apply below_drew1) | exact HB.out)⟩⟩
         case round =>
          clear H'
          try clear c1
          try clear c2
          try clear p2
          try clear c3
          try clear c4
          try clear c5
          try clear c7
          try clear c8
          try clear c9
          try clear c11
          try clear c12
          try clear c24
          try clear c26
          try clear c27
          try clear c27b0
          try clear c27b1
          try clear c27b2
          try clear c28
          try clear c30
          try clear c35
          try clear c35b0
          try clear c46
          try clear c46b0
          try clear c46b1
          try clear c53
          try clear c73
          try clear c75
          try clear c79
          try clear c81
          try clear p2
          obtain ⟨x16_3,x17_3,rfl,HA,HK3,HO_3,HO_15,HO_16,HB⟩ := hrel
          cases gk with
          | zero => exact absurd HA.out (by simp [laws_FnBlocks.l0])
          | succ k3 =>
           have H := HA.out
           clear HA
           simp only [laws_FnBlocks.l0] at H
           replace H := Option.bind_eq_some_iff.mp H
           obtain ⟨t370,A840,H⟩ := H
           (try dsimp only at H)
           have A84 := Aside0.mk A840
           clear A840
           by_cases c85 : x17_3 < t370
           ·rw [if_pos c85] at H
            have c85b0 : decide (x17_3 < t370) = true := decide_eq_true c85
            clear c85
            replace H := Option.bind_eq_some_iff.mp H
            obtain ⟨⟨t373,t374⟩,A860,H⟩ := H
            (try dsimp only at H)
            have A86 := Aside0.mk A860
            clear A860
            by_cases c87 : 0 ≤ x17_3
            ·rw [if_pos c87] at H
             have c87b0 : decide (0 ≤ x17_3) = true := decide_eq_true c87
             clear c87
             by_cases c88 : x17_3 < (t348.length : Int)
             ·rw [if_pos c88] at H
              have c88b0 : decide (x17_3 < (t348.length : Int)) = true := decide_eq_true c88
              clear c88
              replace H := Option.bind_eq_some_iff.mp H
              obtain ⟨⟨t378,t379⟩,A890,H⟩ := H
              (try dsimp only at H)
              have A89 := Aside0.mk A890
              clear A890
              replace H := Option.bind_eq_some_iff.mp H
              obtain ⟨⟨t382,t383⟩,A900,H⟩ := H
              (try dsimp only at H)
              have A90 := Aside0.mk A900
              clear A900
              by_cases c91 : t374 = true
              ·subst c91
               rw [if_pos rfl] at H
               by_cases c92 : t379 = true
               ·subst c92
                rw [if_pos rfl] at H
                replace H := Option.bind_eq_some_iff.mp H
                obtain ⟨t384,A930,H⟩ := H
                (try dsimp only at H)
                have A93 := Aside0.mk A930
                clear A930
                by_cases c94 : t384 = true
                ·subst c94
                 rw [if_pos rfl] at H
                 replace H := Option.bind_eq_some_iff.mp H
                 obtain ⟨⟨t385,t386⟩,A950,H⟩ := H
                 (try dsimp only at H)
                 have A95 := Aside0.mk A950
                 clear A950
                 by_cases c96 : (!(t385 == ((rd_T81 t348 x17_3).f0)) || (!(t386 == ((rd_T81 t348 x17_3).f1)))) = true
                 ·rw [if_pos c96] at H
                  have c96b0 : (!(t385 == ((rd_T81 t348 x17_3).f0)) || (!(t386 == ((rd_T81 t348 x17_3).f1)))) = true := c96
                  clear c96
                  obtain rfl := Option.some.inj H
                  try go_wp2_with (first | ((with_reducible refine gate_callee (f := 99) rfl ?_);refine goesL_ (some 121) rfl rfl Try.func99 (by kernel_rfl) rfl #[.int .i64 t329,.int .i64 (t328.length : Int)] rfl (by (try simp only [List.map_toArray,List.map_cons,List.map_nil]);first | done | rfl | (simp only [List.length_drop,List.length_take];rfl)) ?_;(with_reducible refine (impl_Blocks.calls t329 (t328.length : Int) t370 _ A84.out).mono ?_);rintro e w' ⟨rfl,⟨nd,rfl⟩⟩;refine ⟨_,rfl,?_⟩) | ((with_reducible refine gate_callee (f := 102) rfl ?_);refine goesL_ (some 129) rfl rfl Try.func102 (by kernel_rfl) rfl #[.slice Ao20 t328.length co20,.int .i64 t329,.int .i64 x17_3] rfl (by (try simp only [List.map_toArray,List.map_cons,List.map_nil]);first | done | rfl | (simp only [List.length_drop,List.length_take];rfl)) ?_;(with_reducible refine (impl_BlockAt.calls _ _ t328 t329 x17_3 t373 true _ ?side1 ?side2 A86.out).mono ?_);(case side1 => exact Kd.C_up (Kd.R_reads' HO_3.out).2.2);(case side2 => exact (Kd.R_reads' HO_3.out).2.1);rintro e w97 ⟨v375,rfl,ho0,hb⟩;refine ⟨_,rfl,?_⟩;have n0_ := Aside0.mk (Kd.R_elder' (Kd.R_up HO_3.out) (Kd.R_base ho0) hb);have n1_ := Aside0.mk (Kd.R_below (Kd.R_up HO_15.out) hb);have n2_ := Aside0.mk (Kd.R_elder' (Kd.R_up HO_16.out) (Kd.R_base ho0) hb);have n3_ := Aside0.mk (Kd.R_lower (Kd.R_new' (Kd.R_new' ho0 (Kd.R_lt (Kd.R_up HO_3.out))) (Kd.R_lt (Kd.R_up HO_16.out))) (below_size (B_up HB.out)));have n4_ := Aside0.mk (below_step (B_up HB.out) hb);clear HO_3;clear HO_15;clear HO_16;clear HB;have HO_3 := n0_;have HO_15 := n1_;have HO_16 := n2_;have HO376 := n3_;have HB := n4_;clear n0_ n1_ n2_ n3_ n4_;(try clear hb);(try clear hb2);(try clear hk);(try clear hi);(try clear ho0);obtain ⟨Ao98,co98,eo98⟩ := Kd.R_slice HO_15.out;subst eo98;have p377 : 0 ≤ (x17_3 : Int) := of_decide_eq_true (by first | (with_reducible assumption) | assumption);have q377 : x17_3 < (t348.length : Int) := of_decide_eq_true (by first | (with_reducible assumption) | assumption);obtain ⟨ad377,e377,hx377_0,hx377_1⟩ := at_T81 (Kd.R_reads' HO_15.out).2.2 x17_3 p377 q377;cases e377;replace p377 := eq_true p377;replace q377 := eq_true q377) | ((with_reducible refine gate_callee (f := 91) rfl ?_);refine goesL_ (some 138) rfl rfl Try.func91 (by kernel_rfl) rfl #[.int .i64 ((rd_T81 t348 x17_3).f1)] rfl (by (try simp only [List.map_toArray,List.map_cons,List.map_nil]);first | done | rfl | (simp only [List.length_drop,List.length_take];rfl)) ?_;(with_reducible refine (impl_BytesOf.calls k3 ((rd_T81 t348 x17_3).f1) t378 true _ A89.out).mono ?_);rintro e w99 ⟨v380,rfl,ho0,hb⟩;refine ⟨_,rfl,?_⟩;have n0_ := Aside0.mk (Kd.R_elder' (Kd.R_up HO_3.out) (Kd.R_base ho0) hb);have n1_ := Aside0.mk (Kd.R_below (Kd.R_up HO_15.out) hb);have n2_ := Aside0.mk (Kd.R_elder' (Kd.R_up HO_16.out) (Kd.R_base ho0) hb);have n3_ := Aside0.mk (Kd.R_elder' (Kd.R_up HO376.out) (Kd.R_base ho0) hb);have n4_ := Aside0.mk (Kd.R_lower (Kd.R_new' (Kd.R_new' (Kd.R_new' ho0 (Kd.R_lt (Kd.R_up HO_3.out))) (Kd.R_lt (Kd.R_up HO_16.out))) (Kd.R_lt (Kd.R_up HO376.out))) (below_size (B_up HB.out)));have n5_ := Aside0.mk (below_step (B_up HB.out) hb);clear HO_3;clear HO_15;clear HO_16;clear HO376;clear HB;have HO_3 := n0_;have HO_15 := n1_;have HO_16 := n2_;have HO376 := n3_;have HO381 := n4_;have HB := n5_;clear n0_ n1_ n2_ n3_ n4_ n5_;(try clear hb);(try clear hb2);(try clear hk);(try clear hi);(try clear ho0)) | ((with_reducible refine gate_callee (f := 103) rfl ?_);refine goesL_ (some 146) rfl rfl Try.func103 (by kernel_rfl) rfl #[.int .i64 t329,.int .i64 (t328.length : Int),.int .i64 x17_3] rfl (by (try simp only [List.map_toArray,List.map_cons,List.map_nil]);first | done | rfl | (simp only [List.length_drop,List.length_take];rfl)) ?_;(with_reducible refine (impl_SpanOf.calls t329 (t328.length : Int) x17_3 t382 t383 _ A90.out).mono ?_);rintro e w100 ⟨rfl,hb⟩;refine ⟨_,rfl,?_⟩;have n0_ := Aside0.mk (Kd.R_below (Kd.R_up HO_3.out) hb);have n1_ := Aside0.mk (Kd.R_below (Kd.R_up HO_15.out) hb);have n2_ := Aside0.mk (Kd.R_below (Kd.R_up HO_16.out) hb);have n3_ := Aside0.mk (Kd.R_below (Kd.R_up HO376.out) hb);have n4_ := Aside0.mk (Kd.R_below (Kd.R_up HO381.out) hb);have n5_ := Aside0.mk (below_step (B_up HB.out) hb);clear HO_3;clear HO_15;clear HO_16;clear HO376;clear HO381;clear HB;have HO_3 := n0_;have HO_15 := n1_;have HO_16 := n2_;have HO376 := n3_;have HO381 := n4_;have HB := n5_;clear n0_ n1_ n2_ n3_ n4_ n5_;(try clear hb);(try clear hb2);(try clear hk);(try clear hi)))
                  have n0_ := Aside0.mk (Kd.R_drew HO_3.out)
                  have n1_ := Aside0.mk (Kd.R_drew HO_15.out)
                  have n2_ := Aside0.mk (Kd.R_drew HO_16.out)
                  have n3_ := Aside0.mk (Kd.R_drew HO376.out)
                  have n4_ := Aside0.mk (Kd.R_drew HO381.out)
                  have n5_ := Aside0.mk (below_drew1 HB.out)
                  clear HO_3
                  clear HO_15
                  clear HO_16
                  clear HO376
                  clear HO381
                  clear HB
                  have HO_3 := n0_
                  have HO_15 := n1_
                  have HO_16 := n2_
                  have HO376 := n3_
                  have HO381 := n4_
                  have HB := n5_
                  clear n0_ n1_ n2_ n3_ n4_ n5_
                  obtain ⟨Ao102,co102,eo102⟩ := Kd.R_slice HO376.out
                  (first | subst eo102 | (injection eo102 with f1_ f2_ f3_;have f4_ := f1_.symm;have f5_ := f3_.symm;clear f1_ f2_ f3_;subst f4_;subst f5_))
                  obtain ⟨Ao103,co103,eo103⟩ := Kd.R_slice HO381.out
                  (first | subst eo103 | (injection eo103 with f1_ f2_ f3_;have f4_ := f1_.symm;have f5_ := f3_.symm;clear f1_ f2_ f3_;subst f4_;subst f5_))
                  have p387 : 0 ≤ (x17_3 : Int) := of_decide_eq_true (by first | (with_reducible assumption) | assumption)
                  have q387 : x17_3 < (t348.length : Int) := of_decide_eq_true (by first | (with_reducible assumption) | assumption)
                  obtain ⟨ad387,e387,hx387_0,hx387_1⟩ := at_T81 (Kd.R_reads' HO_15.out).2.2 x17_3 p387 q387
                  obtain rfl : ad377 = ad387 := (by injection e387)
                  replace p387 := eq_true p387
                  replace q387 := eq_true q387
                  refine start_ (n := 33) (S := fun w' => w'.cell? (ad377.add ((x17_3).toNat * 2)) = some (.int .i64 ((rd_T81 t348 x17_3).f0)) ∧ w'.cell? ⟨(ad377.add ((x17_3).toNat * 2)).block,(ad377.add ((x17_3).toNat * 2)).off + 1,none⟩ = some (.int .i64 ((rd_T81 t348 x17_3).f1))) (ds := []) #[false,false,false,false,false,false,false,false,false,false,false,false,false,false,false,false,false,false,false,false,false,false,false,false,false,false,false,false,false,false,false,false,false] (by kernel_rfl) rfl rfl ⟨hx387_0,hx387_1⟩ (fun hHeld => ?_);refine with_tabW laws_FnBlocks.tab24 laws_FnBlocks.bits24 (fun HT_ HW_ => ?_)
                  generalize w100.drew = w101 at HO_3 HO_15 HO_16 HO376 HO381 HB hx387_0 hx387_1 hHeld ⊢
                  refine pure_ (i := 0) (N := some 149) (v := ?_) (a' := ?_) #[true,false,false,false,false,false,false,false,false,false,false,false,false,false,false,false,false,false,false,false,false,false,false,false,false,false,false,false,false,false,false,false,false] rfl rfl (any_of HT_.out (by kernel_rfl)) (fun _ _ _ h => h) (Or.inl ⟨by rfl,?_⟩) ?_ ?_
                  rotate_left
                  ·intro w'
                   go_simp
                   with_reducible rfl
                  rotate_left
                  ·simp only [Act.put,List.setIfInBounds_toArray,List.set_cons_zero,List.set_cons_succ,i64_w,i32_w]
                   rfl
                  refine pure_ (i := 1) (N := some 150) (v := ?_) (a' := ?_) #[true,true,false,false,false,false,false,false,false,false,false,false,false,false,false,false,false,false,false,false,false,false,false,false,false,false,false,false,false,false,false,false,false] rfl rfl (any_of HT_.out (by kernel_rfl)) (fun _ _ _ h => h) (Or.inl ⟨by rfl,?_⟩) ?_ ?_
                  rotate_left
                  ·intro w'
                   go_simp
                   with_reducible rfl
                  rotate_left
                  ·simp only [Act.put,List.setIfInBounds_toArray,List.set_cons_zero,List.set_cons_succ,i64_w,i32_w]
                   rfl
                  refine pure_ (i := 2) (N := some 151) (v := ?_) (a' := ?_) #[true,true,true,false,false,false,false,false,false,false,false,false,false,false,false,false,false,false,false,false,false,false,false,false,false,false,false,false,false,false,false,false,false] rfl rfl (any_of HT_.out (by kernel_rfl)) (fun _ _ _ h => h) (Or.inl ⟨by rfl,?_⟩) ?_ ?_
                  rotate_left
                  ·intro w'
                   go_simp
                   with_reducible rfl
                  rotate_left
                  ·simp only [Act.put,List.setIfInBounds_toArray,List.set_cons_zero,List.set_cons_succ,i64_w,i32_w]
                   rfl
                  refine pure_ (i := 3) (N := some 152) (v := ?_) (a' := ?_) #[true,true,true,true,false,false,false,false,false,false,false,false,false,false,false,false,false,false,false,false,false,false,false,false,false,false,false,false,false,false,false,false,false] rfl rfl (any_of HT_.out (by kernel_rfl)) (fun _ _ _ h => h) (Or.inl ⟨by rfl,?_⟩) ?_ ?_
                  rotate_left
                  ·intro w'
                   go_simp
                   with_reducible rfl
                  rotate_left
                  ·simp only [Act.put,List.setIfInBounds_toArray,List.set_cons_zero,List.set_cons_succ,i64_w,i32_w]
                   rfl
                  refine pure_ (i := 4) (N := some 153) (v := ?_) (a' := ?_) #[true,true,true,true,true,false,false,false,false,false,false,false,false,false,false,false,false,false,false,false,false,false,false,false,false,false,false,false,false,false,false,false,false] rfl rfl (any_of HT_.out (by kernel_rfl)) (fun _ _ _ h => h) (Or.inl ⟨by rfl,?_⟩) ?_ ?_
                  rotate_left
                  ·intro w'
                   go_simp
                   with_reducible rfl
                  rotate_left
                  ·simp only [Act.put,List.setIfInBounds_toArray,List.set_cons_zero,List.set_cons_succ,i64_w,i32_w]
                   rfl
                  refine pure_ (i := 5) (N := some 154) (v := ?_) (a' := ?_) #[true,true,true,true,true,true,false,false,false,false,false,false,false,false,false,false,false,false,false,false,false,false,false,false,false,false,false,false,false,false,false,false,false] rfl rfl (any_of HT_.out (by kernel_rfl)) (fun _ _ _ h => h) (Or.inl ⟨by rfl,?_⟩) ?_ ?_
                  rotate_left
                  ·intro w'
                   go_simp
                   with_reducible rfl
                  rotate_left
                  ·simp only [Act.put,List.setIfInBounds_toArray,List.set_cons_zero,List.set_cons_succ,i64_w,i32_w]
                   rfl
                  refine pure_ (i := 6) (N := some 155) (v := ?_) (a' := ?_) #[true,true,true,true,true,true,true,false,false,false,false,false,false,false,false,false,false,false,false,false,false,false,false,false,false,false,false,false,false,false,false,false,false] rfl rfl (any_of HT_.out (by kernel_rfl)) (fun _ _ _ h => h) (Or.inl ⟨by rfl,?_⟩) ?_ ?_
                  rotate_left
                  ·intro w'
                   go_simp
                   with_reducible rfl
                  rotate_left
                  ·simp only [Act.put,List.setIfInBounds_toArray,List.set_cons_zero,List.set_cons_succ,i64_w,i32_w]
                   rfl
                  refine pure_ (i := 7) (N := some 156) (v := ?_) (a' := ?_) #[true,true,true,true,true,true,true,true,false,false,false,false,false,false,false,false,false,false,false,false,false,false,false,false,false,false,false,false,false,false,false,false,false] rfl rfl (any_of HT_.out (by kernel_rfl)) (fun _ _ _ h => h) (Or.inl ⟨by rfl,?_⟩) ?_ ?_
                  rotate_left
                  ·intro w'
                   go_simp
                   with_reducible rfl
                  rotate_left
                  ·simp only [Act.put,List.setIfInBounds_toArray,List.set_cons_zero,List.set_cons_succ,i64_w,i32_w]
                   rfl
                  refine pure_ (i := 8) (N := some 157) (v := ?_) (a' := ?_) #[true,true,true,true,true,true,true,true,true,false,false,false,false,false,false,false,false,false,false,false,false,false,false,false,false,false,false,false,false,false,false,false,false] rfl rfl (any_of HT_.out (by kernel_rfl)) (fun _ _ _ h => h) (Or.inl ⟨by rfl,?_⟩) ?_ ?_
                  rotate_left
                  ·intro w'
                   go_simp
                   with_reducible rfl
                  rotate_left
                  ·simp only [Act.put,List.setIfInBounds_toArray,List.set_cons_zero,List.set_cons_succ,i64_w,i32_w]
                   rfl
                  refine one_ (i := 9) (N := some 158) #[true,true,true,true,true,true,true,true,true,true,false,false,false,false,false,false,false,false,false,false,false,false,false,false,false,false,false,false,false,false,false,false,false] rfl rfl (one_of HT_.out (by kernel_rfl)) (by decide) (fun K hK => ?_)
                  refine goes_ Try.func46 (by kernel_rfl) rfl #[.slice Ao102 t373.length co102,.slice Ao103 t378.length co103] (by rfl) rfl rfl (by (try simp only [List.map_toArray,List.map_cons,List.map_nil]);first | done | rfl | (simp only [List.length_drop,List.length_take];rfl)) ?_
                  with_reducible refine (laws_same.calls k3 _ _ t373 _ _ t378 true _ ?side1 ?side2 ?side3 ?side4 A93.out).mono ?_
                  (case side1 => exact Kd.C_up (Kd.R_reads' HO376.out).2.2)
                  (case side2 => exact (Kd.R_reads' HO376.out).2.1)
                  (case side3 => exact Kd.C_up (Kd.R_reads' HO381.out).2.2)
                  (case side4 => exact (Kd.R_reads' HO381.out).2.1)
                  rintro e w' ⟨rfl,⟨nd,rfl⟩⟩
                  refine ⟨_,rfl,?_⟩
                  refine hK.out _ _ ⟨hHeld.1,hHeld.2⟩ (fun hHeld => ?_)
                  clear hK K
                  refine norm_ (a' := ?_) ?_ ?_
                  rotate_left
                  ·show Act.put _ (some 158) _ = _
                   simp only [Act.put,List.setIfInBounds_toArray,List.set_cons_zero,List.set_cons_succ,i64_w,i32_w]
                   rfl
                  refine pure_ (i := 10) (N := some 159) (v := ?_) (a' := ?_) #[true,true,true,true,true,true,true,true,true,true,true,false,false,false,false,false,false,false,false,false,false,false,false,false,false,false,false,false,false,false,false,false,false] rfl rfl (any_of HT_.out (by kernel_rfl)) (fun _ _ _ h => h) (Or.inl ⟨by rfl,?_⟩) ?_ ?_
                  rotate_left
                  ·intro w'
                   go_simp
                   with_reducible rfl
                  rotate_left
                  ·simp only [Act.put,List.setIfInBounds_toArray,List.set_cons_zero,List.set_cons_succ,i64_w,i32_w]
                   rfl
                  refine pure_ (i := 11) (N := some 160) (v := ?_) (a' := ?_) #[true,true,true,true,true,true,true,true,true,true,true,true,false,false,false,false,false,false,false,false,false,false,false,false,false,false,false,false,false,false,false,false,false] rfl rfl (any_of HT_.out (by kernel_rfl)) (fun _ _ _ h => h) (Or.inl ⟨by rfl,?_⟩) ?_ ?_
                  rotate_left
                  ·intro w'
                   go_simp
                   with_reducible rfl
                  rotate_left
                  ·simp only [Act.put,List.setIfInBounds_toArray,List.set_cons_zero,List.set_cons_succ,i64_w,i32_w]
                   rfl
                  refine pure_ (i := 12) (N := some 161) (v := ?_) (a' := ?_) #[true,true,true,true,true,true,true,true,true,true,true,true,true,false,false,false,false,false,false,false,false,false,false,false,false,false,false,false,false,false,false,false,false] rfl rfl (any_of HT_.out (by kernel_rfl)) (fun _ _ _ h => h) (Or.inl ⟨by rfl,?_⟩) ?_ ?_
                  rotate_left
                  ·intro w'
                   go_simp
                   with_reducible rfl
                  rotate_left
                  ·simp only [Act.put,List.setIfInBounds_toArray,List.set_cons_zero,List.set_cons_succ,i64_w,i32_w]
                   rfl
                  refine pure_ (i := 13) (N := some 162) (v := ?_) (a' := ?_) #[true,true,true,true,true,true,true,true,true,true,true,true,true,true,false,false,false,false,false,false,false,false,false,false,false,false,false,false,false,false,false,false,false] rfl rfl (any_of HT_.out (by kernel_rfl)) (fun _ _ _ h => h) (Or.inl ⟨by rfl,?_⟩) ?_ ?_
                  rotate_left
                  ·intro w'
                   go_simp
                   with_reducible rfl
                  rotate_left
                  ·simp only [Act.put,List.setIfInBounds_toArray,List.set_cons_zero,List.set_cons_succ,i64_w,i32_w]
                   rfl
                  refine pure_ (i := 15) (N := some 164) (v := ?_) (a' := ?_) #[true,true,true,true,true,true,true,true,true,true,true,true,true,true,false,true,false,false,false,false,false,false,false,false,false,false,false,false,false,false,false,false,false] rfl rfl (any_of HT_.out (by kernel_rfl)) (fun _ _ _ h => h) (Or.inl ⟨by rfl,?_⟩) ?_ ?_
                  rotate_left
                  ·intro w'
                   go_simp
                   with_reducible rfl
                  rotate_left
                  ·simp only [Act.put,List.setIfInBounds_toArray,List.set_cons_zero,List.set_cons_succ,i64_w,i32_w]
                   rfl
                  refine pure_ (i := 16) (N := some 165) (v := ?_) (a' := ?_) #[true,true,true,true,true,true,true,true,true,true,true,true,true,true,false,true,true,false,false,false,false,false,false,false,false,false,false,false,false,false,false,false,false] rfl rfl (any_of HT_.out (by kernel_rfl)) (fun _ _ _ h => h) (Or.inl ⟨by rfl,?_⟩) ?_ ?_
                  rotate_left
                  ·intro w'
                   go_simp
                   with_reducible rfl
                  rotate_left
                  ·simp only [Act.put,List.setIfInBounds_toArray,List.set_cons_zero,List.set_cons_succ,i64_w,i32_w]
                   rfl
                  refine pure_ (i := 17) (N := some 166) (v := ?_) (a' := ?_) #[true,true,true,true,true,true,true,true,true,true,true,true,true,true,false,true,true,true,false,false,false,false,false,false,false,false,false,false,false,false,false,false,false] rfl rfl (any_of HT_.out (by kernel_rfl)) (fun _ _ _ h => h) (Or.inl ⟨by rfl,?_⟩) ?_ ?_
                  rotate_left
                  ·intro w'
                   go_simp
                   with_reducible rfl
                  rotate_left
                  ·simp only [Act.put,List.setIfInBounds_toArray,List.set_cons_zero,List.set_cons_succ,i64_w,i32_w]
                   rfl
                  refine take_ (i := 18) (N := some 167) (v := ?_) (a' := ?_) #[true,true,true,true,true,true,true,true,true,true,true,true,true,true,false,true,true,true,true,false,false,false,false,false,false,false,false,false,false,false,false,false,false] rfl rfl (take_ofW HT_.out HW_.out (by kernel_rfl)) (fun _ _ _ h => h) (Or.inl ⟨by rfl,?_⟩) hHeld ?_ ?_
                  rotate_left
                  ·rintro w' ⟨s0,s1⟩
                   go_simp
                   with_reducible rfl
                  rotate_left
                  ·simp only [Act.put,List.setIfInBounds_toArray,List.set_cons_zero,List.set_cons_succ,i64_w,i32_w]
                   rfl
                  refine one_ (i := 14) (N := some 163) #[true,true,true,true,true,true,true,true,true,true,true,true,true,true,true,true,true,true,true,false,false,false,false,false,false,false,false,false,false,false,false,false,false] rfl rfl (one_of HT_.out (by kernel_rfl)) (by decide) (fun K hK => ?_)
                  refine goes_ Try.func97 (by kernel_rfl) rfl #[.slice Ao102 t373.length co102] (by rfl) rfl rfl (by (try simp only [List.map_toArray,List.map_cons,List.map_nil]);first | done | rfl | (simp only [List.length_drop,List.length_take];rfl)) ?_
                  with_reducible refine (impl_SumOf.calls k3 _ _ t373 t385 t386 _ ?side1 ?side2 A95.out).mono ?_
                  (case side1 => exact Kd.C_up (Kd.R_reads' HO376.out).2.2)
                  (case side2 => exact (Kd.R_reads' HO376.out).2.1)
                  rintro e w104 ⟨rfl,hb⟩
                  have HS0_ := (hb.cell (World.block_lt_of_cell? _ _ (hHeld.1))).trans (hHeld.1)
                  have HS1_ := (hb.cell (World.block_lt_of_cell? _ _ (hHeld.2))).trans (hHeld.2)
                  refine ⟨_,rfl,?_⟩
                  have n0_ := Aside0.mk (Kd.R_below (Kd.R_up HO_3.out) hb)
                  have n1_ := Aside0.mk (Kd.R_below (Kd.R_up HO_15.out) hb)
                  have n2_ := Aside0.mk (Kd.R_below (Kd.R_up HO_16.out) hb)
                  have n3_ := Aside0.mk (Kd.R_below (Kd.R_up HO376.out) hb)
                  have n4_ := Aside0.mk (Kd.R_below (Kd.R_up HO381.out) hb)
                  have n5_ := Aside0.mk (below_step (B_up HB.out) hb)
                  clear HO_3
                  clear HO_15
                  clear HO_16
                  clear HO376
                  clear HO381
                  clear HB
                  have HO_3 := n0_
                  have HO_15 := n1_
                  have HO_16 := n2_
                  have HO376 := n3_
                  have HO381 := n4_
                  have HB := n5_
                  clear n0_ n1_ n2_ n3_ n4_ n5_
                  (try clear hb)
                  (try clear hb2)
                  (try clear hk)
                  (try clear hi)
                  refine hK.out _ _ ⟨HS0_,HS1_⟩ (fun hHeld => ?_)
                  clear hK K
                  refine norm_ (a' := ?_) ?_ ?_
                  rotate_left
                  ·show Act.put _ (some 163) _ = _
                   simp only [Act.put,List.setIfInBounds_toArray,List.set_cons_zero,List.set_cons_succ,i64_w,i32_w]
                   rfl
                  refine pure_ (i := 19) (N := some 168) (v := ?_) (a' := ?_) #[true,true,true,true,true,true,true,true,true,true,true,true,true,true,true,true,true,true,true,true,false,false,false,false,false,false,false,false,false,false,false,false,false] rfl rfl (any_of HT_.out (by kernel_rfl)) (fun _ _ _ h => h) (Or.inl ⟨by rfl,?_⟩) ?_ ?_
                  rotate_left
                  ·intro w'
                   go_simp
                   with_reducible rfl
                  rotate_left
                  ·simp only [Act.put,List.setIfInBounds_toArray,List.set_cons_zero,List.set_cons_succ,i64_w,i32_w]
                   rfl
                  refine pure_ (i := 20) (N := some 169) (v := ?_) (a' := ?_) #[true,true,true,true,true,true,true,true,true,true,true,true,true,true,true,true,true,true,true,true,true,false,false,false,false,false,false,false,false,false,false,false,false] rfl rfl (any_of HT_.out (by kernel_rfl)) (fun _ _ _ h => h) (Or.inl ⟨by rfl,?_⟩) ?_ ?_
                  rotate_left
                  ·intro w'
                   go_simp
                   with_reducible rfl
                  rotate_left
                  ·simp only [Act.put,List.setIfInBounds_toArray,List.set_cons_zero,List.set_cons_succ,i64_w,i32_w]
                   rfl
                  refine pure_ (i := 21) (N := some 170) (v := ?_) (a' := ?_) #[true,true,true,true,true,true,true,true,true,true,true,true,true,true,true,true,true,true,true,true,true,true,false,false,false,false,false,false,false,false,false,false,false] rfl rfl (any_of HT_.out (by kernel_rfl)) (fun _ _ _ h => h) (Or.inl ⟨by rfl,?_⟩) ?_ ?_
                  rotate_left
                  ·intro w'
                   go_simp
                   with_reducible rfl
                  rotate_left
                  ·simp only [Act.put,List.setIfInBounds_toArray,List.set_cons_zero,List.set_cons_succ,i64_w,i32_w]
                   rfl
                  refine pure_ (i := 22) (N := some 171) (v := undef) (a' := ?_) #[true,true,true,true,true,true,true,true,true,true,true,true,true,true,true,true,true,true,true,true,true,true,true,false,false,false,false,false,false,false,false,false,false] rfl rfl (any_of HT_.out (by kernel_rfl)) (fun _ _ _ h => h) (Or.inr ⟨by rfl,rfl⟩) ?_ ?_
                  rotate_left
                  ·simp only [Act.put,List.setIfInBounds_toArray,List.set_cons_zero,List.set_cons_succ,i64_w,i32_w]
                   rfl
                  refine pure_ (i := 23) (N := some 172) (v := undef) (a' := ?_) #[true,true,true,true,true,true,true,true,true,true,true,true,true,true,true,true,true,true,true,true,true,true,true,true,false,false,false,false,false,false,false,false,false] rfl rfl (any_of HT_.out (by kernel_rfl)) (fun _ _ _ h => h) (Or.inr ⟨by rfl,rfl⟩) ?_ ?_
                  rotate_left
                  ·simp only [Act.put,List.setIfInBounds_toArray,List.set_cons_zero,List.set_cons_succ,i64_w,i32_w]
                   rfl
                  refine pure_ (i := 24) (N := some 173) (v := undef) (a' := ?_) #[true,true,true,true,true,true,true,true,true,true,true,true,true,true,true,true,true,true,true,true,true,true,true,true,true,false,false,false,false,false,false,false,false] rfl rfl (any_of HT_.out (by kernel_rfl)) (fun _ _ _ h => h) (Or.inr ⟨by rfl,rfl⟩) ?_ ?_
                  rotate_left
                  ·simp only [Act.put,List.setIfInBounds_toArray,List.set_cons_zero,List.set_cons_succ,i64_w,i32_w]
                   rfl
                  refine pure_ (i := 25) (N := some 174) (v := undef) (a' := ?_) #[true,true,true,true,true,true,true,true,true,true,true,true,true,true,true,true,true,true,true,true,true,true,true,true,true,true,false,false,false,false,false,false,false] rfl rfl (any_of HT_.out (by kernel_rfl)) (fun _ _ _ h => h) (Or.inr ⟨by rfl,rfl⟩) ?_ ?_
                  rotate_left
                  ·simp only [Act.put,List.setIfInBounds_toArray,List.set_cons_zero,List.set_cons_succ,i64_w,i32_w]
                   rfl
                  refine pure_ (i := 26) (N := some 175) (v := ?_) (a' := ?_) #[true,true,true,true,true,true,true,true,true,true,true,true,true,true,true,true,true,true,true,true,true,true,true,true,true,true,true,false,false,false,false,false,false] rfl rfl (any_of HT_.out (by kernel_rfl)) (fun _ _ _ h => h) (Or.inl ⟨by rfl,?_⟩) ?_ ?_
                  rotate_left
                  ·intro w'
                   go_simp
                   with_reducible rfl
                  rotate_left
                  ·simp only [Act.put,List.setIfInBounds_toArray,List.set_cons_zero,List.set_cons_succ,i64_w,i32_w]
                   rfl
                  refine pure_ (i := 27) (N := some 176) (v := ?_) (a' := ?_) #[true,true,true,true,true,true,true,true,true,true,true,true,true,true,true,true,true,true,true,true,true,true,true,true,true,true,true,true,false,false,false,false,false] rfl rfl (any_of HT_.out (by kernel_rfl)) (fun _ _ _ h => h) (Or.inl ⟨by rfl,?_⟩) ?_ ?_
                  rotate_left
                  ·intro w'
                   go_simp
                   with_reducible rfl
                  rotate_left
                  ·simp only [Act.put,List.setIfInBounds_toArray,List.set_cons_zero,List.set_cons_succ,i64_w,i32_w]
                   rfl
                  refine pure_ (i := 28) (N := some 177) (v := undef) (a' := ?_) #[true,true,true,true,true,true,true,true,true,true,true,true,true,true,true,true,true,true,true,true,true,true,true,true,true,true,true,true,true,false,false,false,false] rfl rfl (any_of HT_.out (by kernel_rfl)) (fun _ _ _ h => h) (Or.inr ⟨by rfl,rfl⟩) ?_ ?_
                  rotate_left
                  ·simp only [Act.put,List.setIfInBounds_toArray,List.set_cons_zero,List.set_cons_succ,i64_w,i32_w]
                   rfl
                  refine pure_ (i := 29) (N := some 178) (v := undef) (a' := ?_) #[true,true,true,true,true,true,true,true,true,true,true,true,true,true,true,true,true,true,true,true,true,true,true,true,true,true,true,true,true,true,false,false,false] rfl rfl (any_of HT_.out (by kernel_rfl)) (fun _ _ _ h => h) (Or.inr ⟨by rfl,rfl⟩) ?_ ?_
                  rotate_left
                  ·simp only [Act.put,List.setIfInBounds_toArray,List.set_cons_zero,List.set_cons_succ,i64_w,i32_w]
                   rfl
                  refine pure_ (i := 30) (N := some 179) (v := undef) (a' := ?_) #[true,true,true,true,true,true,true,true,true,true,true,true,true,true,true,true,true,true,true,true,true,true,true,true,true,true,true,true,true,true,true,false,false] rfl rfl (any_of HT_.out (by kernel_rfl)) (fun _ _ _ h => h) (Or.inr ⟨by rfl,rfl⟩) ?_ ?_
                  rotate_left
                  ·simp only [Act.put,List.setIfInBounds_toArray,List.set_cons_zero,List.set_cons_succ,i64_w,i32_w]
                   rfl
                  refine pure_ (i := 31) (N := some 180) (v := undef) (a' := ?_) #[true,true,true,true,true,true,true,true,true,true,true,true,true,true,true,true,true,true,true,true,true,true,true,true,true,true,true,true,true,true,true,true,false] rfl rfl (any_of HT_.out (by kernel_rfl)) (fun _ _ _ h => h) (Or.inr ⟨by rfl,rfl⟩) ?_ ?_
                  rotate_left
                  ·simp only [Act.put,List.setIfInBounds_toArray,List.set_cons_zero,List.set_cons_succ,i64_w,i32_w]
                   rfl
                  refine pure_ (i := 32) (N := some 181) (v := ?_) (a' := ?_) #[true,true,true,true,true,true,true,true,true,true,true,true,true,true,true,true,true,true,true,true,true,true,true,true,true,true,true,true,true,true,true,true,true] rfl rfl (any_of HT_.out (by kernel_rfl)) (fun _ _ _ h => h) (Or.inl ⟨by rfl,?_⟩) ?_ ?_
                  rotate_left
                  ·intro w'
                   go_simp
                   with_reducible rfl
                  rotate_left
                  ·simp only [Act.put,List.setIfInBounds_toArray,List.set_cons_zero,List.set_cons_succ,i64_w,i32_w]
                   rfl
                  refine done_ (done_of HT_.out (by kernel_rfl)) ?_
                  try go_wp2
                  go_ret
                  exact ⟨by first | rfl | (simp [errW_none,errW_some] <;> rfl) | (simp [*,errW_none,errW_some] <;> rfl),by repeat (first | (with_reducible first | exact HB.out | apply below_alloc | apply pw_below_drewN | apply below_drew1) | exact HB.out)⟩
                 ·rw [if_neg c96] at H
                  have c96b0 : (!(t385 == ((rd_T81 t348 x17_3).f0)) || (!(t386 == ((rd_T81 t348 x17_3).f1)))) = false := by simpa using c96
                  clear c96
                  by_cases c105 : t382 = (x16_3.length : Int)
                  ·rw [if_pos c105] at H
                   have c105b0 : (t382 == (x16_3.length : Int)) = true := beq_iff_eq.mpr c105
                   have c105b1 : (t382 != (x16_3.length : Int)) = false := bne_eq_false_iff_eq.mpr c105
                   clear c105
                   by_cases c106 : t383 = (t373.length : Int)
                   ·rw [if_pos c106] at H
                    have c106b0 : (t383 == (t373.length : Int)) = true := beq_iff_eq.mpr c106
                    have c106b1 : (t383 != (t373.length : Int)) = false := bne_eq_false_iff_eq.mpr c106
                    clear c106
                    by_cases c107 : x16_3.length + t373.length < 140737488355328
                    ·rw [if_pos c107] at H
                     have LMc107 := Aside0.mk c107
                     clear c107
                     obtain ⟨y388,hy388⟩ : ∃ y_ : List Int,y_ = (x16_3 ++ t373) := ⟨_,rfl⟩
                     replace H : (laws_FnBlocks.l0 k3 t328 t329 t348 y388 (wrap64 (x17_3 + 1))) = some r := by first | (rw [hy388];with_reducible exact H) | (have H2_ := (Option.bind_some _ _).symm.trans H;rw [hy388];with_reducible exact H2_) | (have H2_ := (Option.bind_some _ _).symm.trans H;with_reducible exact H2_) | with_reducible exact H | (rw [hy388];exact H) | exact H
                     have Ny388 := Aside0.mk hy388
                     clear hy388
                     have H' := Aside0.mk H
                     clear H
                     try go_wp2_with (first | ((with_reducible refine gate_callee (f := 99) rfl ?_);refine goesL_ (some 121) rfl rfl Try.func99 (by kernel_rfl) rfl #[.int .i64 t329,.int .i64 (t328.length : Int)] rfl (by (try simp only [List.map_toArray,List.map_cons,List.map_nil]);first | done | rfl | (simp only [List.length_drop,List.length_take];rfl)) ?_;(with_reducible refine (impl_Blocks.calls t329 (t328.length : Int) t370 _ A84.out).mono ?_);rintro e w' ⟨rfl,⟨nd,rfl⟩⟩;refine ⟨_,rfl,?_⟩) | ((with_reducible refine gate_callee (f := 102) rfl ?_);refine goesL_ (some 129) rfl rfl Try.func102 (by kernel_rfl) rfl #[.slice Ao20 t328.length co20,.int .i64 t329,.int .i64 x17_3] rfl (by (try simp only [List.map_toArray,List.map_cons,List.map_nil]);first | done | rfl | (simp only [List.length_drop,List.length_take];rfl)) ?_;(with_reducible refine (impl_BlockAt.calls _ _ t328 t329 x17_3 t373 true _ ?side1 ?side2 A86.out).mono ?_);(case side1 => exact Kd.C_up (Kd.R_reads' HO_3.out).2.2);(case side2 => exact (Kd.R_reads' HO_3.out).2.1);rintro e w108 ⟨v375,rfl,ho0,hb⟩;refine ⟨_,rfl,?_⟩;have n0_ := Aside0.mk (Kd.R_elder' (Kd.R_up HO_3.out) (Kd.R_base ho0) hb);have n1_ := Aside0.mk (Kd.R_below (Kd.R_up HO_15.out) hb);have n2_ := Aside0.mk (Kd.R_elder' (Kd.R_up HO_16.out) (Kd.R_base ho0) hb);have n3_ := Aside0.mk (Kd.R_lower (Kd.R_new' (Kd.R_new' ho0 (Kd.R_lt (Kd.R_up HO_3.out))) (Kd.R_lt (Kd.R_up HO_16.out))) (below_size (B_up HB.out)));have n4_ := Aside0.mk (below_step (B_up HB.out) hb);clear HO_3;clear HO_15;clear HO_16;clear HB;have HO_3 := n0_;have HO_15 := n1_;have HO_16 := n2_;have HO376 := n3_;have HB := n4_;clear n0_ n1_ n2_ n3_ n4_;(try clear hb);(try clear hb2);(try clear hk);(try clear hi);(try clear ho0);obtain ⟨Ao109,co109,eo109⟩ := Kd.R_slice HO_15.out;subst eo109;have p377 : 0 ≤ (x17_3 : Int) := of_decide_eq_true (by first | (with_reducible assumption) | assumption);have q377 : x17_3 < (t348.length : Int) := of_decide_eq_true (by first | (with_reducible assumption) | assumption);obtain ⟨ad377,e377,hx377_0,hx377_1⟩ := at_T81 (Kd.R_reads' HO_15.out).2.2 x17_3 p377 q377;cases e377;replace p377 := eq_true p377;replace q377 := eq_true q377) | ((with_reducible refine gate_callee (f := 91) rfl ?_);refine goesL_ (some 138) rfl rfl Try.func91 (by kernel_rfl) rfl #[.int .i64 ((rd_T81 t348 x17_3).f1)] rfl (by (try simp only [List.map_toArray,List.map_cons,List.map_nil]);first | done | rfl | (simp only [List.length_drop,List.length_take];rfl)) ?_;(with_reducible refine (impl_BytesOf.calls k3 ((rd_T81 t348 x17_3).f1) t378 true _ A89.out).mono ?_);rintro e w110 ⟨v380,rfl,ho0,hb⟩;refine ⟨_,rfl,?_⟩;have n0_ := Aside0.mk (Kd.R_elder' (Kd.R_up HO_3.out) (Kd.R_base ho0) hb);have n1_ := Aside0.mk (Kd.R_below (Kd.R_up HO_15.out) hb);have n2_ := Aside0.mk (Kd.R_elder' (Kd.R_up HO_16.out) (Kd.R_base ho0) hb);have n3_ := Aside0.mk (Kd.R_elder' (Kd.R_up HO376.out) (Kd.R_base ho0) hb);have n4_ := Aside0.mk (Kd.R_lower (Kd.R_new' (Kd.R_new' (Kd.R_new' ho0 (Kd.R_lt (Kd.R_up HO_3.out))) (Kd.R_lt (Kd.R_up HO_16.out))) (Kd.R_lt (Kd.R_up HO376.out))) (below_size (B_up HB.out)));have n5_ := Aside0.mk (below_step (B_up HB.out) hb);clear HO_3;clear HO_15;clear HO_16;clear HO376;clear HB;have HO_3 := n0_;have HO_15 := n1_;have HO_16 := n2_;have HO376 := n3_;have HO381 := n4_;have HB := n5_;clear n0_ n1_ n2_ n3_ n4_ n5_;(try clear hb);(try clear hb2);(try clear hk);(try clear hi);(try clear ho0)) | ((with_reducible refine gate_callee (f := 103) rfl ?_);refine goesL_ (some 146) rfl rfl Try.func103 (by kernel_rfl) rfl #[.int .i64 t329,.int .i64 (t328.length : Int),.int .i64 x17_3] rfl (by (try simp only [List.map_toArray,List.map_cons,List.map_nil]);first | done | rfl | (simp only [List.length_drop,List.length_take];rfl)) ?_;(with_reducible refine (impl_SpanOf.calls t329 (t328.length : Int) x17_3 t382 t383 _ A90.out).mono ?_);rintro e w111 ⟨rfl,hb⟩;refine ⟨_,rfl,?_⟩;have n0_ := Aside0.mk (Kd.R_below (Kd.R_up HO_3.out) hb);have n1_ := Aside0.mk (Kd.R_below (Kd.R_up HO_15.out) hb);have n2_ := Aside0.mk (Kd.R_below (Kd.R_up HO_16.out) hb);have n3_ := Aside0.mk (Kd.R_below (Kd.R_up HO376.out) hb);have n4_ := Aside0.mk (Kd.R_below (Kd.R_up HO381.out) hb);have n5_ := Aside0.mk (below_step (B_up HB.out) hb);clear HO_3;clear HO_15;clear HO_16;clear HO376;clear HO381;clear HB;have HO_3 := n0_;have HO_15 := n1_;have HO_16 := n2_;have HO376 := n3_;have HO381 := n4_;have HB := n5_;clear n0_ n1_ n2_ n3_ n4_ n5_;(try clear hb);(try clear hb2);(try clear hk);(try clear hi)))
                     have n0_ := Aside0.mk (Kd.R_drew HO_3.out)
                     have n1_ := Aside0.mk (Kd.R_drew HO_15.out)
                     have n2_ := Aside0.mk (Kd.R_drew HO_16.out)
                     have n3_ := Aside0.mk (Kd.R_drew HO376.out)
                     have n4_ := Aside0.mk (Kd.R_drew HO381.out)
                     have n5_ := Aside0.mk (below_drew1 HB.out)
                     clear HO_3
                     clear HO_15
                     clear HO_16
                     clear HO376
                     clear HO381
                     clear HB
                     have HO_3 := n0_
                     have HO_15 := n1_
                     have HO_16 := n2_
                     have HO376 := n3_
                     have HO381 := n4_
                     have HB := n5_
                     clear n0_ n1_ n2_ n3_ n4_ n5_
                     obtain ⟨Ao113,co113,eo113⟩ := Kd.R_slice HO376.out
                     (first | subst eo113 | (injection eo113 with f1_ f2_ f3_;have f4_ := f1_.symm;have f5_ := f3_.symm;clear f1_ f2_ f3_;subst f4_;subst f5_))
                     obtain ⟨Ao114,co114,eo114⟩ := Kd.R_slice HO381.out
                     (first | subst eo114 | (injection eo114 with f1_ f2_ f3_;have f4_ := f1_.symm;have f5_ := f3_.symm;clear f1_ f2_ f3_;subst f4_;subst f5_))
                     have p387 : 0 ≤ (x17_3 : Int) := of_decide_eq_true (by first | (with_reducible assumption) | assumption)
                     have q387 : x17_3 < (t348.length : Int) := of_decide_eq_true (by first | (with_reducible assumption) | assumption)
                     obtain ⟨ad387,e387,hx387_0,hx387_1⟩ := at_T81 (Kd.R_reads' HO_15.out).2.2 x17_3 p387 q387
                     obtain rfl : ad377 = ad387 := (by injection e387)
                     replace p387 := eq_true p387
                     replace q387 := eq_true q387
                     refine start_ (n := 33) (S := fun w' => w'.cell? (ad377.add ((x17_3).toNat * 2)) = some (.int .i64 ((rd_T81 t348 x17_3).f0)) ∧ w'.cell? ⟨(ad377.add ((x17_3).toNat * 2)).block,(ad377.add ((x17_3).toNat * 2)).off + 1,none⟩ = some (.int .i64 ((rd_T81 t348 x17_3).f1))) (ds := []) #[false,false,false,false,false,false,false,false,false,false,false,false,false,false,false,false,false,false,false,false,false,false,false,false,false,false,false,false,false,false,false,false,false] (by kernel_rfl) rfl rfl ⟨hx387_0,hx387_1⟩ (fun hHeld => ?_);refine with_tabW laws_FnBlocks.tab24 laws_FnBlocks.bits24 (fun HT_ HW_ => ?_)
                     generalize w111.drew = w112 at HO_3 HO_15 HO_16 HO376 HO381 HB hx387_0 hx387_1 hHeld ⊢
                     refine pure_ (i := 0) (N := some 149) (v := ?_) (a' := ?_) #[true,false,false,false,false,false,false,false,false,false,false,false,false,false,false,false,false,false,false,false,false,false,false,false,false,false,false,false,false,false,false,false,false] rfl rfl (any_of HT_.out (by kernel_rfl)) (fun _ _ _ h => h) (Or.inl ⟨by rfl,?_⟩) ?_ ?_
                     rotate_left
                     ·intro w'
                      go_simp
                      with_reducible rfl
                     rotate_left
                     ·simp only [Act.put,List.setIfInBounds_toArray,List.set_cons_zero,List.set_cons_succ,i64_w,i32_w]
                      rfl
                     refine pure_ (i := 1) (N := some 150) (v := ?_) (a' := ?_) #[true,true,false,false,false,false,false,false,false,false,false,false,false,false,false,false,false,false,false,false,false,false,false,false,false,false,false,false,false,false,false,false,false] rfl rfl (any_of HT_.out (by kernel_rfl)) (fun _ _ _ h => h) (Or.inl ⟨by rfl,?_⟩) ?_ ?_
                     rotate_left
                     ·intro w'
                      go_simp
                      with_reducible rfl
                     rotate_left
                     ·simp only [Act.put,List.setIfInBounds_toArray,List.set_cons_zero,List.set_cons_succ,i64_w,i32_w]
                      rfl
                     refine pure_ (i := 2) (N := some 151) (v := ?_) (a' := ?_) #[true,true,true,false,false,false,false,false,false,false,false,false,false,false,false,false,false,false,false,false,false,false,false,false,false,false,false,false,false,false,false,false,false] rfl rfl (any_of HT_.out (by kernel_rfl)) (fun _ _ _ h => h) (Or.inl ⟨by rfl,?_⟩) ?_ ?_
                     rotate_left
                     ·intro w'
                      go_simp
                      with_reducible rfl
                     rotate_left
                     ·simp only [Act.put,List.setIfInBounds_toArray,List.set_cons_zero,List.set_cons_succ,i64_w,i32_w]
                      rfl
                     refine pure_ (i := 3) (N := some 152) (v := ?_) (a' := ?_) #[true,true,true,true,false,false,false,false,false,false,false,false,false,false,false,false,false,false,false,false,false,false,false,false,false,false,false,false,false,false,false,false,false] rfl rfl (any_of HT_.out (by kernel_rfl)) (fun _ _ _ h => h) (Or.inl ⟨by rfl,?_⟩) ?_ ?_
                     rotate_left
                     ·intro w'
                      go_simp
                      with_reducible rfl
                     rotate_left
                     ·simp only [Act.put,List.setIfInBounds_toArray,List.set_cons_zero,List.set_cons_succ,i64_w,i32_w]
                      rfl
                     refine pure_ (i := 4) (N := some 153) (v := ?_) (a' := ?_) #[true,true,true,true,true,false,false,false,false,false,false,false,false,false,false,false,false,false,false,false,false,false,false,false,false,false,false,false,false,false,false,false,false] rfl rfl (any_of HT_.out (by kernel_rfl)) (fun _ _ _ h => h) (Or.inl ⟨by rfl,?_⟩) ?_ ?_
                     rotate_left
                     ·intro w'
                      go_simp
                      with_reducible rfl
                     rotate_left
                     ·simp only [Act.put,List.setIfInBounds_toArray,List.set_cons_zero,List.set_cons_succ,i64_w,i32_w]
                      rfl
                     refine pure_ (i := 5) (N := some 154) (v := ?_) (a' := ?_) #[true,true,true,true,true,true,false,false,false,false,false,false,false,false,false,false,false,false,false,false,false,false,false,false,false,false,false,false,false,false,false,false,false] rfl rfl (any_of HT_.out (by kernel_rfl)) (fun _ _ _ h => h) (Or.inl ⟨by rfl,?_⟩) ?_ ?_
                     rotate_left
                     ·intro w'
                      go_simp
                      with_reducible rfl
                     rotate_left
                     ·simp only [Act.put,List.setIfInBounds_toArray,List.set_cons_zero,List.set_cons_succ,i64_w,i32_w]
                      rfl
                     refine pure_ (i := 6) (N := some 155) (v := ?_) (a' := ?_) #[true,true,true,true,true,true,true,false,false,false,false,false,false,false,false,false,false,false,false,false,false,false,false,false,false,false,false,false,false,false,false,false,false] rfl rfl (any_of HT_.out (by kernel_rfl)) (fun _ _ _ h => h) (Or.inl ⟨by rfl,?_⟩) ?_ ?_
                     rotate_left
                     ·intro w'
                      go_simp
                      with_reducible rfl
                     rotate_left
                     ·simp only [Act.put,List.setIfInBounds_toArray,List.set_cons_zero,List.set_cons_succ,i64_w,i32_w]
                      rfl
                     refine pure_ (i := 7) (N := some 156) (v := ?_) (a' := ?_) #[true,true,true,true,true,true,true,true,false,false,false,false,false,false,false,false,false,false,false,false,false,false,false,false,false,false,false,false,false,false,false,false,false] rfl rfl (any_of HT_.out (by kernel_rfl)) (fun _ _ _ h => h) (Or.inl ⟨by rfl,?_⟩) ?_ ?_
                     rotate_left
                     ·intro w'
                      go_simp
                      with_reducible rfl
                     rotate_left
                     ·simp only [Act.put,List.setIfInBounds_toArray,List.set_cons_zero,List.set_cons_succ,i64_w,i32_w]
                      rfl
                     refine pure_ (i := 8) (N := some 157) (v := ?_) (a' := ?_) #[true,true,true,true,true,true,true,true,true,false,false,false,false,false,false,false,false,false,false,false,false,false,false,false,false,false,false,false,false,false,false,false,false] rfl rfl (any_of HT_.out (by kernel_rfl)) (fun _ _ _ h => h) (Or.inl ⟨by rfl,?_⟩) ?_ ?_
                     rotate_left
                     ·intro w'
                      go_simp
                      with_reducible rfl
                     rotate_left
                     ·simp only [Act.put,List.setIfInBounds_toArray,List.set_cons_zero,List.set_cons_succ,i64_w,i32_w]
                      rfl
                     refine one_ (i := 9) (N := some 158) #[true,true,true,true,true,true,true,true,true,true,false,false,false,false,false,false,false,false,false,false,false,false,false,false,false,false,false,false,false,false,false,false,false] rfl rfl (one_of HT_.out (by kernel_rfl)) (by decide) (fun K hK => ?_)
                     refine goes_ Try.func46 (by kernel_rfl) rfl #[.slice Ao113 t373.length co113,.slice Ao114 t378.length co114] (by rfl) rfl rfl (by (try simp only [List.map_toArray,List.map_cons,List.map_nil]);first | done | rfl | (simp only [List.length_drop,List.length_take];rfl)) ?_
                     with_reducible refine (laws_same.calls k3 _ _ t373 _ _ t378 true _ ?side1 ?side2 ?side3 ?side4 A93.out).mono ?_
                     (case side1 => exact Kd.C_up (Kd.R_reads' HO376.out).2.2)
                     (case side2 => exact (Kd.R_reads' HO376.out).2.1)
                     (case side3 => exact Kd.C_up (Kd.R_reads' HO381.out).2.2)
                     (case side4 => exact (Kd.R_reads' HO381.out).2.1)
                     rintro e w' ⟨rfl,⟨nd,rfl⟩⟩
                     refine ⟨_,rfl,?_⟩
                     refine hK.out _ _ ⟨hHeld.1,hHeld.2⟩ (fun hHeld => ?_)
                     clear hK K
                     refine norm_ (a' := ?_) ?_ ?_
                     rotate_left
                     ·show Act.put _ (some 158) _ = _
                      simp only [Act.put,List.setIfInBounds_toArray,List.set_cons_zero,List.set_cons_succ,i64_w,i32_w]
                      rfl
                     refine pure_ (i := 10) (N := some 159) (v := ?_) (a' := ?_) #[true,true,true,true,true,true,true,true,true,true,true,false,false,false,false,false,false,false,false,false,false,false,false,false,false,false,false,false,false,false,false,false,false] rfl rfl (any_of HT_.out (by kernel_rfl)) (fun _ _ _ h => h) (Or.inl ⟨by rfl,?_⟩) ?_ ?_
                     rotate_left
                     ·intro w'
                      go_simp
                      with_reducible rfl
                     rotate_left
                     ·simp only [Act.put,List.setIfInBounds_toArray,List.set_cons_zero,List.set_cons_succ,i64_w,i32_w]
                      rfl
                     refine pure_ (i := 11) (N := some 160) (v := ?_) (a' := ?_) #[true,true,true,true,true,true,true,true,true,true,true,true,false,false,false,false,false,false,false,false,false,false,false,false,false,false,false,false,false,false,false,false,false] rfl rfl (any_of HT_.out (by kernel_rfl)) (fun _ _ _ h => h) (Or.inl ⟨by rfl,?_⟩) ?_ ?_
                     rotate_left
                     ·intro w'
                      go_simp
                      with_reducible rfl
                     rotate_left
                     ·simp only [Act.put,List.setIfInBounds_toArray,List.set_cons_zero,List.set_cons_succ,i64_w,i32_w]
                      rfl
                     refine pure_ (i := 12) (N := some 161) (v := ?_) (a' := ?_) #[true,true,true,true,true,true,true,true,true,true,true,true,true,false,false,false,false,false,false,false,false,false,false,false,false,false,false,false,false,false,false,false,false] rfl rfl (any_of HT_.out (by kernel_rfl)) (fun _ _ _ h => h) (Or.inl ⟨by rfl,?_⟩) ?_ ?_
                     rotate_left
                     ·intro w'
                      go_simp
                      with_reducible rfl
                     rotate_left
                     ·simp only [Act.put,List.setIfInBounds_toArray,List.set_cons_zero,List.set_cons_succ,i64_w,i32_w]
                      rfl
                     refine pure_ (i := 13) (N := some 162) (v := ?_) (a' := ?_) #[true,true,true,true,true,true,true,true,true,true,true,true,true,true,false,false,false,false,false,false,false,false,false,false,false,false,false,false,false,false,false,false,false] rfl rfl (any_of HT_.out (by kernel_rfl)) (fun _ _ _ h => h) (Or.inl ⟨by rfl,?_⟩) ?_ ?_
                     rotate_left
                     ·intro w'
                      go_simp
                      with_reducible rfl
                     rotate_left
                     ·simp only [Act.put,List.setIfInBounds_toArray,List.set_cons_zero,List.set_cons_succ,i64_w,i32_w]
                      rfl
                     refine pure_ (i := 15) (N := some 164) (v := ?_) (a' := ?_) #[true,true,true,true,true,true,true,true,true,true,true,true,true,true,false,true,false,false,false,false,false,false,false,false,false,false,false,false,false,false,false,false,false] rfl rfl (any_of HT_.out (by kernel_rfl)) (fun _ _ _ h => h) (Or.inl ⟨by rfl,?_⟩) ?_ ?_
                     rotate_left
                     ·intro w'
                      go_simp
                      with_reducible rfl
                     rotate_left
                     ·simp only [Act.put,List.setIfInBounds_toArray,List.set_cons_zero,List.set_cons_succ,i64_w,i32_w]
                      rfl
                     refine pure_ (i := 16) (N := some 165) (v := ?_) (a' := ?_) #[true,true,true,true,true,true,true,true,true,true,true,true,true,true,false,true,true,false,false,false,false,false,false,false,false,false,false,false,false,false,false,false,false] rfl rfl (any_of HT_.out (by kernel_rfl)) (fun _ _ _ h => h) (Or.inl ⟨by rfl,?_⟩) ?_ ?_
                     rotate_left
                     ·intro w'
                      go_simp
                      with_reducible rfl
                     rotate_left
                     ·simp only [Act.put,List.setIfInBounds_toArray,List.set_cons_zero,List.set_cons_succ,i64_w,i32_w]
                      rfl
                     refine pure_ (i := 17) (N := some 166) (v := ?_) (a' := ?_) #[true,true,true,true,true,true,true,true,true,true,true,true,true,true,false,true,true,true,false,false,false,false,false,false,false,false,false,false,false,false,false,false,false] rfl rfl (any_of HT_.out (by kernel_rfl)) (fun _ _ _ h => h) (Or.inl ⟨by rfl,?_⟩) ?_ ?_
                     rotate_left
                     ·intro w'
                      go_simp
                      with_reducible rfl
                     rotate_left
                     ·simp only [Act.put,List.setIfInBounds_toArray,List.set_cons_zero,List.set_cons_succ,i64_w,i32_w]
                      rfl
                     refine take_ (i := 18) (N := some 167) (v := ?_) (a' := ?_) #[true,true,true,true,true,true,true,true,true,true,true,true,true,true,false,true,true,true,true,false,false,false,false,false,false,false,false,false,false,false,false,false,false] rfl rfl (take_ofW HT_.out HW_.out (by kernel_rfl)) (fun _ _ _ h => h) (Or.inl ⟨by rfl,?_⟩) hHeld ?_ ?_
                     rotate_left
                     ·rintro w' ⟨s0,s1⟩
                      go_simp
                      with_reducible rfl
                     rotate_left
                     ·simp only [Act.put,List.setIfInBounds_toArray,List.set_cons_zero,List.set_cons_succ,i64_w,i32_w]
                      rfl
                     refine one_ (i := 14) (N := some 163) #[true,true,true,true,true,true,true,true,true,true,true,true,true,true,true,true,true,true,true,false,false,false,false,false,false,false,false,false,false,false,false,false,false] rfl rfl (one_of HT_.out (by kernel_rfl)) (by decide) (fun K hK => ?_)
                     refine goes_ Try.func97 (by kernel_rfl) rfl #[.slice Ao113 t373.length co113] (by rfl) rfl rfl (by (try simp only [List.map_toArray,List.map_cons,List.map_nil]);first | done | rfl | (simp only [List.length_drop,List.length_take];rfl)) ?_
                     with_reducible refine (impl_SumOf.calls k3 _ _ t373 t385 t386 _ ?side1 ?side2 A95.out).mono ?_
                     (case side1 => exact Kd.C_up (Kd.R_reads' HO376.out).2.2)
                     (case side2 => exact (Kd.R_reads' HO376.out).2.1)
                     rintro e w115 ⟨rfl,hb⟩
                     have HS0_ := (hb.cell (World.block_lt_of_cell? _ _ (hHeld.1))).trans (hHeld.1)
                     have HS1_ := (hb.cell (World.block_lt_of_cell? _ _ (hHeld.2))).trans (hHeld.2)
                     refine ⟨_,rfl,?_⟩
                     have n0_ := Aside0.mk (Kd.R_below (Kd.R_up HO_3.out) hb)
                     have n1_ := Aside0.mk (Kd.R_below (Kd.R_up HO_15.out) hb)
                     have n2_ := Aside0.mk (Kd.R_below (Kd.R_up HO_16.out) hb)
                     have n3_ := Aside0.mk (Kd.R_below (Kd.R_up HO376.out) hb)
                     have n4_ := Aside0.mk (Kd.R_below (Kd.R_up HO381.out) hb)
                     have n5_ := Aside0.mk (below_step (B_up HB.out) hb)
                     clear HO_3
                     clear HO_15
                     clear HO_16
                     clear HO376
                     clear HO381
                     clear HB
                     have HO_3 := n0_
                     have HO_15 := n1_
                     have HO_16 := n2_
                     have HO376 := n3_
                     have HO381 := n4_
                     have HB := n5_
                     clear n0_ n1_ n2_ n3_ n4_ n5_
                     (try clear hb)
                     (try clear hb2)
                     (try clear hk)
                     (try clear hi)
                     obtain ⟨Ao116,co116,eo116⟩ := Kd.R_slice HO_16.out
                     (first | subst eo116 | (injection eo116 with f1_ f2_ f3_;have f4_ := f1_.symm;have f5_ := f3_.symm;clear f1_ f2_ f3_;subst f4_;subst f5_))
                     refine hK.out _ _ ⟨HS0_,HS1_⟩ (fun hHeld => ?_)
                     clear hK K
                     refine norm_ (a' := ?_) ?_ ?_
                     rotate_left
                     ·show Act.put _ (some 163) _ = _
                      simp only [Act.put,List.setIfInBounds_toArray,List.set_cons_zero,List.set_cons_succ,i64_w,i32_w]
                      rfl
                     refine pure_ (i := 19) (N := some 168) (v := ?_) (a' := ?_) #[true,true,true,true,true,true,true,true,true,true,true,true,true,true,true,true,true,true,true,true,false,false,false,false,false,false,false,false,false,false,false,false,false] rfl rfl (any_of HT_.out (by kernel_rfl)) (fun _ _ _ h => h) (Or.inl ⟨by rfl,?_⟩) ?_ ?_
                     rotate_left
                     ·intro w'
                      go_simp
                      with_reducible rfl
                     rotate_left
                     ·simp only [Act.put,List.setIfInBounds_toArray,List.set_cons_zero,List.set_cons_succ,i64_w,i32_w]
                      rfl
                     refine pure_ (i := 20) (N := some 169) (v := ?_) (a' := ?_) #[true,true,true,true,true,true,true,true,true,true,true,true,true,true,true,true,true,true,true,true,true,false,false,false,false,false,false,false,false,false,false,false,false] rfl rfl (any_of HT_.out (by kernel_rfl)) (fun _ _ _ h => h) (Or.inl ⟨by rfl,?_⟩) ?_ ?_
                     rotate_left
                     ·intro w'
                      go_simp
                      with_reducible rfl
                     rotate_left
                     ·simp only [Act.put,List.setIfInBounds_toArray,List.set_cons_zero,List.set_cons_succ,i64_w,i32_w]
                      rfl
                     refine pure_ (i := 21) (N := some 170) (v := ?_) (a' := ?_) #[true,true,true,true,true,true,true,true,true,true,true,true,true,true,true,true,true,true,true,true,true,true,false,false,false,false,false,false,false,false,false,false,false] rfl rfl (any_of HT_.out (by kernel_rfl)) (fun _ _ _ h => h) (Or.inl ⟨by rfl,?_⟩) ?_ ?_
                     rotate_left
                     ·intro w'
                      go_simp
                      with_reducible rfl
                     rotate_left
                     ·simp only [Act.put,List.setIfInBounds_toArray,List.set_cons_zero,List.set_cons_succ,i64_w,i32_w]
                      rfl
                     refine pure_ (i := 22) (N := some 171) (v := ?_) (a' := ?_) #[true,true,true,true,true,true,true,true,true,true,true,true,true,true,true,true,true,true,true,true,true,true,true,false,false,false,false,false,false,false,false,false,false] rfl rfl (any_of HT_.out (by kernel_rfl)) (fun _ _ _ h => h) (Or.inl ⟨by rfl,?_⟩) ?_ ?_
                     rotate_left
                     ·intro w'
                      go_simp
                      with_reducible rfl
                     rotate_left
                     ·simp only [Act.put,List.setIfInBounds_toArray,List.set_cons_zero,List.set_cons_succ,i64_w,i32_w]
                      rfl
                     refine pure_ (i := 23) (N := some 172) (v := ?_) (a' := ?_) #[true,true,true,true,true,true,true,true,true,true,true,true,true,true,true,true,true,true,true,true,true,true,true,true,false,false,false,false,false,false,false,false,false] rfl rfl (any_of HT_.out (by kernel_rfl)) (fun _ _ _ h => h) (Or.inl ⟨by rfl,?_⟩) ?_ ?_
                     rotate_left
                     ·intro w'
                      go_simp
                      with_reducible rfl
                     rotate_left
                     ·simp only [Act.put,List.setIfInBounds_toArray,List.set_cons_zero,List.set_cons_succ,i64_w,i32_w]
                      rfl
                     refine pure_ (i := 24) (N := some 173) (v := ?_) (a' := ?_) #[true,true,true,true,true,true,true,true,true,true,true,true,true,true,true,true,true,true,true,true,true,true,true,true,true,false,false,false,false,false,false,false,false] rfl rfl (any_of HT_.out (by kernel_rfl)) (fun _ _ _ h => h) (Or.inl ⟨by rfl,?_⟩) ?_ ?_
                     rotate_left
                     ·intro w'
                      go_simp
                      with_reducible rfl
                     rotate_left
                     ·simp only [Act.put,List.setIfInBounds_toArray,List.set_cons_zero,List.set_cons_succ,i64_w,i32_w]
                      rfl
                     refine pure_ (i := 25) (N := some 174) (v := ?_) (a' := ?_) #[true,true,true,true,true,true,true,true,true,true,true,true,true,true,true,true,true,true,true,true,true,true,true,true,true,true,false,false,false,false,false,false,false] rfl rfl (any_of HT_.out (by kernel_rfl)) (fun _ _ _ h => h) (Or.inl ⟨by rfl,?_⟩) ?_ ?_
                     rotate_left
                     ·intro w'
                      go_simp
                      with_reducible rfl
                     rotate_left
                     ·simp only [Act.put,List.setIfInBounds_toArray,List.set_cons_zero,List.set_cons_succ,i64_w,i32_w]
                      rfl
                     refine pure_ (i := 26) (N := some 175) (v := ?_) (a' := ?_) #[true,true,true,true,true,true,true,true,true,true,true,true,true,true,true,true,true,true,true,true,true,true,true,true,true,true,true,false,false,false,false,false,false] rfl rfl (any_of HT_.out (by kernel_rfl)) (fun _ _ _ h => h) (Or.inl ⟨by rfl,?_⟩) ?_ ?_
                     rotate_left
                     ·intro w'
                      go_simp
                      with_reducible rfl
                     rotate_left
                     ·simp only [Act.put,List.setIfInBounds_toArray,List.set_cons_zero,List.set_cons_succ,i64_w,i32_w]
                      rfl
                     refine pure_ (i := 27) (N := some 176) (v := ?_) (a' := ?_) #[true,true,true,true,true,true,true,true,true,true,true,true,true,true,true,true,true,true,true,true,true,true,true,true,true,true,true,true,false,false,false,false,false] rfl rfl (any_of HT_.out (by kernel_rfl)) (fun _ _ _ h => h) (Or.inl ⟨by rfl,?_⟩) ?_ ?_
                     rotate_left
                     ·intro w'
                      go_simp
                      with_reducible rfl
                     rotate_left
                     ·simp only [Act.put,List.setIfInBounds_toArray,List.set_cons_zero,List.set_cons_succ,i64_w,i32_w]
                      rfl
                     refine pure_ (i := 28) (N := some 177) (v := ?_) (a' := ?_) #[true,true,true,true,true,true,true,true,true,true,true,true,true,true,true,true,true,true,true,true,true,true,true,true,true,true,true,true,true,false,false,false,false] rfl rfl (any_of HT_.out (by kernel_rfl)) (fun _ _ _ h => h) (Or.inl ⟨by rfl,?_⟩) ?_ ?_
                     rotate_left
                     ·intro w'
                      go_simp
                      with_reducible rfl
                     rotate_left
                     ·simp only [Act.put,List.setIfInBounds_toArray,List.set_cons_zero,List.set_cons_succ,i64_w,i32_w]
                      rfl
                     refine pure_ (i := 29) (N := some 178) (v := ?_) (a' := ?_) #[true,true,true,true,true,true,true,true,true,true,true,true,true,true,true,true,true,true,true,true,true,true,true,true,true,true,true,true,true,true,false,false,false] rfl rfl (any_of HT_.out (by kernel_rfl)) (fun _ _ _ h => h) (Or.inl ⟨by rfl,?_⟩) ?_ ?_
                     rotate_left
                     ·intro w'
                      go_simp
                      with_reducible rfl
                     rotate_left
                     ·simp only [Act.put,List.setIfInBounds_toArray,List.set_cons_zero,List.set_cons_succ,i64_w,i32_w]
                      rfl
                     refine pure_ (i := 30) (N := some 179) (v := ?_) (a' := ?_) #[true,true,true,true,true,true,true,true,true,true,true,true,true,true,true,true,true,true,true,true,true,true,true,true,true,true,true,true,true,true,true,false,false] rfl rfl (any_of HT_.out (by kernel_rfl)) (fun _ _ _ h => h) (Or.inl ⟨by rfl,?_⟩) ?_ ?_
                     rotate_left
                     ·intro w'
                      go_simp
                      with_reducible rfl
                     rotate_left
                     ·simp only [Act.put,List.setIfInBounds_toArray,List.set_cons_zero,List.set_cons_succ,i64_w,i32_w]
                      rfl
                     refine pure_ (i := 31) (N := some 180) (v := ?_) (a' := ?_) #[true,true,true,true,true,true,true,true,true,true,true,true,true,true,true,true,true,true,true,true,true,true,true,true,true,true,true,true,true,true,true,true,false] rfl rfl (any_of HT_.out (by kernel_rfl)) (fun _ _ _ h => h) (Or.inl ⟨by rfl,?_⟩) ?_ ?_
                     rotate_left
                     ·intro w'
                      go_simp
                      with_reducible rfl
                     rotate_left
                     ·simp only [Act.put,List.setIfInBounds_toArray,List.set_cons_zero,List.set_cons_succ,i64_w,i32_w]
                      rfl
                     refine pure_ (i := 32) (N := some 181) (v := ?_) (a' := ?_) #[true,true,true,true,true,true,true,true,true,true,true,true,true,true,true,true,true,true,true,true,true,true,true,true,true,true,true,true,true,true,true,true,true] rfl rfl (any_of HT_.out (by kernel_rfl)) (fun _ _ _ h => h) (Or.inl ⟨by rfl,?_⟩) ?_ ?_
                     rotate_left
                     ·intro w'
                      go_simp
                      with_reducible rfl
                     rotate_left
                     ·simp only [Act.put,List.setIfInBounds_toArray,List.set_cons_zero,List.set_cons_succ,i64_w,i32_w]
                      rfl
                     refine done_ (done_of HT_.out (by kernel_rfl)) ?_
                     try go_wp2_with (first | ((with_reducible refine gate_builtin (b := .append) (xs := #[.tmp 182,.tmp 183]) rfl ?_);(try (refine gate_guard (by rfl) ?_;dsimp only));at_builtin;refine Kd.R_append_rows (Kd.int .u8) (w0 := w) w.heap.size rfl (.tmp 182) (.tmp 183) 22 5 (.int .u8 0) 1 rfl Try.underlying22 info5 rfl (by decide) (by omega) (.slice Ao116 x16_3.length co116) x16_3 t373 _ _ _ (fun k_ => some k_ ≠ (.slice Ao20 t328.length co20 : Value).ownBlock ∧ some k_ ≠ (.slice Ao113 t373.length co113 : Value).ownBlock ∧ some k_ ≠ (.slice Ao114 t378.length co114 : Value).ownBlock) (fun _ => False) rfl rfl ?aO ?aR (fun _ _ h => h) (fun _ h => h.elim) ?aF ?aB ?aS ?aL ?_;(case aR => exact Kd.C_up (Kd.R_reads' HO376.out).2.2);(case aB => exact (B_up HB.out));(case aF => exact (fun k_ hk => ⟨Kd.fresh' (Kd.R_lt (Kd.R_up HO_3.out)) k_ hk,Kd.fresh' (Kd.R_lt (Kd.R_up HO376.out)) k_ hk,Kd.fresh' (Kd.R_lt (Kd.R_up HO381.out)) k_ hk⟩));(case aO => exact (by (with_reducible repeat (first | apply Kd.R_alloc | apply Kd.R_drewN | apply Kd.R_drew));exact Kd.R_mono HO_16.out (fun _ hk => ⟨hk.1.1,⟨hk.1.2,hk.2⟩⟩)));(case aS => exact (below_size (B_up HB.out)));(case aL => have := LMc107.out;omega);intro v389 w117 ho hb hg hat;rw [← Ny388.out] at ho;have n0_ := Aside0.mk (Kd.R_after (ok := (fun k_ => some k_ ≠ (.slice Ao113 t373.length co113 : Value).ownBlock ∧ some k_ ≠ (.slice Ao114 t378.length co114 : Value).ownBlock)) (by (with_reducible repeat (first | apply Kd.R_alloc | apply Kd.R_drewN | apply Kd.R_drew));exact Kd.R_mono HO_3.out (fun _ hk => ⟨⟨hk.1.2,hk.2⟩,hk.1.1⟩)) hg hat);have n1_ := Aside0.mk (Kd.R_over' (Kd.R_up HO_15.out) (Kd.R_typed (Kd.R_up HO_16.out)) (by decide) hg);have n2_ := Aside0.mk (Kd.R_after (ok := (fun k_ => some k_ ≠ (.slice Ao20 t328.length co20 : Value).ownBlock ∧ some k_ ≠ (.slice Ao114 t378.length co114 : Value).ownBlock)) (by (with_reducible repeat (first | apply Kd.R_alloc | apply Kd.R_drewN | apply Kd.R_drew));exact Kd.R_mono HO376.out (fun _ hk => ⟨⟨hk.1.1.2,hk.2⟩,hk.1.2⟩)) hg hat);have n3_ := Aside0.mk (Kd.R_after (ok := (fun k_ => some k_ ≠ (.slice Ao20 t328.length co20 : Value).ownBlock ∧ some k_ ≠ (.slice Ao113 t373.length co113 : Value).ownBlock)) (by (with_reducible repeat (first | apply Kd.R_alloc | apply Kd.R_drewN | apply Kd.R_drew));exact Kd.R_mono HO381.out (fun _ hk => ⟨⟨hk.1.1.2,hk.2⟩,hk.1.2⟩)) hg hat);have n4_ := Aside0.mk (hb);have n5_ := Aside0.mk (ho);clear HO_3;clear HO_15;clear HO376;clear HO381;clear HB;clear HO_16;have HO_3 := n0_;have HO_15 := n1_;have HO376 := n2_;have HO381 := n3_;have HB := n4_;have HO390 := n5_;clear n0_ n1_ n2_ n3_ n4_ n5_;clear ho hb hg hat))
                     go_roundg k3
                     case measure => have := HJ11.out;have := HJ73.out;have := HK3.out;omega
                     case rel => exact ⟨(y388),(wrap64 (x17_3 + 1)),(by first | rfl | (simp;done) | (simp [*];done)),H',⟨by have := HJ11.out;have := HJ73.out;have := HK3.out;omega⟩,⟨by (with_reducible repeat (first | apply Kd.R_alloc | apply Kd.R_drewN | apply Kd.R_drew));exact Kd.R_mono HO_3.out (fun _ hk => hk.2)⟩,⟨by (with_reducible repeat (first | apply Kd.R_alloc | apply Kd.R_drewN | apply Kd.R_drew));exact HO_15.out⟩,⟨by (with_reducible repeat (first | apply Kd.R_alloc | apply Kd.R_drewN | apply Kd.R_drew));exact Kd.R_mono HO390.out (fun _ hk => hk.1)⟩,⟨by repeat (first | (with_reducible first | exact HB.out | apply below_alloc | apply pw_below_drewN | apply below_drew1) | exact HB.out)⟩⟩
                    ·rw [if_neg c107] at H
                     exact absurd H (by simp)
                   ·rw [if_neg c106] at H
                    have c106b0 : (t383 == (t373.length : Int)) = false := beq_eq_false_iff_ne.mpr c106
                    have c106b1 : (t383 != (t373.length : Int)) = true := bne_iff_ne.mpr c106
                    obtain rfl := Option.some.inj H
                    try go_wp2_with (first | ((with_reducible refine gate_callee (f := 99) rfl ?_);refine goesL_ (some 121) rfl rfl Try.func99 (by kernel_rfl) rfl #[.int .i64 t329,.int .i64 (t328.length : Int)] rfl (by (try simp only [List.map_toArray,List.map_cons,List.map_nil]);first | done | rfl | (simp only [List.length_drop,List.length_take];rfl)) ?_;(with_reducible refine (impl_Blocks.calls t329 (t328.length : Int) t370 _ A84.out).mono ?_);rintro e w' ⟨rfl,⟨nd,rfl⟩⟩;refine ⟨_,rfl,?_⟩) | ((with_reducible refine gate_callee (f := 102) rfl ?_);refine goesL_ (some 129) rfl rfl Try.func102 (by kernel_rfl) rfl #[.slice Ao20 t328.length co20,.int .i64 t329,.int .i64 x17_3] rfl (by (try simp only [List.map_toArray,List.map_cons,List.map_nil]);first | done | rfl | (simp only [List.length_drop,List.length_take];rfl)) ?_;(with_reducible refine (impl_BlockAt.calls _ _ t328 t329 x17_3 t373 true _ ?side1 ?side2 A86.out).mono ?_);(case side1 => exact Kd.C_up (Kd.R_reads' HO_3.out).2.2);(case side2 => exact (Kd.R_reads' HO_3.out).2.1);rintro e w118 ⟨v375,rfl,ho0,hb⟩;refine ⟨_,rfl,?_⟩;have n0_ := Aside0.mk (Kd.R_elder' (Kd.R_up HO_3.out) (Kd.R_base ho0) hb);have n1_ := Aside0.mk (Kd.R_below (Kd.R_up HO_15.out) hb);have n2_ := Aside0.mk (Kd.R_elder' (Kd.R_up HO_16.out) (Kd.R_base ho0) hb);have n3_ := Aside0.mk (Kd.R_lower (Kd.R_new' (Kd.R_new' ho0 (Kd.R_lt (Kd.R_up HO_3.out))) (Kd.R_lt (Kd.R_up HO_16.out))) (below_size (B_up HB.out)));have n4_ := Aside0.mk (below_step (B_up HB.out) hb);clear HO_3;clear HO_15;clear HO_16;clear HB;have HO_3 := n0_;have HO_15 := n1_;have HO_16 := n2_;have HO376 := n3_;have HB := n4_;clear n0_ n1_ n2_ n3_ n4_;(try clear hb);(try clear hb2);(try clear hk);(try clear hi);(try clear ho0);obtain ⟨Ao119,co119,eo119⟩ := Kd.R_slice HO_15.out;subst eo119;have p377 : 0 ≤ (x17_3 : Int) := of_decide_eq_true (by first | (with_reducible assumption) | assumption);have q377 : x17_3 < (t348.length : Int) := of_decide_eq_true (by first | (with_reducible assumption) | assumption);obtain ⟨ad377,e377,hx377_0,hx377_1⟩ := at_T81 (Kd.R_reads' HO_15.out).2.2 x17_3 p377 q377;cases e377;replace p377 := eq_true p377;replace q377 := eq_true q377) | ((with_reducible refine gate_callee (f := 91) rfl ?_);refine goesL_ (some 138) rfl rfl Try.func91 (by kernel_rfl) rfl #[.int .i64 ((rd_T81 t348 x17_3).f1)] rfl (by (try simp only [List.map_toArray,List.map_cons,List.map_nil]);first | done | rfl | (simp only [List.length_drop,List.length_take];rfl)) ?_;(with_reducible refine (impl_BytesOf.calls k3 ((rd_T81 t348 x17_3).f1) t378 true _ A89.out).mono ?_);rintro e w120 ⟨v380,rfl,ho0,hb⟩;refine ⟨_,rfl,?_⟩;have n0_ := Aside0.mk (Kd.R_elder' (Kd.R_up HO_3.out) (Kd.R_base ho0) hb);have n1_ := Aside0.mk (Kd.R_below (Kd.R_up HO_15.out) hb);have n2_ := Aside0.mk (Kd.R_elder' (Kd.R_up HO_16.out) (Kd.R_base ho0) hb);have n3_ := Aside0.mk (Kd.R_elder' (Kd.R_up HO376.out) (Kd.R_base ho0) hb);have n4_ := Aside0.mk (Kd.R_lower (Kd.R_new' (Kd.R_new' (Kd.R_new' ho0 (Kd.R_lt (Kd.R_up HO_3.out))) (Kd.R_lt (Kd.R_up HO_16.out))) (Kd.R_lt (Kd.R_up HO376.out))) (below_size (B_up HB.out)));have n5_ := Aside0.mk (below_step (B_up HB.out) hb);clear HO_3;clear HO_15;clear HO_16;clear HO376;clear HB;have HO_3 := n0_;have HO_15 := n1_;have HO_16 := n2_;have HO376 := n3_;have HO381 := n4_;have HB := n5_;clear n0_ n1_ n2_ n3_ n4_ n5_;(try clear hb);(try clear hb2);(try clear hk);(try clear hi);(try clear ho0)) | ((with_reducible refine gate_callee (f := 103) rfl ?_);refine goesL_ (some 146) rfl rfl Try.func103 (by kernel_rfl) rfl #[.int .i64 t329,.int .i64 (t328.length : Int),.int .i64 x17_3] rfl (by (try simp only [List.map_toArray,List.map_cons,List.map_nil]);first | done | rfl | (simp only [List.length_drop,List.length_take];rfl)) ?_;(with_reducible refine (impl_SpanOf.calls t329 (t328.length : Int) x17_3 t382 t383 _ A90.out).mono ?_);rintro e w121 ⟨rfl,hb⟩;refine ⟨_,rfl,?_⟩;have n0_ := Aside0.mk (Kd.R_below (Kd.R_up HO_3.out) hb);have n1_ := Aside0.mk (Kd.R_below (Kd.R_up HO_15.out) hb);have n2_ := Aside0.mk (Kd.R_below (Kd.R_up HO_16.out) hb);have n3_ := Aside0.mk (Kd.R_below (Kd.R_up HO376.out) hb);have n4_ := Aside0.mk (Kd.R_below (Kd.R_up HO381.out) hb);have n5_ := Aside0.mk (below_step (B_up HB.out) hb);clear HO_3;clear HO_15;clear HO_16;clear HO376;clear HO381;clear HB;have HO_3 := n0_;have HO_15 := n1_;have HO_16 := n2_;have HO376 := n3_;have HO381 := n4_;have HB := n5_;clear n0_ n1_ n2_ n3_ n4_ n5_;(try clear hb);(try clear hb2);(try clear hk);(try clear hi)))
                    have n0_ := Aside0.mk (Kd.R_drew HO_3.out)
                    have n1_ := Aside0.mk (Kd.R_drew HO_15.out)
                    have n2_ := Aside0.mk (Kd.R_drew HO_16.out)
                    have n3_ := Aside0.mk (Kd.R_drew HO376.out)
                    have n4_ := Aside0.mk (Kd.R_drew HO381.out)
                    have n5_ := Aside0.mk (below_drew1 HB.out)
                    clear HO_3
                    clear HO_15
                    clear HO_16
                    clear HO376
                    clear HO381
                    clear HB
                    have HO_3 := n0_
                    have HO_15 := n1_
                    have HO_16 := n2_
                    have HO376 := n3_
                    have HO381 := n4_
                    have HB := n5_
                    clear n0_ n1_ n2_ n3_ n4_ n5_
                    obtain ⟨Ao123,co123,eo123⟩ := Kd.R_slice HO376.out
                    (first | subst eo123 | (injection eo123 with f1_ f2_ f3_;have f4_ := f1_.symm;have f5_ := f3_.symm;clear f1_ f2_ f3_;subst f4_;subst f5_))
                    obtain ⟨Ao124,co124,eo124⟩ := Kd.R_slice HO381.out
                    (first | subst eo124 | (injection eo124 with f1_ f2_ f3_;have f4_ := f1_.symm;have f5_ := f3_.symm;clear f1_ f2_ f3_;subst f4_;subst f5_))
                    have p387 : 0 ≤ (x17_3 : Int) := of_decide_eq_true (by first | (with_reducible assumption) | assumption)
                    have q387 : x17_3 < (t348.length : Int) := of_decide_eq_true (by first | (with_reducible assumption) | assumption)
                    obtain ⟨ad387,e387,hx387_0,hx387_1⟩ := at_T81 (Kd.R_reads' HO_15.out).2.2 x17_3 p387 q387
                    obtain rfl : ad377 = ad387 := (by injection e387)
                    replace p387 := eq_true p387
                    replace q387 := eq_true q387
                    refine start_ (n := 33) (S := fun w' => w'.cell? (ad377.add ((x17_3).toNat * 2)) = some (.int .i64 ((rd_T81 t348 x17_3).f0)) ∧ w'.cell? ⟨(ad377.add ((x17_3).toNat * 2)).block,(ad377.add ((x17_3).toNat * 2)).off + 1,none⟩ = some (.int .i64 ((rd_T81 t348 x17_3).f1))) (ds := []) #[false,false,false,false,false,false,false,false,false,false,false,false,false,false,false,false,false,false,false,false,false,false,false,false,false,false,false,false,false,false,false,false,false] (by kernel_rfl) rfl rfl ⟨hx387_0,hx387_1⟩ (fun hHeld => ?_);refine with_tabW laws_FnBlocks.tab24 laws_FnBlocks.bits24 (fun HT_ HW_ => ?_)
                    generalize w121.drew = w122 at HO_3 HO_15 HO_16 HO376 HO381 HB hx387_0 hx387_1 hHeld ⊢
                    refine pure_ (i := 0) (N := some 149) (v := ?_) (a' := ?_) #[true,false,false,false,false,false,false,false,false,false,false,false,false,false,false,false,false,false,false,false,false,false,false,false,false,false,false,false,false,false,false,false,false] rfl rfl (any_of HT_.out (by kernel_rfl)) (fun _ _ _ h => h) (Or.inl ⟨by rfl,?_⟩) ?_ ?_
                    rotate_left
                    ·intro w'
                     go_simp
                     with_reducible rfl
                    rotate_left
                    ·simp only [Act.put,List.setIfInBounds_toArray,List.set_cons_zero,List.set_cons_succ,i64_w,i32_w]
                     rfl
                    refine pure_ (i := 1) (N := some 150) (v := ?_) (a' := ?_) #[true,true,false,false,false,false,false,false,false,false,false,false,false,false,false,false,false,false,false,false,false,false,false,false,false,false,false,false,false,false,false,false,false] rfl rfl (any_of HT_.out (by kernel_rfl)) (fun _ _ _ h => h) (Or.inl ⟨by rfl,?_⟩) ?_ ?_
                    rotate_left
                    ·intro w'
                     go_simp
                     with_reducible rfl
                    rotate_left
                    ·simp only [Act.put,List.setIfInBounds_toArray,List.set_cons_zero,List.set_cons_succ,i64_w,i32_w]
                     rfl
                    refine pure_ (i := 2) (N := some 151) (v := ?_) (a' := ?_) #[true,true,true,false,false,false,false,false,false,false,false,false,false,false,false,false,false,false,false,false,false,false,false,false,false,false,false,false,false,false,false,false,false] rfl rfl (any_of HT_.out (by kernel_rfl)) (fun _ _ _ h => h) (Or.inl ⟨by rfl,?_⟩) ?_ ?_
                    rotate_left
                    ·intro w'
                     go_simp
                     with_reducible rfl
                    rotate_left
                    ·simp only [Act.put,List.setIfInBounds_toArray,List.set_cons_zero,List.set_cons_succ,i64_w,i32_w]
                     rfl
                    refine pure_ (i := 3) (N := some 152) (v := ?_) (a' := ?_) #[true,true,true,true,false,false,false,false,false,false,false,false,false,false,false,false,false,false,false,false,false,false,false,false,false,false,false,false,false,false,false,false,false] rfl rfl (any_of HT_.out (by kernel_rfl)) (fun _ _ _ h => h) (Or.inl ⟨by rfl,?_⟩) ?_ ?_
                    rotate_left
                    ·intro w'
                     go_simp
                     with_reducible rfl
                    rotate_left
                    ·simp only [Act.put,List.setIfInBounds_toArray,List.set_cons_zero,List.set_cons_succ,i64_w,i32_w]
                     rfl
                    refine pure_ (i := 4) (N := some 153) (v := ?_) (a' := ?_) #[true,true,true,true,true,false,false,false,false,false,false,false,false,false,false,false,false,false,false,false,false,false,false,false,false,false,false,false,false,false,false,false,false] rfl rfl (any_of HT_.out (by kernel_rfl)) (fun _ _ _ h => h) (Or.inl ⟨by rfl,?_⟩) ?_ ?_
                    rotate_left
                    ·intro w'
                     go_simp
                     with_reducible rfl
                    rotate_left
                    ·simp only [Act.put,List.setIfInBounds_toArray,List.set_cons_zero,List.set_cons_succ,i64_w,i32_w]
                     rfl
                    refine pure_ (i := 5) (N := some 154) (v := ?_) (a' := ?_) #[true,true,true,true,true,true,false,false,false,false,false,false,false,false,false,false,false,false,false,false,false,false,false,false,false,false,false,false,false,false,false,false,false] rfl rfl (any_of HT_.out (by kernel_rfl)) (fun _ _ _ h => h) (Or.inl ⟨by rfl,?_⟩) ?_ ?_
                    rotate_left
                    ·intro w'
                     go_simp
                     with_reducible rfl
                    rotate_left
                    ·simp only [Act.put,List.setIfInBounds_toArray,List.set_cons_zero,List.set_cons_succ,i64_w,i32_w]
                     rfl
                    refine pure_ (i := 6) (N := some 155) (v := ?_) (a' := ?_) #[true,true,true,true,true,true,true,false,false,false,false,false,false,false,false,false,false,false,false,false,false,false,false,false,false,false,false,false,false,false,false,false,false] rfl rfl (any_of HT_.out (by kernel_rfl)) (fun _ _ _ h => h) (Or.inl ⟨by rfl,?_⟩) ?_ ?_
                    rotate_left
                    ·intro w'
                     go_simp
                     with_reducible rfl
                    rotate_left
                    ·simp only [Act.put,List.setIfInBounds_toArray,List.set_cons_zero,List.set_cons_succ,i64_w,i32_w]
                     rfl
                    refine pure_ (i := 7) (N := some 156) (v := ?_) (a' := ?_) #[true,true,true,true,true,true,true,true,false,false,false,false,false,false,false,false,false,false,false,false,false,false,false,false,false,false,false,false,false,false,false,false,false] rfl rfl (any_of HT_.out (by kernel_rfl)) (fun _ _ _ h => h) (Or.inl ⟨by rfl,?_⟩) ?_ ?_
                    rotate_left
                    ·intro w'
                     go_simp
                     with_reducible rfl
                    rotate_left
                    ·simp only [Act.put,List.setIfInBounds_toArray,List.set_cons_zero,List.set_cons_succ,i64_w,i32_w]
                     rfl
                    refine pure_ (i := 8) (N := some 157) (v := ?_) (a' := ?_) #[true,true,true,true,true,true,true,true,true,false,false,false,false,false,false,false,false,false,false,false,false,false,false,false,false,false,false,false,false,false,false,false,false] rfl rfl (any_of HT_.out (by kernel_rfl)) (fun _ _ _ h => h) (Or.inl ⟨by rfl,?_⟩) ?_ ?_
                    rotate_left
                    ·intro w'
                     go_simp
                     with_reducible rfl
                    rotate_left
                    ·simp only [Act.put,List.setIfInBounds_toArray,List.set_cons_zero,List.set_cons_succ,i64_w,i32_w]
                     rfl
                    refine one_ (i := 9) (N := some 158) #[true,true,true,true,true,true,true,true,true,true,false,false,false,false,false,false,false,false,false,false,false,false,false,false,false,false,false,false,false,false,false,false,false] rfl rfl (one_of HT_.out (by kernel_rfl)) (by decide) (fun K hK => ?_)
                    refine goes_ Try.func46 (by kernel_rfl) rfl #[.slice Ao123 t373.length co123,.slice Ao124 t378.length co124] (by rfl) rfl rfl (by (try simp only [List.map_toArray,List.map_cons,List.map_nil]);first | done | rfl | (simp only [List.length_drop,List.length_take];rfl)) ?_
                    with_reducible refine (laws_same.calls k3 _ _ t373 _ _ t378 true _ ?side1 ?side2 ?side3 ?side4 A93.out).mono ?_
                    (case side1 => exact Kd.C_up (Kd.R_reads' HO376.out).2.2)
                    (case side2 => exact (Kd.R_reads' HO376.out).2.1)
                    (case side3 => exact Kd.C_up (Kd.R_reads' HO381.out).2.2)
                    (case side4 => exact (Kd.R_reads' HO381.out).2.1)
                    rintro e w' ⟨rfl,⟨nd,rfl⟩⟩
                    refine ⟨_,rfl,?_⟩
                    refine hK.out _ _ ⟨hHeld.1,hHeld.2⟩ (fun hHeld => ?_)
                    clear hK K
                    refine norm_ (a' := ?_) ?_ ?_
                    rotate_left
                    ·show Act.put _ (some 158) _ = _
                     simp only [Act.put,List.setIfInBounds_toArray,List.set_cons_zero,List.set_cons_succ,i64_w,i32_w]
                     rfl
                    refine pure_ (i := 10) (N := some 159) (v := ?_) (a' := ?_) #[true,true,true,true,true,true,true,true,true,true,true,false,false,false,false,false,false,false,false,false,false,false,false,false,false,false,false,false,false,false,false,false,false] rfl rfl (any_of HT_.out (by kernel_rfl)) (fun _ _ _ h => h) (Or.inl ⟨by rfl,?_⟩) ?_ ?_
                    rotate_left
                    ·intro w'
                     go_simp
                     with_reducible rfl
                    rotate_left
                    ·simp only [Act.put,List.setIfInBounds_toArray,List.set_cons_zero,List.set_cons_succ,i64_w,i32_w]
                     rfl
                    refine pure_ (i := 11) (N := some 160) (v := ?_) (a' := ?_) #[true,true,true,true,true,true,true,true,true,true,true,true,false,false,false,false,false,false,false,false,false,false,false,false,false,false,false,false,false,false,false,false,false] rfl rfl (any_of HT_.out (by kernel_rfl)) (fun _ _ _ h => h) (Or.inl ⟨by rfl,?_⟩) ?_ ?_
                    rotate_left
                    ·intro w'
                     go_simp
                     with_reducible rfl
                    rotate_left
                    ·simp only [Act.put,List.setIfInBounds_toArray,List.set_cons_zero,List.set_cons_succ,i64_w,i32_w]
                     rfl
                    refine pure_ (i := 12) (N := some 161) (v := ?_) (a' := ?_) #[true,true,true,true,true,true,true,true,true,true,true,true,true,false,false,false,false,false,false,false,false,false,false,false,false,false,false,false,false,false,false,false,false] rfl rfl (any_of HT_.out (by kernel_rfl)) (fun _ _ _ h => h) (Or.inl ⟨by rfl,?_⟩) ?_ ?_
                    rotate_left
                    ·intro w'
                     go_simp
                     with_reducible rfl
                    rotate_left
                    ·simp only [Act.put,List.setIfInBounds_toArray,List.set_cons_zero,List.set_cons_succ,i64_w,i32_w]
                     rfl
                    refine pure_ (i := 13) (N := some 162) (v := ?_) (a' := ?_) #[true,true,true,true,true,true,true,true,true,true,true,true,true,true,false,false,false,false,false,false,false,false,false,false,false,false,false,false,false,false,false,false,false] rfl rfl (any_of HT_.out (by kernel_rfl)) (fun _ _ _ h => h) (Or.inl ⟨by rfl,?_⟩) ?_ ?_
                    rotate_left
                    ·intro w'
                     go_simp
                     with_reducible rfl
                    rotate_left
                    ·simp only [Act.put,List.setIfInBounds_toArray,List.set_cons_zero,List.set_cons_succ,i64_w,i32_w]
                     rfl
                    refine pure_ (i := 15) (N := some 164) (v := ?_) (a' := ?_) #[true,true,true,true,true,true,true,true,true,true,true,true,true,true,false,true,false,false,false,false,false,false,false,false,false,false,false,false,false,false,false,false,false] rfl rfl (any_of HT_.out (by kernel_rfl)) (fun _ _ _ h => h) (Or.inl ⟨by rfl,?_⟩) ?_ ?_
                    rotate_left
                    ·intro w'
                     go_simp
                     with_reducible rfl
                    rotate_left
                    ·simp only [Act.put,List.setIfInBounds_toArray,List.set_cons_zero,List.set_cons_succ,i64_w,i32_w]
                     rfl
                    refine pure_ (i := 16) (N := some 165) (v := ?_) (a' := ?_) #[true,true,true,true,true,true,true,true,true,true,true,true,true,true,false,true,true,false,false,false,false,false,false,false,false,false,false,false,false,false,false,false,false] rfl rfl (any_of HT_.out (by kernel_rfl)) (fun _ _ _ h => h) (Or.inl ⟨by rfl,?_⟩) ?_ ?_
                    rotate_left
                    ·intro w'
                     go_simp
                     with_reducible rfl
                    rotate_left
                    ·simp only [Act.put,List.setIfInBounds_toArray,List.set_cons_zero,List.set_cons_succ,i64_w,i32_w]
                     rfl
                    refine pure_ (i := 17) (N := some 166) (v := ?_) (a' := ?_) #[true,true,true,true,true,true,true,true,true,true,true,true,true,true,false,true,true,true,false,false,false,false,false,false,false,false,false,false,false,false,false,false,false] rfl rfl (any_of HT_.out (by kernel_rfl)) (fun _ _ _ h => h) (Or.inl ⟨by rfl,?_⟩) ?_ ?_
                    rotate_left
                    ·intro w'
                     go_simp
                     with_reducible rfl
                    rotate_left
                    ·simp only [Act.put,List.setIfInBounds_toArray,List.set_cons_zero,List.set_cons_succ,i64_w,i32_w]
                     rfl
                    refine take_ (i := 18) (N := some 167) (v := ?_) (a' := ?_) #[true,true,true,true,true,true,true,true,true,true,true,true,true,true,false,true,true,true,true,false,false,false,false,false,false,false,false,false,false,false,false,false,false] rfl rfl (take_ofW HT_.out HW_.out (by kernel_rfl)) (fun _ _ _ h => h) (Or.inl ⟨by rfl,?_⟩) hHeld ?_ ?_
                    rotate_left
                    ·rintro w' ⟨s0,s1⟩
                     go_simp
                     with_reducible rfl
                    rotate_left
                    ·simp only [Act.put,List.setIfInBounds_toArray,List.set_cons_zero,List.set_cons_succ,i64_w,i32_w]
                     rfl
                    refine one_ (i := 14) (N := some 163) #[true,true,true,true,true,true,true,true,true,true,true,true,true,true,true,true,true,true,true,false,false,false,false,false,false,false,false,false,false,false,false,false,false] rfl rfl (one_of HT_.out (by kernel_rfl)) (by decide) (fun K hK => ?_)
                    refine goes_ Try.func97 (by kernel_rfl) rfl #[.slice Ao123 t373.length co123] (by rfl) rfl rfl (by (try simp only [List.map_toArray,List.map_cons,List.map_nil]);first | done | rfl | (simp only [List.length_drop,List.length_take];rfl)) ?_
                    with_reducible refine (impl_SumOf.calls k3 _ _ t373 t385 t386 _ ?side1 ?side2 A95.out).mono ?_
                    (case side1 => exact Kd.C_up (Kd.R_reads' HO376.out).2.2)
                    (case side2 => exact (Kd.R_reads' HO376.out).2.1)
                    rintro e w125 ⟨rfl,hb⟩
                    have HS0_ := (hb.cell (World.block_lt_of_cell? _ _ (hHeld.1))).trans (hHeld.1)
                    have HS1_ := (hb.cell (World.block_lt_of_cell? _ _ (hHeld.2))).trans (hHeld.2)
                    refine ⟨_,rfl,?_⟩
                    have n0_ := Aside0.mk (Kd.R_below (Kd.R_up HO_3.out) hb)
                    have n1_ := Aside0.mk (Kd.R_below (Kd.R_up HO_15.out) hb)
                    have n2_ := Aside0.mk (Kd.R_below (Kd.R_up HO_16.out) hb)
                    have n3_ := Aside0.mk (Kd.R_below (Kd.R_up HO376.out) hb)
                    have n4_ := Aside0.mk (Kd.R_below (Kd.R_up HO381.out) hb)
                    have n5_ := Aside0.mk (below_step (B_up HB.out) hb)
                    clear HO_3
                    clear HO_15
                    clear HO_16
                    clear HO376
                    clear HO381
                    clear HB
                    have HO_3 := n0_
                    have HO_15 := n1_
                    have HO_16 := n2_
                    have HO376 := n3_
                    have HO381 := n4_
                    have HB := n5_
                    clear n0_ n1_ n2_ n3_ n4_ n5_
                    (try clear hb)
                    (try clear hb2)
                    (try clear hk)
                    (try clear hi)
                    obtain ⟨Ao126,co126,eo126⟩ := Kd.R_slice HO_16.out
                    (first | subst eo126 | (injection eo126 with f1_ f2_ f3_;have f4_ := f1_.symm;have f5_ := f3_.symm;clear f1_ f2_ f3_;subst f4_;subst f5_))
                    refine hK.out _ _ ⟨HS0_,HS1_⟩ (fun hHeld => ?_)
                    clear hK K
                    refine norm_ (a' := ?_) ?_ ?_
                    rotate_left
                    ·show Act.put _ (some 163) _ = _
                     simp only [Act.put,List.setIfInBounds_toArray,List.set_cons_zero,List.set_cons_succ,i64_w,i32_w]
                     rfl
                    refine pure_ (i := 19) (N := some 168) (v := ?_) (a' := ?_) #[true,true,true,true,true,true,true,true,true,true,true,true,true,true,true,true,true,true,true,true,false,false,false,false,false,false,false,false,false,false,false,false,false] rfl rfl (any_of HT_.out (by kernel_rfl)) (fun _ _ _ h => h) (Or.inl ⟨by rfl,?_⟩) ?_ ?_
                    rotate_left
                    ·intro w'
                     go_simp
                     with_reducible rfl
                    rotate_left
                    ·simp only [Act.put,List.setIfInBounds_toArray,List.set_cons_zero,List.set_cons_succ,i64_w,i32_w]
                     rfl
                    refine pure_ (i := 20) (N := some 169) (v := ?_) (a' := ?_) #[true,true,true,true,true,true,true,true,true,true,true,true,true,true,true,true,true,true,true,true,true,false,false,false,false,false,false,false,false,false,false,false,false] rfl rfl (any_of HT_.out (by kernel_rfl)) (fun _ _ _ h => h) (Or.inl ⟨by rfl,?_⟩) ?_ ?_
                    rotate_left
                    ·intro w'
                     go_simp
                     with_reducible rfl
                    rotate_left
                    ·simp only [Act.put,List.setIfInBounds_toArray,List.set_cons_zero,List.set_cons_succ,i64_w,i32_w]
                     rfl
                    refine pure_ (i := 21) (N := some 170) (v := ?_) (a' := ?_) #[true,true,true,true,true,true,true,true,true,true,true,true,true,true,true,true,true,true,true,true,true,true,false,false,false,false,false,false,false,false,false,false,false] rfl rfl (any_of HT_.out (by kernel_rfl)) (fun _ _ _ h => h) (Or.inl ⟨by rfl,?_⟩) ?_ ?_
                    rotate_left
                    ·intro w'
                     go_simp
                     with_reducible rfl
                    rotate_left
                    ·simp only [Act.put,List.setIfInBounds_toArray,List.set_cons_zero,List.set_cons_succ,i64_w,i32_w]
                     rfl
                    refine pure_ (i := 22) (N := some 171) (v := ?_) (a' := ?_) #[true,true,true,true,true,true,true,true,true,true,true,true,true,true,true,true,true,true,true,true,true,true,true,false,false,false,false,false,false,false,false,false,false] rfl rfl (any_of HT_.out (by kernel_rfl)) (fun _ _ _ h => h) (Or.inl ⟨by rfl,?_⟩) ?_ ?_
                    rotate_left
                    ·intro w'
                     go_simp
                     with_reducible rfl
                    rotate_left
                    ·simp only [Act.put,List.setIfInBounds_toArray,List.set_cons_zero,List.set_cons_succ,i64_w,i32_w]
                     rfl
                    refine pure_ (i := 23) (N := some 172) (v := ?_) (a' := ?_) #[true,true,true,true,true,true,true,true,true,true,true,true,true,true,true,true,true,true,true,true,true,true,true,true,false,false,false,false,false,false,false,false,false] rfl rfl (any_of HT_.out (by kernel_rfl)) (fun _ _ _ h => h) (Or.inl ⟨by rfl,?_⟩) ?_ ?_
                    rotate_left
                    ·intro w'
                     go_simp
                     with_reducible rfl
                    rotate_left
                    ·simp only [Act.put,List.setIfInBounds_toArray,List.set_cons_zero,List.set_cons_succ,i64_w,i32_w]
                     rfl
                    refine pure_ (i := 24) (N := some 173) (v := ?_) (a' := ?_) #[true,true,true,true,true,true,true,true,true,true,true,true,true,true,true,true,true,true,true,true,true,true,true,true,true,false,false,false,false,false,false,false,false] rfl rfl (any_of HT_.out (by kernel_rfl)) (fun _ _ _ h => h) (Or.inl ⟨by rfl,?_⟩) ?_ ?_
                    rotate_left
                    ·intro w'
                     go_simp
                     with_reducible rfl
                    rotate_left
                    ·simp only [Act.put,List.setIfInBounds_toArray,List.set_cons_zero,List.set_cons_succ,i64_w,i32_w]
                     rfl
                    refine pure_ (i := 25) (N := some 174) (v := ?_) (a' := ?_) #[true,true,true,true,true,true,true,true,true,true,true,true,true,true,true,true,true,true,true,true,true,true,true,true,true,true,false,false,false,false,false,false,false] rfl rfl (any_of HT_.out (by kernel_rfl)) (fun _ _ _ h => h) (Or.inl ⟨by rfl,?_⟩) ?_ ?_
                    rotate_left
                    ·intro w'
                     go_simp
                     with_reducible rfl
                    rotate_left
                    ·simp only [Act.put,List.setIfInBounds_toArray,List.set_cons_zero,List.set_cons_succ,i64_w,i32_w]
                     rfl
                    refine pure_ (i := 26) (N := some 175) (v := ?_) (a' := ?_) #[true,true,true,true,true,true,true,true,true,true,true,true,true,true,true,true,true,true,true,true,true,true,true,true,true,true,true,false,false,false,false,false,false] rfl rfl (any_of HT_.out (by kernel_rfl)) (fun _ _ _ h => h) (Or.inl ⟨by rfl,?_⟩) ?_ ?_
                    rotate_left
                    ·intro w'
                     go_simp
                     with_reducible rfl
                    rotate_left
                    ·simp only [Act.put,List.setIfInBounds_toArray,List.set_cons_zero,List.set_cons_succ,i64_w,i32_w]
                     rfl
                    refine pure_ (i := 27) (N := some 176) (v := ?_) (a' := ?_) #[true,true,true,true,true,true,true,true,true,true,true,true,true,true,true,true,true,true,true,true,true,true,true,true,true,true,true,true,false,false,false,false,false] rfl rfl (any_of HT_.out (by kernel_rfl)) (fun _ _ _ h => h) (Or.inl ⟨by rfl,?_⟩) ?_ ?_
                    rotate_left
                    ·intro w'
                     go_simp
                     with_reducible rfl
                    rotate_left
                    ·simp only [Act.put,List.setIfInBounds_toArray,List.set_cons_zero,List.set_cons_succ,i64_w,i32_w]
                     rfl
                    refine pure_ (i := 28) (N := some 177) (v := ?_) (a' := ?_) #[true,true,true,true,true,true,true,true,true,true,true,true,true,true,true,true,true,true,true,true,true,true,true,true,true,true,true,true,true,false,false,false,false] rfl rfl (any_of HT_.out (by kernel_rfl)) (fun _ _ _ h => h) (Or.inl ⟨by rfl,?_⟩) ?_ ?_
                    rotate_left
                    ·intro w'
                     go_simp
                     with_reducible rfl
                    rotate_left
                    ·simp only [Act.put,List.setIfInBounds_toArray,List.set_cons_zero,List.set_cons_succ,i64_w,i32_w]
                     rfl
                    refine pure_ (i := 29) (N := some 178) (v := ?_) (a' := ?_) #[true,true,true,true,true,true,true,true,true,true,true,true,true,true,true,true,true,true,true,true,true,true,true,true,true,true,true,true,true,true,false,false,false] rfl rfl (any_of HT_.out (by kernel_rfl)) (fun _ _ _ h => h) (Or.inl ⟨by rfl,?_⟩) ?_ ?_
                    rotate_left
                    ·intro w'
                     go_simp
                     with_reducible rfl
                    rotate_left
                    ·simp only [Act.put,List.setIfInBounds_toArray,List.set_cons_zero,List.set_cons_succ,i64_w,i32_w]
                     rfl
                    refine pure_ (i := 30) (N := some 179) (v := ?_) (a' := ?_) #[true,true,true,true,true,true,true,true,true,true,true,true,true,true,true,true,true,true,true,true,true,true,true,true,true,true,true,true,true,true,true,false,false] rfl rfl (any_of HT_.out (by kernel_rfl)) (fun _ _ _ h => h) (Or.inl ⟨by rfl,?_⟩) ?_ ?_
                    rotate_left
                    ·intro w'
                     go_simp
                     with_reducible rfl
                    rotate_left
                    ·simp only [Act.put,List.setIfInBounds_toArray,List.set_cons_zero,List.set_cons_succ,i64_w,i32_w]
                     rfl
                    refine pure_ (i := 31) (N := some 180) (v := ?_) (a' := ?_) #[true,true,true,true,true,true,true,true,true,true,true,true,true,true,true,true,true,true,true,true,true,true,true,true,true,true,true,true,true,true,true,true,false] rfl rfl (any_of HT_.out (by kernel_rfl)) (fun _ _ _ h => h) (Or.inl ⟨by rfl,?_⟩) ?_ ?_
                    rotate_left
                    ·intro w'
                     go_simp
                     with_reducible rfl
                    rotate_left
                    ·simp only [Act.put,List.setIfInBounds_toArray,List.set_cons_zero,List.set_cons_succ,i64_w,i32_w]
                     rfl
                    refine pure_ (i := 32) (N := some 181) (v := ?_) (a' := ?_) #[true,true,true,true,true,true,true,true,true,true,true,true,true,true,true,true,true,true,true,true,true,true,true,true,true,true,true,true,true,true,true,true,true] rfl rfl (any_of HT_.out (by kernel_rfl)) (fun _ _ _ h => h) (Or.inl ⟨by rfl,?_⟩) ?_ ?_
                    rotate_left
                    ·intro w'
                     go_simp
                     with_reducible rfl
                    rotate_left
                    ·simp only [Act.put,List.setIfInBounds_toArray,List.set_cons_zero,List.set_cons_succ,i64_w,i32_w]
                     rfl
                    refine done_ (done_of HT_.out (by kernel_rfl)) ?_
                    try go_wp2
                    go_ret
                    exact ⟨by first | rfl | (simp [errW_none,errW_some] <;> rfl) | (simp [*,errW_none,errW_some] <;> rfl),by repeat (first | (with_reducible first | exact HB.out | apply below_alloc | apply pw_below_drewN | apply below_drew1) | exact HB.out)⟩
                  ·rw [if_neg c105] at H
                   have c105b0 : (t382 == (x16_3.length : Int)) = false := beq_eq_false_iff_ne.mpr c105
                   have c105b1 : (t382 != (x16_3.length : Int)) = true := bne_iff_ne.mpr c105
                   obtain rfl := Option.some.inj H
                   try go_wp2_with (first | ((with_reducible refine gate_callee (f := 99) rfl ?_);refine goesL_ (some 121) rfl rfl Try.func99 (by kernel_rfl) rfl #[.int .i64 t329,.int .i64 (t328.length : Int)] rfl (by (try simp only [List.map_toArray,List.map_cons,List.map_nil]);first | done | rfl | (simp only [List.length_drop,List.length_take];rfl)) ?_;(with_reducible refine (impl_Blocks.calls t329 (t328.length : Int) t370 _ A84.out).mono ?_);rintro e w' ⟨rfl,⟨nd,rfl⟩⟩;refine ⟨_,rfl,?_⟩) | ((with_reducible refine gate_callee (f := 102) rfl ?_);refine goesL_ (some 129) rfl rfl Try.func102 (by kernel_rfl) rfl #[.slice Ao20 t328.length co20,.int .i64 t329,.int .i64 x17_3] rfl (by (try simp only [List.map_toArray,List.map_cons,List.map_nil]);first | done | rfl | (simp only [List.length_drop,List.length_take];rfl)) ?_;(with_reducible refine (impl_BlockAt.calls _ _ t328 t329 x17_3 t373 true _ ?side1 ?side2 A86.out).mono ?_);(case side1 => exact Kd.C_up (Kd.R_reads' HO_3.out).2.2);(case side2 => exact (Kd.R_reads' HO_3.out).2.1);rintro e w127 ⟨v375,rfl,ho0,hb⟩;refine ⟨_,rfl,?_⟩;have n0_ := Aside0.mk (Kd.R_elder' (Kd.R_up HO_3.out) (Kd.R_base ho0) hb);have n1_ := Aside0.mk (Kd.R_below (Kd.R_up HO_15.out) hb);have n2_ := Aside0.mk (Kd.R_elder' (Kd.R_up HO_16.out) (Kd.R_base ho0) hb);have n3_ := Aside0.mk (Kd.R_lower (Kd.R_new' (Kd.R_new' ho0 (Kd.R_lt (Kd.R_up HO_3.out))) (Kd.R_lt (Kd.R_up HO_16.out))) (below_size (B_up HB.out)));have n4_ := Aside0.mk (below_step (B_up HB.out) hb);clear HO_3;clear HO_15;clear HO_16;clear HB;have HO_3 := n0_;have HO_15 := n1_;have HO_16 := n2_;have HO376 := n3_;have HB := n4_;clear n0_ n1_ n2_ n3_ n4_;(try clear hb);(try clear hb2);(try clear hk);(try clear hi);(try clear ho0);obtain ⟨Ao128,co128,eo128⟩ := Kd.R_slice HO_15.out;subst eo128;have p377 : 0 ≤ (x17_3 : Int) := of_decide_eq_true (by first | (with_reducible assumption) | assumption);have q377 : x17_3 < (t348.length : Int) := of_decide_eq_true (by first | (with_reducible assumption) | assumption);obtain ⟨ad377,e377,hx377_0,hx377_1⟩ := at_T81 (Kd.R_reads' HO_15.out).2.2 x17_3 p377 q377;cases e377;replace p377 := eq_true p377;replace q377 := eq_true q377) | ((with_reducible refine gate_callee (f := 91) rfl ?_);refine goesL_ (some 138) rfl rfl Try.func91 (by kernel_rfl) rfl #[.int .i64 ((rd_T81 t348 x17_3).f1)] rfl (by (try simp only [List.map_toArray,List.map_cons,List.map_nil]);first | done | rfl | (simp only [List.length_drop,List.length_take];rfl)) ?_;(with_reducible refine (impl_BytesOf.calls k3 ((rd_T81 t348 x17_3).f1) t378 true _ A89.out).mono ?_);rintro e w129 ⟨v380,rfl,ho0,hb⟩;refine ⟨_,rfl,?_⟩;have n0_ := Aside0.mk (Kd.R_elder' (Kd.R_up HO_3.out) (Kd.R_base ho0) hb);have n1_ := Aside0.mk (Kd.R_below (Kd.R_up HO_15.out) hb);have n2_ := Aside0.mk (Kd.R_elder' (Kd.R_up HO_16.out) (Kd.R_base ho0) hb);have n3_ := Aside0.mk (Kd.R_elder' (Kd.R_up HO376.out) (Kd.R_base ho0) hb);have n4_ := Aside0.mk (Kd.R_lower (Kd.R_new' (Kd.R_new' (Kd.R_new' ho0 (Kd.R_lt (Kd.R_up HO_3.out))) (Kd.R_lt (Kd.R_up HO_16.out))) (Kd.R_lt (Kd.R_up HO376.out))) (below_size (B_up HB.out)));have n5_ := Aside0.mk (below_step (B_up HB.out) hb);clear HO_3;clear HO_15;clear HO_16;clear HO376;clear HB;have HO_3 := n0_;have HO_15 := n1_;have HO_16 := n2_;have HO376 := n3_;have HO381 := n4_;have HB := n5_;clear n0_ n1_ n2_ n3_ n4_ n5_;(try clear hb);(try clear hb2);(try clear hk);(try clear hi);(try clear ho0)) | ((with_reducible refine gate_callee (f := 103) rfl ?_);refine goesL_ (some 146) rfl rfl Try.func103 (by kernel_rfl) rfl #[.int .i64 t329,.int .i64 (t328.length : Int),.int .i64 x17_3] rfl (by (try simp only [List.map_toArray,List.map_cons,List.map_nil]);first | done | rfl | (simp only [List.length_drop,List.length_take];rfl)) ?_;(with_reducible refine (impl_SpanOf.calls t329 (t328.length : Int) x17_3 t382 t383 _ A90.out).mono ?_);rintro e w130 ⟨rfl,hb⟩;refine ⟨_,rfl,?_⟩;have n0_ := Aside0.mk (Kd.R_below (Kd.R_up HO_3.out) hb);have n1_ := Aside0.mk (Kd.R_below (Kd.R_up HO_15.out) hb);have n2_ := Aside0.mk (Kd.R_below (Kd.R_up HO_16.out) hb);have n3_ := Aside0.mk (Kd.R_below (Kd.R_up HO376.out) hb);have n4_ := Aside0.mk (Kd.R_below (Kd.R_up HO381.out) hb);have n5_ := Aside0.mk (below_step (B_up HB.out) hb);clear HO_3;clear HO_15;clear HO_16;clear HO376;clear HO381;clear HB;have HO_3 := n0_;have HO_15 := n1_;have HO_16 := n2_;have HO376 := n3_;have HO381 := n4_;have HB := n5_;clear n0_ n1_ n2_ n3_ n4_ n5_;(try clear hb);(try clear hb2);(try clear hk);(try clear hi)))
                   have n0_ := Aside0.mk (Kd.R_drew HO_3.out)
                   have n1_ := Aside0.mk (Kd.R_drew HO_15.out)
                   have n2_ := Aside0.mk (Kd.R_drew HO_16.out)
                   have n3_ := Aside0.mk (Kd.R_drew HO376.out)
                   have n4_ := Aside0.mk (Kd.R_drew HO381.out)
                   have n5_ := Aside0.mk (below_drew1 HB.out)
                   clear HO_3
                   clear HO_15
                   clear HO_16
                   clear HO376
                   clear HO381
                   clear HB
                   have HO_3 := n0_
                   have HO_15 := n1_
                   have HO_16 := n2_
                   have HO376 := n3_
                   have HO381 := n4_
                   have HB := n5_
                   clear n0_ n1_ n2_ n3_ n4_ n5_
                   obtain ⟨Ao132,co132,eo132⟩ := Kd.R_slice HO376.out
                   (first | subst eo132 | (injection eo132 with f1_ f2_ f3_;have f4_ := f1_.symm;have f5_ := f3_.symm;clear f1_ f2_ f3_;subst f4_;subst f5_))
                   obtain ⟨Ao133,co133,eo133⟩ := Kd.R_slice HO381.out
                   (first | subst eo133 | (injection eo133 with f1_ f2_ f3_;have f4_ := f1_.symm;have f5_ := f3_.symm;clear f1_ f2_ f3_;subst f4_;subst f5_))
                   have p387 : 0 ≤ (x17_3 : Int) := of_decide_eq_true (by first | (with_reducible assumption) | assumption)
                   have q387 : x17_3 < (t348.length : Int) := of_decide_eq_true (by first | (with_reducible assumption) | assumption)
                   obtain ⟨ad387,e387,hx387_0,hx387_1⟩ := at_T81 (Kd.R_reads' HO_15.out).2.2 x17_3 p387 q387
                   obtain rfl : ad377 = ad387 := (by injection e387)
                   replace p387 := eq_true p387
                   replace q387 := eq_true q387
                   refine start_ (n := 33) (S := fun w' => w'.cell? (ad377.add ((x17_3).toNat * 2)) = some (.int .i64 ((rd_T81 t348 x17_3).f0)) ∧ w'.cell? ⟨(ad377.add ((x17_3).toNat * 2)).block,(ad377.add ((x17_3).toNat * 2)).off + 1,none⟩ = some (.int .i64 ((rd_T81 t348 x17_3).f1))) (ds := []) #[false,false,false,false,false,false,false,false,false,false,false,false,false,false,false,false,false,false,false,false,false,false,false,false,false,false,false,false,false,false,false,false,false] (by kernel_rfl) rfl rfl ⟨hx387_0,hx387_1⟩ (fun hHeld => ?_);refine with_tabW laws_FnBlocks.tab24 laws_FnBlocks.bits24 (fun HT_ HW_ => ?_)
                   generalize w130.drew = w131 at HO_3 HO_15 HO_16 HO376 HO381 HB hx387_0 hx387_1 hHeld ⊢
                   refine pure_ (i := 0) (N := some 149) (v := ?_) (a' := ?_) #[true,false,false,false,false,false,false,false,false,false,false,false,false,false,false,false,false,false,false,false,false,false,false,false,false,false,false,false,false,false,false,false,false] rfl rfl (any_of HT_.out (by kernel_rfl)) (fun _ _ _ h => h) (Or.inl ⟨by rfl,?_⟩) ?_ ?_
                   rotate_left
                   ·intro w'
                    go_simp
                    with_reducible rfl
                   rotate_left
                   ·simp only [Act.put,List.setIfInBounds_toArray,List.set_cons_zero,List.set_cons_succ,i64_w,i32_w]
                    rfl
                   refine pure_ (i := 1) (N := some 150) (v := ?_) (a' := ?_) #[true,true,false,false,false,false,false,false,false,false,false,false,false,false,false,false,false,false,false,false,false,false,false,false,false,false,false,false,false,false,false,false,false] rfl rfl (any_of HT_.out (by kernel_rfl)) (fun _ _ _ h => h) (Or.inl ⟨by rfl,?_⟩) ?_ ?_
                   rotate_left
                   ·intro w'
                    go_simp
                    with_reducible rfl
                   rotate_left
                   ·simp only [Act.put,List.setIfInBounds_toArray,List.set_cons_zero,List.set_cons_succ,i64_w,i32_w]
                    rfl
                   refine pure_ (i := 2) (N := some 151) (v := ?_) (a' := ?_) #[true,true,true,false,false,false,false,false,false,false,false,false,false,false,false,false,false,false,false,false,false,false,false,false,false,false,false,false,false,false,false,false,false] rfl rfl (any_of HT_.out (by kernel_rfl)) (fun _ _ _ h => h) (Or.inl ⟨by rfl,?_⟩) ?_ ?_
                   rotate_left
                   ·intro w'
                    go_simp
                    with_reducible rfl
                   rotate_left
                   ·simp only [Act.put,List.setIfInBounds_toArray,List.set_cons_zero,List.set_cons_succ,i64_w,i32_w]
                    rfl
                   refine pure_ (i := 3) (N := some 152) (v := ?_) (a' := ?_) #[true,true,true,true,false,false,false,false,false,false,false,false,false,false,false,false,false,false,false,false,false,false,false,false,false,false,false,false,false,false,false,false,false] rfl rfl (any_of HT_.out (by kernel_rfl)) (fun _ _ _ h => h) (Or.inl ⟨by rfl,?_⟩) ?_ ?_
                   rotate_left
                   ·intro w'
                    go_simp
                    with_reducible rfl
                   rotate_left
                   ·simp only [Act.put,List.setIfInBounds_toArray,List.set_cons_zero,List.set_cons_succ,i64_w,i32_w]
                    rfl
                   refine pure_ (i := 4) (N := some 153) (v := ?_) (a' := ?_) #[true,true,true,true,true,false,false,false,false,false,false,false,false,false,false,false,false,false,false,false,false,false,false,false,false,false,false,false,false,false,false,false,false] rfl rfl (any_of HT_.out (by kernel_rfl)) (fun _ _ _ h => h) (Or.inl ⟨by rfl,?_⟩) ?_ ?_
                   rotate_left
                   ·intro w'
                    go_simp
                    with_reducible rfl
                   rotate_left
                   ·simp only [Act.put,List.setIfInBounds_toArray,List.set_cons_zero,List.set_cons_succ,i64_w,i32_w]
                    rfl
                   refine pure_ (i := 5) (N := some 154) (v := ?_) (a' := ?_) #[true,true,true,true,true,true,false,false,false,false,false,false,false,false,false,false,false,false,false,false,false,false,false,false,false,false,false,false,false,false,false,false,false] rfl rfl (any_of HT_.out (by kernel_rfl)) (fun _ _ _ h => h) (Or.inl ⟨by rfl,?_⟩) ?_ ?_
                   rotate_left
                   ·intro w'
                    go_simp
                    with_reducible rfl
                   rotate_left
                   ·simp only [Act.put,List.setIfInBounds_toArray,List.set_cons_zero,List.set_cons_succ,i64_w,i32_w]
                    rfl
                   refine pure_ (i := 6) (N := some 155) (v := ?_) (a' := ?_) #[true,true,true,true,true,true,true,false,false,false,false,false,false,false,false,false,false,false,false,false,false,false,false,false,false,false,false,false,false,false,false,false,false] rfl rfl (any_of HT_.out (by kernel_rfl)) (fun _ _ _ h => h) (Or.inl ⟨by rfl,?_⟩) ?_ ?_
                   rotate_left
                   ·intro w'
                    go_simp
                    with_reducible rfl
                   rotate_left
                   ·simp only [Act.put,List.setIfInBounds_toArray,List.set_cons_zero,List.set_cons_succ,i64_w,i32_w]
                    rfl
                   refine pure_ (i := 7) (N := some 156) (v := ?_) (a' := ?_) #[true,true,true,true,true,true,true,true,false,false,false,false,false,false,false,false,false,false,false,false,false,false,false,false,false,false,false,false,false,false,false,false,false] rfl rfl (any_of HT_.out (by kernel_rfl)) (fun _ _ _ h => h) (Or.inl ⟨by rfl,?_⟩) ?_ ?_
                   rotate_left
                   ·intro w'
                    go_simp
                    with_reducible rfl
                   rotate_left
                   ·simp only [Act.put,List.setIfInBounds_toArray,List.set_cons_zero,List.set_cons_succ,i64_w,i32_w]
                    rfl
                   refine pure_ (i := 8) (N := some 157) (v := ?_) (a' := ?_) #[true,true,true,true,true,true,true,true,true,false,false,false,false,false,false,false,false,false,false,false,false,false,false,false,false,false,false,false,false,false,false,false,false] rfl rfl (any_of HT_.out (by kernel_rfl)) (fun _ _ _ h => h) (Or.inl ⟨by rfl,?_⟩) ?_ ?_
                   rotate_left
                   ·intro w'
                    go_simp
                    with_reducible rfl
                   rotate_left
                   ·simp only [Act.put,List.setIfInBounds_toArray,List.set_cons_zero,List.set_cons_succ,i64_w,i32_w]
                    rfl
                   refine one_ (i := 9) (N := some 158) #[true,true,true,true,true,true,true,true,true,true,false,false,false,false,false,false,false,false,false,false,false,false,false,false,false,false,false,false,false,false,false,false,false] rfl rfl (one_of HT_.out (by kernel_rfl)) (by decide) (fun K hK => ?_)
                   refine goes_ Try.func46 (by kernel_rfl) rfl #[.slice Ao132 t373.length co132,.slice Ao133 t378.length co133] (by rfl) rfl rfl (by (try simp only [List.map_toArray,List.map_cons,List.map_nil]);first | done | rfl | (simp only [List.length_drop,List.length_take];rfl)) ?_
                   with_reducible refine (laws_same.calls k3 _ _ t373 _ _ t378 true _ ?side1 ?side2 ?side3 ?side4 A93.out).mono ?_
                   (case side1 => exact Kd.C_up (Kd.R_reads' HO376.out).2.2)
                   (case side2 => exact (Kd.R_reads' HO376.out).2.1)
                   (case side3 => exact Kd.C_up (Kd.R_reads' HO381.out).2.2)
                   (case side4 => exact (Kd.R_reads' HO381.out).2.1)
                   rintro e w' ⟨rfl,⟨nd,rfl⟩⟩
                   refine ⟨_,rfl,?_⟩
                   refine hK.out _ _ ⟨hHeld.1,hHeld.2⟩ (fun hHeld => ?_)
                   clear hK K
                   refine norm_ (a' := ?_) ?_ ?_
                   rotate_left
                   ·show Act.put _ (some 158) _ = _
                    simp only [Act.put,List.setIfInBounds_toArray,List.set_cons_zero,List.set_cons_succ,i64_w,i32_w]
                    rfl
                   refine pure_ (i := 10) (N := some 159) (v := ?_) (a' := ?_) #[true,true,true,true,true,true,true,true,true,true,true,false,false,false,false,false,false,false,false,false,false,false,false,false,false,false,false,false,false,false,false,false,false] rfl rfl (any_of HT_.out (by kernel_rfl)) (fun _ _ _ h => h) (Or.inl ⟨by rfl,?_⟩) ?_ ?_
                   rotate_left
                   ·intro w'
                    go_simp
                    with_reducible rfl
                   rotate_left
                   ·simp only [Act.put,List.setIfInBounds_toArray,List.set_cons_zero,List.set_cons_succ,i64_w,i32_w]
                    rfl
                   refine pure_ (i := 11) (N := some 160) (v := ?_) (a' := ?_) #[true,true,true,true,true,true,true,true,true,true,true,true,false,false,false,false,false,false,false,false,false,false,false,false,false,false,false,false,false,false,false,false,false] rfl rfl (any_of HT_.out (by kernel_rfl)) (fun _ _ _ h => h) (Or.inl ⟨by rfl,?_⟩) ?_ ?_
                   rotate_left
                   ·intro w'
                    go_simp
                    with_reducible rfl
                   rotate_left
                   ·simp only [Act.put,List.setIfInBounds_toArray,List.set_cons_zero,List.set_cons_succ,i64_w,i32_w]
                    rfl
                   refine pure_ (i := 12) (N := some 161) (v := ?_) (a' := ?_) #[true,true,true,true,true,true,true,true,true,true,true,true,true,false,false,false,false,false,false,false,false,false,false,false,false,false,false,false,false,false,false,false,false] rfl rfl (any_of HT_.out (by kernel_rfl)) (fun _ _ _ h => h) (Or.inl ⟨by rfl,?_⟩) ?_ ?_
                   rotate_left
                   ·intro w'
                    go_simp
                    with_reducible rfl
                   rotate_left
                   ·simp only [Act.put,List.setIfInBounds_toArray,List.set_cons_zero,List.set_cons_succ,i64_w,i32_w]
                    rfl
                   refine pure_ (i := 13) (N := some 162) (v := ?_) (a' := ?_) #[true,true,true,true,true,true,true,true,true,true,true,true,true,true,false,false,false,false,false,false,false,false,false,false,false,false,false,false,false,false,false,false,false] rfl rfl (any_of HT_.out (by kernel_rfl)) (fun _ _ _ h => h) (Or.inl ⟨by rfl,?_⟩) ?_ ?_
                   rotate_left
                   ·intro w'
                    go_simp
                    with_reducible rfl
                   rotate_left
                   ·simp only [Act.put,List.setIfInBounds_toArray,List.set_cons_zero,List.set_cons_succ,i64_w,i32_w]
                    rfl
                   refine pure_ (i := 15) (N := some 164) (v := ?_) (a' := ?_) #[true,true,true,true,true,true,true,true,true,true,true,true,true,true,false,true,false,false,false,false,false,false,false,false,false,false,false,false,false,false,false,false,false] rfl rfl (any_of HT_.out (by kernel_rfl)) (fun _ _ _ h => h) (Or.inl ⟨by rfl,?_⟩) ?_ ?_
                   rotate_left
                   ·intro w'
                    go_simp
                    with_reducible rfl
                   rotate_left
                   ·simp only [Act.put,List.setIfInBounds_toArray,List.set_cons_zero,List.set_cons_succ,i64_w,i32_w]
                    rfl
                   refine pure_ (i := 16) (N := some 165) (v := ?_) (a' := ?_) #[true,true,true,true,true,true,true,true,true,true,true,true,true,true,false,true,true,false,false,false,false,false,false,false,false,false,false,false,false,false,false,false,false] rfl rfl (any_of HT_.out (by kernel_rfl)) (fun _ _ _ h => h) (Or.inl ⟨by rfl,?_⟩) ?_ ?_
                   rotate_left
                   ·intro w'
                    go_simp
                    with_reducible rfl
                   rotate_left
                   ·simp only [Act.put,List.setIfInBounds_toArray,List.set_cons_zero,List.set_cons_succ,i64_w,i32_w]
                    rfl
                   refine pure_ (i := 17) (N := some 166) (v := ?_) (a' := ?_) #[true,true,true,true,true,true,true,true,true,true,true,true,true,true,false,true,true,true,false,false,false,false,false,false,false,false,false,false,false,false,false,false,false] rfl rfl (any_of HT_.out (by kernel_rfl)) (fun _ _ _ h => h) (Or.inl ⟨by rfl,?_⟩) ?_ ?_
                   rotate_left
                   ·intro w'
                    go_simp
                    with_reducible rfl
                   rotate_left
                   ·simp only [Act.put,List.setIfInBounds_toArray,List.set_cons_zero,List.set_cons_succ,i64_w,i32_w]
                    rfl
                   refine take_ (i := 18) (N := some 167) (v := ?_) (a' := ?_) #[true,true,true,true,true,true,true,true,true,true,true,true,true,true,false,true,true,true,true,false,false,false,false,false,false,false,false,false,false,false,false,false,false] rfl rfl (take_ofW HT_.out HW_.out (by kernel_rfl)) (fun _ _ _ h => h) (Or.inl ⟨by rfl,?_⟩) hHeld ?_ ?_
                   rotate_left
                   ·rintro w' ⟨s0,s1⟩
                    go_simp
                    with_reducible rfl
                   rotate_left
                   ·simp only [Act.put,List.setIfInBounds_toArray,List.set_cons_zero,List.set_cons_succ,i64_w,i32_w]
                    rfl
                   refine one_ (i := 14) (N := some 163) #[true,true,true,true,true,true,true,true,true,true,true,true,true,true,true,true,true,true,true,false,false,false,false,false,false,false,false,false,false,false,false,false,false] rfl rfl (one_of HT_.out (by kernel_rfl)) (by decide) (fun K hK => ?_)
                   refine goes_ Try.func97 (by kernel_rfl) rfl #[.slice Ao132 t373.length co132] (by rfl) rfl rfl (by (try simp only [List.map_toArray,List.map_cons,List.map_nil]);first | done | rfl | (simp only [List.length_drop,List.length_take];rfl)) ?_
                   with_reducible refine (impl_SumOf.calls k3 _ _ t373 t385 t386 _ ?side1 ?side2 A95.out).mono ?_
                   (case side1 => exact Kd.C_up (Kd.R_reads' HO376.out).2.2)
                   (case side2 => exact (Kd.R_reads' HO376.out).2.1)
                   rintro e w134 ⟨rfl,hb⟩
                   have HS0_ := (hb.cell (World.block_lt_of_cell? _ _ (hHeld.1))).trans (hHeld.1)
                   have HS1_ := (hb.cell (World.block_lt_of_cell? _ _ (hHeld.2))).trans (hHeld.2)
                   refine ⟨_,rfl,?_⟩
                   have n0_ := Aside0.mk (Kd.R_below (Kd.R_up HO_3.out) hb)
                   have n1_ := Aside0.mk (Kd.R_below (Kd.R_up HO_15.out) hb)
                   have n2_ := Aside0.mk (Kd.R_below (Kd.R_up HO_16.out) hb)
                   have n3_ := Aside0.mk (Kd.R_below (Kd.R_up HO376.out) hb)
                   have n4_ := Aside0.mk (Kd.R_below (Kd.R_up HO381.out) hb)
                   have n5_ := Aside0.mk (below_step (B_up HB.out) hb)
                   clear HO_3
                   clear HO_15
                   clear HO_16
                   clear HO376
                   clear HO381
                   clear HB
                   have HO_3 := n0_
                   have HO_15 := n1_
                   have HO_16 := n2_
                   have HO376 := n3_
                   have HO381 := n4_
                   have HB := n5_
                   clear n0_ n1_ n2_ n3_ n4_ n5_
                   (try clear hb)
                   (try clear hb2)
                   (try clear hk)
                   (try clear hi)
                   obtain ⟨Ao135,co135,eo135⟩ := Kd.R_slice HO_16.out
                   (first | subst eo135 | (injection eo135 with f1_ f2_ f3_;have f4_ := f1_.symm;have f5_ := f3_.symm;clear f1_ f2_ f3_;subst f4_;subst f5_))
                   refine hK.out _ _ ⟨HS0_,HS1_⟩ (fun hHeld => ?_)
                   clear hK K
                   refine norm_ (a' := ?_) ?_ ?_
                   rotate_left
                   ·show Act.put _ (some 163) _ = _
                    simp only [Act.put,List.setIfInBounds_toArray,List.set_cons_zero,List.set_cons_succ,i64_w,i32_w]
                    rfl
                   refine pure_ (i := 19) (N := some 168) (v := ?_) (a' := ?_) #[true,true,true,true,true,true,true,true,true,true,true,true,true,true,true,true,true,true,true,true,false,false,false,false,false,false,false,false,false,false,false,false,false] rfl rfl (any_of HT_.out (by kernel_rfl)) (fun _ _ _ h => h) (Or.inl ⟨by rfl,?_⟩) ?_ ?_
                   rotate_left
                   ·intro w'
                    go_simp
                    with_reducible rfl
                   rotate_left
                   ·simp only [Act.put,List.setIfInBounds_toArray,List.set_cons_zero,List.set_cons_succ,i64_w,i32_w]
                    rfl
                   refine pure_ (i := 20) (N := some 169) (v := ?_) (a' := ?_) #[true,true,true,true,true,true,true,true,true,true,true,true,true,true,true,true,true,true,true,true,true,false,false,false,false,false,false,false,false,false,false,false,false] rfl rfl (any_of HT_.out (by kernel_rfl)) (fun _ _ _ h => h) (Or.inl ⟨by rfl,?_⟩) ?_ ?_
                   rotate_left
                   ·intro w'
                    go_simp
                    with_reducible rfl
                   rotate_left
                   ·simp only [Act.put,List.setIfInBounds_toArray,List.set_cons_zero,List.set_cons_succ,i64_w,i32_w]
                    rfl
                   refine pure_ (i := 21) (N := some 170) (v := ?_) (a' := ?_) #[true,true,true,true,true,true,true,true,true,true,true,true,true,true,true,true,true,true,true,true,true,true,false,false,false,false,false,false,false,false,false,false,false] rfl rfl (any_of HT_.out (by kernel_rfl)) (fun _ _ _ h => h) (Or.inl ⟨by rfl,?_⟩) ?_ ?_
                   rotate_left
                   ·intro w'
                    go_simp
                    with_reducible rfl
                   rotate_left
                   ·simp only [Act.put,List.setIfInBounds_toArray,List.set_cons_zero,List.set_cons_succ,i64_w,i32_w]
                    rfl
                   refine pure_ (i := 22) (N := some 171) (v := ?_) (a' := ?_) #[true,true,true,true,true,true,true,true,true,true,true,true,true,true,true,true,true,true,true,true,true,true,true,false,false,false,false,false,false,false,false,false,false] rfl rfl (any_of HT_.out (by kernel_rfl)) (fun _ _ _ h => h) (Or.inl ⟨by rfl,?_⟩) ?_ ?_
                   rotate_left
                   ·intro w'
                    go_simp
                    with_reducible rfl
                   rotate_left
                   ·simp only [Act.put,List.setIfInBounds_toArray,List.set_cons_zero,List.set_cons_succ,i64_w,i32_w]
                    rfl
                   refine pure_ (i := 23) (N := some 172) (v := ?_) (a' := ?_) #[true,true,true,true,true,true,true,true,true,true,true,true,true,true,true,true,true,true,true,true,true,true,true,true,false,false,false,false,false,false,false,false,false] rfl rfl (any_of HT_.out (by kernel_rfl)) (fun _ _ _ h => h) (Or.inl ⟨by rfl,?_⟩) ?_ ?_
                   rotate_left
                   ·intro w'
                    go_simp
                    with_reducible rfl
                   rotate_left
                   ·simp only [Act.put,List.setIfInBounds_toArray,List.set_cons_zero,List.set_cons_succ,i64_w,i32_w]
                    rfl
                   refine pure_ (i := 24) (N := some 173) (v := ?_) (a' := ?_) #[true,true,true,true,true,true,true,true,true,true,true,true,true,true,true,true,true,true,true,true,true,true,true,true,true,false,false,false,false,false,false,false,false] rfl rfl (any_of HT_.out (by kernel_rfl)) (fun _ _ _ h => h) (Or.inl ⟨by rfl,?_⟩) ?_ ?_
                   rotate_left
                   ·intro w'
                    go_simp
                    with_reducible rfl
                   rotate_left
                   ·simp only [Act.put,List.setIfInBounds_toArray,List.set_cons_zero,List.set_cons_succ,i64_w,i32_w]
                    rfl
                   refine pure_ (i := 25) (N := some 174) (v := ?_) (a' := ?_) #[true,true,true,true,true,true,true,true,true,true,true,true,true,true,true,true,true,true,true,true,true,true,true,true,true,true,false,false,false,false,false,false,false] rfl rfl (any_of HT_.out (by kernel_rfl)) (fun _ _ _ h => h) (Or.inl ⟨by rfl,?_⟩) ?_ ?_
                   rotate_left
                   ·intro w'
                    go_simp
                    with_reducible rfl
                   rotate_left
                   ·simp only [Act.put,List.setIfInBounds_toArray,List.set_cons_zero,List.set_cons_succ,i64_w,i32_w]
                    rfl
                   refine pure_ (i := 26) (N := some 175) (v := ?_) (a' := ?_) #[true,true,true,true,true,true,true,true,true,true,true,true,true,true,true,true,true,true,true,true,true,true,true,true,true,true,true,false,false,false,false,false,false] rfl rfl (any_of HT_.out (by kernel_rfl)) (fun _ _ _ h => h) (Or.inl ⟨by rfl,?_⟩) ?_ ?_
                   rotate_left
                   ·intro w'
                    go_simp
                    with_reducible rfl
                   rotate_left
                   ·simp only [Act.put,List.setIfInBounds_toArray,List.set_cons_zero,List.set_cons_succ,i64_w,i32_w]
                    rfl
                   refine pure_ (i := 27) (N := some 176) (v := ?_) (a' := ?_) #[true,true,true,true,true,true,true,true,true,true,true,true,true,true,true,true,true,true,true,true,true,true,true,true,true,true,true,true,false,false,false,false,false] rfl rfl (any_of HT_.out (by kernel_rfl)) (fun _ _ _ h => h) (Or.inl ⟨by rfl,?_⟩) ?_ ?_
                   rotate_left
                   ·intro w'
                    go_simp
                    with_reducible rfl
                   rotate_left
                   ·simp only [Act.put,List.setIfInBounds_toArray,List.set_cons_zero,List.set_cons_succ,i64_w,i32_w]
                    rfl
                   refine pure_ (i := 28) (N := some 177) (v := undef) (a' := ?_) #[true,true,true,true,true,true,true,true,true,true,true,true,true,true,true,true,true,true,true,true,true,true,true,true,true,true,true,true,true,false,false,false,false] rfl rfl (any_of HT_.out (by kernel_rfl)) (fun _ _ _ h => h) (Or.inr ⟨by rfl,rfl⟩) ?_ ?_
                   rotate_left
                   ·simp only [Act.put,List.setIfInBounds_toArray,List.set_cons_zero,List.set_cons_succ,i64_w,i32_w]
                    rfl
                   refine pure_ (i := 29) (N := some 178) (v := undef) (a' := ?_) #[true,true,true,true,true,true,true,true,true,true,true,true,true,true,true,true,true,true,true,true,true,true,true,true,true,true,true,true,true,true,false,false,false] rfl rfl (any_of HT_.out (by kernel_rfl)) (fun _ _ _ h => h) (Or.inr ⟨by rfl,rfl⟩) ?_ ?_
                   rotate_left
                   ·simp only [Act.put,List.setIfInBounds_toArray,List.set_cons_zero,List.set_cons_succ,i64_w,i32_w]
                    rfl
                   refine pure_ (i := 30) (N := some 179) (v := undef) (a' := ?_) #[true,true,true,true,true,true,true,true,true,true,true,true,true,true,true,true,true,true,true,true,true,true,true,true,true,true,true,true,true,true,true,false,false] rfl rfl (any_of HT_.out (by kernel_rfl)) (fun _ _ _ h => h) (Or.inr ⟨by rfl,rfl⟩) ?_ ?_
                   rotate_left
                   ·simp only [Act.put,List.setIfInBounds_toArray,List.set_cons_zero,List.set_cons_succ,i64_w,i32_w]
                    rfl
                   refine pure_ (i := 31) (N := some 180) (v := undef) (a' := ?_) #[true,true,true,true,true,true,true,true,true,true,true,true,true,true,true,true,true,true,true,true,true,true,true,true,true,true,true,true,true,true,true,true,false] rfl rfl (any_of HT_.out (by kernel_rfl)) (fun _ _ _ h => h) (Or.inr ⟨by rfl,rfl⟩) ?_ ?_
                   rotate_left
                   ·simp only [Act.put,List.setIfInBounds_toArray,List.set_cons_zero,List.set_cons_succ,i64_w,i32_w]
                    rfl
                   refine pure_ (i := 32) (N := some 181) (v := ?_) (a' := ?_) #[true,true,true,true,true,true,true,true,true,true,true,true,true,true,true,true,true,true,true,true,true,true,true,true,true,true,true,true,true,true,true,true,true] rfl rfl (any_of HT_.out (by kernel_rfl)) (fun _ _ _ h => h) (Or.inl ⟨by rfl,?_⟩) ?_ ?_
                   rotate_left
                   ·intro w'
                    go_simp
                    with_reducible rfl
                   rotate_left
                   ·simp only [Act.put,List.setIfInBounds_toArray,List.set_cons_zero,List.set_cons_succ,i64_w,i32_w]
                    rfl
                   refine done_ (done_of HT_.out (by kernel_rfl)) ?_
                   try go_wp2
                   go_ret
                   exact ⟨by first | rfl | (simp [errW_none,errW_some] <;> rfl) | (simp [*,errW_none,errW_some] <;> rfl),by repeat (first | (with_reducible first | exact HB.out | apply below_alloc | apply pw_below_drewN | apply below_drew1) | exact HB.out)⟩
                ·replace c94 := Bool.eq_false_iff.mpr c94
                 subst c94
                 have H1 : (some false) = some r := by rw [if_neg (show ¬ (false = true) by decide)] at H;exact H
                 clear H
                 have H := H1
                 clear H1
                 obtain rfl := Option.some.inj H
                 try go_wp2_with (first | ((with_reducible refine gate_callee (f := 99) rfl ?_);refine goesL_ (some 121) rfl rfl Try.func99 (by kernel_rfl) rfl #[.int .i64 t329,.int .i64 (t328.length : Int)] rfl (by (try simp only [List.map_toArray,List.map_cons,List.map_nil]);first | done | rfl | (simp only [List.length_drop,List.length_take];rfl)) ?_;(with_reducible refine (impl_Blocks.calls t329 (t328.length : Int) t370 _ A84.out).mono ?_);rintro e w' ⟨rfl,⟨nd,rfl⟩⟩;refine ⟨_,rfl,?_⟩) | ((with_reducible refine gate_callee (f := 102) rfl ?_);refine goesL_ (some 129) rfl rfl Try.func102 (by kernel_rfl) rfl #[.slice Ao20 t328.length co20,.int .i64 t329,.int .i64 x17_3] rfl (by (try simp only [List.map_toArray,List.map_cons,List.map_nil]);first | done | rfl | (simp only [List.length_drop,List.length_take];rfl)) ?_;(with_reducible refine (impl_BlockAt.calls _ _ t328 t329 x17_3 t373 true _ ?side1 ?side2 A86.out).mono ?_);(case side1 => exact Kd.C_up (Kd.R_reads' HO_3.out).2.2);(case side2 => exact (Kd.R_reads' HO_3.out).2.1);rintro e w136 ⟨v375,rfl,ho0,hb⟩;refine ⟨_,rfl,?_⟩;have n0_ := Aside0.mk (Kd.R_elder' (Kd.R_up HO_3.out) (Kd.R_base ho0) hb);have n1_ := Aside0.mk (Kd.R_below (Kd.R_up HO_15.out) hb);have n2_ := Aside0.mk (Kd.R_elder' (Kd.R_up HO_16.out) (Kd.R_base ho0) hb);have n3_ := Aside0.mk (Kd.R_lower (Kd.R_new' (Kd.R_new' ho0 (Kd.R_lt (Kd.R_up HO_3.out))) (Kd.R_lt (Kd.R_up HO_16.out))) (below_size (B_up HB.out)));have n4_ := Aside0.mk (below_step (B_up HB.out) hb);clear HO_3;clear HO_15;clear HO_16;clear HB;have HO_3 := n0_;have HO_15 := n1_;have HO_16 := n2_;have HO376 := n3_;have HB := n4_;clear n0_ n1_ n2_ n3_ n4_;(try clear hb);(try clear hb2);(try clear hk);(try clear hi);(try clear ho0);obtain ⟨Ao137,co137,eo137⟩ := Kd.R_slice HO_15.out;subst eo137;have p377 : 0 ≤ (x17_3 : Int) := of_decide_eq_true (by first | (with_reducible assumption) | assumption);have q377 : x17_3 < (t348.length : Int) := of_decide_eq_true (by first | (with_reducible assumption) | assumption);obtain ⟨ad377,e377,hx377_0,hx377_1⟩ := at_T81 (Kd.R_reads' HO_15.out).2.2 x17_3 p377 q377;cases e377;replace p377 := eq_true p377;replace q377 := eq_true q377) | ((with_reducible refine gate_callee (f := 91) rfl ?_);refine goesL_ (some 138) rfl rfl Try.func91 (by kernel_rfl) rfl #[.int .i64 ((rd_T81 t348 x17_3).f1)] rfl (by (try simp only [List.map_toArray,List.map_cons,List.map_nil]);first | done | rfl | (simp only [List.length_drop,List.length_take];rfl)) ?_;(with_reducible refine (impl_BytesOf.calls k3 ((rd_T81 t348 x17_3).f1) t378 true _ A89.out).mono ?_);rintro e w138 ⟨v380,rfl,ho0,hb⟩;refine ⟨_,rfl,?_⟩;have n0_ := Aside0.mk (Kd.R_elder' (Kd.R_up HO_3.out) (Kd.R_base ho0) hb);have n1_ := Aside0.mk (Kd.R_below (Kd.R_up HO_15.out) hb);have n2_ := Aside0.mk (Kd.R_elder' (Kd.R_up HO_16.out) (Kd.R_base ho0) hb);have n3_ := Aside0.mk (Kd.R_elder' (Kd.R_up HO376.out) (Kd.R_base ho0) hb);have n4_ := Aside0.mk (Kd.R_lower (Kd.R_new' (Kd.R_new' (Kd.R_new' ho0 (Kd.R_lt (Kd.R_up HO_3.out))) (Kd.R_lt (Kd.R_up HO_16.out))) (Kd.R_lt (Kd.R_up HO376.out))) (below_size (B_up HB.out)));have n5_ := Aside0.mk (below_step (B_up HB.out) hb);clear HO_3;clear HO_15;clear HO_16;clear HO376;clear HB;have HO_3 := n0_;have HO_15 := n1_;have HO_16 := n2_;have HO376 := n3_;have HO381 := n4_;have HB := n5_;clear n0_ n1_ n2_ n3_ n4_ n5_;(try clear hb);(try clear hb2);(try clear hk);(try clear hi);(try clear ho0)) | ((with_reducible refine gate_callee (f := 103) rfl ?_);refine goesL_ (some 146) rfl rfl Try.func103 (by kernel_rfl) rfl #[.int .i64 t329,.int .i64 (t328.length : Int),.int .i64 x17_3] rfl (by (try simp only [List.map_toArray,List.map_cons,List.map_nil]);first | done | rfl | (simp only [List.length_drop,List.length_take];rfl)) ?_;(with_reducible refine (impl_SpanOf.calls t329 (t328.length : Int) x17_3 t382 t383 _ A90.out).mono ?_);rintro e w139 ⟨rfl,hb⟩;refine ⟨_,rfl,?_⟩;have n0_ := Aside0.mk (Kd.R_below (Kd.R_up HO_3.out) hb);have n1_ := Aside0.mk (Kd.R_below (Kd.R_up HO_15.out) hb);have n2_ := Aside0.mk (Kd.R_below (Kd.R_up HO_16.out) hb);have n3_ := Aside0.mk (Kd.R_below (Kd.R_up HO376.out) hb);have n4_ := Aside0.mk (Kd.R_below (Kd.R_up HO381.out) hb);have n5_ := Aside0.mk (below_step (B_up HB.out) hb);clear HO_3;clear HO_15;clear HO_16;clear HO376;clear HO381;clear HB;have HO_3 := n0_;have HO_15 := n1_;have HO_16 := n2_;have HO376 := n3_;have HO381 := n4_;have HB := n5_;clear n0_ n1_ n2_ n3_ n4_ n5_;(try clear hb);(try clear hb2);(try clear hk);(try clear hi)))
                 have n0_ := Aside0.mk (Kd.R_drew HO_3.out)
                 have n1_ := Aside0.mk (Kd.R_drew HO_15.out)
                 have n2_ := Aside0.mk (Kd.R_drew HO_16.out)
                 have n3_ := Aside0.mk (Kd.R_drew HO376.out)
                 have n4_ := Aside0.mk (Kd.R_drew HO381.out)
                 have n5_ := Aside0.mk (below_drew1 HB.out)
                 clear HO_3
                 clear HO_15
                 clear HO_16
                 clear HO376
                 clear HO381
                 clear HB
                 have HO_3 := n0_
                 have HO_15 := n1_
                 have HO_16 := n2_
                 have HO376 := n3_
                 have HO381 := n4_
                 have HB := n5_
                 clear n0_ n1_ n2_ n3_ n4_ n5_
                 obtain ⟨Ao141,co141,eo141⟩ := Kd.R_slice HO376.out
                 (first | subst eo141 | (injection eo141 with f1_ f2_ f3_;have f4_ := f1_.symm;have f5_ := f3_.symm;clear f1_ f2_ f3_;subst f4_;subst f5_))
                 obtain ⟨Ao142,co142,eo142⟩ := Kd.R_slice HO381.out
                 (first | subst eo142 | (injection eo142 with f1_ f2_ f3_;have f4_ := f1_.symm;have f5_ := f3_.symm;clear f1_ f2_ f3_;subst f4_;subst f5_))
                 refine start_ (n := 33) (S := fun w' => True) (ds := []) #[false,false,false,false,false,false,false,false,false,false,false,false,false,false,false,false,false,false,false,false,false,false,false,false,false,false,false,false,false,false,false,false,false] (by kernel_rfl) rfl rfl trivial (fun hHeld => ?_);refine with_tabW laws_FnBlocks.tab24 laws_FnBlocks.bits24 (fun HT_ HW_ => ?_)
                 generalize w139.drew = w140 at HO_3 HO_15 HO_16 HO376 HO381 HB hHeld ⊢
                 refine pure_ (i := 0) (N := some 149) (v := ?_) (a' := ?_) #[true,false,false,false,false,false,false,false,false,false,false,false,false,false,false,false,false,false,false,false,false,false,false,false,false,false,false,false,false,false,false,false,false] rfl rfl (any_of HT_.out (by kernel_rfl)) (fun _ _ _ h => h) (Or.inl ⟨by rfl,?_⟩) ?_ ?_
                 rotate_left
                 ·intro w'
                  go_simp
                  with_reducible rfl
                 rotate_left
                 ·simp only [Act.put,List.setIfInBounds_toArray,List.set_cons_zero,List.set_cons_succ,i64_w,i32_w]
                  rfl
                 refine pure_ (i := 1) (N := some 150) (v := ?_) (a' := ?_) #[true,true,false,false,false,false,false,false,false,false,false,false,false,false,false,false,false,false,false,false,false,false,false,false,false,false,false,false,false,false,false,false,false] rfl rfl (any_of HT_.out (by kernel_rfl)) (fun _ _ _ h => h) (Or.inl ⟨by rfl,?_⟩) ?_ ?_
                 rotate_left
                 ·intro w'
                  go_simp
                  with_reducible rfl
                 rotate_left
                 ·simp only [Act.put,List.setIfInBounds_toArray,List.set_cons_zero,List.set_cons_succ,i64_w,i32_w]
                  rfl
                 refine pure_ (i := 2) (N := some 151) (v := ?_) (a' := ?_) #[true,true,true,false,false,false,false,false,false,false,false,false,false,false,false,false,false,false,false,false,false,false,false,false,false,false,false,false,false,false,false,false,false] rfl rfl (any_of HT_.out (by kernel_rfl)) (fun _ _ _ h => h) (Or.inl ⟨by rfl,?_⟩) ?_ ?_
                 rotate_left
                 ·intro w'
                  go_simp
                  with_reducible rfl
                 rotate_left
                 ·simp only [Act.put,List.setIfInBounds_toArray,List.set_cons_zero,List.set_cons_succ,i64_w,i32_w]
                  rfl
                 refine pure_ (i := 3) (N := some 152) (v := ?_) (a' := ?_) #[true,true,true,true,false,false,false,false,false,false,false,false,false,false,false,false,false,false,false,false,false,false,false,false,false,false,false,false,false,false,false,false,false] rfl rfl (any_of HT_.out (by kernel_rfl)) (fun _ _ _ h => h) (Or.inl ⟨by rfl,?_⟩) ?_ ?_
                 rotate_left
                 ·intro w'
                  go_simp
                  with_reducible rfl
                 rotate_left
                 ·simp only [Act.put,List.setIfInBounds_toArray,List.set_cons_zero,List.set_cons_succ,i64_w,i32_w]
                  rfl
                 refine pure_ (i := 4) (N := some 153) (v := ?_) (a' := ?_) #[true,true,true,true,true,false,false,false,false,false,false,false,false,false,false,false,false,false,false,false,false,false,false,false,false,false,false,false,false,false,false,false,false] rfl rfl (any_of HT_.out (by kernel_rfl)) (fun _ _ _ h => h) (Or.inl ⟨by rfl,?_⟩) ?_ ?_
                 rotate_left
                 ·intro w'
                  go_simp
                  with_reducible rfl
                 rotate_left
                 ·simp only [Act.put,List.setIfInBounds_toArray,List.set_cons_zero,List.set_cons_succ,i64_w,i32_w]
                  rfl
                 refine pure_ (i := 5) (N := some 154) (v := ?_) (a' := ?_) #[true,true,true,true,true,true,false,false,false,false,false,false,false,false,false,false,false,false,false,false,false,false,false,false,false,false,false,false,false,false,false,false,false] rfl rfl (any_of HT_.out (by kernel_rfl)) (fun _ _ _ h => h) (Or.inl ⟨by rfl,?_⟩) ?_ ?_
                 rotate_left
                 ·intro w'
                  go_simp
                  with_reducible rfl
                 rotate_left
                 ·simp only [Act.put,List.setIfInBounds_toArray,List.set_cons_zero,List.set_cons_succ,i64_w,i32_w]
                  rfl
                 refine pure_ (i := 6) (N := some 155) (v := ?_) (a' := ?_) #[true,true,true,true,true,true,true,false,false,false,false,false,false,false,false,false,false,false,false,false,false,false,false,false,false,false,false,false,false,false,false,false,false] rfl rfl (any_of HT_.out (by kernel_rfl)) (fun _ _ _ h => h) (Or.inl ⟨by rfl,?_⟩) ?_ ?_
                 rotate_left
                 ·intro w'
                  go_simp
                  with_reducible rfl
                 rotate_left
                 ·simp only [Act.put,List.setIfInBounds_toArray,List.set_cons_zero,List.set_cons_succ,i64_w,i32_w]
                  rfl
                 refine pure_ (i := 7) (N := some 156) (v := ?_) (a' := ?_) #[true,true,true,true,true,true,true,true,false,false,false,false,false,false,false,false,false,false,false,false,false,false,false,false,false,false,false,false,false,false,false,false,false] rfl rfl (any_of HT_.out (by kernel_rfl)) (fun _ _ _ h => h) (Or.inl ⟨by rfl,?_⟩) ?_ ?_
                 rotate_left
                 ·intro w'
                  go_simp
                  with_reducible rfl
                 rotate_left
                 ·simp only [Act.put,List.setIfInBounds_toArray,List.set_cons_zero,List.set_cons_succ,i64_w,i32_w]
                  rfl
                 refine pure_ (i := 8) (N := some 157) (v := ?_) (a' := ?_) #[true,true,true,true,true,true,true,true,true,false,false,false,false,false,false,false,false,false,false,false,false,false,false,false,false,false,false,false,false,false,false,false,false] rfl rfl (any_of HT_.out (by kernel_rfl)) (fun _ _ _ h => h) (Or.inl ⟨by rfl,?_⟩) ?_ ?_
                 rotate_left
                 ·intro w'
                  go_simp
                  with_reducible rfl
                 rotate_left
                 ·simp only [Act.put,List.setIfInBounds_toArray,List.set_cons_zero,List.set_cons_succ,i64_w,i32_w]
                  rfl
                 refine one_ (i := 9) (N := some 158) #[true,true,true,true,true,true,true,true,true,true,false,false,false,false,false,false,false,false,false,false,false,false,false,false,false,false,false,false,false,false,false,false,false] rfl rfl (one_of HT_.out (by kernel_rfl)) (by decide) (fun K hK => ?_)
                 refine goes_ Try.func46 (by kernel_rfl) rfl #[.slice Ao141 t373.length co141,.slice Ao142 t378.length co142] (by rfl) rfl rfl (by (try simp only [List.map_toArray,List.map_cons,List.map_nil]);first | done | rfl | (simp only [List.length_drop,List.length_take];rfl)) ?_
                 with_reducible refine (laws_same.calls k3 _ _ t373 _ _ t378 false _ ?side1 ?side2 ?side3 ?side4 A93.out).mono ?_
                 (case side1 => exact Kd.C_up (Kd.R_reads' HO376.out).2.2)
                 (case side2 => exact (Kd.R_reads' HO376.out).2.1)
                 (case side3 => exact Kd.C_up (Kd.R_reads' HO381.out).2.2)
                 (case side4 => exact (Kd.R_reads' HO381.out).2.1)
                 rintro e w' ⟨rfl,⟨nd,rfl⟩⟩
                 refine ⟨_,rfl,?_⟩
                 refine hK.out _ _ trivial (fun hHeld => ?_)
                 clear hK K
                 refine norm_ (a' := ?_) ?_ ?_
                 rotate_left
                 ·show Act.put _ (some 158) _ = _
                  simp only [Act.put,List.setIfInBounds_toArray,List.set_cons_zero,List.set_cons_succ,i64_w,i32_w]
                  rfl
                 refine pure_ (i := 10) (N := some 159) (v := ?_) (a' := ?_) #[true,true,true,true,true,true,true,true,true,true,true,false,false,false,false,false,false,false,false,false,false,false,false,false,false,false,false,false,false,false,false,false,false] rfl rfl (any_of HT_.out (by kernel_rfl)) (fun _ _ _ h => h) (Or.inl ⟨by rfl,?_⟩) ?_ ?_
                 rotate_left
                 ·intro w'
                  go_simp
                  with_reducible rfl
                 rotate_left
                 ·simp only [Act.put,List.setIfInBounds_toArray,List.set_cons_zero,List.set_cons_succ,i64_w,i32_w]
                  rfl
                 refine pure_ (i := 11) (N := some 160) (v := ?_) (a' := ?_) #[true,true,true,true,true,true,true,true,true,true,true,true,false,false,false,false,false,false,false,false,false,false,false,false,false,false,false,false,false,false,false,false,false] rfl rfl (any_of HT_.out (by kernel_rfl)) (fun _ _ _ h => h) (Or.inl ⟨by rfl,?_⟩) ?_ ?_
                 rotate_left
                 ·intro w'
                  go_simp
                  with_reducible rfl
                 rotate_left
                 ·simp only [Act.put,List.setIfInBounds_toArray,List.set_cons_zero,List.set_cons_succ,i64_w,i32_w]
                  rfl
                 refine pure_ (i := 12) (N := some 161) (v := ?_) (a' := ?_) #[true,true,true,true,true,true,true,true,true,true,true,true,true,false,false,false,false,false,false,false,false,false,false,false,false,false,false,false,false,false,false,false,false] rfl rfl (any_of HT_.out (by kernel_rfl)) (fun _ _ _ h => h) (Or.inl ⟨by rfl,?_⟩) ?_ ?_
                 rotate_left
                 ·intro w'
                  go_simp
                  with_reducible rfl
                 rotate_left
                 ·simp only [Act.put,List.setIfInBounds_toArray,List.set_cons_zero,List.set_cons_succ,i64_w,i32_w]
                  rfl
                 refine pure_ (i := 13) (N := some 162) (v := undef) (a' := ?_) #[true,true,true,true,true,true,true,true,true,true,true,true,true,true,false,false,false,false,false,false,false,false,false,false,false,false,false,false,false,false,false,false,false] rfl rfl (any_of HT_.out (by kernel_rfl)) (fun _ _ _ h => h) (Or.inr ⟨by rfl,rfl⟩) ?_ ?_
                 rotate_left
                 ·simp only [Act.put,List.setIfInBounds_toArray,List.set_cons_zero,List.set_cons_succ,i64_w,i32_w]
                  rfl
                 refine pure_ (i := 14) (N := some 163) (v := undef) (a' := ?_) #[true,true,true,true,true,true,true,true,true,true,true,true,true,true,true,false,false,false,false,false,false,false,false,false,false,false,false,false,false,false,false,false,false] rfl rfl (any_of HT_.out (by kernel_rfl)) (fun _ _ _ h => h) (Or.inr ⟨by rfl,rfl⟩) ?_ ?_
                 rotate_left
                 ·simp only [Act.put,List.setIfInBounds_toArray,List.set_cons_zero,List.set_cons_succ,i64_w,i32_w]
                  rfl
                 refine pure_ (i := 15) (N := some 164) (v := undef) (a' := ?_) #[true,true,true,true,true,true,true,true,true,true,true,true,true,true,true,true,false,false,false,false,false,false,false,false,false,false,false,false,false,false,false,false,false] rfl rfl (any_of HT_.out (by kernel_rfl)) (fun _ _ _ h => h) (Or.inr ⟨by rfl,rfl⟩) ?_ ?_
                 rotate_left
                 ·simp only [Act.put,List.setIfInBounds_toArray,List.set_cons_zero,List.set_cons_succ,i64_w,i32_w]
                  rfl
                 refine pure_ (i := 16) (N := some 165) (v := undef) (a' := ?_) #[true,true,true,true,true,true,true,true,true,true,true,true,true,true,true,true,true,false,false,false,false,false,false,false,false,false,false,false,false,false,false,false,false] rfl rfl (any_of HT_.out (by kernel_rfl)) (fun _ _ _ h => h) (Or.inr ⟨by rfl,rfl⟩) ?_ ?_
                 rotate_left
                 ·simp only [Act.put,List.setIfInBounds_toArray,List.set_cons_zero,List.set_cons_succ,i64_w,i32_w]
                  rfl
                 refine pure_ (i := 17) (N := some 166) (v := undef) (a' := ?_) #[true,true,true,true,true,true,true,true,true,true,true,true,true,true,true,true,true,true,false,false,false,false,false,false,false,false,false,false,false,false,false,false,false] rfl rfl (any_of HT_.out (by kernel_rfl)) (fun _ _ _ h => h) (Or.inr ⟨by rfl,rfl⟩) ?_ ?_
                 rotate_left
                 ·simp only [Act.put,List.setIfInBounds_toArray,List.set_cons_zero,List.set_cons_succ,i64_w,i32_w]
                  rfl
                 refine pure_ (i := 18) (N := some 167) (v := undef) (a' := ?_) #[true,true,true,true,true,true,true,true,true,true,true,true,true,true,true,true,true,true,true,false,false,false,false,false,false,false,false,false,false,false,false,false,false] rfl rfl (any_of HT_.out (by kernel_rfl)) (fun _ _ _ h => h) (Or.inr ⟨by rfl,rfl⟩) ?_ ?_
                 rotate_left
                 ·simp only [Act.put,List.setIfInBounds_toArray,List.set_cons_zero,List.set_cons_succ,i64_w,i32_w]
                  rfl
                 refine pure_ (i := 19) (N := some 168) (v := undef) (a' := ?_) #[true,true,true,true,true,true,true,true,true,true,true,true,true,true,true,true,true,true,true,true,false,false,false,false,false,false,false,false,false,false,false,false,false] rfl rfl (any_of HT_.out (by kernel_rfl)) (fun _ _ _ h => h) (Or.inr ⟨by rfl,rfl⟩) ?_ ?_
                 rotate_left
                 ·simp only [Act.put,List.setIfInBounds_toArray,List.set_cons_zero,List.set_cons_succ,i64_w,i32_w]
                  rfl
                 refine pure_ (i := 20) (N := some 169) (v := ?_) (a' := ?_) #[true,true,true,true,true,true,true,true,true,true,true,true,true,true,true,true,true,true,true,true,true,false,false,false,false,false,false,false,false,false,false,false,false] rfl rfl (any_of HT_.out (by kernel_rfl)) (fun _ _ _ h => h) (Or.inl ⟨by rfl,?_⟩) ?_ ?_
                 rotate_left
                 ·intro w'
                  go_simp
                  with_reducible rfl
                 rotate_left
                 ·simp only [Act.put,List.setIfInBounds_toArray,List.set_cons_zero,List.set_cons_succ,i64_w,i32_w]
                  rfl
                 refine pure_ (i := 21) (N := some 170) (v := ?_) (a' := ?_) #[true,true,true,true,true,true,true,true,true,true,true,true,true,true,true,true,true,true,true,true,true,true,false,false,false,false,false,false,false,false,false,false,false] rfl rfl (any_of HT_.out (by kernel_rfl)) (fun _ _ _ h => h) (Or.inl ⟨by rfl,?_⟩) ?_ ?_
                 rotate_left
                 ·intro w'
                  go_simp
                  with_reducible rfl
                 rotate_left
                 ·simp only [Act.put,List.setIfInBounds_toArray,List.set_cons_zero,List.set_cons_succ,i64_w,i32_w]
                  rfl
                 refine pure_ (i := 22) (N := some 171) (v := undef) (a' := ?_) #[true,true,true,true,true,true,true,true,true,true,true,true,true,true,true,true,true,true,true,true,true,true,true,false,false,false,false,false,false,false,false,false,false] rfl rfl (any_of HT_.out (by kernel_rfl)) (fun _ _ _ h => h) (Or.inr ⟨by rfl,rfl⟩) ?_ ?_
                 rotate_left
                 ·simp only [Act.put,List.setIfInBounds_toArray,List.set_cons_zero,List.set_cons_succ,i64_w,i32_w]
                  rfl
                 refine pure_ (i := 23) (N := some 172) (v := undef) (a' := ?_) #[true,true,true,true,true,true,true,true,true,true,true,true,true,true,true,true,true,true,true,true,true,true,true,true,false,false,false,false,false,false,false,false,false] rfl rfl (any_of HT_.out (by kernel_rfl)) (fun _ _ _ h => h) (Or.inr ⟨by rfl,rfl⟩) ?_ ?_
                 rotate_left
                 ·simp only [Act.put,List.setIfInBounds_toArray,List.set_cons_zero,List.set_cons_succ,i64_w,i32_w]
                  rfl
                 refine pure_ (i := 24) (N := some 173) (v := undef) (a' := ?_) #[true,true,true,true,true,true,true,true,true,true,true,true,true,true,true,true,true,true,true,true,true,true,true,true,true,false,false,false,false,false,false,false,false] rfl rfl (any_of HT_.out (by kernel_rfl)) (fun _ _ _ h => h) (Or.inr ⟨by rfl,rfl⟩) ?_ ?_
                 rotate_left
                 ·simp only [Act.put,List.setIfInBounds_toArray,List.set_cons_zero,List.set_cons_succ,i64_w,i32_w]
                  rfl
                 refine pure_ (i := 25) (N := some 174) (v := undef) (a' := ?_) #[true,true,true,true,true,true,true,true,true,true,true,true,true,true,true,true,true,true,true,true,true,true,true,true,true,true,false,false,false,false,false,false,false] rfl rfl (any_of HT_.out (by kernel_rfl)) (fun _ _ _ h => h) (Or.inr ⟨by rfl,rfl⟩) ?_ ?_
                 rotate_left
                 ·simp only [Act.put,List.setIfInBounds_toArray,List.set_cons_zero,List.set_cons_succ,i64_w,i32_w]
                  rfl
                 refine pure_ (i := 26) (N := some 175) (v := ?_) (a' := ?_) #[true,true,true,true,true,true,true,true,true,true,true,true,true,true,true,true,true,true,true,true,true,true,true,true,true,true,true,false,false,false,false,false,false] rfl rfl (any_of HT_.out (by kernel_rfl)) (fun _ _ _ h => h) (Or.inl ⟨by rfl,?_⟩) ?_ ?_
                 rotate_left
                 ·intro w'
                  go_simp
                  with_reducible rfl
                 rotate_left
                 ·simp only [Act.put,List.setIfInBounds_toArray,List.set_cons_zero,List.set_cons_succ,i64_w,i32_w]
                  rfl
                 refine pure_ (i := 27) (N := some 176) (v := ?_) (a' := ?_) #[true,true,true,true,true,true,true,true,true,true,true,true,true,true,true,true,true,true,true,true,true,true,true,true,true,true,true,true,false,false,false,false,false] rfl rfl (any_of HT_.out (by kernel_rfl)) (fun _ _ _ h => h) (Or.inl ⟨by rfl,?_⟩) ?_ ?_
                 rotate_left
                 ·intro w'
                  go_simp
                  with_reducible rfl
                 rotate_left
                 ·simp only [Act.put,List.setIfInBounds_toArray,List.set_cons_zero,List.set_cons_succ,i64_w,i32_w]
                  rfl
                 refine pure_ (i := 28) (N := some 177) (v := undef) (a' := ?_) #[true,true,true,true,true,true,true,true,true,true,true,true,true,true,true,true,true,true,true,true,true,true,true,true,true,true,true,true,true,false,false,false,false] rfl rfl (any_of HT_.out (by kernel_rfl)) (fun _ _ _ h => h) (Or.inr ⟨by rfl,rfl⟩) ?_ ?_
                 rotate_left
                 ·simp only [Act.put,List.setIfInBounds_toArray,List.set_cons_zero,List.set_cons_succ,i64_w,i32_w]
                  rfl
                 refine pure_ (i := 29) (N := some 178) (v := undef) (a' := ?_) #[true,true,true,true,true,true,true,true,true,true,true,true,true,true,true,true,true,true,true,true,true,true,true,true,true,true,true,true,true,true,false,false,false] rfl rfl (any_of HT_.out (by kernel_rfl)) (fun _ _ _ h => h) (Or.inr ⟨by rfl,rfl⟩) ?_ ?_
                 rotate_left
                 ·simp only [Act.put,List.setIfInBounds_toArray,List.set_cons_zero,List.set_cons_succ,i64_w,i32_w]
                  rfl
                 refine pure_ (i := 30) (N := some 179) (v := undef) (a' := ?_) #[true,true,true,true,true,true,true,true,true,true,true,true,true,true,true,true,true,true,true,true,true,true,true,true,true,true,true,true,true,true,true,false,false] rfl rfl (any_of HT_.out (by kernel_rfl)) (fun _ _ _ h => h) (Or.inr ⟨by rfl,rfl⟩) ?_ ?_
                 rotate_left
                 ·simp only [Act.put,List.setIfInBounds_toArray,List.set_cons_zero,List.set_cons_succ,i64_w,i32_w]
                  rfl
                 refine pure_ (i := 31) (N := some 180) (v := undef) (a' := ?_) #[true,true,true,true,true,true,true,true,true,true,true,true,true,true,true,true,true,true,true,true,true,true,true,true,true,true,true,true,true,true,true,true,false] rfl rfl (any_of HT_.out (by kernel_rfl)) (fun _ _ _ h => h) (Or.inr ⟨by rfl,rfl⟩) ?_ ?_
                 rotate_left
                 ·simp only [Act.put,List.setIfInBounds_toArray,List.set_cons_zero,List.set_cons_succ,i64_w,i32_w]
                  rfl
                 refine pure_ (i := 32) (N := some 181) (v := ?_) (a' := ?_) #[true,true,true,true,true,true,true,true,true,true,true,true,true,true,true,true,true,true,true,true,true,true,true,true,true,true,true,true,true,true,true,true,true] rfl rfl (any_of HT_.out (by kernel_rfl)) (fun _ _ _ h => h) (Or.inl ⟨by rfl,?_⟩) ?_ ?_
                 rotate_left
                 ·intro w'
                  go_simp
                  with_reducible rfl
                 rotate_left
                 ·simp only [Act.put,List.setIfInBounds_toArray,List.set_cons_zero,List.set_cons_succ,i64_w,i32_w]
                  rfl
                 refine done_ (done_of HT_.out (by kernel_rfl)) ?_
                 try go_wp2
                 go_ret
                 exact ⟨by first | rfl | (simp [errW_none,errW_some] <;> rfl) | (simp [*,errW_none,errW_some] <;> rfl),by repeat (first | (with_reducible first | exact HB.out | apply below_alloc | apply pw_below_drewN | apply below_drew1) | exact HB.out)⟩
               ·replace c92 := Bool.eq_false_iff.mpr c92
                subst c92
                have H1 : (some false) = some r := by rw [if_neg (show ¬ (false = true) by decide)] at H;exact H
                clear H
                have H := H1
                clear H1
                obtain rfl := Option.some.inj H
                try go_wp2_with (first | ((with_reducible refine gate_callee (f := 99) rfl ?_);refine goesL_ (some 121) rfl rfl Try.func99 (by kernel_rfl) rfl #[.int .i64 t329,.int .i64 (t328.length : Int)] rfl (by (try simp only [List.map_toArray,List.map_cons,List.map_nil]);first | done | rfl | (simp only [List.length_drop,List.length_take];rfl)) ?_;(with_reducible refine (impl_Blocks.calls t329 (t328.length : Int) t370 _ A84.out).mono ?_);rintro e w' ⟨rfl,⟨nd,rfl⟩⟩;refine ⟨_,rfl,?_⟩) | ((with_reducible refine gate_callee (f := 102) rfl ?_);refine goesL_ (some 129) rfl rfl Try.func102 (by kernel_rfl) rfl #[.slice Ao20 t328.length co20,.int .i64 t329,.int .i64 x17_3] rfl (by (try simp only [List.map_toArray,List.map_cons,List.map_nil]);first | done | rfl | (simp only [List.length_drop,List.length_take];rfl)) ?_;(with_reducible refine (impl_BlockAt.calls _ _ t328 t329 x17_3 t373 true _ ?side1 ?side2 A86.out).mono ?_);(case side1 => exact Kd.C_up (Kd.R_reads' HO_3.out).2.2);(case side2 => exact (Kd.R_reads' HO_3.out).2.1);rintro e w143 ⟨v375,rfl,ho0,hb⟩;refine ⟨_,rfl,?_⟩;have n0_ := Aside0.mk (Kd.R_elder' (Kd.R_up HO_3.out) (Kd.R_base ho0) hb);have n1_ := Aside0.mk (Kd.R_below (Kd.R_up HO_15.out) hb);have n2_ := Aside0.mk (Kd.R_elder' (Kd.R_up HO_16.out) (Kd.R_base ho0) hb);have n3_ := Aside0.mk (Kd.R_lower (Kd.R_new' (Kd.R_new' ho0 (Kd.R_lt (Kd.R_up HO_3.out))) (Kd.R_lt (Kd.R_up HO_16.out))) (below_size (B_up HB.out)));have n4_ := Aside0.mk (below_step (B_up HB.out) hb);clear HO_3;clear HO_15;clear HO_16;clear HB;have HO_3 := n0_;have HO_15 := n1_;have HO_16 := n2_;have HO376 := n3_;have HB := n4_;clear n0_ n1_ n2_ n3_ n4_;(try clear hb);(try clear hb2);(try clear hk);(try clear hi);(try clear ho0);obtain ⟨Ao144,co144,eo144⟩ := Kd.R_slice HO_15.out;subst eo144;have p377 : 0 ≤ (x17_3 : Int) := of_decide_eq_true (by first | (with_reducible assumption) | assumption);have q377 : x17_3 < (t348.length : Int) := of_decide_eq_true (by first | (with_reducible assumption) | assumption);obtain ⟨ad377,e377,hx377_0,hx377_1⟩ := at_T81 (Kd.R_reads' HO_15.out).2.2 x17_3 p377 q377;cases e377;replace p377 := eq_true p377;replace q377 := eq_true q377) | ((with_reducible refine gate_callee (f := 91) rfl ?_);refine goesL_ (some 138) rfl rfl Try.func91 (by kernel_rfl) rfl #[.int .i64 ((rd_T81 t348 x17_3).f1)] rfl (by (try simp only [List.map_toArray,List.map_cons,List.map_nil]);first | done | rfl | (simp only [List.length_drop,List.length_take];rfl)) ?_;(with_reducible refine (impl_BytesOf.calls k3 ((rd_T81 t348 x17_3).f1) t378 false _ A89.out).mono ?_);rintro e w145 ⟨v380,rfl,ho0,hb⟩;refine ⟨_,rfl,?_⟩;have n0_ := Aside0.mk (Kd.R_elder' (Kd.R_up HO_3.out) (Kd.R_base ho0) hb);have n1_ := Aside0.mk (Kd.R_below (Kd.R_up HO_15.out) hb);have n2_ := Aside0.mk (Kd.R_elder' (Kd.R_up HO_16.out) (Kd.R_base ho0) hb);have n3_ := Aside0.mk (Kd.R_elder' (Kd.R_up HO376.out) (Kd.R_base ho0) hb);have n4_ := Aside0.mk (Kd.R_lower (Kd.R_new' (Kd.R_new' (Kd.R_new' ho0 (Kd.R_lt (Kd.R_up HO_3.out))) (Kd.R_lt (Kd.R_up HO_16.out))) (Kd.R_lt (Kd.R_up HO376.out))) (below_size (B_up HB.out)));have n5_ := Aside0.mk (below_step (B_up HB.out) hb);clear HO_3;clear HO_15;clear HO_16;clear HO376;clear HB;have HO_3 := n0_;have HO_15 := n1_;have HO_16 := n2_;have HO376 := n3_;have HO381 := n4_;have HB := n5_;clear n0_ n1_ n2_ n3_ n4_ n5_;(try clear hb);(try clear hb2);(try clear hk);(try clear hi);(try clear ho0)) | ((with_reducible refine gate_callee (f := 103) rfl ?_);refine goesL_ (some 146) rfl rfl Try.func103 (by kernel_rfl) rfl #[.int .i64 t329,.int .i64 (t328.length : Int),.int .i64 x17_3] rfl (by (try simp only [List.map_toArray,List.map_cons,List.map_nil]);first | done | rfl | (simp only [List.length_drop,List.length_take];rfl)) ?_;(with_reducible refine (impl_SpanOf.calls t329 (t328.length : Int) x17_3 t382 t383 _ A90.out).mono ?_);rintro e w146 ⟨rfl,hb⟩;refine ⟨_,rfl,?_⟩;have n0_ := Aside0.mk (Kd.R_below (Kd.R_up HO_3.out) hb);have n1_ := Aside0.mk (Kd.R_below (Kd.R_up HO_15.out) hb);have n2_ := Aside0.mk (Kd.R_below (Kd.R_up HO_16.out) hb);have n3_ := Aside0.mk (Kd.R_below (Kd.R_up HO376.out) hb);have n4_ := Aside0.mk (Kd.R_below (Kd.R_up HO381.out) hb);have n5_ := Aside0.mk (below_step (B_up HB.out) hb);clear HO_3;clear HO_15;clear HO_16;clear HO376;clear HO381;clear HB;have HO_3 := n0_;have HO_15 := n1_;have HO_16 := n2_;have HO376 := n3_;have HO381 := n4_;have HB := n5_;clear n0_ n1_ n2_ n3_ n4_ n5_;(try clear hb);(try clear hb2);(try clear hk);(try clear hi)))
                have n0_ := Aside0.mk (Kd.R_drew HO_3.out)
                have n1_ := Aside0.mk (Kd.R_drew HO_15.out)
                have n2_ := Aside0.mk (Kd.R_drew HO_16.out)
                have n3_ := Aside0.mk (Kd.R_drew HO376.out)
                have n4_ := Aside0.mk (Kd.R_drew HO381.out)
                have n5_ := Aside0.mk (below_drew1 HB.out)
                clear HO_3
                clear HO_15
                clear HO_16
                clear HO376
                clear HO381
                clear HB
                have HO_3 := n0_
                have HO_15 := n1_
                have HO_16 := n2_
                have HO376 := n3_
                have HO381 := n4_
                have HB := n5_
                clear n0_ n1_ n2_ n3_ n4_ n5_
                refine start_ (n := 33) (S := fun w' => True) (ds := []) #[false,false,false,false,false,false,false,false,false,false,false,false,false,false,false,false,false,false,false,false,false,false,false,false,false,false,false,false,false,false,false,false,false] (by kernel_rfl) rfl rfl trivial (fun hHeld => ?_);refine with_tabW laws_FnBlocks.tab24 laws_FnBlocks.bits24 (fun HT_ HW_ => ?_)
                generalize w146.drew = w147 at HO_3 HO_15 HO_16 HO376 HO381 HB hHeld ⊢
                refine pure_ (i := 0) (N := some 149) (v := ?_) (a' := ?_) #[true,false,false,false,false,false,false,false,false,false,false,false,false,false,false,false,false,false,false,false,false,false,false,false,false,false,false,false,false,false,false,false,false] rfl rfl (any_of HT_.out (by kernel_rfl)) (fun _ _ _ h => h) (Or.inl ⟨by rfl,?_⟩) ?_ ?_
                rotate_left
                ·intro w'
                 go_simp
                 with_reducible rfl
                rotate_left
                ·simp only [Act.put,List.setIfInBounds_toArray,List.set_cons_zero,List.set_cons_succ,i64_w,i32_w]
                 rfl
                refine pure_ (i := 1) (N := some 150) (v := ?_) (a' := ?_) #[true,true,false,false,false,false,false,false,false,false,false,false,false,false,false,false,false,false,false,false,false,false,false,false,false,false,false,false,false,false,false,false,false] rfl rfl (any_of HT_.out (by kernel_rfl)) (fun _ _ _ h => h) (Or.inl ⟨by rfl,?_⟩) ?_ ?_
                rotate_left
                ·intro w'
                 go_simp
                 with_reducible rfl
                rotate_left
                ·simp only [Act.put,List.setIfInBounds_toArray,List.set_cons_zero,List.set_cons_succ,i64_w,i32_w]
                 rfl
                refine pure_ (i := 2) (N := some 151) (v := ?_) (a' := ?_) #[true,true,true,false,false,false,false,false,false,false,false,false,false,false,false,false,false,false,false,false,false,false,false,false,false,false,false,false,false,false,false,false,false] rfl rfl (any_of HT_.out (by kernel_rfl)) (fun _ _ _ h => h) (Or.inl ⟨by rfl,?_⟩) ?_ ?_
                rotate_left
                ·intro w'
                 go_simp
                 with_reducible rfl
                rotate_left
                ·simp only [Act.put,List.setIfInBounds_toArray,List.set_cons_zero,List.set_cons_succ,i64_w,i32_w]
                 rfl
                refine pure_ (i := 3) (N := some 152) (v := ?_) (a' := ?_) #[true,true,true,true,false,false,false,false,false,false,false,false,false,false,false,false,false,false,false,false,false,false,false,false,false,false,false,false,false,false,false,false,false] rfl rfl (any_of HT_.out (by kernel_rfl)) (fun _ _ _ h => h) (Or.inl ⟨by rfl,?_⟩) ?_ ?_
                rotate_left
                ·intro w'
                 go_simp
                 with_reducible rfl
                rotate_left
                ·simp only [Act.put,List.setIfInBounds_toArray,List.set_cons_zero,List.set_cons_succ,i64_w,i32_w]
                 rfl
                refine pure_ (i := 4) (N := some 153) (v := ?_) (a' := ?_) #[true,true,true,true,true,false,false,false,false,false,false,false,false,false,false,false,false,false,false,false,false,false,false,false,false,false,false,false,false,false,false,false,false] rfl rfl (any_of HT_.out (by kernel_rfl)) (fun _ _ _ h => h) (Or.inl ⟨by rfl,?_⟩) ?_ ?_
                rotate_left
                ·intro w'
                 go_simp
                 with_reducible rfl
                rotate_left
                ·simp only [Act.put,List.setIfInBounds_toArray,List.set_cons_zero,List.set_cons_succ,i64_w,i32_w]
                 rfl
                refine pure_ (i := 5) (N := some 154) (v := ?_) (a' := ?_) #[true,true,true,true,true,true,false,false,false,false,false,false,false,false,false,false,false,false,false,false,false,false,false,false,false,false,false,false,false,false,false,false,false] rfl rfl (any_of HT_.out (by kernel_rfl)) (fun _ _ _ h => h) (Or.inl ⟨by rfl,?_⟩) ?_ ?_
                rotate_left
                ·intro w'
                 go_simp
                 with_reducible rfl
                rotate_left
                ·simp only [Act.put,List.setIfInBounds_toArray,List.set_cons_zero,List.set_cons_succ,i64_w,i32_w]
                 rfl
                refine pure_ (i := 6) (N := some 155) (v := ?_) (a' := ?_) #[true,true,true,true,true,true,true,false,false,false,false,false,false,false,false,false,false,false,false,false,false,false,false,false,false,false,false,false,false,false,false,false,false] rfl rfl (any_of HT_.out (by kernel_rfl)) (fun _ _ _ h => h) (Or.inl ⟨by rfl,?_⟩) ?_ ?_
                rotate_left
                ·intro w'
                 go_simp
                 with_reducible rfl
                rotate_left
                ·simp only [Act.put,List.setIfInBounds_toArray,List.set_cons_zero,List.set_cons_succ,i64_w,i32_w]
                 rfl
                refine pure_ (i := 7) (N := some 156) (v := undef) (a' := ?_) #[true,true,true,true,true,true,true,true,false,false,false,false,false,false,false,false,false,false,false,false,false,false,false,false,false,false,false,false,false,false,false,false,false] rfl rfl (any_of HT_.out (by kernel_rfl)) (fun _ _ _ h => h) (Or.inr ⟨by rfl,rfl⟩) ?_ ?_
                rotate_left
                ·simp only [Act.put,List.setIfInBounds_toArray,List.set_cons_zero,List.set_cons_succ,i64_w,i32_w]
                 rfl
                refine pure_ (i := 8) (N := some 157) (v := undef) (a' := ?_) #[true,true,true,true,true,true,true,true,true,false,false,false,false,false,false,false,false,false,false,false,false,false,false,false,false,false,false,false,false,false,false,false,false] rfl rfl (any_of HT_.out (by kernel_rfl)) (fun _ _ _ h => h) (Or.inr ⟨by rfl,rfl⟩) ?_ ?_
                rotate_left
                ·simp only [Act.put,List.setIfInBounds_toArray,List.set_cons_zero,List.set_cons_succ,i64_w,i32_w]
                 rfl
                refine pure_ (i := 9) (N := some 158) (v := undef) (a' := ?_) #[true,true,true,true,true,true,true,true,true,true,false,false,false,false,false,false,false,false,false,false,false,false,false,false,false,false,false,false,false,false,false,false,false] rfl rfl (any_of HT_.out (by kernel_rfl)) (fun _ _ _ h => h) (Or.inr ⟨by rfl,rfl⟩) ?_ ?_
                rotate_left
                ·simp only [Act.put,List.setIfInBounds_toArray,List.set_cons_zero,List.set_cons_succ,i64_w,i32_w]
                 rfl
                refine pure_ (i := 10) (N := some 159) (v := undef) (a' := ?_) #[true,true,true,true,true,true,true,true,true,true,true,false,false,false,false,false,false,false,false,false,false,false,false,false,false,false,false,false,false,false,false,false,false] rfl rfl (any_of HT_.out (by kernel_rfl)) (fun _ _ _ h => h) (Or.inr ⟨by rfl,rfl⟩) ?_ ?_
                rotate_left
                ·simp only [Act.put,List.setIfInBounds_toArray,List.set_cons_zero,List.set_cons_succ,i64_w,i32_w]
                 rfl
                refine pure_ (i := 11) (N := some 160) (v := ?_) (a' := ?_) #[true,true,true,true,true,true,true,true,true,true,true,true,false,false,false,false,false,false,false,false,false,false,false,false,false,false,false,false,false,false,false,false,false] rfl rfl (any_of HT_.out (by kernel_rfl)) (fun _ _ _ h => h) (Or.inl ⟨by rfl,?_⟩) ?_ ?_
                rotate_left
                ·intro w'
                 go_simp
                 with_reducible rfl
                rotate_left
                ·simp only [Act.put,List.setIfInBounds_toArray,List.set_cons_zero,List.set_cons_succ,i64_w,i32_w]
                 rfl
                refine pure_ (i := 12) (N := some 161) (v := ?_) (a' := ?_) #[true,true,true,true,true,true,true,true,true,true,true,true,true,false,false,false,false,false,false,false,false,false,false,false,false,false,false,false,false,false,false,false,false] rfl rfl (any_of HT_.out (by kernel_rfl)) (fun _ _ _ h => h) (Or.inl ⟨by rfl,?_⟩) ?_ ?_
                rotate_left
                ·intro w'
                 go_simp
                 with_reducible rfl
                rotate_left
                ·simp only [Act.put,List.setIfInBounds_toArray,List.set_cons_zero,List.set_cons_succ,i64_w,i32_w]
                 rfl
                refine pure_ (i := 13) (N := some 162) (v := undef) (a' := ?_) #[true,true,true,true,true,true,true,true,true,true,true,true,true,true,false,false,false,false,false,false,false,false,false,false,false,false,false,false,false,false,false,false,false] rfl rfl (any_of HT_.out (by kernel_rfl)) (fun _ _ _ h => h) (Or.inr ⟨by rfl,rfl⟩) ?_ ?_
                rotate_left
                ·simp only [Act.put,List.setIfInBounds_toArray,List.set_cons_zero,List.set_cons_succ,i64_w,i32_w]
                 rfl
                refine pure_ (i := 14) (N := some 163) (v := undef) (a' := ?_) #[true,true,true,true,true,true,true,true,true,true,true,true,true,true,true,false,false,false,false,false,false,false,false,false,false,false,false,false,false,false,false,false,false] rfl rfl (any_of HT_.out (by kernel_rfl)) (fun _ _ _ h => h) (Or.inr ⟨by rfl,rfl⟩) ?_ ?_
                rotate_left
                ·simp only [Act.put,List.setIfInBounds_toArray,List.set_cons_zero,List.set_cons_succ,i64_w,i32_w]
                 rfl
                refine pure_ (i := 15) (N := some 164) (v := undef) (a' := ?_) #[true,true,true,true,true,true,true,true,true,true,true,true,true,true,true,true,false,false,false,false,false,false,false,false,false,false,false,false,false,false,false,false,false] rfl rfl (any_of HT_.out (by kernel_rfl)) (fun _ _ _ h => h) (Or.inr ⟨by rfl,rfl⟩) ?_ ?_
                rotate_left
                ·simp only [Act.put,List.setIfInBounds_toArray,List.set_cons_zero,List.set_cons_succ,i64_w,i32_w]
                 rfl
                refine pure_ (i := 16) (N := some 165) (v := undef) (a' := ?_) #[true,true,true,true,true,true,true,true,true,true,true,true,true,true,true,true,true,false,false,false,false,false,false,false,false,false,false,false,false,false,false,false,false] rfl rfl (any_of HT_.out (by kernel_rfl)) (fun _ _ _ h => h) (Or.inr ⟨by rfl,rfl⟩) ?_ ?_
                rotate_left
                ·simp only [Act.put,List.setIfInBounds_toArray,List.set_cons_zero,List.set_cons_succ,i64_w,i32_w]
                 rfl
                refine pure_ (i := 17) (N := some 166) (v := undef) (a' := ?_) #[true,true,true,true,true,true,true,true,true,true,true,true,true,true,true,true,true,true,false,false,false,false,false,false,false,false,false,false,false,false,false,false,false] rfl rfl (any_of HT_.out (by kernel_rfl)) (fun _ _ _ h => h) (Or.inr ⟨by rfl,rfl⟩) ?_ ?_
                rotate_left
                ·simp only [Act.put,List.setIfInBounds_toArray,List.set_cons_zero,List.set_cons_succ,i64_w,i32_w]
                 rfl
                refine pure_ (i := 18) (N := some 167) (v := undef) (a' := ?_) #[true,true,true,true,true,true,true,true,true,true,true,true,true,true,true,true,true,true,true,false,false,false,false,false,false,false,false,false,false,false,false,false,false] rfl rfl (any_of HT_.out (by kernel_rfl)) (fun _ _ _ h => h) (Or.inr ⟨by rfl,rfl⟩) ?_ ?_
                rotate_left
                ·simp only [Act.put,List.setIfInBounds_toArray,List.set_cons_zero,List.set_cons_succ,i64_w,i32_w]
                 rfl
                refine pure_ (i := 19) (N := some 168) (v := undef) (a' := ?_) #[true,true,true,true,true,true,true,true,true,true,true,true,true,true,true,true,true,true,true,true,false,false,false,false,false,false,false,false,false,false,false,false,false] rfl rfl (any_of HT_.out (by kernel_rfl)) (fun _ _ _ h => h) (Or.inr ⟨by rfl,rfl⟩) ?_ ?_
                rotate_left
                ·simp only [Act.put,List.setIfInBounds_toArray,List.set_cons_zero,List.set_cons_succ,i64_w,i32_w]
                 rfl
                refine pure_ (i := 20) (N := some 169) (v := ?_) (a' := ?_) #[true,true,true,true,true,true,true,true,true,true,true,true,true,true,true,true,true,true,true,true,true,false,false,false,false,false,false,false,false,false,false,false,false] rfl rfl (any_of HT_.out (by kernel_rfl)) (fun _ _ _ h => h) (Or.inl ⟨by rfl,?_⟩) ?_ ?_
                rotate_left
                ·intro w'
                 go_simp
                 with_reducible rfl
                rotate_left
                ·simp only [Act.put,List.setIfInBounds_toArray,List.set_cons_zero,List.set_cons_succ,i64_w,i32_w]
                 rfl
                refine pure_ (i := 21) (N := some 170) (v := ?_) (a' := ?_) #[true,true,true,true,true,true,true,true,true,true,true,true,true,true,true,true,true,true,true,true,true,true,false,false,false,false,false,false,false,false,false,false,false] rfl rfl (any_of HT_.out (by kernel_rfl)) (fun _ _ _ h => h) (Or.inl ⟨by rfl,?_⟩) ?_ ?_
                rotate_left
                ·intro w'
                 go_simp
                 with_reducible rfl
                rotate_left
                ·simp only [Act.put,List.setIfInBounds_toArray,List.set_cons_zero,List.set_cons_succ,i64_w,i32_w]
                 rfl
                refine pure_ (i := 22) (N := some 171) (v := undef) (a' := ?_) #[true,true,true,true,true,true,true,true,true,true,true,true,true,true,true,true,true,true,true,true,true,true,true,false,false,false,false,false,false,false,false,false,false] rfl rfl (any_of HT_.out (by kernel_rfl)) (fun _ _ _ h => h) (Or.inr ⟨by rfl,rfl⟩) ?_ ?_
                rotate_left
                ·simp only [Act.put,List.setIfInBounds_toArray,List.set_cons_zero,List.set_cons_succ,i64_w,i32_w]
                 rfl
                refine pure_ (i := 23) (N := some 172) (v := undef) (a' := ?_) #[true,true,true,true,true,true,true,true,true,true,true,true,true,true,true,true,true,true,true,true,true,true,true,true,false,false,false,false,false,false,false,false,false] rfl rfl (any_of HT_.out (by kernel_rfl)) (fun _ _ _ h => h) (Or.inr ⟨by rfl,rfl⟩) ?_ ?_
                rotate_left
                ·simp only [Act.put,List.setIfInBounds_toArray,List.set_cons_zero,List.set_cons_succ,i64_w,i32_w]
                 rfl
                refine pure_ (i := 24) (N := some 173) (v := undef) (a' := ?_) #[true,true,true,true,true,true,true,true,true,true,true,true,true,true,true,true,true,true,true,true,true,true,true,true,true,false,false,false,false,false,false,false,false] rfl rfl (any_of HT_.out (by kernel_rfl)) (fun _ _ _ h => h) (Or.inr ⟨by rfl,rfl⟩) ?_ ?_
                rotate_left
                ·simp only [Act.put,List.setIfInBounds_toArray,List.set_cons_zero,List.set_cons_succ,i64_w,i32_w]
                 rfl
                refine pure_ (i := 25) (N := some 174) (v := undef) (a' := ?_) #[true,true,true,true,true,true,true,true,true,true,true,true,true,true,true,true,true,true,true,true,true,true,true,true,true,true,false,false,false,false,false,false,false] rfl rfl (any_of HT_.out (by kernel_rfl)) (fun _ _ _ h => h) (Or.inr ⟨by rfl,rfl⟩) ?_ ?_
                rotate_left
                ·simp only [Act.put,List.setIfInBounds_toArray,List.set_cons_zero,List.set_cons_succ,i64_w,i32_w]
                 rfl
                refine pure_ (i := 26) (N := some 175) (v := ?_) (a' := ?_) #[true,true,true,true,true,true,true,true,true,true,true,true,true,true,true,true,true,true,true,true,true,true,true,true,true,true,true,false,false,false,false,false,false] rfl rfl (any_of HT_.out (by kernel_rfl)) (fun _ _ _ h => h) (Or.inl ⟨by rfl,?_⟩) ?_ ?_
                rotate_left
                ·intro w'
                 go_simp
                 with_reducible rfl
                rotate_left
                ·simp only [Act.put,List.setIfInBounds_toArray,List.set_cons_zero,List.set_cons_succ,i64_w,i32_w]
                 rfl
                refine pure_ (i := 27) (N := some 176) (v := ?_) (a' := ?_) #[true,true,true,true,true,true,true,true,true,true,true,true,true,true,true,true,true,true,true,true,true,true,true,true,true,true,true,true,false,false,false,false,false] rfl rfl (any_of HT_.out (by kernel_rfl)) (fun _ _ _ h => h) (Or.inl ⟨by rfl,?_⟩) ?_ ?_
                rotate_left
                ·intro w'
                 go_simp
                 with_reducible rfl
                rotate_left
                ·simp only [Act.put,List.setIfInBounds_toArray,List.set_cons_zero,List.set_cons_succ,i64_w,i32_w]
                 rfl
                refine pure_ (i := 28) (N := some 177) (v := undef) (a' := ?_) #[true,true,true,true,true,true,true,true,true,true,true,true,true,true,true,true,true,true,true,true,true,true,true,true,true,true,true,true,true,false,false,false,false] rfl rfl (any_of HT_.out (by kernel_rfl)) (fun _ _ _ h => h) (Or.inr ⟨by rfl,rfl⟩) ?_ ?_
                rotate_left
                ·simp only [Act.put,List.setIfInBounds_toArray,List.set_cons_zero,List.set_cons_succ,i64_w,i32_w]
                 rfl
                refine pure_ (i := 29) (N := some 178) (v := undef) (a' := ?_) #[true,true,true,true,true,true,true,true,true,true,true,true,true,true,true,true,true,true,true,true,true,true,true,true,true,true,true,true,true,true,false,false,false] rfl rfl (any_of HT_.out (by kernel_rfl)) (fun _ _ _ h => h) (Or.inr ⟨by rfl,rfl⟩) ?_ ?_
                rotate_left
                ·simp only [Act.put,List.setIfInBounds_toArray,List.set_cons_zero,List.set_cons_succ,i64_w,i32_w]
                 rfl
                refine pure_ (i := 30) (N := some 179) (v := undef) (a' := ?_) #[true,true,true,true,true,true,true,true,true,true,true,true,true,true,true,true,true,true,true,true,true,true,true,true,true,true,true,true,true,true,true,false,false] rfl rfl (any_of HT_.out (by kernel_rfl)) (fun _ _ _ h => h) (Or.inr ⟨by rfl,rfl⟩) ?_ ?_
                rotate_left
                ·simp only [Act.put,List.setIfInBounds_toArray,List.set_cons_zero,List.set_cons_succ,i64_w,i32_w]
                 rfl
                refine pure_ (i := 31) (N := some 180) (v := undef) (a' := ?_) #[true,true,true,true,true,true,true,true,true,true,true,true,true,true,true,true,true,true,true,true,true,true,true,true,true,true,true,true,true,true,true,true,false] rfl rfl (any_of HT_.out (by kernel_rfl)) (fun _ _ _ h => h) (Or.inr ⟨by rfl,rfl⟩) ?_ ?_
                rotate_left
                ·simp only [Act.put,List.setIfInBounds_toArray,List.set_cons_zero,List.set_cons_succ,i64_w,i32_w]
                 rfl
                refine pure_ (i := 32) (N := some 181) (v := ?_) (a' := ?_) #[true,true,true,true,true,true,true,true,true,true,true,true,true,true,true,true,true,true,true,true,true,true,true,true,true,true,true,true,true,true,true,true,true] rfl rfl (any_of HT_.out (by kernel_rfl)) (fun _ _ _ h => h) (Or.inl ⟨by rfl,?_⟩) ?_ ?_
                rotate_left
                ·intro w'
                 go_simp
                 with_reducible rfl
                rotate_left
                ·simp only [Act.put,List.setIfInBounds_toArray,List.set_cons_zero,List.set_cons_succ,i64_w,i32_w]
                 rfl
                refine done_ (done_of HT_.out (by kernel_rfl)) ?_
                try go_wp2
                go_ret
                exact ⟨by first | rfl | (simp [errW_none,errW_some] <;> rfl) | (simp [*,errW_none,errW_some] <;> rfl),by repeat (first | (with_reducible first | exact HB.out | apply below_alloc | apply pw_below_drewN | apply below_drew1) | exact HB.out)⟩
              ·replace c91 := Bool.eq_false_iff.mpr c91
               subst c91
               have H1 : (some false) = some r := by rw [if_neg (show ¬ (false = true) by decide)] at H;exact H
               clear H
               have H := H1
               clear H1
               obtain rfl := Option.some.inj H
               try go_wp2_with (first | ((with_reducible refine gate_callee (f := 99) rfl ?_);refine goesL_ (some 121) rfl rfl Try.func99 (by kernel_rfl) rfl #[.int .i64 t329,.int .i64 (t328.length : Int)] rfl (by (try simp only [List.map_toArray,List.map_cons,List.map_nil]);first | done | rfl | (simp only [List.length_drop,List.length_take];rfl)) ?_;(with_reducible refine (impl_Blocks.calls t329 (t328.length : Int) t370 _ A84.out).mono ?_);rintro e w' ⟨rfl,⟨nd,rfl⟩⟩;refine ⟨_,rfl,?_⟩) | ((with_reducible refine gate_callee (f := 102) rfl ?_);refine goesL_ (some 129) rfl rfl Try.func102 (by kernel_rfl) rfl #[.slice Ao20 t328.length co20,.int .i64 t329,.int .i64 x17_3] rfl (by (try simp only [List.map_toArray,List.map_cons,List.map_nil]);first | done | rfl | (simp only [List.length_drop,List.length_take];rfl)) ?_;(with_reducible refine (impl_BlockAt.calls _ _ t328 t329 x17_3 t373 false _ ?side1 ?side2 A86.out).mono ?_);(case side1 => exact Kd.C_up (Kd.R_reads' HO_3.out).2.2);(case side2 => exact (Kd.R_reads' HO_3.out).2.1);rintro e w148 ⟨v375,rfl,ho0,hb⟩;refine ⟨_,rfl,?_⟩;have n0_ := Aside0.mk (Kd.R_elder' (Kd.R_up HO_3.out) (Kd.R_base ho0) hb);have n1_ := Aside0.mk (Kd.R_below (Kd.R_up HO_15.out) hb);have n2_ := Aside0.mk (Kd.R_elder' (Kd.R_up HO_16.out) (Kd.R_base ho0) hb);have n3_ := Aside0.mk (Kd.R_lower (Kd.R_new' (Kd.R_new' ho0 (Kd.R_lt (Kd.R_up HO_3.out))) (Kd.R_lt (Kd.R_up HO_16.out))) (below_size (B_up HB.out)));have n4_ := Aside0.mk (below_step (B_up HB.out) hb);clear HO_3;clear HO_15;clear HO_16;clear HB;have HO_3 := n0_;have HO_15 := n1_;have HO_16 := n2_;have HO376 := n3_;have HB := n4_;clear n0_ n1_ n2_ n3_ n4_;(try clear hb);(try clear hb2);(try clear hk);(try clear hi);(try clear ho0);obtain ⟨Ao149,co149,eo149⟩ := Kd.R_slice HO_15.out;subst eo149;have p377 : 0 ≤ (x17_3 : Int) := of_decide_eq_true (by first | (with_reducible assumption) | assumption);have q377 : x17_3 < (t348.length : Int) := of_decide_eq_true (by first | (with_reducible assumption) | assumption);obtain ⟨ad377,e377,hx377_0,hx377_1⟩ := at_T81 (Kd.R_reads' HO_15.out).2.2 x17_3 p377 q377;cases e377;replace p377 := eq_true p377;replace q377 := eq_true q377) | ((with_reducible refine gate_callee (f := 91) rfl ?_);refine goesL_ (some 138) rfl rfl Try.func91 (by kernel_rfl) rfl #[.int .i64 ((rd_T81 t348 x17_3).f1)] rfl (by (try simp only [List.map_toArray,List.map_cons,List.map_nil]);first | done | rfl | (simp only [List.length_drop,List.length_take];rfl)) ?_;(with_reducible refine (impl_BytesOf.calls k3 ((rd_T81 t348 x17_3).f1) t378 t379 _ A89.out).mono ?_);rintro e w150 ⟨v380,rfl,ho0,hb⟩;refine ⟨_,rfl,?_⟩;have n0_ := Aside0.mk (Kd.R_elder' (Kd.R_up HO_3.out) (Kd.R_base ho0) hb);have n1_ := Aside0.mk (Kd.R_below (Kd.R_up HO_15.out) hb);have n2_ := Aside0.mk (Kd.R_elder' (Kd.R_up HO_16.out) (Kd.R_base ho0) hb);have n3_ := Aside0.mk (Kd.R_elder' (Kd.R_up HO376.out) (Kd.R_base ho0) hb);have n4_ := Aside0.mk (Kd.R_lower (Kd.R_new' (Kd.R_new' (Kd.R_new' ho0 (Kd.R_lt (Kd.R_up HO_3.out))) (Kd.R_lt (Kd.R_up HO_16.out))) (Kd.R_lt (Kd.R_up HO376.out))) (below_size (B_up HB.out)));have n5_ := Aside0.mk (below_step (B_up HB.out) hb);clear HO_3;clear HO_15;clear HO_16;clear HO376;clear HB;have HO_3 := n0_;have HO_15 := n1_;have HO_16 := n2_;have HO376 := n3_;have HO381 := n4_;have HB := n5_;clear n0_ n1_ n2_ n3_ n4_ n5_;(try clear hb);(try clear hb2);(try clear hk);(try clear hi);(try clear ho0)) | ((with_reducible refine gate_callee (f := 103) rfl ?_);refine goesL_ (some 146) rfl rfl Try.func103 (by kernel_rfl) rfl #[.int .i64 t329,.int .i64 (t328.length : Int),.int .i64 x17_3] rfl (by (try simp only [List.map_toArray,List.map_cons,List.map_nil]);first | done | rfl | (simp only [List.length_drop,List.length_take];rfl)) ?_;(with_reducible refine (impl_SpanOf.calls t329 (t328.length : Int) x17_3 t382 t383 _ A90.out).mono ?_);rintro e w151 ⟨rfl,hb⟩;refine ⟨_,rfl,?_⟩;have n0_ := Aside0.mk (Kd.R_below (Kd.R_up HO_3.out) hb);have n1_ := Aside0.mk (Kd.R_below (Kd.R_up HO_15.out) hb);have n2_ := Aside0.mk (Kd.R_below (Kd.R_up HO_16.out) hb);have n3_ := Aside0.mk (Kd.R_below (Kd.R_up HO376.out) hb);have n4_ := Aside0.mk (Kd.R_below (Kd.R_up HO381.out) hb);have n5_ := Aside0.mk (below_step (B_up HB.out) hb);clear HO_3;clear HO_15;clear HO_16;clear HO376;clear HO381;clear HB;have HO_3 := n0_;have HO_15 := n1_;have HO_16 := n2_;have HO376 := n3_;have HO381 := n4_;have HB := n5_;clear n0_ n1_ n2_ n3_ n4_ n5_;(try clear hb);(try clear hb2);(try clear hk);(try clear hi)))
               have n0_ := Aside0.mk (Kd.R_drew HO_3.out)
               have n1_ := Aside0.mk (Kd.R_drew HO_15.out)
               have n2_ := Aside0.mk (Kd.R_drew HO_16.out)
               have n3_ := Aside0.mk (Kd.R_drew HO376.out)
               have n4_ := Aside0.mk (Kd.R_drew HO381.out)
               have n5_ := Aside0.mk (below_drew1 HB.out)
               clear HO_3
               clear HO_15
               clear HO_16
               clear HO376
               clear HO381
               clear HB
               have HO_3 := n0_
               have HO_15 := n1_
               have HO_16 := n2_
               have HO376 := n3_
               have HO381 := n4_
               have HB := n5_
               clear n0_ n1_ n2_ n3_ n4_ n5_
               refine start_ (n := 33) (S := fun w' => True) (ds := []) #[false,false,false,false,false,false,false,false,false,false,false,false,false,false,false,false,false,false,false,false,false,false,false,false,false,false,false,false,false,false,false,false,false] (by kernel_rfl) rfl rfl trivial (fun hHeld => ?_);refine with_tabW laws_FnBlocks.tab24 laws_FnBlocks.bits24 (fun HT_ HW_ => ?_)
               generalize w151.drew = w152 at HO_3 HO_15 HO_16 HO376 HO381 HB hHeld ⊢
               refine pure_ (i := 0) (N := some 149) (v := ?_) (a' := ?_) #[true,false,false,false,false,false,false,false,false,false,false,false,false,false,false,false,false,false,false,false,false,false,false,false,false,false,false,false,false,false,false,false,false] rfl rfl (any_of HT_.out (by kernel_rfl)) (fun _ _ _ h => h) (Or.inl ⟨by rfl,?_⟩) ?_ ?_
               rotate_left
               ·intro w'
                go_simp
                with_reducible rfl
               rotate_left
               ·simp only [Act.put,List.setIfInBounds_toArray,List.set_cons_zero,List.set_cons_succ,i64_w,i32_w]
                rfl
               refine pure_ (i := 1) (N := some 150) (v := ?_) (a' := ?_) #[true,true,false,false,false,false,false,false,false,false,false,false,false,false,false,false,false,false,false,false,false,false,false,false,false,false,false,false,false,false,false,false,false] rfl rfl (any_of HT_.out (by kernel_rfl)) (fun _ _ _ h => h) (Or.inl ⟨by rfl,?_⟩) ?_ ?_
               rotate_left
               ·intro w'
                go_simp
                with_reducible rfl
               rotate_left
               ·simp only [Act.put,List.setIfInBounds_toArray,List.set_cons_zero,List.set_cons_succ,i64_w,i32_w]
                rfl
               refine pure_ (i := 2) (N := some 151) (v := ?_) (a' := ?_) #[true,true,true,false,false,false,false,false,false,false,false,false,false,false,false,false,false,false,false,false,false,false,false,false,false,false,false,false,false,false,false,false,false] rfl rfl (any_of HT_.out (by kernel_rfl)) (fun _ _ _ h => h) (Or.inl ⟨by rfl,?_⟩) ?_ ?_
               rotate_left
               ·intro w'
                go_simp
                with_reducible rfl
               rotate_left
               ·simp only [Act.put,List.setIfInBounds_toArray,List.set_cons_zero,List.set_cons_succ,i64_w,i32_w]
                rfl
               refine pure_ (i := 3) (N := some 152) (v := undef) (a' := ?_) #[true,true,true,true,false,false,false,false,false,false,false,false,false,false,false,false,false,false,false,false,false,false,false,false,false,false,false,false,false,false,false,false,false] rfl rfl (any_of HT_.out (by kernel_rfl)) (fun _ _ _ h => h) (Or.inr ⟨by rfl,rfl⟩) ?_ ?_
               rotate_left
               ·simp only [Act.put,List.setIfInBounds_toArray,List.set_cons_zero,List.set_cons_succ,i64_w,i32_w]
                rfl
               refine pure_ (i := 4) (N := some 153) (v := undef) (a' := ?_) #[true,true,true,true,true,false,false,false,false,false,false,false,false,false,false,false,false,false,false,false,false,false,false,false,false,false,false,false,false,false,false,false,false] rfl rfl (any_of HT_.out (by kernel_rfl)) (fun _ _ _ h => h) (Or.inr ⟨by rfl,rfl⟩) ?_ ?_
               rotate_left
               ·simp only [Act.put,List.setIfInBounds_toArray,List.set_cons_zero,List.set_cons_succ,i64_w,i32_w]
                rfl
               refine pure_ (i := 5) (N := some 154) (v := ?_) (a' := ?_) #[true,true,true,true,true,true,false,false,false,false,false,false,false,false,false,false,false,false,false,false,false,false,false,false,false,false,false,false,false,false,false,false,false] rfl rfl (any_of HT_.out (by kernel_rfl)) (fun _ _ _ h => h) (Or.inl ⟨by rfl,?_⟩) ?_ ?_
               rotate_left
               ·intro w'
                go_simp
                with_reducible rfl
               rotate_left
               ·simp only [Act.put,List.setIfInBounds_toArray,List.set_cons_zero,List.set_cons_succ,i64_w,i32_w]
                rfl
               refine pure_ (i := 6) (N := some 155) (v := ?_) (a' := ?_) #[true,true,true,true,true,true,true,false,false,false,false,false,false,false,false,false,false,false,false,false,false,false,false,false,false,false,false,false,false,false,false,false,false] rfl rfl (any_of HT_.out (by kernel_rfl)) (fun _ _ _ h => h) (Or.inl ⟨by rfl,?_⟩) ?_ ?_
               rotate_left
               ·intro w'
                go_simp
                with_reducible rfl
               rotate_left
               ·simp only [Act.put,List.setIfInBounds_toArray,List.set_cons_zero,List.set_cons_succ,i64_w,i32_w]
                rfl
               refine pure_ (i := 7) (N := some 156) (v := undef) (a' := ?_) #[true,true,true,true,true,true,true,true,false,false,false,false,false,false,false,false,false,false,false,false,false,false,false,false,false,false,false,false,false,false,false,false,false] rfl rfl (any_of HT_.out (by kernel_rfl)) (fun _ _ _ h => h) (Or.inr ⟨by rfl,rfl⟩) ?_ ?_
               rotate_left
               ·simp only [Act.put,List.setIfInBounds_toArray,List.set_cons_zero,List.set_cons_succ,i64_w,i32_w]
                rfl
               refine pure_ (i := 8) (N := some 157) (v := undef) (a' := ?_) #[true,true,true,true,true,true,true,true,true,false,false,false,false,false,false,false,false,false,false,false,false,false,false,false,false,false,false,false,false,false,false,false,false] rfl rfl (any_of HT_.out (by kernel_rfl)) (fun _ _ _ h => h) (Or.inr ⟨by rfl,rfl⟩) ?_ ?_
               rotate_left
               ·simp only [Act.put,List.setIfInBounds_toArray,List.set_cons_zero,List.set_cons_succ,i64_w,i32_w]
                rfl
               refine pure_ (i := 9) (N := some 158) (v := undef) (a' := ?_) #[true,true,true,true,true,true,true,true,true,true,false,false,false,false,false,false,false,false,false,false,false,false,false,false,false,false,false,false,false,false,false,false,false] rfl rfl (any_of HT_.out (by kernel_rfl)) (fun _ _ _ h => h) (Or.inr ⟨by rfl,rfl⟩) ?_ ?_
               rotate_left
               ·simp only [Act.put,List.setIfInBounds_toArray,List.set_cons_zero,List.set_cons_succ,i64_w,i32_w]
                rfl
               refine pure_ (i := 10) (N := some 159) (v := undef) (a' := ?_) #[true,true,true,true,true,true,true,true,true,true,true,false,false,false,false,false,false,false,false,false,false,false,false,false,false,false,false,false,false,false,false,false,false] rfl rfl (any_of HT_.out (by kernel_rfl)) (fun _ _ _ h => h) (Or.inr ⟨by rfl,rfl⟩) ?_ ?_
               rotate_left
               ·simp only [Act.put,List.setIfInBounds_toArray,List.set_cons_zero,List.set_cons_succ,i64_w,i32_w]
                rfl
               refine pure_ (i := 11) (N := some 160) (v := ?_) (a' := ?_) #[true,true,true,true,true,true,true,true,true,true,true,true,false,false,false,false,false,false,false,false,false,false,false,false,false,false,false,false,false,false,false,false,false] rfl rfl (any_of HT_.out (by kernel_rfl)) (fun _ _ _ h => h) (Or.inl ⟨by rfl,?_⟩) ?_ ?_
               rotate_left
               ·intro w'
                go_simp
                with_reducible rfl
               rotate_left
               ·simp only [Act.put,List.setIfInBounds_toArray,List.set_cons_zero,List.set_cons_succ,i64_w,i32_w]
                rfl
               refine pure_ (i := 12) (N := some 161) (v := ?_) (a' := ?_) #[true,true,true,true,true,true,true,true,true,true,true,true,true,false,false,false,false,false,false,false,false,false,false,false,false,false,false,false,false,false,false,false,false] rfl rfl (any_of HT_.out (by kernel_rfl)) (fun _ _ _ h => h) (Or.inl ⟨by rfl,?_⟩) ?_ ?_
               rotate_left
               ·intro w'
                go_simp
                with_reducible rfl
               rotate_left
               ·simp only [Act.put,List.setIfInBounds_toArray,List.set_cons_zero,List.set_cons_succ,i64_w,i32_w]
                rfl
               refine pure_ (i := 13) (N := some 162) (v := undef) (a' := ?_) #[true,true,true,true,true,true,true,true,true,true,true,true,true,true,false,false,false,false,false,false,false,false,false,false,false,false,false,false,false,false,false,false,false] rfl rfl (any_of HT_.out (by kernel_rfl)) (fun _ _ _ h => h) (Or.inr ⟨by rfl,rfl⟩) ?_ ?_
               rotate_left
               ·simp only [Act.put,List.setIfInBounds_toArray,List.set_cons_zero,List.set_cons_succ,i64_w,i32_w]
                rfl
               refine pure_ (i := 14) (N := some 163) (v := undef) (a' := ?_) #[true,true,true,true,true,true,true,true,true,true,true,true,true,true,true,false,false,false,false,false,false,false,false,false,false,false,false,false,false,false,false,false,false] rfl rfl (any_of HT_.out (by kernel_rfl)) (fun _ _ _ h => h) (Or.inr ⟨by rfl,rfl⟩) ?_ ?_
               rotate_left
               ·simp only [Act.put,List.setIfInBounds_toArray,List.set_cons_zero,List.set_cons_succ,i64_w,i32_w]
                rfl
               refine pure_ (i := 15) (N := some 164) (v := undef) (a' := ?_) #[true,true,true,true,true,true,true,true,true,true,true,true,true,true,true,true,false,false,false,false,false,false,false,false,false,false,false,false,false,false,false,false,false] rfl rfl (any_of HT_.out (by kernel_rfl)) (fun _ _ _ h => h) (Or.inr ⟨by rfl,rfl⟩) ?_ ?_
               rotate_left
               ·simp only [Act.put,List.setIfInBounds_toArray,List.set_cons_zero,List.set_cons_succ,i64_w,i32_w]
                rfl
               refine pure_ (i := 16) (N := some 165) (v := undef) (a' := ?_) #[true,true,true,true,true,true,true,true,true,true,true,true,true,true,true,true,true,false,false,false,false,false,false,false,false,false,false,false,false,false,false,false,false] rfl rfl (any_of HT_.out (by kernel_rfl)) (fun _ _ _ h => h) (Or.inr ⟨by rfl,rfl⟩) ?_ ?_
               rotate_left
               ·simp only [Act.put,List.setIfInBounds_toArray,List.set_cons_zero,List.set_cons_succ,i64_w,i32_w]
                rfl
               refine pure_ (i := 17) (N := some 166) (v := undef) (a' := ?_) #[true,true,true,true,true,true,true,true,true,true,true,true,true,true,true,true,true,true,false,false,false,false,false,false,false,false,false,false,false,false,false,false,false] rfl rfl (any_of HT_.out (by kernel_rfl)) (fun _ _ _ h => h) (Or.inr ⟨by rfl,rfl⟩) ?_ ?_
               rotate_left
               ·simp only [Act.put,List.setIfInBounds_toArray,List.set_cons_zero,List.set_cons_succ,i64_w,i32_w]
                rfl
               refine pure_ (i := 18) (N := some 167) (v := undef) (a' := ?_) #[true,true,true,true,true,true,true,true,true,true,true,true,true,true,true,true,true,true,true,false,false,false,false,false,false,false,false,false,false,false,false,false,false] rfl rfl (any_of HT_.out (by kernel_rfl)) (fun _ _ _ h => h) (Or.inr ⟨by rfl,rfl⟩) ?_ ?_
               rotate_left
               ·simp only [Act.put,List.setIfInBounds_toArray,List.set_cons_zero,List.set_cons_succ,i64_w,i32_w]
                rfl
               refine pure_ (i := 19) (N := some 168) (v := undef) (a' := ?_) #[true,true,true,true,true,true,true,true,true,true,true,true,true,true,true,true,true,true,true,true,false,false,false,false,false,false,false,false,false,false,false,false,false] rfl rfl (any_of HT_.out (by kernel_rfl)) (fun _ _ _ h => h) (Or.inr ⟨by rfl,rfl⟩) ?_ ?_
               rotate_left
               ·simp only [Act.put,List.setIfInBounds_toArray,List.set_cons_zero,List.set_cons_succ,i64_w,i32_w]
                rfl
               refine pure_ (i := 20) (N := some 169) (v := ?_) (a' := ?_) #[true,true,true,true,true,true,true,true,true,true,true,true,true,true,true,true,true,true,true,true,true,false,false,false,false,false,false,false,false,false,false,false,false] rfl rfl (any_of HT_.out (by kernel_rfl)) (fun _ _ _ h => h) (Or.inl ⟨by rfl,?_⟩) ?_ ?_
               rotate_left
               ·intro w'
                go_simp
                with_reducible rfl
               rotate_left
               ·simp only [Act.put,List.setIfInBounds_toArray,List.set_cons_zero,List.set_cons_succ,i64_w,i32_w]
                rfl
               refine pure_ (i := 21) (N := some 170) (v := ?_) (a' := ?_) #[true,true,true,true,true,true,true,true,true,true,true,true,true,true,true,true,true,true,true,true,true,true,false,false,false,false,false,false,false,false,false,false,false] rfl rfl (any_of HT_.out (by kernel_rfl)) (fun _ _ _ h => h) (Or.inl ⟨by rfl,?_⟩) ?_ ?_
               rotate_left
               ·intro w'
                go_simp
                with_reducible rfl
               rotate_left
               ·simp only [Act.put,List.setIfInBounds_toArray,List.set_cons_zero,List.set_cons_succ,i64_w,i32_w]
                rfl
               refine pure_ (i := 22) (N := some 171) (v := undef) (a' := ?_) #[true,true,true,true,true,true,true,true,true,true,true,true,true,true,true,true,true,true,true,true,true,true,true,false,false,false,false,false,false,false,false,false,false] rfl rfl (any_of HT_.out (by kernel_rfl)) (fun _ _ _ h => h) (Or.inr ⟨by rfl,rfl⟩) ?_ ?_
               rotate_left
               ·simp only [Act.put,List.setIfInBounds_toArray,List.set_cons_zero,List.set_cons_succ,i64_w,i32_w]
                rfl
               refine pure_ (i := 23) (N := some 172) (v := undef) (a' := ?_) #[true,true,true,true,true,true,true,true,true,true,true,true,true,true,true,true,true,true,true,true,true,true,true,true,false,false,false,false,false,false,false,false,false] rfl rfl (any_of HT_.out (by kernel_rfl)) (fun _ _ _ h => h) (Or.inr ⟨by rfl,rfl⟩) ?_ ?_
               rotate_left
               ·simp only [Act.put,List.setIfInBounds_toArray,List.set_cons_zero,List.set_cons_succ,i64_w,i32_w]
                rfl
               refine pure_ (i := 24) (N := some 173) (v := undef) (a' := ?_) #[true,true,true,true,true,true,true,true,true,true,true,true,true,true,true,true,true,true,true,true,true,true,true,true,true,false,false,false,false,false,false,false,false] rfl rfl (any_of HT_.out (by kernel_rfl)) (fun _ _ _ h => h) (Or.inr ⟨by rfl,rfl⟩) ?_ ?_
               rotate_left
               ·simp only [Act.put,List.setIfInBounds_toArray,List.set_cons_zero,List.set_cons_succ,i64_w,i32_w]
                rfl
               refine pure_ (i := 25) (N := some 174) (v := undef) (a' := ?_) #[true,true,true,true,true,true,true,true,true,true,true,true,true,true,true,true,true,true,true,true,true,true,true,true,true,true,false,false,false,false,false,false,false] rfl rfl (any_of HT_.out (by kernel_rfl)) (fun _ _ _ h => h) (Or.inr ⟨by rfl,rfl⟩) ?_ ?_
               rotate_left
               ·simp only [Act.put,List.setIfInBounds_toArray,List.set_cons_zero,List.set_cons_succ,i64_w,i32_w]
                rfl
               refine pure_ (i := 26) (N := some 175) (v := ?_) (a' := ?_) #[true,true,true,true,true,true,true,true,true,true,true,true,true,true,true,true,true,true,true,true,true,true,true,true,true,true,true,false,false,false,false,false,false] rfl rfl (any_of HT_.out (by kernel_rfl)) (fun _ _ _ h => h) (Or.inl ⟨by rfl,?_⟩) ?_ ?_
               rotate_left
               ·intro w'
                go_simp
                with_reducible rfl
               rotate_left
               ·simp only [Act.put,List.setIfInBounds_toArray,List.set_cons_zero,List.set_cons_succ,i64_w,i32_w]
                rfl
               refine pure_ (i := 27) (N := some 176) (v := ?_) (a' := ?_) #[true,true,true,true,true,true,true,true,true,true,true,true,true,true,true,true,true,true,true,true,true,true,true,true,true,true,true,true,false,false,false,false,false] rfl rfl (any_of HT_.out (by kernel_rfl)) (fun _ _ _ h => h) (Or.inl ⟨by rfl,?_⟩) ?_ ?_
               rotate_left
               ·intro w'
                go_simp
                with_reducible rfl
               rotate_left
               ·simp only [Act.put,List.setIfInBounds_toArray,List.set_cons_zero,List.set_cons_succ,i64_w,i32_w]
                rfl
               refine pure_ (i := 28) (N := some 177) (v := undef) (a' := ?_) #[true,true,true,true,true,true,true,true,true,true,true,true,true,true,true,true,true,true,true,true,true,true,true,true,true,true,true,true,true,false,false,false,false] rfl rfl (any_of HT_.out (by kernel_rfl)) (fun _ _ _ h => h) (Or.inr ⟨by rfl,rfl⟩) ?_ ?_
               rotate_left
               ·simp only [Act.put,List.setIfInBounds_toArray,List.set_cons_zero,List.set_cons_succ,i64_w,i32_w]
                rfl
               refine pure_ (i := 29) (N := some 178) (v := undef) (a' := ?_) #[true,true,true,true,true,true,true,true,true,true,true,true,true,true,true,true,true,true,true,true,true,true,true,true,true,true,true,true,true,true,false,false,false] rfl rfl (any_of HT_.out (by kernel_rfl)) (fun _ _ _ h => h) (Or.inr ⟨by rfl,rfl⟩) ?_ ?_
               rotate_left
               ·simp only [Act.put,List.setIfInBounds_toArray,List.set_cons_zero,List.set_cons_succ,i64_w,i32_w]
                rfl
               refine pure_ (i := 30) (N := some 179) (v := undef) (a' := ?_) #[true,true,true,true,true,true,true,true,true,true,true,true,true,true,true,true,true,true,true,true,true,true,true,true,true,true,true,true,true,true,true,false,false] rfl rfl (any_of HT_.out (by kernel_rfl)) (fun _ _ _ h => h) (Or.inr ⟨by rfl,rfl⟩) ?_ ?_
               rotate_left
               ·simp only [Act.put,List.setIfInBounds_toArray,List.set_cons_zero,List.set_cons_succ,i64_w,i32_w]
                rfl
               refine pure_ (i := 31) (N := some 180) (v := undef) (a' := ?_) #[true,true,true,true,true,true,true,true,true,true,true,true,true,true,true,true,true,true,true,true,true,true,true,true,true,true,true,true,true,true,true,true,false] rfl rfl (any_of HT_.out (by kernel_rfl)) (fun _ _ _ h => h) (Or.inr ⟨by rfl,rfl⟩) ?_ ?_
               rotate_left
               ·simp only [Act.put,List.setIfInBounds_toArray,List.set_cons_zero,List.set_cons_succ,i64_w,i32_w]
                rfl
               refine pure_ (i := 32) (N := some 181) (v := ?_) (a' := ?_) #[true,true,true,true,true,true,true,true,true,true,true,true,true,true,true,true,true,true,true,true,true,true,true,true,true,true,true,true,true,true,true,true,true] rfl rfl (any_of HT_.out (by kernel_rfl)) (fun _ _ _ h => h) (Or.inl ⟨by rfl,?_⟩) ?_ ?_
               rotate_left
               ·intro w'
                go_simp
                with_reducible rfl
               rotate_left
               ·simp only [Act.put,List.setIfInBounds_toArray,List.set_cons_zero,List.set_cons_succ,i64_w,i32_w]
                rfl
               refine done_ (done_of HT_.out (by kernel_rfl)) ?_
               try go_wp2
               go_ret
               exact ⟨by first | rfl | (simp [errW_none,errW_some] <;> rfl) | (simp [*,errW_none,errW_some] <;> rfl),by repeat (first | (with_reducible first | exact HB.out | apply below_alloc | apply pw_below_drewN | apply below_drew1) | exact HB.out)⟩
             ·rw [if_neg c88] at H
              exact absurd H (by simp)
            ·rw [if_neg c87] at H
             exact absurd H (by simp)
           ·rw [if_neg c85] at H
            have c85b0 : decide (x17_3 < t370) = false := decide_eq_false c85
            clear c85
            replace H := Option.bind_eq_some_iff.mp H
            obtain ⟨t371,A1530,H⟩ := H
            (try dsimp only at H)
            have A153 := Aside0.mk A1530
            clear A1530
            by_cases c154 : t371 = true
            ·subst c154
             rw [if_pos rfl] at H
             replace H := Option.bind_eq_some_iff.mp H
             obtain ⟨t372,A1550,H⟩ := H
             replace H : (some ((t348.length : Int) == t372)) = some r := H
             have A155 := Aside0.mk A1550
             clear A1550
             obtain rfl := Option.some.inj H
             go_wp2_with (first | ((with_reducible refine gate_callee (f := 99) rfl ?_);refine goesL_ (some 121) rfl rfl Try.func99 (by kernel_rfl) rfl #[.int .i64 t329,.int .i64 (t328.length : Int)] rfl (by (try simp only [List.map_toArray,List.map_cons,List.map_nil]);first | done | rfl | (simp only [List.length_drop,List.length_take];rfl)) ?_;(with_reducible refine (impl_Blocks.calls t329 (t328.length : Int) t370 _ A84.out).mono ?_);rintro e w' ⟨rfl,⟨nd,rfl⟩⟩;refine ⟨_,rfl,?_⟩;obtain ⟨Ao156,co156,eo156⟩ := Kd.R_slice HO_16.out;subst eo156) | ((with_reducible refine gate_callee (f := 46) rfl ?_);refine goesL_ (some 187) rfl rfl Try.func46 (by kernel_rfl) rfl #[.slice Ao156 x16_3.length co156,.slice Ao20 t328.length co20] rfl (by (try simp only [List.map_toArray,List.map_cons,List.map_nil]);first | done | rfl | (simp only [List.length_drop,List.length_take];rfl)) ?_;(with_reducible refine (laws_same.calls k3 _ _ x16_3 _ _ t328 true _ ?side1 ?side2 ?side3 ?side4 A153.out).mono ?_);(case side1 => exact Kd.C_up (Kd.R_reads' HO_16.out).2.2);(case side2 => exact (Kd.R_reads' HO_16.out).2.1);(case side3 => exact Kd.C_up (Kd.R_reads' HO_3.out).2.2);(case side4 => exact (Kd.R_reads' HO_3.out).2.1);rintro e w' ⟨rfl,⟨nd,rfl⟩⟩;refine ⟨_,rfl,?_⟩;obtain ⟨Ao157,co157,eo157⟩ := Kd.R_slice HO_15.out;subst eo157) | (go_at_call 99;(with_reducible refine (impl_Blocks.calls t329 (t328.length : Int) t372 _ A155.out).mono ?_);rintro e w' ⟨rfl,⟨nd,rfl⟩⟩))
             go_ret
             exact ⟨by first | rfl | (simp [errW_none,errW_some] <;> rfl) | (simp [*,errW_none,errW_some] <;> rfl),by repeat (first | (with_reducible first | exact HB.out | apply below_alloc | apply pw_below_drewN | apply below_drew1) | exact HB.out)⟩
            ·replace c154 := Bool.eq_false_iff.mpr c154
             subst c154
             have H1 : (some false) = some r := by rw [if_neg (show ¬ (false = true) by decide)] at H;exact H
             clear H
             have H := H1
             clear H1
             obtain rfl := Option.some.inj H
             go_wp2_with (first | ((with_reducible refine gate_callee (f := 99) rfl ?_);refine goesL_ (some 121) rfl rfl Try.func99 (by kernel_rfl) rfl #[.int .i64 t329,.int .i64 (t328.length : Int)] rfl (by (try simp only [List.map_toArray,List.map_cons,List.map_nil]);first | done | rfl | (simp only [List.length_drop,List.length_take];rfl)) ?_;(with_reducible refine (impl_Blocks.calls t329 (t328.length : Int) t370 _ A84.out).mono ?_);rintro e w' ⟨rfl,⟨nd,rfl⟩⟩;refine ⟨_,rfl,?_⟩;obtain ⟨Ao158,co158,eo158⟩ := Kd.R_slice HO_16.out;subst eo158) | ((with_reducible refine gate_callee (f := 46) rfl ?_);refine goesL_ (some 187) rfl rfl Try.func46 (by kernel_rfl) rfl #[.slice Ao158 x16_3.length co158,.slice Ao20 t328.length co20] rfl (by (try simp only [List.map_toArray,List.map_cons,List.map_nil]);first | done | rfl | (simp only [List.length_drop,List.length_take];rfl)) ?_;(with_reducible refine (laws_same.calls k3 _ _ x16_3 _ _ t328 false _ ?side1 ?side2 ?side3 ?side4 A153.out).mono ?_);(case side1 => exact Kd.C_up (Kd.R_reads' HO_16.out).2.2);(case side2 => exact (Kd.R_reads' HO_16.out).2.1);(case side3 => exact Kd.C_up (Kd.R_reads' HO_3.out).2.2);(case side4 => exact (Kd.R_reads' HO_3.out).2.1);rintro e w' ⟨rfl,⟨nd,rfl⟩⟩;refine ⟨_,rfl,?_⟩))
             go_ret
             exact ⟨by first | rfl | (simp [errW_none,errW_some] <;> rfl) | (simp [*,errW_none,errW_some] <;> rfl),by repeat (first | (with_reducible first | exact HB.out | apply below_alloc | apply pw_below_drewN | apply below_drew1) | exact HB.out)⟩
        ·replace c81 := Bool.eq_false_iff.mpr c81
         subst c81
         have H1 : (some ((t348.length : Int) == 0)) = some r := by rw [if_neg (show ¬ (false = true) by decide)] at H;exact H
         clear H
         have H := H1
         clear H1
         obtain rfl := Option.some.inj H
         go_wp2_with (first | ((with_reducible refine gate_callee (f := 53) rfl ?_);refine goesL_ (some 111) rfl rfl Try.func53 (by kernel_rfl) rfl #[.int .i64 t329,.int .i64 (t328.length : Int)] rfl (by (try simp only [List.map_toArray,List.map_cons,List.map_nil]);first | done | rfl | (simp only [List.length_drop,List.length_take];rfl)) ?_;(with_reducible refine (impl_SizeOk.calls t329 (t328.length : Int) false _ A80.out).mono ?_);rintro e w' ⟨rfl,⟨nd,rfl⟩⟩;refine ⟨_,rfl,?_⟩;obtain ⟨Ao159,co159,eo159⟩ := Kd.R_slice HO_15.out;subst eo159))
         go_ret
         exact ⟨by first | rfl | (simp [errW_none,errW_some] <;> rfl) | (simp [*,errW_none,errW_some] <;> rfl),by repeat (first | (with_reducible first | exact HB.out | apply below_alloc | apply pw_below_drewN | apply below_drew1) | exact HB.out)⟩

/-- THE ONE PURE STATEMENT of laws_FnBlocks: yours. -/
def laws_FnBlocks.Pure : Prop := ∀ (l0 : List Int),l0.length ≤ maxLen → l0.length * 1 ≤ 140737488351232 → (∀ x ∈ l0,(Lit.int .u8 x).wf = true) → ∃ k,laws_FnBlocks.f k l0 = some true
theorem laws_FnBlocks.walk (P : laws_FnBlocks.Pure) (a0 : Option Addr) (len0 cap0 : Nat) (z0 : List Int) (w : World) (w0 : (a0 = none ∧ len0 = 0 ∧ cap0 = 0 ∧ z0 = []) ∨ ∃ x,a0 = some x ∧ len0 ≤ cap0 ∧ cap0 ≤ maxLen ∧ z0.length = cap0 ∧ (∀ i,i < z0.length → w.cell? (x.add i) = some (.int .u8 (z0.getD i 0))) ∧ ∀ n ∈ z0,(Lit.int .u8 n).wf = true) (y0 : len0 * 1 ≤ 140737488351232) :
  Calls Try.prog 11 #[.slice a0 len0 cap0] w fun e w' => e = .returned (.bool true) ∧ Below w.heap.size w w' := by
 obtain ⟨l0,rfl,hr0,hm0,hw0,hc0⟩ := ReadsInt.ofRowC w0
 obtain ⟨k,h⟩ := P l0 hm0 y0 hw0
 refine (laws_FnBlocks.calls k _ _ l0 true w (Kd.C_of_reads (d := (0 : Int)) (h1 := fun _ => rfl) hr0) hc0 h).mono ?_
 rintro e w' ⟨rfl,hd⟩
 exact ⟨rfl,hd⟩

end Go.Proofs.Ytfmhhjlhaklljaa.PFnBlocks
