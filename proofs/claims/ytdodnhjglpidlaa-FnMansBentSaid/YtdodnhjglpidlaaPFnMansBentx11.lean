-- by a program of this session (a turned copy of the print: make with a capacity)
import Derived.Test.YtdodnhjglpidlaaVMade2
import Derived.Test.YtdodnhjglpidlaaPFnMansBentx0
import Derived.Test.YtdodnhjglpidlaaPFnMansBentx2
import Derived.Test.YtdodnhjglpidlaaPFnMansBentx3
import Derived.Test.YtdodnhjglpidlaaPFnMansBentx4
import Derived.Test.YtdodnhjglpidlaaPFnMansBentx10
namespace Go.Proofs.Ytdodnhjglpidlaa.PFnMansBent
open Go.RowKit Go.Proofs.YtdodnhjglpidlaaW.PrintWords Go.Proofs.YtdodnhjglpidlaaW.PrintLast Go.Proofs.YtdodnhjglpidlaaW.PrintMore
attribute [local go_sem] max2_int min2_int max_two min_two max_three min_three max_four min_four   -- for this text's walks alone
set_option linter.unusedVariables false
set_option linter.unusedSimpArgs false

/-! ### spec_GetMan: function 7 -/
mutual
def spec_GetMan.j0 : Nat → List Int → Int → Int → Int → Int → Bool → Int → Int → Int → Option (Int × Int × Int × (List (S56)) × Int × Bool)
 | 0,_,_,_,_,_,_,_,_,_ => none
 | k + 1,x0,x8,x11,x14,x15,x56,x422000,x422001,x422002 => if x56 = true then (some (x422000,x422001,x422002,([] : List (S56)),0,false)) else (spec_GetMan.l0 k x0 x8 x11 x14 x15 0 x422000 x422001 x422002 x8 x11 x14 ([] : List (S56)))
def spec_GetMan.l0 : Nat → List Int → Int → Int → Int → Int → Int → Int → Int → Int → Int → Int → Int → List (S56) → Option (Int × Int × Int × (List (S56)) × Int × Bool)
 | 0,_,_,_,_,_,_,_,_,_,_,_,_,_ => none
 | k + 1,x0,x8,x11,x14,x15,x18,x422000,x422001,x422002,x432000,x432001,x432002,x432003 => (spec_Blocks.f x11 x14).bind fun t432 => (if x18 < t432 then (spec_GetMan.j2 k x0 x8 x11 x14 x15 x18 (decide (x8 > 0)) x422000 x422001 x422002 x432000 x432001 x432002 x432003) else (spec_GetMan.j2 k x0 x8 x11 x14 x15 x18 false x422000 x422001 x422002 x432000 x432001 x432002 x432003))
def spec_GetMan.j2 : Nat → List Int → Int → Int → Int → Int → Int → Bool → Int → Int → Int → Int → Int → Int → List (S56) → Option (Int × Int × Int × (List (S56)) × Int × Bool)
 | 0,_,_,_,_,_,_,_,_,_,_,_,_,_,_ => none
 | k + 1,x0,x8,x11,x14,x15,x18,x70,x422000,x422001,x422002,x432000,x432001,x432002,x432003 => if x70 = true then ((spec_l6GetSum.f k x0 x15).bind fun bt434 => (if bt434.2.2 = true then ((spec_BytesOf.f k bt434.1).bind fun bt437 => ((spec_SumOf.f k bt437.1).bind fun bt441 => (if x432003.length < 8796093022208 then (spec_GetMan.l0 k x0 x8 x11 x14 bt434.2.1 (wrap64 (x18 + 1)) x422000 x422001 x422002 x432000 x432001 x432002 (x432003 ++ [(⟨bt441.1,bt434.1⟩ : S56)])) else (none)))) else (some (x422000,x422001,x422002,([] : List (S56)),0,false)))) else ((spec_ManOk.f k x432000 x432001 x432002 x432003).bind fun t433 => (if t433 = true then (some (x432000,x432001,x432002,x432003,x15,true)) else (some (x422000,x422001,x422002,([] : List (S56)),0,false))))
end
def spec_GetMan.f (k : Nat) (l0 : List Int) (a1 : Int) : Option (Int × Int × Int × (List (S56)) × Int × Bool) := (spec_GetVar.f k l0 a1).bind fun bt422 => ((spec_GetVar.f k l0 bt422.2.1).bind fun bt425 => ((spec_GetVar.f k l0 bt425.2.1).bind fun bt428 => (if bt422.2.2 = true then (if bt425.2.2 = true then (spec_GetMan.j0 k l0 bt422.1 bt425.1 bt428.1 bt428.2.1 (!bt428.2.2) 0 0 0) else (spec_GetMan.j0 k l0 bt422.1 bt425.1 bt428.1 bt428.2.1 true 0 0 0)) else (spec_GetMan.j0 k l0 bt422.1 bt425.1 bt428.1 bt428.2.1 true 0 0 0))))
theorem spec_GetMan.mono_l : ∀ k,(∀ y0 y1 y2 y3 y4 y5 y6 y7 y8,LeO (spec_GetMan.j0 k y0 y1 y2 y3 y4 y5 y6 y7 y8) (spec_GetMan.j0 (k + 1) y0 y1 y2 y3 y4 y5 y6 y7 y8)) ∧ (∀ y0 y1 y2 y3 y4 y5 y6 y7 y8 y9 y10 y11 y12,LeO (spec_GetMan.l0 k y0 y1 y2 y3 y4 y5 y6 y7 y8 y9 y10 y11 y12) (spec_GetMan.l0 (k + 1) y0 y1 y2 y3 y4 y5 y6 y7 y8 y9 y10 y11 y12)) ∧ (∀ y0 y1 y2 y3 y4 y5 y6 y7 y8 y9 y10 y11 y12 y13,LeO (spec_GetMan.j2 k y0 y1 y2 y3 y4 y5 y6 y7 y8 y9 y10 y11 y12 y13) (spec_GetMan.j2 (k + 1) y0 y1 y2 y3 y4 y5 y6 y7 y8 y9 y10 y11 y12 y13))
 | 0 => ⟨fun _ _ _ _ _ _ _ _ _ r h => by simp [spec_GetMan.j0] at h,fun _ _ _ _ _ _ _ _ _ _ _ _ _ r h => by simp [spec_GetMan.l0] at h,fun _ _ _ _ _ _ _ _ _ _ _ _ _ _ r h => by simp [spec_GetMan.j2] at h⟩
 | k + 1 => by
  obtain ⟨ih0,ih1,ih2⟩ := spec_GetMan.mono_l k
  refine ⟨?_,?_,?_⟩
  ·intro y0 y1 y2 y3 y4 y5 y6 y7 y8
   unfold spec_GetMan.j0
   repeat' first
   | (with_reducible exact ih0 _ _ _ _ _ _ _ _ _)
   | (with_reducible exact ih1 _ _ _ _ _ _ _ _ _ _ _ _ _)
   | (with_reducible exact ih2 _ _ _ _ _ _ _ _ _ _ _ _ _ _)
   | (with_reducible exact spec_BytesOf.mono _ _)
   | (with_reducible exact spec_GetVar.mono _ _ _)
   | (with_reducible exact spec_ManOk.mono _ _ _ _ _)
   | (with_reducible exact spec_SumOf.mono _ _)
   | (with_reducible exact spec_l6GetSum.mono _ _ _)
   | (with_reducible exact LeO.refl _)
   | (with_reducible exact LeO.none _)
   | (with_reducible refine LeO.ite ?_ ?_)
   | (with_reducible refine LeO.bind ?_ (fun _ => ?_))
   | exact ih0 _ _ _ _ _ _ _ _ _
   | exact ih1 _ _ _ _ _ _ _ _ _ _ _ _ _
   | exact ih2 _ _ _ _ _ _ _ _ _ _ _ _ _ _
   | exact spec_BytesOf.mono _ _
   | exact spec_GetVar.mono _ _ _
   | exact spec_ManOk.mono _ _ _ _ _
   | exact spec_SumOf.mono _ _
   | exact spec_l6GetSum.mono _ _ _
   | exact LeO.none _
   | refine LeO.ite ?_ ?_
   | refine LeO.bind ?_ (fun _ => ?_)
  ·intro y0 y1 y2 y3 y4 y5 y6 y7 y8 y9 y10 y11 y12
   unfold spec_GetMan.l0
   repeat' first
   | (with_reducible exact ih0 _ _ _ _ _ _ _ _ _)
   | (with_reducible exact ih1 _ _ _ _ _ _ _ _ _ _ _ _ _)
   | (with_reducible exact ih2 _ _ _ _ _ _ _ _ _ _ _ _ _ _)
   | (with_reducible exact spec_BytesOf.mono _ _)
   | (with_reducible exact spec_GetVar.mono _ _ _)
   | (with_reducible exact spec_ManOk.mono _ _ _ _ _)
   | (with_reducible exact spec_SumOf.mono _ _)
   | (with_reducible exact spec_l6GetSum.mono _ _ _)
   | (with_reducible exact LeO.refl _)
   | (with_reducible exact LeO.none _)
   | (with_reducible refine LeO.ite ?_ ?_)
   | (with_reducible refine LeO.bind ?_ (fun _ => ?_))
   | exact ih0 _ _ _ _ _ _ _ _ _
   | exact ih1 _ _ _ _ _ _ _ _ _ _ _ _ _
   | exact ih2 _ _ _ _ _ _ _ _ _ _ _ _ _ _
   | exact spec_BytesOf.mono _ _
   | exact spec_GetVar.mono _ _ _
   | exact spec_ManOk.mono _ _ _ _ _
   | exact spec_SumOf.mono _ _
   | exact spec_l6GetSum.mono _ _ _
   | exact LeO.none _
   | refine LeO.ite ?_ ?_
   | refine LeO.bind ?_ (fun _ => ?_)
  ·intro y0 y1 y2 y3 y4 y5 y6 y7 y8 y9 y10 y11 y12 y13
   unfold spec_GetMan.j2
   repeat' first
   | (with_reducible exact ih0 _ _ _ _ _ _ _ _ _)
   | (with_reducible exact ih1 _ _ _ _ _ _ _ _ _ _ _ _ _)
   | (with_reducible exact ih2 _ _ _ _ _ _ _ _ _ _ _ _ _ _)
   | (with_reducible exact spec_BytesOf.mono _ _)
   | (with_reducible exact spec_GetVar.mono _ _ _)
   | (with_reducible exact spec_ManOk.mono _ _ _ _ _)
   | (with_reducible exact spec_SumOf.mono _ _)
   | (with_reducible exact spec_l6GetSum.mono _ _ _)
   | (with_reducible exact LeO.refl _)
   | (with_reducible exact LeO.none _)
   | (with_reducible refine LeO.ite ?_ ?_)
   | (with_reducible refine LeO.bind ?_ (fun _ => ?_))
   | exact ih0 _ _ _ _ _ _ _ _ _
   | exact ih1 _ _ _ _ _ _ _ _ _ _ _ _ _
   | exact ih2 _ _ _ _ _ _ _ _ _ _ _ _ _ _
   | exact spec_BytesOf.mono _ _
   | exact spec_GetVar.mono _ _ _
   | exact spec_ManOk.mono _ _ _ _ _
   | exact spec_SumOf.mono _ _
   | exact spec_l6GetSum.mono _ _ _
   | exact LeO.none _
   | refine LeO.ite ?_ ?_
   | refine LeO.bind ?_ (fun _ => ?_)
theorem spec_GetMan.mono : ∀ a0 a1 k,LeO (spec_GetMan.f k a0 a1) (spec_GetMan.f (k + 1) a0 a1) := by
 intro a0 a1 k
 obtain ⟨ih0,ih1,ih2⟩ := spec_GetMan.mono_l k
 unfold spec_GetMan.f
 repeat' first
   | (with_reducible exact ih0 _ _ _ _ _ _ _ _ _)
   | (with_reducible exact ih1 _ _ _ _ _ _ _ _ _ _ _ _ _)
   | (with_reducible exact ih2 _ _ _ _ _ _ _ _ _ _ _ _ _ _)
   | (with_reducible exact spec_BytesOf.mono _ _)
   | (with_reducible exact spec_GetVar.mono _ _ _)
   | (with_reducible exact spec_ManOk.mono _ _ _ _ _)
   | (with_reducible exact spec_SumOf.mono _ _)
   | (with_reducible exact spec_l6GetSum.mono _ _ _)
   | (with_reducible exact LeO.refl _)
   | (with_reducible exact LeO.none _)
   | (with_reducible refine LeO.ite ?_ ?_)
   | (with_reducible refine LeO.bind ?_ (fun _ => ?_))
   | exact ih0 _ _ _ _ _ _ _ _ _
   | exact ih1 _ _ _ _ _ _ _ _ _ _ _ _ _
   | exact ih2 _ _ _ _ _ _ _ _ _ _ _ _ _ _
   | exact spec_BytesOf.mono _ _
   | exact spec_GetVar.mono _ _ _
   | exact spec_ManOk.mono _ _ _ _ _
   | exact spec_SumOf.mono _ _
   | exact spec_l6GetSum.mono _ _ _
   | exact LeO.none _
   | refine LeO.ite ?_ ?_
   | refine LeO.bind ?_ (fun _ => ?_)
set_option maxHeartbeats 8000000 in
set_option maxRecDepth 100000 in
theorem spec_GetMan.calls (k : Nat) (A0 : Option Addr) (c0 : Nat) (l0 : List Int) (a1 : Int) (r1 : Int) (r2 : Int) (r3 : Int) (r4 : List (S56)) (r5 : Int) (r6 : Bool) (w : World) (hr0 : Kd.C (Kd.int .u8) w A0 l0.length l0) (hc0 : l0.length ≤ c0) (h : spec_GetMan.f k l0 a1 = some (r1,r2,r3,r4,r5,r6)) :
  Calls Try.prog 7 #[.slice A0 l0.length c0,.int .i64 a1] w fun e w' => ∃ v3_ : Value,e = .returned (.tuple #[.agg #[.int .i64 r1,.int .i64 r2,.int .i64 r3,v3_],.int .i64 r5,.bool r6]) ∧ Kd.R k56 56 w' w.heap.size (fun _ => True) v3_ r4 ∧ Below w.heap.size w w' := by
 have hu28 := Try.underlying28
 have hu56 := Try.underlying56
 have hf56_0 : ∀ (a_ b_ : Int) (W_ : World),(Instr.field 56 (.agg #[.int .i64 a_,.int .i64 b_]) 0).run Try.prog W_ = .ok (.int .i64 a_) W_ := fun _ _ _ => by kernel_rfl
 have hf56_1 : ∀ (a_ b_ : Int) (W_ : World),(Instr.field 56 (.agg #[.int .i64 a_,.int .i64 b_]) 1).run Try.prog W_ = .ok (.int .i64 b_) W_ := fun _ _ _ => by kernel_rfl
 have HR0 := Mk hr0
 have HC0 := Mk hc0
 clear hr0 hc0
 have HB := Mk (Below.refl w.heap.size w)
 have H : ((spec_GetVar.f k l0 a1).bind fun bt422 => ((spec_GetVar.f k l0 bt422.2.1).bind fun bt425 => ((spec_GetVar.f k l0 bt425.2.1).bind fun bt428 => (if bt422.2.2 = true then (if bt425.2.2 = true then (spec_GetMan.j0 k l0 bt422.1 bt425.1 bt428.1 bt428.2.1 (!bt428.2.2) 0 0 0) else (spec_GetMan.j0 k l0 bt422.1 bt425.1 bt428.1 bt428.2.1 true 0 0 0)) else (spec_GetMan.j0 k l0 bt422.1 bt425.1 bt428.1 bt428.2.1 true 0 0 0))))) = some (r1,r2,r3,r4,r5,r6) := h
 clear h
 replace H := bsm H
 obtain ⟨⟨t422,t423,t424⟩,A3,H⟩ := H
 (try dsimp only at H)
 replace H := bsm H
 obtain ⟨⟨t425,t426,t427⟩,A4,H⟩ := H
 (try dsimp only at H)
 replace H := bsm H
 obtain ⟨⟨t428,t429,t430⟩,A5,H⟩ := H
 (try dsimp only at H)
 have HC6 := Mk H
 clear H
 have htw_ : ∀ (w_ : World) (a_ : Addr) (u_ v_ : Value),(w_.cell? a_).isSome = true → ((w_.setCell a_ u_).setCell a_ v_).cell? a_ = some v_ := fun w_ a_ u_ v_ h_ => World.cell?_setCell_same' _ a_ v_ (by rw [World.cell?_setCell_same' w_ a_ u_ h_];rfl)
 go_enter Try.func7,Try.ntmps7
 go_upto_region 5 with (first | ((with_reducible refine gate_dst (N := 4) rfl ?_);refine box_event ?hg (N := 4) ?hd (cs := #[.int .i64 0,.int .i64 0,.int .i64 0,.slice none 0 0]) (t := 28) ?hr ?_;(case hd => rfl);(case hg => rfl);(case hr => first | (go_simp;done) | (go_simp;rfl));intro gb420 hg w7 hbox hb;have BK420 := Mk (hbox);have GW420 := Mk ((by rw [hg];exact (below_size (B_up HB.out)) : w.heap.size ≤ gb420));have GE420 := Mk ((by rw [hg];exact (below_size (B_up HB.out)) : w.heap.size ≤ gb420));replace HB := Mk (below_step (B_up HB.out) hb);clear hb hbox hg) | ((with_reducible refine gate_dst (N := 7) rfl ?_);refine box_event ?hg (N := 7) ?hd (cs := #[.int .i64 0,.int .i64 0,.int .i64 0,.slice none 0 0]) (t := 28) ?hr ?_;(case hd => rfl);(case hg => rfl);(case hr => first | (go_simp;done) | (go_simp;rfl));intro gb421 hg w8 hbox hb;have BK421 := Mk (hbox);have GW421 := Mk ((by rw [hg];exact (below_size (B_set HB.out)) : w.heap.size ≤ gb421));have GE421 := Mk ((by rw [hg];exact (below_size (B_set HB.out)) : w.heap.size ≤ gb421));replace HB := Mk (below_step (B_set HB.out) hb);have NB420_421 := Mk ((by rw [hg];exact Nat.ne_of_lt (blk_lt (blk_up BK420.out)) : gb420 ≠ gb421));have NB421_420 := Mk ((by rw [hg];exact Nat.ne_of_gt (blk_lt (blk_up BK420.out)) : gb421 ≠ gb420));replace BK420 := Mk (blk_below (blk_up BK420.out) hb);clear hb hbox hg;have hnb9 := NB421_420.out;have hnc9 := NB420_421.out;obtain ⟨hcz10_0,hcz10_1,hcz10_2,hcz10_3⟩ := cz4 BK421.out;obtain ⟨hfz10_0,hfz10_1,hfz10_2,hfz10_3⟩ := fz4 BK421.out) | ((with_reducible refine gate_callee (f := 29) rfl ?_);refine goesL_ (some 29) rfl rfl Try.func29 (by kernel_rfl) rfl #[.slice A0 l0.length c0,.int .i64 a1] rfl eq_up ?_;(with_reducible refine (spec_GetVar.calls k _ _ l0 a1 t422 t423 t424 _ ?side1 ?side2 A3.out).mono ?_);(case side1 => exact Kd.C_below HR0.out (B_set HB.out));(case side2 => exact HC0.out);rintro e w' ⟨rfl,⟨nd,rfl⟩⟩;refine ⟨_,rfl,?_⟩) | ((with_reducible refine gate_callee (f := 29) rfl ?_);refine goesL_ (some 36) rfl rfl Try.func29 (by kernel_rfl) rfl #[.slice A0 l0.length c0,.int .i64 t423] rfl eq_up ?_;(with_reducible refine (spec_GetVar.calls k _ _ l0 t423 t425 t426 t427 _ ?side1 ?side2 A4.out).mono ?_);(case side1 => exact Kd.C_below HR0.out (B_set HB.out));(case side2 => exact HC0.out);rintro e w' ⟨rfl,⟨nd,rfl⟩⟩;refine ⟨_,rfl,?_⟩) | ((with_reducible refine gate_callee (f := 29) rfl ?_);refine goesL_ (some 43) rfl rfl Try.func29 (by kernel_rfl) rfl #[.slice A0 l0.length c0,.int .i64 t426] rfl eq_up ?_;(with_reducible refine (spec_GetVar.calls k _ _ l0 t426 t428 t429 t430 _ ?side1 ?side2 A5.out).mono ?_);(case side1 => exact Kd.C_below HR0.out (B_set HB.out));(case side2 => exact HC0.out);rintro e w' ⟨rfl,⟨nd,rfl⟩⟩;refine ⟨_,rfl,?_⟩))
 (try simp only [Act.put,List.setIfInBounds_toArray,List.set_cons_zero,List.set_cons_succ])
 go_cut [56] (fun v56 wc => ∃ (kq : Nat) (x56_5 : Bool),v56 = .bool x56_5 ∧ Aside0 (spec_GetMan.j0 kq l0 t422 t425 t428 t429 x56_5 0 0 0 = some (r1,r2,r3,r4,r5,r6)) ∧ Aside0 (kq ≤ k) ∧ Aside0 (wc.heap[gb420]? = some (.cells #[.int .i64 0,.int .i64 0,.int .i64 0,(.slice none 0 0)] 28 (0,0))) ∧ Aside0 (wc.heap[gb421]? = some (.cells #[.int .i64 0,.int .i64 0,.int .i64 0,(.slice none 0 0)] 28 (0,0))) ∧ Aside0 (Below w.heap.size w wc))
 case first =>
  have H := HC6.out
  clear HC6
  by_cases c11 : t424 = true
  ·subst c11
   rw [if_pos rfl] at H
   by_cases c12 : t427 = true
   ·subst c12
    rw [if_pos rfl] at H
    have H' := Mk H
    clear H
    go_wp2
    go_meet
    case rel => exact ⟨_,(!t430),eqs_,H',⟨by first | omega | exact Nat.le_refl _⟩,⟨by (with_reducible repeat (first | refine blk_drewN ?_ _ | refine blk_drew ?_ | refine blk_alloc ?_ _));refine blk_far ?_ NB420_421.out _;(with_reducible repeat (first | refine blk_drewN ?_ _ | refine blk_drew ?_ | refine blk_alloc ?_ _));refine blk_far ?_ NB420_421.out _;(with_reducible repeat (first | refine blk_drewN ?_ _ | refine blk_drew ?_ | refine blk_alloc ?_ _));refine blk_far ?_ NB420_421.out _;(with_reducible repeat (first | refine blk_drewN ?_ _ | refine blk_drew ?_ | refine blk_alloc ?_ _));refine blk_far ?_ NB420_421.out _;(with_reducible repeat (first | refine blk_drewN ?_ _ | refine blk_drew ?_ | refine blk_alloc ?_ _));exact BK420.out⟩,⟨by (with_reducible repeat (first | refine blk_drewN ?_ _ | refine blk_drew ?_ | refine blk_alloc ?_ _));refine blk_put (cs := #[.int .i64 0,.int .i64 0,.int .i64 0,.slice none 0 0]) ?_ 3 _ rfl;(with_reducible repeat (first | refine blk_drewN ?_ _ | refine blk_drew ?_ | refine blk_alloc ?_ _));refine blk_put (cs := #[.int .i64 0,.int .i64 0,.int .i64 0,.slice none 0 0]) ?_ 2 _ rfl;(with_reducible repeat (first | refine blk_drewN ?_ _ | refine blk_drew ?_ | refine blk_alloc ?_ _));refine blk_put (cs := #[.int .i64 0,.int .i64 0,.int .i64 0,.slice none 0 0]) ?_ 1 _ rfl;(with_reducible repeat (first | refine blk_drewN ?_ _ | refine blk_drew ?_ | refine blk_alloc ?_ _));refine blk_put (cs := #[.int .i64 0,.int .i64 0,.int .i64 0,.slice none 0 0]) ?_ 0 _ rfl;(with_reducible repeat (first | refine blk_drewN ?_ _ | refine blk_drew ?_ | refine blk_alloc ?_ _));exact BK421.out⟩,⟨B_set HB.out⟩⟩
   ·replace c12 := Bool.eq_false_iff.mpr c12
    subst c12
    have H1 : (spec_GetMan.j0 k l0 t422 t425 t428 t429 true 0 0 0) = some (r1,r2,r3,r4,r5,r6) := by rw [if_neg (show ¬ (false = true) by decide)] at H;exact H
    clear H
    have H := H1
    clear H1
    have H' := Mk H
    clear H
    go_wp2
    go_meet
    case rel => exact ⟨_,(true),eqs_,H',⟨by first | omega | exact Nat.le_refl _⟩,⟨by (with_reducible repeat (first | refine blk_drewN ?_ _ | refine blk_drew ?_ | refine blk_alloc ?_ _));refine blk_far ?_ NB420_421.out _;(with_reducible repeat (first | refine blk_drewN ?_ _ | refine blk_drew ?_ | refine blk_alloc ?_ _));refine blk_far ?_ NB420_421.out _;(with_reducible repeat (first | refine blk_drewN ?_ _ | refine blk_drew ?_ | refine blk_alloc ?_ _));refine blk_far ?_ NB420_421.out _;(with_reducible repeat (first | refine blk_drewN ?_ _ | refine blk_drew ?_ | refine blk_alloc ?_ _));refine blk_far ?_ NB420_421.out _;(with_reducible repeat (first | refine blk_drewN ?_ _ | refine blk_drew ?_ | refine blk_alloc ?_ _));exact BK420.out⟩,⟨by (with_reducible repeat (first | refine blk_drewN ?_ _ | refine blk_drew ?_ | refine blk_alloc ?_ _));refine blk_put (cs := #[.int .i64 0,.int .i64 0,.int .i64 0,.slice none 0 0]) ?_ 3 _ rfl;(with_reducible repeat (first | refine blk_drewN ?_ _ | refine blk_drew ?_ | refine blk_alloc ?_ _));refine blk_put (cs := #[.int .i64 0,.int .i64 0,.int .i64 0,.slice none 0 0]) ?_ 2 _ rfl;(with_reducible repeat (first | refine blk_drewN ?_ _ | refine blk_drew ?_ | refine blk_alloc ?_ _));refine blk_put (cs := #[.int .i64 0,.int .i64 0,.int .i64 0,.slice none 0 0]) ?_ 1 _ rfl;(with_reducible repeat (first | refine blk_drewN ?_ _ | refine blk_drew ?_ | refine blk_alloc ?_ _));refine blk_put (cs := #[.int .i64 0,.int .i64 0,.int .i64 0,.slice none 0 0]) ?_ 0 _ rfl;(with_reducible repeat (first | refine blk_drewN ?_ _ | refine blk_drew ?_ | refine blk_alloc ?_ _));exact BK421.out⟩,⟨B_set HB.out⟩⟩
  ·replace c11 := Bool.eq_false_iff.mpr c11
   subst c11
   have H1 : (spec_GetMan.j0 k l0 t422 t425 t428 t429 true 0 0 0) = some (r1,r2,r3,r4,r5,r6) := by rw [if_neg (show ¬ (false = true) by decide)] at H;exact H
   clear H
   have H := H1
   clear H1
   have H' := Mk H
   clear H
   go_wp2
   go_meet
   case rel => exact ⟨_,(true),eqs_,H',⟨by first | omega | exact Nat.le_refl _⟩,⟨by (with_reducible repeat (first | refine blk_drewN ?_ _ | refine blk_drew ?_ | refine blk_alloc ?_ _));refine blk_far ?_ NB420_421.out _;(with_reducible repeat (first | refine blk_drewN ?_ _ | refine blk_drew ?_ | refine blk_alloc ?_ _));refine blk_far ?_ NB420_421.out _;(with_reducible repeat (first | refine blk_drewN ?_ _ | refine blk_drew ?_ | refine blk_alloc ?_ _));refine blk_far ?_ NB420_421.out _;(with_reducible repeat (first | refine blk_drewN ?_ _ | refine blk_drew ?_ | refine blk_alloc ?_ _));refine blk_far ?_ NB420_421.out _;(with_reducible repeat (first | refine blk_drewN ?_ _ | refine blk_drew ?_ | refine blk_alloc ?_ _));exact BK420.out⟩,⟨by (with_reducible repeat (first | refine blk_drewN ?_ _ | refine blk_drew ?_ | refine blk_alloc ?_ _));refine blk_put (cs := #[.int .i64 0,.int .i64 0,.int .i64 0,.slice none 0 0]) ?_ 3 _ rfl;(with_reducible repeat (first | refine blk_drewN ?_ _ | refine blk_drew ?_ | refine blk_alloc ?_ _));refine blk_put (cs := #[.int .i64 0,.int .i64 0,.int .i64 0,.slice none 0 0]) ?_ 2 _ rfl;(with_reducible repeat (first | refine blk_drewN ?_ _ | refine blk_drew ?_ | refine blk_alloc ?_ _));refine blk_put (cs := #[.int .i64 0,.int .i64 0,.int .i64 0,.slice none 0 0]) ?_ 1 _ rfl;(with_reducible repeat (first | refine blk_drewN ?_ _ | refine blk_drew ?_ | refine blk_alloc ?_ _));refine blk_put (cs := #[.int .i64 0,.int .i64 0,.int .i64 0,.slice none 0 0]) ?_ 0 _ rfl;(with_reducible repeat (first | refine blk_drewN ?_ _ | refine blk_drew ?_ | refine blk_alloc ?_ _));exact BK421.out⟩,⟨B_set HB.out⟩⟩
 case rest =>
  clear HC6
  try clear c1
  try clear c2
  try clear p2
  try clear c7
  try clear c9
  try clear c11
  try clear c12
  try clear hcz10_0
  try clear hcz10_1
  try clear hcz10_2
  try clear hcz10_3
  try clear hfz10_0
  try clear hfz10_1
  try clear hfz10_2
  try clear hfz10_3
  obtain ⟨kq,x56_5,rfl,HA,HJ5,BK420,BK421,HB⟩ := hcut
  cases kq with
  | zero => exact absurd HA.out (by simp [spec_GetMan.j0])
  | succ kj5 =>
   have H := HA.out
   clear HA
   simp only [spec_GetMan.j0] at H
   by_cases c13 : x56_5 = true
   ·subst c13
    rw [if_pos rfl] at H
    simp only [Option.some.injEq,Prod.mk.injEq] at H
    obtain ⟨rfl,rfl,rfl,rfl,rfl,rfl⟩ := H
    have hnb14 := NB421_420.out
    have hnc14 := NB420_421.out
    obtain ⟨hcz15_0,hcz15_1,hcz15_2,hcz15_3⟩ := cz4 BK421.out
    obtain ⟨hfz15_0,hfz15_1,hfz15_2,hfz15_3⟩ := fz4 BK421.out
    obtain ⟨hcz16_0,hcz16_1,hcz16_2,hcz16_3⟩ := cz4 BK420.out
    obtain ⟨hfz16_0,hfz16_1,hfz16_2,hfz16_3⟩ := fz4 BK420.out
    go_wp2
    refine bodyPost_ret (results_ctt rfl _ _ gb420 28 #[.int .i64 0,.int .i64 0,.int .i64 0,.slice none 0 0] (0,0) _ rfl (by (with_reducible repeat (first | refine blk_drewN ?_ _ | refine blk_drew ?_ | refine blk_alloc ?_ _));refine blk_put (cs := #[.int .i64 0,.int .i64 0,.int .i64 0,.slice none 0 0]) ?_ 3 _ rfl;(with_reducible repeat (first | refine blk_drewN ?_ _ | refine blk_drew ?_ | refine blk_alloc ?_ _));refine blk_put (cs := #[.int .i64 0,.int .i64 0,.int .i64 0,.slice none 0 0]) ?_ 2 _ rfl;(with_reducible repeat (first | refine blk_drewN ?_ _ | refine blk_drew ?_ | refine blk_alloc ?_ _));refine blk_put (cs := #[.int .i64 0,.int .i64 0,.int .i64 0,.slice none 0 0]) ?_ 1 _ rfl;(with_reducible repeat (first | refine blk_drewN ?_ _ | refine blk_drew ?_ | refine blk_alloc ?_ _));refine blk_put (cs := #[.int .i64 0,.int .i64 0,.int .i64 0,.slice none 0 0]) ?_ 0 _ rfl;(with_reducible repeat (first | refine blk_drewN ?_ _ | refine blk_drew ?_ | refine blk_alloc ?_ _));exact BK420.out) Try.underlying28 rfl (by kernel_rfl)) rfl ?_
    exact ⟨_,err_,by first | exact Kd.R_nil _ _ _ _ _ | exact Kd.N_nil _ _ _ _ _ | exact Kd.V_nil _ _ _ _ _ | exact Kd.Q_nil _ _ _ _ _ | exact Kd.S_nil _ _ _ _ _,B_set HB.out⟩
   ·replace c13 := Bool.eq_false_iff.mpr c13
    subst c13
    have H1 : (spec_GetMan.l0 kj5 l0 t422 t425 t428 t429 0 0 0 0 t422 t425 t428 ([] : List (S56))) = some (r1,r2,r3,r4,r5,r6) := by rw [if_neg (show ¬ (false = true) by decide)] at H;exact H
    clear H
    have H := H1
    clear H1
    have H' := Mk H
    clear H
    go_wp2_with (first | ((with_reducible refine gate_dst (N := 17) rfl ?_);refine box_event ?hg (N := 17) ?hd (cs := #[.int .i64 0,.int .i64 0,.int .i64 0,.slice none 0 0]) (t := 28) ?hr ?_;(case hd => rfl);(case hg => rfl);(case hr => first | (go_simp;done) | (go_simp;rfl));intro gb431 hg w17 hbox hb;have BK431 := Mk (hbox);have GW431 := Mk ((by rw [hg];exact (below_size (B_set HB.out)) : w.heap.size ≤ gb431));have GE431 := Mk ((by rw [hg];exact (below_size (B_set HB.out)) : w.heap.size ≤ gb431));replace HB := Mk (below_step (B_set HB.out) hb);have NB420_431 := Mk ((by rw [hg];exact Nat.ne_of_lt (blk_lt (blk_up BK420.out)) : gb420 ≠ gb431));have NB431_420 := Mk ((by rw [hg];exact Nat.ne_of_gt (blk_lt (blk_up BK420.out)) : gb431 ≠ gb420));replace BK420 := Mk (blk_below (blk_up BK420.out) hb);have NB421_431 := Mk ((by rw [hg];exact Nat.ne_of_lt (blk_lt (blk_up BK421.out)) : gb421 ≠ gb431));have NB431_421 := Mk ((by rw [hg];exact Nat.ne_of_gt (blk_lt (blk_up BK421.out)) : gb431 ≠ gb421));replace BK421 := Mk (blk_below (blk_up BK421.out) hb);clear hb hbox hg;have hnb18 := NB431_420.out;have hnc18 := NB420_431.out;have hnb19 := NB431_421.out;have hnc19 := NB421_431.out;obtain ⟨hcz20_0,hcz20_1,hcz20_2,hcz20_3⟩ := cz4 BK431.out;obtain ⟨hfz20_0,hfz20_1,hfz20_2,hfz20_3⟩ := fz4 BK431.out))
    go_loopg [15,18] kj5 (fun kq v15 v18 w' => ∃ (x15_2 : Int) (x18_2 : Int) (x421000_2 : Int) (x421001_2 : Int) (x421002_2 : Int) (x432003_2 : List (S56)) (u432003 : Value),v15 = .int .i64 x15_2 ∧ v18 = .int .i64 x18_2 ∧ Aside0 (spec_GetMan.l0 kq l0 t422 t425 t428 x15_2 x18_2 0 0 0 t422 t425 t428 x432003_2 = some (r1,r2,r3,r4,r5,r6)) ∧ Aside0 (kq ≤ kj5) ∧ Aside0 (Kd.R k56 56 w' w.heap.size (fun _ => True) u432003 x432003_2) ∧ Aside0 (w'.heap[gb420]? = some (.cells #[.int .i64 x421000_2,.int .i64 x421001_2,.int .i64 x421002_2,(.slice none 0 0)] 28 (0,0))) ∧ Aside0 (w'.heap[gb421]? = some (.cells #[.int .i64 0,.int .i64 0,.int .i64 0,(.slice none 0 0)] 28 (0,0))) ∧ Aside0 (w'.heap[gb431]? = some (.cells #[.int .i64 t422,.int .i64 t425,.int .i64 t428,u432003] 28 (0,0))) ∧ Aside0 (Below w.heap.size w w'))
    case atStart => exact ⟨(t429),(0),(0),(0),(0),(([] : List (S56))),(.slice none 0 0),eqs_,eqs_,H',⟨Nat.le_refl _⟩,⟨by first | exact Kd.R_nil _ _ _ _ _ | exact Kd.N_nil _ _ _ _ _ | exact Kd.V_nil _ _ _ _ _ | exact Kd.Q_nil _ _ _ _ _ | exact Kd.S_nil _ _ _ _ _⟩,⟨by (with_reducible repeat (first | refine blk_drewN ?_ _ | refine blk_drew ?_ | refine blk_alloc ?_ _));refine blk_far ?_ NB420_431.out _;(with_reducible repeat (first | refine blk_drewN ?_ _ | refine blk_drew ?_ | refine blk_alloc ?_ _));refine blk_far ?_ NB420_431.out _;(with_reducible repeat (first | refine blk_drewN ?_ _ | refine blk_drew ?_ | refine blk_alloc ?_ _));refine blk_far ?_ NB420_431.out _;(with_reducible repeat (first | refine blk_drewN ?_ _ | refine blk_drew ?_ | refine blk_alloc ?_ _));refine blk_far ?_ NB420_431.out _;(with_reducible repeat (first | refine blk_drewN ?_ _ | refine blk_drew ?_ | refine blk_alloc ?_ _));exact BK420.out⟩,⟨by (with_reducible repeat (first | refine blk_drewN ?_ _ | refine blk_drew ?_ | refine blk_alloc ?_ _));refine blk_far ?_ NB421_431.out _;(with_reducible repeat (first | refine blk_drewN ?_ _ | refine blk_drew ?_ | refine blk_alloc ?_ _));refine blk_far ?_ NB421_431.out _;(with_reducible repeat (first | refine blk_drewN ?_ _ | refine blk_drew ?_ | refine blk_alloc ?_ _));refine blk_far ?_ NB421_431.out _;(with_reducible repeat (first | refine blk_drewN ?_ _ | refine blk_drew ?_ | refine blk_alloc ?_ _));refine blk_far ?_ NB421_431.out _;(with_reducible repeat (first | refine blk_drewN ?_ _ | refine blk_drew ?_ | refine blk_alloc ?_ _));exact BK421.out⟩,⟨by (with_reducible repeat (first | refine blk_drewN ?_ _ | refine blk_drew ?_ | refine blk_alloc ?_ _));refine blk_put (cs := #[.int .i64 t422,.int .i64 t425,.int .i64 t428,.slice none 0 0]) ?_ 3 _ rfl;(with_reducible repeat (first | refine blk_drewN ?_ _ | refine blk_drew ?_ | refine blk_alloc ?_ _));refine blk_put (cs := #[.int .i64 t422,.int .i64 t425,.int .i64 0,.slice none 0 0]) ?_ 2 _ rfl;(with_reducible repeat (first | refine blk_drewN ?_ _ | refine blk_drew ?_ | refine blk_alloc ?_ _));refine blk_put (cs := #[.int .i64 t422,.int .i64 0,.int .i64 0,.slice none 0 0]) ?_ 1 _ rfl;(with_reducible repeat (first | refine blk_drewN ?_ _ | refine blk_drew ?_ | refine blk_alloc ?_ _));refine blk_put (cs := #[.int .i64 0,.int .i64 0,.int .i64 0,.slice none 0 0]) ?_ 0 _ rfl;(with_reducible repeat (first | refine blk_drewN ?_ _ | refine blk_drew ?_ | refine blk_alloc ?_ _));exact BK431.out⟩,⟨B_set HB.out⟩⟩
    case round =>
     clear H'
     try clear c1
     try clear c2
     try clear p2
     try clear c7
     try clear c9
     try clear c11
     try clear c12
     try clear c13
     try clear c14
     try clear c18
     try clear c19
     try clear hcz10_0
     try clear hcz10_1
     try clear hcz10_2
     try clear hcz10_3
     try clear hcz15_0
     try clear hcz15_1
     try clear hcz15_2
     try clear hcz15_3
     try clear hcz16_0
     try clear hcz16_1
     try clear hcz16_2
     try clear hcz16_3
     try clear hcz20_0
     try clear hcz20_1
     try clear hcz20_2
     try clear hcz20_3
     try clear hfz10_0
     try clear hfz10_1
     try clear hfz10_2
     try clear hfz10_3
     try clear hfz15_0
     try clear hfz15_1
     try clear hfz15_2
     try clear hfz15_3
     try clear hfz16_0
     try clear hfz16_1
     try clear hfz16_2
     try clear hfz16_3
     try clear hfz20_0
     try clear hfz20_1
     try clear hfz20_2
     try clear hfz20_3
     try clear p2
     obtain ⟨x15_2,x18_2,x421000_2,x421001_2,x421002_2,x432003_2,u432003,rfl,rfl,HA,HK2,HO_432003,BK420,BK421,BK431,HB⟩ := hrel
     cases gk with
     | zero => exact absurd HA.out (by simp [spec_GetMan.l0])
     | succ k2 =>
      have H := HA.out
      clear HA
      simp only [spec_GetMan.l0] at H
      have HC21 := Mk H
      clear H
      go_upto_region 9 with (fail)
      go_cut [70] (fun v70 wc => ∃ (kq : Nat) (x70_20 : Bool),v70 = .bool x70_20 ∧ Aside0 (spec_GetMan.j2 kq l0 t422 t425 t428 x15_2 x18_2 x70_20 0 0 0 t422 t425 t428 x432003_2 = some (r1,r2,r3,r4,r5,r6)) ∧ Aside0 (kq ≤ k2) ∧ Aside0 (Kd.R k56 56 wc w.heap.size (fun _ => True) u432003 x432003_2) ∧ Aside0 (wc.heap[gb420]? = some (.cells #[.int .i64 x421000_2,.int .i64 x421001_2,.int .i64 x421002_2,(.slice none 0 0)] 28 (0,0))) ∧ Aside0 (wc.heap[gb421]? = some (.cells #[.int .i64 0,.int .i64 0,.int .i64 0,(.slice none 0 0)] 28 (0,0))) ∧ Aside0 (wc.heap[gb431]? = some (.cells #[.int .i64 t422,.int .i64 t425,.int .i64 t428,u432003] 28 (0,0))) ∧ Aside0 (Below w.heap.size w wc))
      case first =>
       have H := HC21.out
       clear HC21
       replace H := bsm H
       obtain ⟨t432,A22,H⟩ := H
       (try dsimp only at H)
       by_cases c23 : x18_2 < t432
       ·rw [if_pos c23] at H
        have c23b0 : decide (x18_2 < t432) = true := decide_eq_true c23
        clear c23
        (first | rw [c23b0] | (simp only [i64_w,i32_w];rw [c23b0]) | skip)
        have H' := Mk H
        clear H
        go_wp2_with (first | ((with_reducible refine gate_callee (f := 30) rfl ?_);refine goesL_ (some 65) rfl rfl Try.func30 (by kernel_rfl) rfl #[.int .i64 t425,.int .i64 t428] rfl eq_up ?_;(with_reducible refine (spec_Blocks.calls t425 t428 t432 _ A22.out).mono ?_);rintro e w' ⟨rfl,⟨nd,rfl⟩⟩;refine ⟨_,rfl,?_⟩))
        go_meet
        case rel => exact ⟨_,(decide (t422 > 0)),eqs_,H',⟨by have := HJ5.out;have := HK2.out;first | omega | exact Nat.le_refl _⟩,⟨Kd.R_up HO_432003.out⟩,⟨by (with_reducible repeat (first | refine blk_drewN ?_ _ | refine blk_drew ?_ | refine blk_alloc ?_ _));exact BK420.out⟩,⟨by (with_reducible repeat (first | refine blk_drewN ?_ _ | refine blk_drew ?_ | refine blk_alloc ?_ _));exact BK421.out⟩,⟨by (with_reducible repeat (first | refine blk_drewN ?_ _ | refine blk_drew ?_ | refine blk_alloc ?_ _));exact BK431.out⟩,⟨B_set HB.out⟩⟩
       ·rw [if_neg c23] at H
        have c23b0 : decide (x18_2 < t432) = false := decide_eq_false c23
        clear c23
        (first | rw [c23b0] | (simp only [i64_w,i32_w];rw [c23b0]) | skip)
        have H' := Mk H
        clear H
        go_wp2_with (first | ((with_reducible refine gate_callee (f := 30) rfl ?_);refine goesL_ (some 65) rfl rfl Try.func30 (by kernel_rfl) rfl #[.int .i64 t425,.int .i64 t428] rfl eq_up ?_;(with_reducible refine (spec_Blocks.calls t425 t428 t432 _ A22.out).mono ?_);rintro e w' ⟨rfl,⟨nd,rfl⟩⟩;refine ⟨_,rfl,?_⟩))
        go_meet
        case rel => exact ⟨_,(false),eqs_,H',⟨by have := HJ5.out;have := HK2.out;first | omega | exact Nat.le_refl _⟩,⟨Kd.R_up HO_432003.out⟩,⟨by (with_reducible repeat (first | refine blk_drewN ?_ _ | refine blk_drew ?_ | refine blk_alloc ?_ _));exact BK420.out⟩,⟨by (with_reducible repeat (first | refine blk_drewN ?_ _ | refine blk_drew ?_ | refine blk_alloc ?_ _));exact BK421.out⟩,⟨by (with_reducible repeat (first | refine blk_drewN ?_ _ | refine blk_drew ?_ | refine blk_alloc ?_ _));exact BK431.out⟩,⟨B_set HB.out⟩⟩
      case rest =>
       clear HC21
       try clear c1
       try clear c2
       try clear p2
       try clear c3
       try clear c7
       try clear c9
       try clear c11
       try clear c12
       try clear c13
       try clear c14
       try clear c18
       try clear c19
       try clear c23
       try clear c23b0
       try clear hcz10_0
       try clear hcz10_1
       try clear hcz10_2
       try clear hcz10_3
       try clear hcz15_0
       try clear hcz15_1
       try clear hcz15_2
       try clear hcz15_3
       try clear hcz16_0
       try clear hcz16_1
       try clear hcz16_2
       try clear hcz16_3
       try clear hcz20_0
       try clear hcz20_1
       try clear hcz20_2
       try clear hcz20_3
       try clear hfz10_0
       try clear hfz10_1
       try clear hfz10_2
       try clear hfz10_3
       try clear hfz15_0
       try clear hfz15_1
       try clear hfz15_2
       try clear hfz15_3
       try clear hfz16_0
       try clear hfz16_1
       try clear hfz16_2
       try clear hfz16_3
       try clear hfz20_0
       try clear hfz20_1
       try clear hfz20_2
       try clear hfz20_3
       try clear p2
       obtain ⟨kq,x70_20,rfl,HA,HJ20,HO_432003,BK420,BK421,BK431,HB⟩ := hcut
       cases kq with
       | zero => exact absurd HA.out (by simp [spec_GetMan.j2])
       | succ kj20 =>
        have H := HA.out
        clear HA
        simp only [spec_GetMan.j2] at H
        by_cases c24 : x70_20 = true
        ·subst c24
         rw [if_pos rfl] at H
         replace H := bsm H
         obtain ⟨⟨t434,t435,t436⟩,A25,H⟩ := H
         (try dsimp only at H)
         by_cases c26 : t436 = true
         ·subst c26
          rw [if_pos rfl] at H
          replace H := bsm H
          obtain ⟨⟨t437,t438⟩,A27,H⟩ := H
          (try dsimp only at H)
          replace H := bsm H
          obtain ⟨⟨t441,t442⟩,A28,H⟩ := H
          (try dsimp only at H)
          by_cases c29 : x432003_2.length < 8796093022208
          ·rw [if_pos c29] at H
           have LMc29 := Mk c29
           clear c29
           obtain ⟨y444,hy444⟩ : ∃ y_ : List (S56),y_ = (x432003_2 ++ [(⟨t441,t434⟩ : S56)]) := ⟨_,rfl⟩
           replace H : (spec_GetMan.l0 kj20 l0 t422 t425 t428 t435 (wrap64 (x18_2 + 1)) 0 0 0 t422 t425 t428 y444) = some (r1,r2,r3,r4,r5,r6) := by first | (rw [hy444];with_reducible exact H) | (have H2_ := (Option.bind_some _ _).symm.trans H;rw [hy444];with_reducible exact H2_) | (have H2_ := (Option.bind_some _ _).symm.trans H;with_reducible exact H2_) | with_reducible exact H | (rw [hy444];exact H) | exact H
           have Ny444 := Mk hy444
           clear hy444
           have H' := Mk H
           clear H
           go_wp2_with (first | ((with_reducible refine gate_callee (f := 31) rfl ?_);refine goesL_ (some 76) rfl rfl Try.func31 (by kernel_rfl) rfl #[.slice A0 l0.length c0,.int .i64 x15_2] rfl eq_up ?_;(with_reducible refine (spec_l6GetSum.calls kj20 _ _ l0 x15_2 t434 t435 true _ ?side1 ?side2 A25.out).mono ?_);(case side1 => repeat (first | exact (Kd.C_below HR0.out HB.out) | (with_reducible refine Kd.C_alloc ?_ _) | (with_reducible refine Kd.C_drewN ?_ _) | (with_reducible refine Kd.C_drew ?_)));(case side2 => exact HC0.out);rintro e w' ⟨rfl,⟨nd,rfl⟩⟩;refine ⟨_,rfl,?_⟩;(try (rw [drewN_self wc];generalize hq_ : World.drewN wc _ = wc;have n0_ : Aside0 (Kd.R k56 56 wc w.heap.size (fun _ => True) u432003 x432003_2) := ⟨by rw [← hq_];exact (Kd.R_up HO_432003.out)⟩;have n1_ : Aside0 (wc.heap[gb420]? = some (.cells #[.int .i64 x421000_2,.int .i64 x421001_2,.int .i64 x421002_2,.slice none 0 0] 28 (0,0))) := ⟨by rw [← hq_];exact (blk_up BK420.out)⟩;have n2_ : Aside0 (wc.heap[gb421]? = some (.cells #[.int .i64 0,.int .i64 0,.int .i64 0,.slice none 0 0] 28 (0,0))) := ⟨by rw [← hq_];exact (blk_up BK421.out)⟩;have n3_ : Aside0 (wc.heap[gb431]? = some (.cells #[.int .i64 t422,.int .i64 t425,.int .i64 t428,u432003] 28 (0,0))) := ⟨by rw [← hq_];exact (blk_up BK431.out)⟩;have n4_ : Aside0 (Below w.heap.size w wc) := ⟨by rw [← hq_];exact (B_set HB.out)⟩;clear HO_432003 BK420 BK421 BK431 HB hq_;have HO_432003 := n0_;have BK420 := n1_;have BK421 := n2_;have BK431 := n3_;have HB := n4_;clear n0_ n1_ n2_ n3_ n4_))) | ((with_reducible refine gate_callee (f := 32) rfl ?_);refine goesL_ (some 85) rfl rfl Try.func32 (by kernel_rfl) rfl #[.int .i64 t434] rfl eq_up ?_;(with_reducible refine (spec_BytesOf.calls kj20 t434 t437 t438 _ A27.out).mono ?_);rintro e w30 ⟨v439,rfl,ho0,hb⟩;refine ⟨_,rfl,?_⟩;replace HO_432003 := Mk (Kd.R_below (Kd.R_up HO_432003.out) hb);have HO440 := Mk (Kd.R_lower ho0 (below_size (B_set HB.out)));replace BK420 := Mk (blk_below (blk_up BK420.out) hb);replace BK421 := Mk (blk_below (blk_up BK421.out) hb);replace BK431 := Mk (blk_below (blk_up BK431.out) hb);replace HB := Mk (below_step (B_set HB.out) hb);(try clear hb);(try clear hb2);(try clear hk);(try clear hi);(try clear ho0);obtain ⟨Ao31,co31,eo31⟩ := Kd.R_slice HO440.out;subst eo31) | ((with_reducible refine gate_callee (f := 33) rfl ?_);refine goesL_ (some 89) rfl rfl Try.func33 (by kernel_rfl) rfl #[.slice Ao31 t437.length co31] rfl eq_up ?_;(with_reducible refine (spec_SumOf.calls kj20 _ _ t437 t441 t442 _ ?side1 ?side2 A28.out).mono ?_);(case side1 => exact Kd.C_up (Kd.R_reads' HO440.out).2.2);(case side2 => exact (Kd.R_reads' HO440.out).2.1);rintro e w32 ⟨rfl,hb⟩;refine ⟨_,rfl,?_⟩;replace HO_432003 := Mk (Kd.R_below (Kd.R_up HO_432003.out) hb);replace HO440 := Mk (Kd.R_below (Kd.R_up HO440.out) hb);replace BK420 := Mk (blk_below (blk_up BK420.out) hb);replace BK421 := Mk (blk_below (blk_up BK421.out) hb);replace BK431 := Mk (blk_below (blk_up BK431.out) hb);replace HB := Mk (below_step (B_set HB.out) hb);(try clear hb);(try clear hb2);(try clear hk);(try clear hi)) | ((with_reducible refine gate_dst (N := 24) rfl ?_);refine box_event ?hg (N := 24) ?hd (cs := #[.int .i64 0,.int .i64 0]) (t := 56) ?hr ?_;(case hd => rfl);(case hg => rfl);(case hr => first | (go_simp;done) | (go_simp;rfl));intro gb443 hg w33 hbox hb;replace HO_432003 := Mk (Kd.R_below (Kd.R_elderB (Kd.R_up HO_432003.out) gb443 (Nat.le_of_eq hg.symm)) hb);replace HO440 := Mk (Kd.R_below (Kd.R_up HO440.out) hb);have BK443 := Mk (hbox);have GW443 := Mk ((by rw [hg];exact (below_size (B_set HB.out)) : w.heap.size ≤ gb443));have GE443 := Mk ((by rw [hg];exact (below_size (B_set HB.out)) : w.heap.size ≤ gb443));replace HB := Mk (below_step (B_set HB.out) hb);have NB420_443 := Mk ((by rw [hg];exact Nat.ne_of_lt (blk_lt (blk_up BK420.out)) : gb420 ≠ gb443));have NB443_420 := Mk ((by rw [hg];exact Nat.ne_of_gt (blk_lt (blk_up BK420.out)) : gb443 ≠ gb420));replace BK420 := Mk (blk_below (blk_up BK420.out) hb);have NB421_443 := Mk ((by rw [hg];exact Nat.ne_of_lt (blk_lt (blk_up BK421.out)) : gb421 ≠ gb443));have NB443_421 := Mk ((by rw [hg];exact Nat.ne_of_gt (blk_lt (blk_up BK421.out)) : gb443 ≠ gb421));replace BK421 := Mk (blk_below (blk_up BK421.out) hb);have NB431_443 := Mk ((by rw [hg];exact Nat.ne_of_lt (blk_lt (blk_up BK431.out)) : gb431 ≠ gb443));have NB443_431 := Mk ((by rw [hg];exact Nat.ne_of_gt (blk_lt (blk_up BK431.out)) : gb443 ≠ gb431));replace BK431 := Mk (blk_below (blk_up BK431.out) hb);clear hb hbox hg;have hnb34 := NB443_420.out;have hnc34 := NB420_443.out;have hnb35 := NB443_421.out;have hnc35 := NB421_443.out;have hnb36 := NB443_431.out;have hnc36 := NB431_443.out;obtain ⟨hcz37_0,hcz37_1⟩ := cz2 BK443.out;obtain ⟨hfz37_0,hfz37_1⟩ := fz2 BK443.out;have hnb38 := NB431_420.out;have hnc38 := NB420_431.out;have hnb39 := NB431_421.out;have hnc39 := NB421_431.out;obtain ⟨hcz40_0,hcz40_1,hcz40_2,hcz40_3⟩ := cz4 BK431.out;obtain ⟨hfz40_0,hfz40_1,hfz40_2,hfz40_3⟩ := fz4 BK431.out) | ((with_reducible refine gate_builtin (b := .append) (xs := #[.tmp 93,.tmp 95]) rfl ?_);at_builtin;refine Kd.R_append k56 (w0 := w) w.heap.size rfl (.tmp 93) (.tmp 95) 26 56 (.agg #[(.int .i64 0),(.int .i64 0)]) 16 rfl Try.underlying26 info56 rfl (by decide) (by omega) u432003 x432003_2 (⟨t441,t434⟩ : S56) [.int .i64 t441,.int .i64 t434] (fun k_ => k_ ≠ gb443) (fun _ => False) rfl (by first | (go_simp;done) | (go_simp;rfl)) ?aP (fun _ hk => hk.elim) ?aF ?aO ?aB ?aS ?aL ?_;(case aP => exact k56_mkM _ _ _ (⟨t441,t434⟩ : S56));(case aB => exact (B_set HB.out));(case aF => exact (fun k_ hk => Kd.freshB (g := gb443) (o := .cells #[.int .i64 t441,.int .i64 t434] 56 (0,0)) (by (with_reducible repeat (first | refine blk_drewN ?_ _ | refine blk_drew ?_ | refine blk_alloc ?_ _));refine blk_put (cs := #[.int .i64 t441,.int .i64 t442]) ?_ 1 _ rfl;(with_reducible repeat (first | refine blk_drewN ?_ _ | refine blk_drew ?_ | refine blk_alloc ?_ _));refine blk_put (cs := #[.int .i64 t441,.int .i64 0]) ?_ 1 _ rfl;(with_reducible repeat (first | refine blk_drewN ?_ _ | refine blk_drew ?_ | refine blk_alloc ?_ _));refine blk_put (cs := #[.int .i64 0,.int .i64 0]) ?_ 0 _ rfl;(with_reducible repeat (first | refine blk_drewN ?_ _ | refine blk_drew ?_ | refine blk_alloc ?_ _));exact BK443.out) k_ hk));(case aO => exact (Kd.R_up (Kd.R_mono (Kd.R_far (p := ⟨gb443,1,none⟩) (Kd.R_far (p := ⟨gb443,1,none⟩) (Kd.R_far (p := ⟨gb443,0,none⟩) (Kd.R_mono HO_432003.out (fun k_ hk => (⟨hk,hk.2⟩ : _ ∧ k_ ≠ gb443))) (fun _ hk => hk.2) (.int .i64 t441)) (fun _ hk => hk.2) (.int .i64 t442)) (fun _ hk => hk.2) (.int .i64 t434)) (fun _ hk => hk.1.2))));(case aS => exact (below_size (B_set HB.out)));(case aL => have := LMc29.out;omega);intro v445 w41 ho hb hg hat;rw [← Ny444.out] at ho;replace BK420 := Mk (blk_grown (g := gb420) (o := .cells #[.int .i64 x421000_2,.int .i64 x421001_2,.int .i64 x421002_2,.slice none 0 0] 28 (0,0)) (by (with_reducible repeat (first | refine blk_drewN ?_ _ | refine blk_drew ?_ | refine blk_alloc ?_ _));refine blk_far ?_ NB420_443.out _;(with_reducible repeat (first | refine blk_drewN ?_ _ | refine blk_drew ?_ | refine blk_alloc ?_ _));refine blk_far ?_ NB420_443.out _;(with_reducible repeat (first | refine blk_drewN ?_ _ | refine blk_drew ?_ | refine blk_alloc ?_ _));refine blk_far ?_ NB420_443.out _;(with_reducible repeat (first | refine blk_drewN ?_ _ | refine blk_drew ?_ | refine blk_alloc ?_ _));exact BK420.out) hg (Kd.R_ne HO_432003.out BK420.out (by decide)));replace BK421 := Mk (blk_grown (g := gb421) (o := .cells #[.int .i64 0,.int .i64 0,.int .i64 0,.slice none 0 0] 28 (0,0)) (by (with_reducible repeat (first | refine blk_drewN ?_ _ | refine blk_drew ?_ | refine blk_alloc ?_ _));refine blk_far ?_ NB421_443.out _;(with_reducible repeat (first | refine blk_drewN ?_ _ | refine blk_drew ?_ | refine blk_alloc ?_ _));refine blk_far ?_ NB421_443.out _;(with_reducible repeat (first | refine blk_drewN ?_ _ | refine blk_drew ?_ | refine blk_alloc ?_ _));refine blk_far ?_ NB421_443.out _;(with_reducible repeat (first | refine blk_drewN ?_ _ | refine blk_drew ?_ | refine blk_alloc ?_ _));exact BK421.out) hg (Kd.R_ne HO_432003.out BK421.out (by decide)));replace BK431 := Mk (blk_grown (g := gb431) (o := .cells #[.int .i64 t422,.int .i64 t425,.int .i64 t428,u432003] 28 (0,0)) (by (with_reducible repeat (first | refine blk_drewN ?_ _ | refine blk_drew ?_ | refine blk_alloc ?_ _));refine blk_far ?_ NB431_443.out _;(with_reducible repeat (first | refine blk_drewN ?_ _ | refine blk_drew ?_ | refine blk_alloc ?_ _));refine blk_far ?_ NB431_443.out _;(with_reducible repeat (first | refine blk_drewN ?_ _ | refine blk_drew ?_ | refine blk_alloc ?_ _));refine blk_far ?_ NB431_443.out _;(with_reducible repeat (first | refine blk_drewN ?_ _ | refine blk_drew ?_ | refine blk_alloc ?_ _));exact BK431.out) hg (Kd.R_ne HO_432003.out BK431.out (by decide)));replace HO440 := Mk (Kd.R_over' (Kd.R_up (Kd.R_mono (Kd.R_far (p := ⟨gb443,1,none⟩) (Kd.R_far (p := ⟨gb443,1,none⟩) (Kd.R_far (p := ⟨gb443,0,none⟩) (Kd.R_types HO440.out BK443.out (by decide)) (fun _ hk => hk.2) (.int .i64 t441)) (fun _ hk => hk.2) (.int .i64 t442)) (fun _ hk => hk.2) (.int .i64 t434)) (fun _ h_ => h_.1))) (Kd.R_typed (Kd.R_up (Kd.R_mono (Kd.R_far (p := ⟨gb443,1,none⟩) (Kd.R_far (p := ⟨gb443,1,none⟩) (Kd.R_far (p := ⟨gb443,0,none⟩) (Kd.R_mono HO_432003.out (fun k_ hk => (⟨hk,hk.2⟩ : _ ∧ k_ ≠ gb443))) (fun _ hk => hk.2) (.int .i64 t441)) (fun _ hk => hk.2) (.int .i64 t442)) (fun _ hk => hk.2) (.int .i64 t434)) (fun _ h_ => h_.1)))) (by decide) hg);replace BK443 := Mk (blk_grown (g := gb443) (o := .cells #[.int .i64 t441,.int .i64 t434] 56 (0,0)) (by (with_reducible repeat (first | refine blk_drewN ?_ _ | refine blk_drew ?_ | refine blk_alloc ?_ _));refine blk_put (cs := #[.int .i64 t441,.int .i64 t442]) ?_ 1 _ rfl;(with_reducible repeat (first | refine blk_drewN ?_ _ | refine blk_drew ?_ | refine blk_alloc ?_ _));refine blk_put (cs := #[.int .i64 t441,.int .i64 0]) ?_ 1 _ rfl;(with_reducible repeat (first | refine blk_drewN ?_ _ | refine blk_drew ?_ | refine blk_alloc ?_ _));refine blk_put (cs := #[.int .i64 0,.int .i64 0]) ?_ 0 _ rfl;(with_reducible repeat (first | refine blk_drewN ?_ _ | refine blk_drew ?_ | refine blk_alloc ?_ _));exact BK443.out) hg (Kd.R_away HO_432003.out (fun _ hk => hk.2)));replace HB := Mk (hb);have HO446 := Mk (ho);clear HO_432003;clear ho hb hg hat;obtain ⟨Ao42,co42,eo42⟩ := Kd.R_slice HO446.out;subst eo42;obtain ⟨hcz43_0,hcz43_1,hcz43_2,hcz43_3⟩ := cz4 BK431.out;obtain ⟨hfz43_0,hfz43_1,hfz43_2,hfz43_3⟩ := fz4 BK431.out))
           go_roundg kj20
           case measure => have := HJ5.out;have := HK2.out;have := HJ20.out;omega
           case rel => exact ⟨(t435),(wrap64 (x18_2 + 1)),(x421000_2),(x421001_2),(x421002_2),(y444),(.slice Ao42 y444.length co42),eqs_,eqs_,H',⟨by have := HJ5.out;have := HK2.out;have := HJ20.out;omega⟩,⟨Kd.R_up (Kd.R_mono (Kd.R_far (p := ⟨gb431,3,none⟩) (Kd.R_types HO446.out BK431.out (by decide)) (fun _ hk => hk.2) (.slice Ao42 y444.length co42)) (fun _ hk => trivial))⟩,⟨by (with_reducible repeat (first | refine blk_drewN ?_ _ | refine blk_drew ?_ | refine blk_alloc ?_ _));refine blk_far ?_ NB420_431.out _;(with_reducible repeat (first | refine blk_drewN ?_ _ | refine blk_drew ?_ | refine blk_alloc ?_ _));exact BK420.out⟩,⟨by (with_reducible repeat (first | refine blk_drewN ?_ _ | refine blk_drew ?_ | refine blk_alloc ?_ _));refine blk_far ?_ NB421_431.out _;(with_reducible repeat (first | refine blk_drewN ?_ _ | refine blk_drew ?_ | refine blk_alloc ?_ _));exact BK421.out⟩,⟨by (with_reducible repeat (first | refine blk_drewN ?_ _ | refine blk_drew ?_ | refine blk_alloc ?_ _));refine blk_put (cs := #[.int .i64 t422,.int .i64 t425,.int .i64 t428,u432003]) ?_ 3 _ rfl;(with_reducible repeat (first | refine blk_drewN ?_ _ | refine blk_drew ?_ | refine blk_alloc ?_ _));exact BK431.out⟩,⟨B_set HB.out⟩⟩
          ·rw [if_neg c29] at H
           exact absurd H (by simp)
         ·replace c26 := Bool.eq_false_iff.mpr c26
          subst c26
          have H1 : (some (0,0,0,([] : List (S56)),0,false)) = some (r1,r2,r3,r4,r5,r6) := by rw [if_neg (show ¬ (false = true) by decide)] at H;exact H
          clear H
          have H := H1
          clear H1
          simp only [Option.some.injEq,Prod.mk.injEq] at H
          obtain ⟨rfl,rfl,rfl,rfl,rfl,rfl⟩ := H
          go_wp2_with (first | ((with_reducible refine gate_callee (f := 31) rfl ?_);refine goesL_ (some 76) rfl rfl Try.func31 (by kernel_rfl) rfl #[.slice A0 l0.length c0,.int .i64 x15_2] rfl eq_up ?_;(with_reducible refine (spec_l6GetSum.calls kj20 _ _ l0 x15_2 t434 t435 false _ ?side1 ?side2 A25.out).mono ?_);(case side1 => repeat (first | exact (Kd.C_below HR0.out HB.out) | (with_reducible refine Kd.C_alloc ?_ _) | (with_reducible refine Kd.C_drewN ?_ _) | (with_reducible refine Kd.C_drew ?_)));(case side2 => exact HC0.out);rintro e w' ⟨rfl,⟨nd,rfl⟩⟩;refine ⟨_,rfl,?_⟩;(try (rw [drewN_self wc];generalize hq_ : World.drewN wc _ = wc;have n0_ : Aside0 (Kd.R k56 56 wc w.heap.size (fun _ => True) u432003 x432003_2) := ⟨by rw [← hq_];exact (Kd.R_up HO_432003.out)⟩;have n1_ : Aside0 (wc.heap[gb420]? = some (.cells #[.int .i64 x421000_2,.int .i64 x421001_2,.int .i64 x421002_2,.slice none 0 0] 28 (0,0))) := ⟨by rw [← hq_];exact (blk_up BK420.out)⟩;have n2_ : Aside0 (wc.heap[gb421]? = some (.cells #[.int .i64 0,.int .i64 0,.int .i64 0,.slice none 0 0] 28 (0,0))) := ⟨by rw [← hq_];exact (blk_up BK421.out)⟩;have n3_ : Aside0 (wc.heap[gb431]? = some (.cells #[.int .i64 t422,.int .i64 t425,.int .i64 t428,u432003] 28 (0,0))) := ⟨by rw [← hq_];exact (blk_up BK431.out)⟩;have n4_ : Aside0 (Below w.heap.size w wc) := ⟨by rw [← hq_];exact (B_set HB.out)⟩;clear HO_432003 BK420 BK421 BK431 HB hq_;have HO_432003 := n0_;have BK420 := n1_;have BK421 := n2_;have BK431 := n3_;have HB := n4_;clear n0_ n1_ n2_ n3_ n4_));have hnb44 := NB421_420.out;have hnc44 := NB420_421.out;have hnb45 := NB421_431.out;have hnc45 := NB431_421.out;obtain ⟨hcz46_0,hcz46_1,hcz46_2,hcz46_3⟩ := cz4 BK421.out;obtain ⟨hfz46_0,hfz46_1,hfz46_2,hfz46_3⟩ := fz4 BK421.out;have hnb47 := NB420_431.out;have hnc47 := NB431_420.out;obtain ⟨hcz48_0,hcz48_1,hcz48_2,hcz48_3⟩ := cz4 BK420.out;obtain ⟨hfz48_0,hfz48_1,hfz48_2,hfz48_3⟩ := fz4 BK420.out))
          refine bodyPost_ret (results_ctt rfl _ _ gb420 28 #[.int .i64 0,.int .i64 0,.int .i64 0,.slice none 0 0] (0,0) _ rfl (by (with_reducible repeat (first | refine blk_drewN ?_ _ | refine blk_drew ?_ | refine blk_alloc ?_ _));refine blk_put (cs := #[.int .i64 0,.int .i64 0,.int .i64 0,.slice none 0 0]) ?_ 3 _ rfl;(with_reducible repeat (first | refine blk_drewN ?_ _ | refine blk_drew ?_ | refine blk_alloc ?_ _));refine blk_put (cs := #[.int .i64 0,.int .i64 0,.int .i64 x421002_2,.slice none 0 0]) ?_ 2 _ rfl;(with_reducible repeat (first | refine blk_drewN ?_ _ | refine blk_drew ?_ | refine blk_alloc ?_ _));refine blk_put (cs := #[.int .i64 0,.int .i64 x421001_2,.int .i64 x421002_2,.slice none 0 0]) ?_ 1 _ rfl;(with_reducible repeat (first | refine blk_drewN ?_ _ | refine blk_drew ?_ | refine blk_alloc ?_ _));refine blk_put (cs := #[.int .i64 x421000_2,.int .i64 x421001_2,.int .i64 x421002_2,.slice none 0 0]) ?_ 0 _ rfl;(with_reducible repeat (first | refine blk_drewN ?_ _ | refine blk_drew ?_ | refine blk_alloc ?_ _));exact BK420.out) Try.underlying28 rfl (by kernel_rfl)) rfl ?_
          exact ⟨_,err_,by first | exact Kd.R_nil _ _ _ _ _ | exact Kd.N_nil _ _ _ _ _ | exact Kd.V_nil _ _ _ _ _ | exact Kd.Q_nil _ _ _ _ _ | exact Kd.S_nil _ _ _ _ _,B_set HB.out⟩
        ·replace c24 := Bool.eq_false_iff.mpr c24
         subst c24
         have H1 : ((spec_ManOk.f kj20 t422 t425 t428 x432003_2).bind fun t433 => (if t433 = true then (some (t422,t425,t428,x432003_2,x15_2,true)) else (some (0,0,0,([] : List (S56)),0,false)))) = some (r1,r2,r3,r4,r5,r6) := by rw [if_neg (show ¬ (false = true) by decide)] at H;exact H
         clear H
         have H := H1
         clear H1
         replace H := bsm H
         obtain ⟨t433,A49,H⟩ := H
         (try dsimp only at H)
         by_cases c50 : t433 = true
         ·subst c50
          rw [if_pos rfl] at H
          simp only [Option.some.injEq,Prod.mk.injEq] at H
          obtain ⟨rfl,rfl,rfl,rfl,rfl,rfl⟩ := H
          have hnb51 := NB431_420.out
          have hnc51 := NB420_431.out
          have hnb52 := NB431_421.out
          have hnc52 := NB421_431.out
          obtain ⟨hcz53_0,hcz53_1,hcz53_2,hcz53_3⟩ := cz4 BK431.out
          obtain ⟨hfz53_0,hfz53_1,hfz53_2,hfz53_3⟩ := fz4 BK431.out
          obtain ⟨Ao54,co54,eo54⟩ := Kd.R_slice HO_432003.out
          subst eo54
          go_wp2_with (first | ((with_reducible refine gate_callee (f := 17) rfl ?_);refine goesL_ (some 100) rfl rfl Try.func17 (by kernel_rfl) rfl #[.agg #[.int .i64 t422,.int .i64 t425,.int .i64 t428,.slice Ao54 x432003_2.length co54]] rfl eq_up ?_;(with_reducible refine (spec_ManOk.calls kj20 t422 t425 t428 _ _ x432003_2 true _ ?side1 ?side2 A49.out).mono ?_);(case side1 => exact Kd.C_up (Kd.R_reads' HO_432003.out).2.2);(case side2 => exact (Kd.R_reads' HO_432003.out).2.1);rintro e w55 ⟨rfl,hb⟩;refine ⟨_,rfl,?_⟩;replace HO_432003 := Mk (Kd.R_below (Kd.R_up HO_432003.out) hb);replace BK420 := Mk (blk_below (blk_up BK420.out) hb);replace BK421 := Mk (blk_below (blk_up BK421.out) hb);replace BK431 := Mk (blk_below (blk_up BK431.out) hb);replace HB := Mk (below_step (B_set HB.out) hb);(try clear hb);(try clear hb2);(try clear hk);(try clear hi);obtain ⟨hcz56_0,hcz56_1,hcz56_2,hcz56_3⟩ := cz4 BK431.out;obtain ⟨hfz56_0,hfz56_1,hfz56_2,hfz56_3⟩ := fz4 BK431.out;have hnb57 := NB420_421.out;have hnc57 := NB421_420.out;obtain ⟨hcz58_0,hcz58_1,hcz58_2,hcz58_3⟩ := cz4 BK420.out;obtain ⟨hfz58_0,hfz58_1,hfz58_2,hfz58_3⟩ := fz4 BK420.out))
          refine bodyPost_ret (results_ctt rfl _ _ gb420 28 #[.int .i64 t422,.int .i64 t425,.int .i64 t428,.slice Ao54 x432003_2.length co54] (0,0) _ rfl (by (with_reducible repeat (first | refine blk_drewN ?_ _ | refine blk_drew ?_ | refine blk_alloc ?_ _));refine blk_put (cs := #[.int .i64 t422,.int .i64 t425,.int .i64 t428,.slice none 0 0]) ?_ 3 _ rfl;(with_reducible repeat (first | refine blk_drewN ?_ _ | refine blk_drew ?_ | refine blk_alloc ?_ _));refine blk_put (cs := #[.int .i64 t422,.int .i64 t425,.int .i64 x421002_2,.slice none 0 0]) ?_ 2 _ rfl;(with_reducible repeat (first | refine blk_drewN ?_ _ | refine blk_drew ?_ | refine blk_alloc ?_ _));refine blk_put (cs := #[.int .i64 t422,.int .i64 x421001_2,.int .i64 x421002_2,.slice none 0 0]) ?_ 1 _ rfl;(with_reducible repeat (first | refine blk_drewN ?_ _ | refine blk_drew ?_ | refine blk_alloc ?_ _));refine blk_put (cs := #[.int .i64 x421000_2,.int .i64 x421001_2,.int .i64 x421002_2,.slice none 0 0]) ?_ 0 _ rfl;(with_reducible repeat (first | refine blk_drewN ?_ _ | refine blk_drew ?_ | refine blk_alloc ?_ _));exact BK420.out) Try.underlying28 rfl (by kernel_rfl)) rfl ?_
          exact ⟨_,err_,Kd.R_up (Kd.R_mono (Kd.R_far (p := ⟨gb420,3,none⟩) (Kd.R_far (p := ⟨gb420,2,none⟩) (Kd.R_far (p := ⟨gb420,1,none⟩) (Kd.R_far (p := ⟨gb420,0,none⟩) (Kd.R_types HO_432003.out BK420.out (by decide)) (fun _ hk => hk.2) (.int .i64 t422)) (fun _ hk => hk.2) (.int .i64 t425)) (fun _ hk => hk.2) (.int .i64 t428)) (fun _ hk => hk.2) (.slice Ao54 x432003_2.length co54)) (fun _ hk => trivial)),B_set HB.out⟩
         ·replace c50 := Bool.eq_false_iff.mpr c50
          subst c50
          have H1 : (some (0,0,0,([] : List (S56)),0,false)) = some (r1,r2,r3,r4,r5,r6) := by rw [if_neg (show ¬ (false = true) by decide)] at H;exact H
          clear H
          have H := H1
          clear H1
          simp only [Option.some.injEq,Prod.mk.injEq] at H
          obtain ⟨rfl,rfl,rfl,rfl,rfl,rfl⟩ := H
          have hnb59 := NB431_420.out
          have hnc59 := NB420_431.out
          have hnb60 := NB431_421.out
          have hnc60 := NB421_431.out
          obtain ⟨hcz61_0,hcz61_1,hcz61_2,hcz61_3⟩ := cz4 BK431.out
          obtain ⟨hfz61_0,hfz61_1,hfz61_2,hfz61_3⟩ := fz4 BK431.out
          obtain ⟨Ao62,co62,eo62⟩ := Kd.R_slice HO_432003.out
          subst eo62
          go_wp2_with (first | ((with_reducible refine gate_callee (f := 17) rfl ?_);refine goesL_ (some 100) rfl rfl Try.func17 (by kernel_rfl) rfl #[.agg #[.int .i64 t422,.int .i64 t425,.int .i64 t428,.slice Ao62 x432003_2.length co62]] rfl eq_up ?_;(with_reducible refine (spec_ManOk.calls kj20 t422 t425 t428 _ _ x432003_2 false _ ?side1 ?side2 A49.out).mono ?_);(case side1 => exact Kd.C_up (Kd.R_reads' HO_432003.out).2.2);(case side2 => exact (Kd.R_reads' HO_432003.out).2.1);rintro e w63 ⟨rfl,hb⟩;refine ⟨_,rfl,?_⟩;replace HO_432003 := Mk (Kd.R_below (Kd.R_up HO_432003.out) hb);replace BK420 := Mk (blk_below (blk_up BK420.out) hb);replace BK421 := Mk (blk_below (blk_up BK421.out) hb);replace BK431 := Mk (blk_below (blk_up BK431.out) hb);replace HB := Mk (below_step (B_set HB.out) hb);(try clear hb);(try clear hb2);(try clear hk);(try clear hi);have hnb64 := NB421_420.out;have hnc64 := NB420_421.out;obtain ⟨hcz65_0,hcz65_1,hcz65_2,hcz65_3⟩ := cz4 BK421.out;obtain ⟨hfz65_0,hfz65_1,hfz65_2,hfz65_3⟩ := fz4 BK421.out;obtain ⟨hcz66_0,hcz66_1,hcz66_2,hcz66_3⟩ := cz4 BK420.out;obtain ⟨hfz66_0,hfz66_1,hfz66_2,hfz66_3⟩ := fz4 BK420.out))
          refine bodyPost_ret (results_ctt rfl _ _ gb420 28 #[.int .i64 0,.int .i64 0,.int .i64 0,.slice none 0 0] (0,0) _ rfl (by (with_reducible repeat (first | refine blk_drewN ?_ _ | refine blk_drew ?_ | refine blk_alloc ?_ _));refine blk_put (cs := #[.int .i64 0,.int .i64 0,.int .i64 0,.slice none 0 0]) ?_ 3 _ rfl;(with_reducible repeat (first | refine blk_drewN ?_ _ | refine blk_drew ?_ | refine blk_alloc ?_ _));refine blk_put (cs := #[.int .i64 0,.int .i64 0,.int .i64 x421002_2,.slice none 0 0]) ?_ 2 _ rfl;(with_reducible repeat (first | refine blk_drewN ?_ _ | refine blk_drew ?_ | refine blk_alloc ?_ _));refine blk_put (cs := #[.int .i64 0,.int .i64 x421001_2,.int .i64 x421002_2,.slice none 0 0]) ?_ 1 _ rfl;(with_reducible repeat (first | refine blk_drewN ?_ _ | refine blk_drew ?_ | refine blk_alloc ?_ _));refine blk_put (cs := #[.int .i64 x421000_2,.int .i64 x421001_2,.int .i64 x421002_2,.slice none 0 0]) ?_ 0 _ rfl;(with_reducible repeat (first | refine blk_drewN ?_ _ | refine blk_drew ?_ | refine blk_alloc ?_ _));exact BK420.out) Try.underlying28 rfl (by kernel_rfl)) rfl ?_
          exact ⟨_,err_,by first | exact Kd.R_nil _ _ _ _ _ | exact Kd.N_nil _ _ _ _ _ | exact Kd.V_nil _ _ _ _ _ | exact Kd.Q_nil _ _ _ _ _ | exact Kd.S_nil _ _ _ _ _,B_set HB.out⟩

/-! ### spec_l1Bytes: function 34 -/
def spec_l1Bytes.l0 : Nat → Int → List Int → Int → List Int → Int → Int → Option (List Int × Int × Int)
 | 0,_,_,_,_,_,_ => none
 | k + 1,x1,x5,x6,x1000,x1001,x1002 => if x6 < x1 then ((spec_l1Byte.f x1000 x1001 x1002).bind fun bt450 => (if x5.length < 140737488355328 then (spec_l1Bytes.l0 k x1 (x5 ++ [(bt450.1) % 256]) (wrap64 (x6 + 1)) x1000 bt450.2.1 bt450.2.2) else (none))) else (some (x5,x1001,x1002))
def spec_l1Bytes.f (k : Nat) (s0_0 : List Int) (s0_1 : Int) (s0_2 : Int) (a1 : Int) : Option (List Int × Int × Int) := spec_l1Bytes.l0 k a1 (([] : List Int)) 0 s0_0 s0_1 s0_2
theorem spec_l1Bytes.mono_l : ∀ k,(∀ y0 y1 y2 y3 y4 y5,LeO (spec_l1Bytes.l0 k y0 y1 y2 y3 y4 y5) (spec_l1Bytes.l0 (k + 1) y0 y1 y2 y3 y4 y5))
 | 0 => fun _ _ _ _ _ _ r h => by simp [spec_l1Bytes.l0] at h
 | k + 1 => by
  have ih0 := spec_l1Bytes.mono_l k
  ·intro y0 y1 y2 y3 y4 y5
   unfold spec_l1Bytes.l0
   repeat' first
   | (with_reducible exact ih0 _ _ _ _ _ _)
   | (with_reducible exact LeO.refl _)
   | (with_reducible exact LeO.none _)
   | (with_reducible refine LeO.ite ?_ ?_)
   | (with_reducible refine LeO.bind ?_ (fun _ => ?_))
   | exact ih0 _ _ _ _ _ _
   | exact LeO.none _
   | refine LeO.ite ?_ ?_
   | refine LeO.bind ?_ (fun _ => ?_)
theorem spec_l1Bytes.mono : ∀ a0 a1 a2 a3 k,LeO (spec_l1Bytes.f k a0 a1 a2 a3) (spec_l1Bytes.f (k + 1) a0 a1 a2 a3) := by
 intro a0 a1 a2 a3 k
 have ih0 := spec_l1Bytes.mono_l k
 unfold spec_l1Bytes.f
 repeat' first
   | (with_reducible exact ih0 _ _ _ _ _ _)
   | (with_reducible exact LeO.refl _)
   | (with_reducible exact LeO.none _)
   | (with_reducible refine LeO.ite ?_ ?_)
   | (with_reducible refine LeO.bind ?_ (fun _ => ?_))
   | exact ih0 _ _ _ _ _ _
   | exact LeO.none _
   | refine LeO.ite ?_ ?_
   | refine LeO.bind ?_ (fun _ => ?_)
set_option maxHeartbeats 8000000 in
set_option maxRecDepth 100000 in
theorem spec_l1Bytes.calls (k : Nat) (g : Nat) (s0_0 : List Int) (s0_1 : Int) (s0_2 : Int) (a1 : Int) (r1 : List Int) (r2 : Int) (r3 : Int) (w0 w : World) (hI : IsS74 w0 w g s0_0 s0_1 s0_2) (hB : Below w0.heap.size w0 w) (h : spec_l1Bytes.f k s0_0 s0_1 s0_2 a1 = some (r1,r2,r3)) :
  Calls Try.prog 34 #[.pointer (some ⟨g,0,none⟩),.int .i64 a1] w fun e w' => ∃ v0_ : Value,e = .returned (v0_) ∧ Kd.R (Kd.int .u8) 5 w' w.heap.size (fun _ => True) v0_ r1 ∧ IsS74 w0 w' g s0_0 r2 r3 ∧ Below w0.heap.size w0 w' ∧ KeepBut w w' g none := by
 have HI0 := Mk hI
 have HK := Mk (KeepBut.refl w g none)
 have HL := Mk hB.size
 clear hI
 have HW0 := Mk hB.size
 have HB := Mk hB
 clear hB
 have H : (spec_l1Bytes.l0 k a1 (([] : List Int)) 0 s0_0 s0_1 s0_2) = some (r1,r2,r3) := h
 clear h
 obtain ⟨y447,hy447⟩ : ∃ y_ : List Int,y_ = (([] : List Int)) := ⟨_,rfl⟩
 replace H : (spec_l1Bytes.l0 k a1 y447 0 s0_0 s0_1 s0_2) = some (r1,r2,r3) := by first | (rw [hy447];with_reducible exact H) | (have H2_ := (Option.bind_some _ _).symm.trans H;rw [hy447];with_reducible exact H2_) | (have H2_ := (Option.bind_some _ _).symm.trans H;with_reducible exact H2_) | with_reducible exact H | (rw [hy447];exact H) | exact H
 have Ny447 := Mk hy447
 clear hy447
 have H' := Mk H
 clear H
 have htw_ : ∀ (w_ : World) (a_ : Addr) (u_ v_ : Value),(w_.cell? a_).isSome = true → ((w_.setCell a_ u_).setCell a_ v_).cell? a_ = some v_ := fun w_ a_ u_ v_ h_ => World.cell?_setCell_same' _ a_ v_ (by rw [World.cell?_setCell_same' w_ a_ u_ h_];rfl)
 go_enter Try.func34,Try.ntmps34
 go_wp2_with (first | ((with_reducible refine gate_dst (N := 7) rfl ?_);refine Kd.R_lit (Kd.int .u8) _ 5 ?hg (N := 7) ?hd (xs := ([] : List Int)) (inner := []) (ok := fun _ => True) (okp := fun _ => True) ?hr ?hp (fun _ hk => hk) trivial (Below.refl _ _) (Nat.le_refl _) (by simp) ?_;(case hd => rfl);(case hg => rfl);(case hr => first | (go_simp;done) | (go_simp;rfl));(case hp => exact (Reps.none _ _));intro v448 w3 ho4 hb hg_ hnew_;clear hg_ hnew_;(first | rw [← Ny447.out] at ho4 | (simp only [Int.reduceToNat] at ho4;rw [← Ny447.out] at ho4));have HO449 := Mk (Kd.R_lower ho4 (keep_size (w := w) (g := g) (row := none) (keep_up HK.out)));replace HI0 := Mk (IsS74.below (IsS74.up HI0.out) hb);replace HK := Mk (KeepBut.trans (keep_up HK.out) (KeepBut.of_below hb g none) (.inl rfl));replace HB := Mk (below_step (B_st HB.out) hb);clear hb ho4))
 go_loopg [5,6] k (fun kq v5 v6 w' => ∃ (x5_1 : List Int) (x6_1 : Int) (x1001_1 : Int) (x1002_1 : Int),v6 = .int .i64 x6_1 ∧ Aside0 (spec_l1Bytes.l0 kq a1 x5_1 x6_1 s0_0 x1001_1 x1002_1 = some (r1,r2,r3)) ∧ Aside0 (kq ≤ k) ∧ Aside0 (Kd.R (Kd.int .u8) 5 w' w.heap.size (fun _ => True) v5 x5_1) ∧ Aside0 (IsS74 w0 w' g s0_0 x1001_1 x1002_1) ∧ Aside0 (KeepBut w w' g none) ∧ Aside0 (Below w0.heap.size w0 w'))
 case atStart => exact ⟨(y447),(0),(s0_1),(s0_2),eqs_,H',⟨Nat.le_refl _⟩,⟨Kd.R_up HO449.out⟩,⟨IsS74.up HI0.out⟩,⟨keep_up HK.out⟩,⟨B_st HB.out⟩⟩
 case round =>
  clear H'
  try clear p2
  try clear c3
  obtain ⟨x5_1,x6_1,x1001_1,x1002_1,rfl,HA,HK1,HO_5,HI0,HK,HB⟩ := hrel
  cases gk with
  | zero => exact absurd HA.out (by simp [spec_l1Bytes.l0])
  | succ k1 =>
   have H := HA.out
   clear HA
   simp only [spec_l1Bytes.l0] at H
   by_cases c5 : x6_1 < a1
   ·rw [if_pos c5] at H
    have c5b0 : decide (x6_1 < a1) = true := decide_eq_true c5
    clear c5
    replace H := bsm H
    obtain ⟨⟨t450,t451,t452⟩,A6,H⟩ := H
    (try dsimp only at H)
    by_cases c7 : x5_1.length < 140737488355328
    ·rw [if_pos c7] at H
     have LMc7 := Mk c7
     clear c7
     obtain ⟨y453,hy453⟩ : ∃ y_ : List Int,y_ = (x5_1 ++ [(t450) % 256]) := ⟨_,rfl⟩
     replace H : (spec_l1Bytes.l0 k1 a1 y453 (wrap64 (x6_1 + 1)) s0_0 t451 t452) = some (r1,r2,r3) := by first | (rw [hy453];with_reducible exact H) | (have H2_ := (Option.bind_some _ _).symm.trans H;rw [hy453];with_reducible exact H2_) | (have H2_ := (Option.bind_some _ _).symm.trans H;with_reducible exact H2_) | with_reducible exact H | (rw [hy453];exact H) | exact H
     have Ny453 := Mk hy453
     clear hy453
     have H' := Mk H
     clear H
     go_wp2_with (first | ((with_reducible refine gate_callee (f := 62) rfl ?_);refine goesL_ (some 15) rfl rfl Try.func62 (by kernel_rfl) rfl #[.pointer (some ⟨g,0,none⟩)] rfl eq_up ?_;(with_reducible refine (spec_l1Byte.calls g s0_0 x1001_1 x1002_1 t450 t451 t452 w0 _ ?side1 ?side2 A6.out).mono ?_);(case side1 => exact IsS74.up HI0.out);(case side2 => exact B_st HB.out);rintro e w8 ⟨rfl,hi,hb,hk⟩;refine ⟨_,rfl,?_⟩;replace HO_5 := Mk (Kd.R_mono (Kd.R_keep (IsS74.apart (show IsS74 w0 _ g s0_0 x1001_1 x1002_1 from IsS74.up HI0.out) (Kd.R_up HO_5.out) (by decide)) hk (fun _ h => h.2)) (fun _ h => h.1));replace HK := Mk (KeepBut.trans (keep_up HK.out) hk (.inl rfl));replace HB := Mk (hb);replace HI0 := Mk (hi);(try clear hb);(try clear hb2);(try clear hk);(try clear hi)) | ((with_reducible refine gate_builtin (b := .append) (xs := #[.tmp 13,.tmp 17]) rfl ?_);at_builtin;refine Kd.R_append (Kd.int .u8) w.heap.size rfl (.tmp 13) (.tmp 17) 22 5 (.int .u8 0) 1 rfl Try.underlying22 info5 rfl (by decide) (by omega) u5 x5_1 ((t450) % 256) [.int .u8 ((t450) % 256)] (fun _ => True) (fun _ => False) rfl rfl ?aP (fun _ hk => hk.elim) ?aF ?aO (Below.refl _ _) ?aS ?aL ?_;(case aP => exact rfl);(case aF => exact (fun _ _ => trivial));(case aO => exact (Kd.R_up HO_5.out));(case aS => exact (keep_size (w := w) (g := g) (row := none) (keep_up HK.out)));(case aL => have := LMc7.out;omega);intro v454 w9 ho hb hg hat;rw [← Ny453.out] at ho;replace HI0 := Mk (IsS74.grown (IsS74.up HI0.out) hg (IsS74.own_ne HI0.out HO_5.out (by decide)));replace HB := Mk (below_weaken (B_st HB.out) HL.out hb);replace HK := Mk (KeepBut.trans (keep_up HK.out) (KeepBut.of_grown hg g) (Kd.R_base2 HO_5.out));have HO455 := Mk (ho);clear HO_5;clear ho hb hg hat))
     go_roundg k1
     case measure => have := HK1.out;omega
     case rel => exact ⟨(y453),(wrap64 (x6_1 + 1)),(t451),(t452),eqs_,H',⟨by have := HK1.out;omega⟩,⟨Kd.R_up HO455.out⟩,⟨IsS74.up HI0.out⟩,⟨keep_up HK.out⟩,⟨B_st HB.out⟩⟩
    ·rw [if_neg c7] at H
     exact absurd H (by simp)
   ·rw [if_neg c5] at H
    have c5b0 : decide (x6_1 < a1) = false := decide_eq_false c5
    clear c5
    simp only [Option.some.injEq,Prod.mk.injEq] at H
    obtain ⟨rfl,rfl,rfl⟩ := H
    go_wp2
    go_ret
    exact ⟨_,err_,Kd.R_up HO_5.out,IsS74.up HI0.out,B_st HB.out,keep_up HK.out⟩

end Go.Proofs.Ytdodnhjglpidlaa.PFnMansBent
