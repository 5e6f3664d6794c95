-- by a program of this session (a turned copy of the print: make with a capacity)
import Derived.Test.YtdodnhjglpidlaaVMade2
import Derived.Test.YtdodnhjglpidlaaPFnMansBentx0
namespace Go.Proofs.Ytdodnhjglpidlaa.PFnMansBent
open Go.RowKit Go.Proofs.YtdodnhjglpidlaaW.PrintWords Go.Proofs.YtdodnhjglpidlaaW.PrintLast Go.Proofs.YtdodnhjglpidlaaW.PrintMore
attribute [local go_sem] max2_int min2_int max_two min_two max_three min_three max_four min_four   -- for this text's walks alone
set_option linter.unusedVariables false
set_option linter.unusedSimpArgs false

/-! ### spec_GetVar: function 29 -/
mutual
def spec_GetVar.l0 : Nat → List Int → Int → Int → Int → Option (Int × Int × Bool)
 | 0,_,_,_,_ => none
 | k + 1,x0,x1,x7,x8 => if x8 < 6 then (if x1 < 0 then (spec_GetVar.j1 k x0 x1 x7 x8 true) else (spec_GetVar.j1 k x0 x1 x7 x8 (decide (x1 ≥ (wrap64 ((x0.length : Int) - x8)))))) else (some (0,0,false))
def spec_GetVar.j1 : Nat → List Int → Int → Int → Int → Bool → Option (Int × Int × Bool)
 | 0,_,_,_,_,_ => none
 | k + 1,x0,x1,x7,x8,x23 => if x23 = true then (some (0,0,false)) else (if 0 ≤ (wrap64 (x1 + x8)) then (if (wrap64 (x1 + x8)) < (x0.length : Int) then (if 0 ≤ (wrap64 (7 * x8)) then (if (wrap64 (rd x0 (wrap64 (x1 + x8)))) < 128 then (if (wrap64 (rd x0 (wrap64 (x1 + x8)))) = 0 then (if x8 > 0 then (some (0,0,false)) else (if (Go.bits .or .i64 x7 (shl .i64 (Go.bits .and .i64 (wrap64 (rd x0 (wrap64 (x1 + x8)))) 127) (wrap64 (7 * x8)))) > 1000000000000 then (some (0,0,false)) else (some (Go.bits .or .i64 x7 (shl .i64 (Go.bits .and .i64 (wrap64 (rd x0 (wrap64 (x1 + x8)))) 127) (wrap64 (7 * x8))),wrap64 ((wrap64 (x1 + x8)) + 1),true)))) else (if (Go.bits .or .i64 x7 (shl .i64 (Go.bits .and .i64 (wrap64 (rd x0 (wrap64 (x1 + x8)))) 127) (wrap64 (7 * x8)))) > 1000000000000 then (some (0,0,false)) else (some (Go.bits .or .i64 x7 (shl .i64 (Go.bits .and .i64 (wrap64 (rd x0 (wrap64 (x1 + x8)))) 127) (wrap64 (7 * x8))),wrap64 ((wrap64 (x1 + x8)) + 1),true)))) else (spec_GetVar.l0 k x0 x1 (Go.bits .or .i64 x7 (shl .i64 (Go.bits .and .i64 (wrap64 (rd x0 (wrap64 (x1 + x8)))) 127) (wrap64 (7 * x8)))) (wrap64 (x8 + 1)))) else (none)) else (none)) else (none))
end
def spec_GetVar.f (k : Nat) (l0 : List Int) (a1 : Int) : Option (Int × Int × Bool) := spec_GetVar.l0 k l0 a1 0 0
theorem spec_GetVar.mono_l : ∀ k,(∀ y0 y1 y2 y3,LeO (spec_GetVar.l0 k y0 y1 y2 y3) (spec_GetVar.l0 (k + 1) y0 y1 y2 y3)) ∧ (∀ y0 y1 y2 y3 y4,LeO (spec_GetVar.j1 k y0 y1 y2 y3 y4) (spec_GetVar.j1 (k + 1) y0 y1 y2 y3 y4))
 | 0 => ⟨fun _ _ _ _ r h => by simp [spec_GetVar.l0] at h,fun _ _ _ _ _ r h => by simp [spec_GetVar.j1] at h⟩
 | k + 1 => by
  obtain ⟨ih0,ih1⟩ := spec_GetVar.mono_l k
  refine ⟨?_,?_⟩
  ·intro y0 y1 y2 y3
   unfold spec_GetVar.l0
   repeat' first
   | (with_reducible exact ih0 _ _ _ _)
   | (with_reducible exact ih1 _ _ _ _ _)
   | (with_reducible exact LeO.refl _)
   | (with_reducible exact LeO.none _)
   | (with_reducible refine LeO.ite ?_ ?_)
   | (with_reducible refine LeO.bind ?_ (fun _ => ?_))
   | exact ih0 _ _ _ _
   | exact ih1 _ _ _ _ _
   | exact LeO.none _
   | refine LeO.ite ?_ ?_
   | refine LeO.bind ?_ (fun _ => ?_)
  ·intro y0 y1 y2 y3 y4
   unfold spec_GetVar.j1
   repeat' first
   | (with_reducible exact ih0 _ _ _ _)
   | (with_reducible exact ih1 _ _ _ _ _)
   | (with_reducible exact LeO.refl _)
   | (with_reducible exact LeO.none _)
   | (with_reducible refine LeO.ite ?_ ?_)
   | (with_reducible refine LeO.bind ?_ (fun _ => ?_))
   | exact ih0 _ _ _ _
   | exact ih1 _ _ _ _ _
   | exact LeO.none _
   | refine LeO.ite ?_ ?_
   | refine LeO.bind ?_ (fun _ => ?_)
theorem spec_GetVar.mono : ∀ a0 a1 k,LeO (spec_GetVar.f k a0 a1) (spec_GetVar.f (k + 1) a0 a1) := by
 intro a0 a1 k
 obtain ⟨ih0,ih1⟩ := spec_GetVar.mono_l k
 unfold spec_GetVar.f
 repeat' first
   | (with_reducible exact ih0 _ _ _ _)
   | (with_reducible exact ih1 _ _ _ _ _)
   | (with_reducible exact LeO.refl _)
   | (with_reducible exact LeO.none _)
   | (with_reducible refine LeO.ite ?_ ?_)
   | (with_reducible refine LeO.bind ?_ (fun _ => ?_))
   | exact ih0 _ _ _ _
   | exact ih1 _ _ _ _ _
   | exact LeO.none _
   | refine LeO.ite ?_ ?_
   | refine LeO.bind ?_ (fun _ => ?_)
set_option maxHeartbeats 8000000 in
set_option maxRecDepth 100000 in
theorem spec_GetVar.calls (k : Nat) (A0 : Option Addr) (c0 : Nat) (l0 : List Int) (a1 : Int) (r1 : Int) (r2 : Int) (r3 : Bool) (w : World) (hr0 : Kd.C (Kd.int .u8) w A0 l0.length l0) (hc0 : l0.length ≤ c0) (h : spec_GetVar.f k l0 a1 = some (r1,r2,r3)) :
  Calls Try.prog 29 #[.slice A0 l0.length c0,.int .i64 a1] w fun e w' => e = .returned (.tuple #[.int .i64 r1,.int .i64 r2,.bool r3]) ∧ Drawn0 w w' := by
 have HR0 := Mk hr0
 have HC0 := Mk hc0
 clear hr0 hc0
 have H : (spec_GetVar.l0 k l0 a1 0 0) = some (r1,r2,r3) := h
 clear h
 have H' := Mk H
 clear H
 go_enter Try.func29,Try.ntmps29
 go_wp2
 go_loopg [7,8] k (fun kq v7 v8 w' => ∃ (x7_1 : Int) (x8_1 : Int),v7 = .int .i64 x7_1 ∧ v8 = .int .i64 x8_1 ∧ Aside0 (spec_GetVar.l0 kq l0 a1 x7_1 x8_1 = some (r1,r2,r3)) ∧ Aside0 (kq ≤ k) ∧ Drawn0 w w')
 case atStart => exact ⟨(0),(0),eqs_,eqs_,H',⟨Nat.le_refl _⟩,by repeat (first | exact Drawn0.refl _ | apply Drawn0.step)⟩
 case round =>
  clear H'
  try clear c2
  try clear p2
  obtain ⟨x7_1,x8_1,rfl,rfl,HA,HK1,⟨m1,rfl⟩⟩ := hrel
  cases gk with
  | zero => exact absurd HA.out (by simp [spec_GetVar.l0])
  | succ k1 =>
   have H := HA.out
   clear HA
   simp only [spec_GetVar.l0] at H
   by_cases c3 : x8_1 < 6
   ·rw [if_pos c3] at H
    have c3b0 : decide (x8_1 < 6) = true := decide_eq_true c3
    clear c3
    have HC4 := Mk H
    clear H
    go_upto_region 5 with (fail)
    go_cut [23] (fun v23 wc => ∃ (kq : Nat) (x23_3 : Bool),v23 = .bool x23_3 ∧ Aside0 (spec_GetVar.j1 kq l0 a1 x7_1 x8_1 x23_3 = some (r1,r2,r3)) ∧ Aside0 (kq ≤ k1) ∧ Drawn0 w wc)
    case first =>
     have H := HC4.out
     clear HC4
     by_cases c5 : a1 < 0
     ·rw [if_pos c5] at H
      have c5b0 : decide (a1 < 0) = true := decide_eq_true c5
      clear c5
      (first | rw [c5b0] | (simp only [i64_w,i32_w];rw [c5b0]) | skip)
      have H' := Mk H
      clear H
      go_wp2
      go_meet
      case rel => exact ⟨_,(true),eqs_,H',⟨by have := HK1.out;first | omega | exact Nat.le_refl _⟩,by repeat (first | exact Drawn0.refl _ | apply Drawn0.step)⟩
     ·rw [if_neg c5] at H
      have c5b0 : decide (a1 < 0) = false := decide_eq_false c5
      clear c5
      (first | rw [c5b0] | (simp only [i64_w,i32_w];rw [c5b0]) | skip)
      have H' := Mk H
      clear H
      go_wp2
      go_meet
      case rel => exact ⟨_,(decide (a1 ≥ (wrap64 ((l0.length : Int) - x8_1)))),eqs_,H',⟨by have := HK1.out;first | omega | exact Nat.le_refl _⟩,by repeat (first | exact Drawn0.refl _ | apply Drawn0.step)⟩
    case rest =>
     clear HC4
     try clear c2
     try clear p2
     try clear c3
     try clear c3b0
     try clear c5
     try clear c5b0
     try clear p2
     obtain ⟨kq,x23_3,rfl,HA,HJ3,⟨mc3,rfl⟩⟩ := hcut
     cases kq with
     | zero => exact absurd HA.out (by simp [spec_GetVar.j1])
     | succ kj3 =>
      have H := HA.out
      clear HA
      simp only [spec_GetVar.j1] at H
      by_cases c6 : x23_3 = true
      ·subst c6
       rw [if_pos rfl] at H
       simp only [Option.some.injEq,Prod.mk.injEq] at H
       obtain ⟨rfl,rfl,rfl⟩ := H
       go_wp2
       go_ret3
       exact ⟨by first | rfl | (simp;done) | (simp [*];done),by repeat (first | exact Drawn0.refl _ | apply Drawn0.step)⟩
      ·replace c6 := Bool.eq_false_iff.mpr c6
       subst c6
       have H1 : (if 0 ≤ (wrap64 (a1 + x8_1)) then (if (wrap64 (a1 + x8_1)) < (l0.length : Int) then (if 0 ≤ (wrap64 (7 * x8_1)) then (if (wrap64 (rd l0 (wrap64 (a1 + x8_1)))) < 128 then (if (wrap64 (rd l0 (wrap64 (a1 + x8_1)))) = 0 then (if x8_1 > 0 then (some (0,0,false)) else (if (Go.bits .or .i64 x7_1 (shl .i64 (Go.bits .and .i64 (wrap64 (rd l0 (wrap64 (a1 + x8_1)))) 127) (wrap64 (7 * x8_1)))) > 1000000000000 then (some (0,0,false)) else (some (Go.bits .or .i64 x7_1 (shl .i64 (Go.bits .and .i64 (wrap64 (rd l0 (wrap64 (a1 + x8_1)))) 127) (wrap64 (7 * x8_1))),wrap64 ((wrap64 (a1 + x8_1)) + 1),true)))) else (if (Go.bits .or .i64 x7_1 (shl .i64 (Go.bits .and .i64 (wrap64 (rd l0 (wrap64 (a1 + x8_1)))) 127) (wrap64 (7 * x8_1)))) > 1000000000000 then (some (0,0,false)) else (some (Go.bits .or .i64 x7_1 (shl .i64 (Go.bits .and .i64 (wrap64 (rd l0 (wrap64 (a1 + x8_1)))) 127) (wrap64 (7 * x8_1))),wrap64 ((wrap64 (a1 + x8_1)) + 1),true)))) else (spec_GetVar.l0 kj3 l0 a1 (Go.bits .or .i64 x7_1 (shl .i64 (Go.bits .and .i64 (wrap64 (rd l0 (wrap64 (a1 + x8_1)))) 127) (wrap64 (7 * x8_1)))) (wrap64 (x8_1 + 1)))) else (none)) else (none)) else (none)) = some (r1,r2,r3) := by rw [if_neg (show ¬ (false = true) by decide)] at H;exact H
       clear H
       have H := H1
       clear H1
       obtain ⟨ji7,hji7⟩ : ∃ j_ : Int,(wrap64 (a1 + x8_1)) = j_ := ⟨_,rfl⟩
       replace H : (if 0 ≤ (ji7) then (if (ji7) < (l0.length : Int) then (if 0 ≤ (wrap64 (7 * x8_1)) then (if (wrap64 (rd l0 (ji7))) < 128 then (if (wrap64 (rd l0 (ji7))) = 0 then (if x8_1 > 0 then (some (0,0,false)) else (if (Go.bits .or .i64 x7_1 (shl .i64 (Go.bits .and .i64 (wrap64 (rd l0 (ji7))) 127) (wrap64 (7 * x8_1)))) > 1000000000000 then (some (0,0,false)) else (some (Go.bits .or .i64 x7_1 (shl .i64 (Go.bits .and .i64 (wrap64 (rd l0 (ji7))) 127) (wrap64 (7 * x8_1))),wrap64 ((ji7) + 1),true)))) else (if (Go.bits .or .i64 x7_1 (shl .i64 (Go.bits .and .i64 (wrap64 (rd l0 (ji7))) 127) (wrap64 (7 * x8_1)))) > 1000000000000 then (some (0,0,false)) else (some (Go.bits .or .i64 x7_1 (shl .i64 (Go.bits .and .i64 (wrap64 (rd l0 (ji7))) 127) (wrap64 (7 * x8_1))),wrap64 ((ji7) + 1),true)))) else (spec_GetVar.l0 kj3 l0 a1 (Go.bits .or .i64 x7_1 (shl .i64 (Go.bits .and .i64 (wrap64 (rd l0 (ji7))) 127) (wrap64 (7 * x8_1)))) (wrap64 (x8_1 + 1)))) else (none)) else (none)) else (none)) = some (r1,r2,r3) := by first | (rw [hji7] at H;exact H) | (simp only [hji7] at H ⊢;exact H)
       have hji7w : (IntKind.i64.wrap (a1 + x8_1)) = ji7 := (i64_w _).trans hji7
       by_cases c8 : 0 ≤ (ji7)
       ·rw [if_pos c8] at H
        have c8b0 : decide (0 ≤ (ji7)) = true := decide_eq_true c8
        clear c8
        by_cases c9 : (ji7) < (l0.length : Int)
        ·rw [if_pos c9] at H
         have c9b0 : decide ((ji7) < (l0.length : Int)) = true := decide_eq_true c9
         clear c9
         obtain ⟨ji10,hji10⟩ : ∃ j_ : Int,(wrap64 (7 * x8_1)) = j_ := ⟨_,rfl⟩
         replace H : (if 0 ≤ (ji10) then (if (wrap64 (rd l0 (ji7))) < 128 then (if (wrap64 (rd l0 (ji7))) = 0 then (if x8_1 > 0 then (some (0,0,false)) else (if (Go.bits .or .i64 x7_1 (shl .i64 (Go.bits .and .i64 (wrap64 (rd l0 (ji7))) 127) (ji10))) > 1000000000000 then (some (0,0,false)) else (some (Go.bits .or .i64 x7_1 (shl .i64 (Go.bits .and .i64 (wrap64 (rd l0 (ji7))) 127) (ji10)),wrap64 ((ji7) + 1),true)))) else (if (Go.bits .or .i64 x7_1 (shl .i64 (Go.bits .and .i64 (wrap64 (rd l0 (ji7))) 127) (ji10))) > 1000000000000 then (some (0,0,false)) else (some (Go.bits .or .i64 x7_1 (shl .i64 (Go.bits .and .i64 (wrap64 (rd l0 (ji7))) 127) (ji10)),wrap64 ((ji7) + 1),true)))) else (spec_GetVar.l0 kj3 l0 a1 (Go.bits .or .i64 x7_1 (shl .i64 (Go.bits .and .i64 (wrap64 (rd l0 (ji7))) 127) (ji10))) (wrap64 (x8_1 + 1)))) else (none)) = some (r1,r2,r3) := by first | (rw [hji10] at H;exact H) | (simp only [hji10] at H ⊢;exact H)
         have hji10w : (IntKind.i64.wrap (7 * x8_1)) = ji10 := (i64_w _).trans hji10
         by_cases c11 : 0 ≤ (ji10)
         ·rw [if_pos c11] at H
          have c11b0 := eq_true c11
          have c11b1 : decide (0 ≤ (ji10)) = true := decide_eq_true c11
          clear c11
          obtain ⟨ji12,hji12⟩ : ∃ j_ : Int,(shl .i64 (Go.bits .and .i64 (wrap64 (rd l0 (ji7))) 127) (ji10)) = j_ := ⟨_,rfl⟩
          replace H : (if (wrap64 (rd l0 (ji7))) < 128 then (if (wrap64 (rd l0 (ji7))) = 0 then (if x8_1 > 0 then (some (0,0,false)) else (if (Go.bits .or .i64 x7_1 (ji12)) > 1000000000000 then (some (0,0,false)) else (some (Go.bits .or .i64 x7_1 (ji12),wrap64 ((ji7) + 1),true)))) else (if (Go.bits .or .i64 x7_1 (ji12)) > 1000000000000 then (some (0,0,false)) else (some (Go.bits .or .i64 x7_1 (ji12),wrap64 ((ji7) + 1),true)))) else (spec_GetVar.l0 kj3 l0 a1 (Go.bits .or .i64 x7_1 (ji12)) (wrap64 (x8_1 + 1)))) = some (r1,r2,r3) := by first | (rw [hji12] at H;exact H) | (simp only [hji12] at H ⊢;exact H)
          have hji12_ : (IntKind.i64.wrap ((Go.bits .and .i64 (wrap64 (rd l0 (ji7))) 127) * 2 ^ min (ji10).toNat 64)) = ji12 := hji12
          have hji12z : (ji10) ≤ 64 → (IntKind.i64.wrap ((Go.bits .and .i64 (wrap64 (rd l0 (ji7))) 127) * 2 ^ (ji10).toNat)) = ji12 := shl_small hji12
          have hji12y : (wrap64 ((Go.bits .and .i64 (wrap64 (rd l0 (ji7))) 127) * 2 ^ min (ji10).toNat 64)) = ji12 := (i64_w _).symm.trans hji12_
          have hji12x : (ji10) ≤ 64 → (wrap64 ((Go.bits .and .i64 (wrap64 (rd l0 (ji7))) 127) * 2 ^ (ji10).toNat)) = ji12 := fun h_ => (i64_w _).symm.trans (hji12z h_)
          by_cases c13 : (wrap64 (rd l0 (ji7))) < 128
          ·rw [if_pos c13] at H
           have c13b0 : decide ((wrap64 (rd l0 (ji7))) < 128) = true := decide_eq_true c13
           clear c13
           by_cases c14 : (wrap64 (rd l0 (ji7))) = 0
           ·rw [if_pos c14] at H
            have c14b0 : ((wrap64 (rd l0 (ji7))) == 0) = true := beq_iff_eq.mpr c14
            have c14b1 : ((wrap64 (rd l0 (ji7))) != 0) = false := bne_eq_false_iff_eq.mpr c14
            clear c14
            by_cases c15 : x8_1 > 0
            ·rw [if_pos c15] at H
             have c15b0 : decide (0 < x8_1) = true := decide_eq_true c15
             clear c15
             simp only [Option.some.injEq,Prod.mk.injEq] at H
             obtain ⟨rfl,rfl,rfl⟩ := H
             have p418 : 0 ≤ ((ji7) : Int) := ofd
             have q418 : (ji7) < (l0.length : Int) := ofd
             obtain ⟨ad418,e418,hx418_0⟩ := Kd.at_int HR0.out (ji7) p418 q418
             cases e418
             replace p418 := eq_true p418
             replace q418 := eq_true q418
             go_wp2
             go_ret3
             exact ⟨by first | rfl | (simp;done) | (simp only [← hji7,← hji10,← hji12] <;> (first | rfl | simp)) | (simp [*];done),by repeat (first | exact Drawn0.refl _ | apply Drawn0.step)⟩
            ·rw [if_neg c15] at H
             have c15b0 : decide (0 < x8_1) = false := decide_eq_false c15
             clear c15
             by_cases c16 : (Go.bits .or .i64 x7_1 (ji12)) > 1000000000000
             ·rw [if_pos c16] at H
              have c16b0 : decide (1000000000000 < (Go.bits .or .i64 x7_1 (ji12))) = true := decide_eq_true c16
              clear c16
              simp only [Option.some.injEq,Prod.mk.injEq] at H
              obtain ⟨rfl,rfl,rfl⟩ := H
              have p418 : 0 ≤ ((ji7) : Int) := ofd
              have q418 : (ji7) < (l0.length : Int) := ofd
              obtain ⟨ad418,e418,hx418_0⟩ := Kd.at_int HR0.out (ji7) p418 q418
              cases e418
              replace p418 := eq_true p418
              replace q418 := eq_true q418
              go_wp2
              go_ret3
              exact ⟨by first | rfl | (simp;done) | (simp only [← hji7,← hji10,← hji12] <;> (first | rfl | simp)) | (simp [*];done),by repeat (first | exact Drawn0.refl _ | apply Drawn0.step)⟩
             ·rw [if_neg c16] at H
              have c16b0 : decide (1000000000000 < (Go.bits .or .i64 x7_1 (ji12))) = false := decide_eq_false c16
              clear c16
              simp only [Option.some.injEq,Prod.mk.injEq] at H
              obtain ⟨rfl,rfl,rfl⟩ := H
              have p418 : 0 ≤ ((ji7) : Int) := ofd
              have q418 : (ji7) < (l0.length : Int) := ofd
              obtain ⟨ad418,e418,hx418_0⟩ := Kd.at_int HR0.out (ji7) p418 q418
              cases e418
              replace p418 := eq_true p418
              replace q418 := eq_true q418
              go_wp2
              go_ret3
              exact ⟨by first | rfl | (simp;done) | (simp only [← hji7,← hji10,← hji12] <;> (first | rfl | simp)) | (simp [*];done),by repeat (first | exact Drawn0.refl _ | apply Drawn0.step)⟩
           ·rw [if_neg c14] at H
            have c14b0 : ((wrap64 (rd l0 (ji7))) == 0) = false := beq_eq_false_iff_ne.mpr c14
            have c14b1 : ((wrap64 (rd l0 (ji7))) != 0) = true := bne_iff_ne.mpr c14
            by_cases c17 : (Go.bits .or .i64 x7_1 (ji12)) > 1000000000000
            ·rw [if_pos c17] at H
             have c17b0 : decide (1000000000000 < (Go.bits .or .i64 x7_1 (ji12))) = true := decide_eq_true c17
             clear c17
             simp only [Option.some.injEq,Prod.mk.injEq] at H
             obtain ⟨rfl,rfl,rfl⟩ := H
             have p418 : 0 ≤ ((ji7) : Int) := ofd
             have q418 : (ji7) < (l0.length : Int) := ofd
             obtain ⟨ad418,e418,hx418_0⟩ := Kd.at_int HR0.out (ji7) p418 q418
             cases e418
             replace p418 := eq_true p418
             replace q418 := eq_true q418
             go_wp2
             go_ret3
             exact ⟨by first | rfl | (simp;done) | (simp only [← hji7,← hji10,← hji12] <;> (first | rfl | simp)) | (simp [*];done),by repeat (first | exact Drawn0.refl _ | apply Drawn0.step)⟩
            ·rw [if_neg c17] at H
             have c17b0 : decide (1000000000000 < (Go.bits .or .i64 x7_1 (ji12))) = false := decide_eq_false c17
             clear c17
             simp only [Option.some.injEq,Prod.mk.injEq] at H
             obtain ⟨rfl,rfl,rfl⟩ := H
             have p418 : 0 ≤ ((ji7) : Int) := ofd
             have q418 : (ji7) < (l0.length : Int) := ofd
             obtain ⟨ad418,e418,hx418_0⟩ := Kd.at_int HR0.out (ji7) p418 q418
             cases e418
             replace p418 := eq_true p418
             replace q418 := eq_true q418
             go_wp2
             go_ret3
             exact ⟨by first | rfl | (simp;done) | (simp only [← hji7,← hji10,← hji12] <;> (first | rfl | simp)) | (simp [*];done),by repeat (first | exact Drawn0.refl _ | apply Drawn0.step)⟩
          ·rw [if_neg c13] at H
           have c13b0 : decide ((wrap64 (rd l0 (ji7))) < 128) = false := decide_eq_false c13
           clear c13
           have H' := Mk H
           clear H
           have p418 : 0 ≤ ((ji7) : Int) := ofd
           have q418 : (ji7) < (l0.length : Int) := ofd
           obtain ⟨ad418,e418,hx418_0⟩ := Kd.at_int HR0.out (ji7) p418 q418
           cases e418
           replace p418 := eq_true p418
           replace q418 := eq_true q418
           go_wp2
           go_roundg kj3
           case measure => have := HK1.out;have := HJ3.out;omega
           case rel => exact ⟨(Go.bits .or .i64 x7_1 (ji12)),(wrap64 (x8_1 + 1)),(by first | rfl | (simp;done) | (simp only [← hji12] <;> (first | rfl | simp)) | (simp [*];done)),eqs_,H',⟨by have := HK1.out;have := HJ3.out;omega⟩,by repeat (first | exact Drawn0.refl _ | apply Drawn0.step)⟩
         ·rw [if_neg c11] at H
          exact absurd H (by simp)
        ·rw [if_neg c9] at H
         exact absurd H (by simp)
       ·rw [if_neg c8] at H
        exact absurd H (by simp)
   ·rw [if_neg c3] at H
    have c3b0 : decide (x8_1 < 6) = false := decide_eq_false c3
    clear c3
    simp only [Option.some.injEq,Prod.mk.injEq] at H
    obtain ⟨rfl,rfl,rfl⟩ := H
    go_wp2
    go_ret3
    exact ⟨by first | rfl | (simp;done) | (simp [*];done),by repeat (first | exact Drawn0.refl _ | apply Drawn0.step)⟩

/-! ### spec_l6GetSum: function 31 -/
def spec_l6GetSum.l0 : Nat → List Int → Int → Int → Int → Option (Int × Int × Bool)
 | 0,_,_,_,_ => none
 | k + 1,x0,x1,x7,x8 => if x8 < 8 then (if x1 ≥ (wrap64 ((x0.length : Int) - x8)) then (some (0,0,false)) else (if 0 ≤ (wrap64 (x1 + x8)) then (if (wrap64 (x1 + x8)) < (x0.length : Int) then (if 0 ≤ (wrap64 (7 * x8)) then (if (wrap64 (rd x0 (wrap64 (x1 + x8)))) < 128 then (if (wrap64 (rd x0 (wrap64 (x1 + x8)))) > 0 then (some (Go.bits .or .i64 x7 (shl .i64 (Go.bits .and .i64 (wrap64 (rd x0 (wrap64 (x1 + x8)))) 127) (wrap64 (7 * x8))),wrap64 ((wrap64 (x1 + x8)) + 1),true)) else (some (Go.bits .or .i64 x7 (shl .i64 (Go.bits .and .i64 (wrap64 (rd x0 (wrap64 (x1 + x8)))) 127) (wrap64 (7 * x8))),wrap64 ((wrap64 (x1 + x8)) + 1),(x8 == 0)))) else (spec_l6GetSum.l0 k x0 x1 (Go.bits .or .i64 x7 (shl .i64 (Go.bits .and .i64 (wrap64 (rd x0 (wrap64 (x1 + x8)))) 127) (wrap64 (7 * x8)))) (wrap64 (x8 + 1)))) else (none)) else (none)) else (none))) else (some (0,0,false))
def spec_l6GetSum.f (k : Nat) (l0 : List Int) (a1 : Int) : Option (Int × Int × Bool) := spec_l6GetSum.l0 k l0 a1 0 0
theorem spec_l6GetSum.mono_l : ∀ k,(∀ y0 y1 y2 y3,LeO (spec_l6GetSum.l0 k y0 y1 y2 y3) (spec_l6GetSum.l0 (k + 1) y0 y1 y2 y3))
 | 0 => fun _ _ _ _ r h => by simp [spec_l6GetSum.l0] at h
 | k + 1 => by
  have ih0 := spec_l6GetSum.mono_l k
  ·intro y0 y1 y2 y3
   unfold spec_l6GetSum.l0
   repeat' first
   | (with_reducible exact ih0 _ _ _ _)
   | (with_reducible exact LeO.refl _)
   | (with_reducible exact LeO.none _)
   | (with_reducible refine LeO.ite ?_ ?_)
   | (with_reducible refine LeO.bind ?_ (fun _ => ?_))
   | exact ih0 _ _ _ _
   | exact LeO.none _
   | refine LeO.ite ?_ ?_
   | refine LeO.bind ?_ (fun _ => ?_)
theorem spec_l6GetSum.mono : ∀ a0 a1 k,LeO (spec_l6GetSum.f k a0 a1) (spec_l6GetSum.f (k + 1) a0 a1) := by
 intro a0 a1 k
 have ih0 := spec_l6GetSum.mono_l k
 unfold spec_l6GetSum.f
 repeat' first
   | (with_reducible exact ih0 _ _ _ _)
   | (with_reducible exact LeO.refl _)
   | (with_reducible exact LeO.none _)
   | (with_reducible refine LeO.ite ?_ ?_)
   | (with_reducible refine LeO.bind ?_ (fun _ => ?_))
   | exact ih0 _ _ _ _
   | exact LeO.none _
   | refine LeO.ite ?_ ?_
   | refine LeO.bind ?_ (fun _ => ?_)
set_option maxHeartbeats 8000000 in
set_option maxRecDepth 100000 in
theorem spec_l6GetSum.calls (k : Nat) (A0 : Option Addr) (c0 : Nat) (l0 : List Int) (a1 : Int) (r1 : Int) (r2 : Int) (r3 : Bool) (w : World) (hr0 : Kd.C (Kd.int .u8) w A0 l0.length l0) (hc0 : l0.length ≤ c0) (h : spec_l6GetSum.f k l0 a1 = some (r1,r2,r3)) :
  Calls Try.prog 31 #[.slice A0 l0.length c0,.int .i64 a1] w fun e w' => e = .returned (.tuple #[.int .i64 r1,.int .i64 r2,.bool r3]) ∧ Drawn0 w w' := by
 have HR0 := Mk hr0
 have HC0 := Mk hc0
 clear hr0 hc0
 have H : (spec_l6GetSum.l0 k l0 a1 0 0) = some (r1,r2,r3) := h
 clear h
 have H' := Mk H
 clear H
 go_enter Try.func31,Try.ntmps31
 go_wp2
 go_loopg [7,8] k (fun kq v7 v8 w' => ∃ (x7_1 : Int) (x8_1 : Int),v7 = .int .i64 x7_1 ∧ v8 = .int .i64 x8_1 ∧ Aside0 (spec_l6GetSum.l0 kq l0 a1 x7_1 x8_1 = some (r1,r2,r3)) ∧ Aside0 (kq ≤ k) ∧ Drawn0 w w')
 case atStart => exact ⟨(0),(0),eqs_,eqs_,H',⟨Nat.le_refl _⟩,by repeat (first | exact Drawn0.refl _ | apply Drawn0.step)⟩
 case round =>
  clear H'
  try clear p2
  obtain ⟨x7_1,x8_1,rfl,rfl,HA,HK1,⟨m1,rfl⟩⟩ := hrel
  cases gk with
  | zero => exact absurd HA.out (by simp [spec_l6GetSum.l0])
  | succ k1 =>
   have H := HA.out
   clear HA
   simp only [spec_l6GetSum.l0] at H
   by_cases c3 : x8_1 < 8
   ·rw [if_pos c3] at H
    have c3b0 : decide (x8_1 < 8) = true := decide_eq_true c3
    clear c3
    by_cases c4 : a1 ≥ (wrap64 ((l0.length : Int) - x8_1))
    ·rw [if_pos c4] at H
     have c4b0 : decide ((wrap64 ((l0.length : Int) - x8_1)) ≤ a1) = true := decide_eq_true c4
     clear c4
     simp only [Option.some.injEq,Prod.mk.injEq] at H
     obtain ⟨rfl,rfl,rfl⟩ := H
     go_wp2
     go_ret3
     exact ⟨by first | rfl | (simp;done) | (simp [*];done),by repeat (first | exact Drawn0.refl _ | apply Drawn0.step)⟩
    ·rw [if_neg c4] at H
     have c4b0 : decide ((wrap64 ((l0.length : Int) - x8_1)) ≤ a1) = false := decide_eq_false c4
     clear c4
     obtain ⟨ji5,hji5⟩ : ∃ j_ : Int,(wrap64 (a1 + x8_1)) = j_ := ⟨_,rfl⟩
     replace H : (if 0 ≤ (ji5) then (if (ji5) < (l0.length : Int) then (if 0 ≤ (wrap64 (7 * x8_1)) then (if (wrap64 (rd l0 (ji5))) < 128 then (if (wrap64 (rd l0 (ji5))) > 0 then (some (Go.bits .or .i64 x7_1 (shl .i64 (Go.bits .and .i64 (wrap64 (rd l0 (ji5))) 127) (wrap64 (7 * x8_1))),wrap64 ((ji5) + 1),true)) else (some (Go.bits .or .i64 x7_1 (shl .i64 (Go.bits .and .i64 (wrap64 (rd l0 (ji5))) 127) (wrap64 (7 * x8_1))),wrap64 ((ji5) + 1),(x8_1 == 0)))) else (spec_l6GetSum.l0 k1 l0 a1 (Go.bits .or .i64 x7_1 (shl .i64 (Go.bits .and .i64 (wrap64 (rd l0 (ji5))) 127) (wrap64 (7 * x8_1)))) (wrap64 (x8_1 + 1)))) else (none)) else (none)) else (none)) = some (r1,r2,r3) := by first | (rw [hji5] at H;exact H) | (simp only [hji5] at H ⊢;exact H)
     have hji5w : (IntKind.i64.wrap (a1 + x8_1)) = ji5 := (i64_w _).trans hji5
     by_cases c6 : 0 ≤ (ji5)
     ·rw [if_pos c6] at H
      have c6b0 : decide (0 ≤ (ji5)) = true := decide_eq_true c6
      clear c6
      by_cases c7 : (ji5) < (l0.length : Int)
      ·rw [if_pos c7] at H
       have c7b0 : decide ((ji5) < (l0.length : Int)) = true := decide_eq_true c7
       clear c7
       obtain ⟨ji8,hji8⟩ : ∃ j_ : Int,(wrap64 (7 * x8_1)) = j_ := ⟨_,rfl⟩
       replace H : (if 0 ≤ (ji8) then (if (wrap64 (rd l0 (ji5))) < 128 then (if (wrap64 (rd l0 (ji5))) > 0 then (some (Go.bits .or .i64 x7_1 (shl .i64 (Go.bits .and .i64 (wrap64 (rd l0 (ji5))) 127) (ji8)),wrap64 ((ji5) + 1),true)) else (some (Go.bits .or .i64 x7_1 (shl .i64 (Go.bits .and .i64 (wrap64 (rd l0 (ji5))) 127) (ji8)),wrap64 ((ji5) + 1),(x8_1 == 0)))) else (spec_l6GetSum.l0 k1 l0 a1 (Go.bits .or .i64 x7_1 (shl .i64 (Go.bits .and .i64 (wrap64 (rd l0 (ji5))) 127) (ji8))) (wrap64 (x8_1 + 1)))) else (none)) = some (r1,r2,r3) := by first | (rw [hji8] at H;exact H) | (simp only [hji8] at H ⊢;exact H)
       have hji8w : (IntKind.i64.wrap (7 * x8_1)) = ji8 := (i64_w _).trans hji8
       by_cases c9 : 0 ≤ (ji8)
       ·rw [if_pos c9] at H
        have c9b0 := eq_true c9
        have c9b1 : decide (0 ≤ (ji8)) = true := decide_eq_true c9
        clear c9
        obtain ⟨ji10,hji10⟩ : ∃ j_ : Int,(shl .i64 (Go.bits .and .i64 (wrap64 (rd l0 (ji5))) 127) (ji8)) = j_ := ⟨_,rfl⟩
        replace H : (if (wrap64 (rd l0 (ji5))) < 128 then (if (wrap64 (rd l0 (ji5))) > 0 then (some (Go.bits .or .i64 x7_1 (ji10),wrap64 ((ji5) + 1),true)) else (some (Go.bits .or .i64 x7_1 (ji10),wrap64 ((ji5) + 1),(x8_1 == 0)))) else (spec_l6GetSum.l0 k1 l0 a1 (Go.bits .or .i64 x7_1 (ji10)) (wrap64 (x8_1 + 1)))) = some (r1,r2,r3) := by first | (rw [hji10] at H;exact H) | (simp only [hji10] at H ⊢;exact H)
        have hji10_ : (IntKind.i64.wrap ((Go.bits .and .i64 (wrap64 (rd l0 (ji5))) 127) * 2 ^ min (ji8).toNat 64)) = ji10 := hji10
        have hji10z : (ji8) ≤ 64 → (IntKind.i64.wrap ((Go.bits .and .i64 (wrap64 (rd l0 (ji5))) 127) * 2 ^ (ji8).toNat)) = ji10 := shl_small hji10
        have hji10y : (wrap64 ((Go.bits .and .i64 (wrap64 (rd l0 (ji5))) 127) * 2 ^ min (ji8).toNat 64)) = ji10 := (i64_w _).symm.trans hji10_
        have hji10x : (ji8) ≤ 64 → (wrap64 ((Go.bits .and .i64 (wrap64 (rd l0 (ji5))) 127) * 2 ^ (ji8).toNat)) = ji10 := fun h_ => (i64_w _).symm.trans (hji10z h_)
        by_cases c11 : (wrap64 (rd l0 (ji5))) < 128
        ·rw [if_pos c11] at H
         have c11b0 : decide ((wrap64 (rd l0 (ji5))) < 128) = true := decide_eq_true c11
         clear c11
         by_cases c12 : (wrap64 (rd l0 (ji5))) > 0
         ·rw [if_pos c12] at H
          have c12b0 : decide (0 < (wrap64 (rd l0 (ji5)))) = true := decide_eq_true c12
          clear c12
          simp only [Option.some.injEq,Prod.mk.injEq] at H
          obtain ⟨rfl,rfl,rfl⟩ := H
          have p419 : 0 ≤ ((ji5) : Int) := ofd
          have q419 : (ji5) < (l0.length : Int) := ofd
          obtain ⟨ad419,e419,hx419_0⟩ := Kd.at_int HR0.out (ji5) p419 q419
          cases e419
          replace p419 := eq_true p419
          replace q419 := eq_true q419
          go_wp2
          go_ret3
          exact ⟨by first | rfl | (simp;done) | (simp only [← hji5,← hji8,← hji10] <;> (first | rfl | simp)) | (simp [*];done),by repeat (first | exact Drawn0.refl _ | apply Drawn0.step)⟩
         ·rw [if_neg c12] at H
          have c12b0 : decide (0 < (wrap64 (rd l0 (ji5)))) = false := decide_eq_false c12
          clear c12
          simp only [Option.some.injEq,Prod.mk.injEq] at H
          obtain ⟨rfl,rfl,rfl⟩ := H
          have p419 : 0 ≤ ((ji5) : Int) := ofd
          have q419 : (ji5) < (l0.length : Int) := ofd
          obtain ⟨ad419,e419,hx419_0⟩ := Kd.at_int HR0.out (ji5) p419 q419
          cases e419
          replace p419 := eq_true p419
          replace q419 := eq_true q419
          go_wp2
          go_ret3
          exact ⟨by first | rfl | (simp;done) | (simp only [← hji5,← hji8,← hji10] <;> (first | rfl | simp)) | (simp [*];done),by repeat (first | exact Drawn0.refl _ | apply Drawn0.step)⟩
        ·rw [if_neg c11] at H
         have c11b0 : decide ((wrap64 (rd l0 (ji5))) < 128) = false := decide_eq_false c11
         clear c11
         have H' := Mk H
         clear H
         have p419 : 0 ≤ ((ji5) : Int) := ofd
         have q419 : (ji5) < (l0.length : Int) := ofd
         obtain ⟨ad419,e419,hx419_0⟩ := Kd.at_int HR0.out (ji5) p419 q419
         cases e419
         replace p419 := eq_true p419
         replace q419 := eq_true q419
         go_wp2
         go_roundg k1
         case measure => have := HK1.out;omega
         case rel => exact ⟨(Go.bits .or .i64 x7_1 (ji10)),(wrap64 (x8_1 + 1)),(by first | rfl | (simp;done) | (simp only [← hji10] <;> (first | rfl | simp)) | (simp [*];done)),eqs_,H',⟨by have := HK1.out;omega⟩,by repeat (first | exact Drawn0.refl _ | apply Drawn0.step)⟩
       ·rw [if_neg c9] at H
        exact absurd H (by simp)
      ·rw [if_neg c7] at H
       exact absurd H (by simp)
     ·rw [if_neg c6] at H
      exact absurd H (by simp)
   ·rw [if_neg c3] at H
    have c3b0 : decide (x8_1 < 8) = false := decide_eq_false c3
    clear c3
    simp only [Option.some.injEq,Prod.mk.injEq] at H
    obtain ⟨rfl,rfl,rfl⟩ := H
    go_wp2
    go_ret3
    exact ⟨by first | rfl | (simp;done) | (simp [*];done),by repeat (first | exact Drawn0.refl _ | apply Drawn0.step)⟩

end Go.Proofs.Ytdodnhjglpidlaa.PFnMansBent
