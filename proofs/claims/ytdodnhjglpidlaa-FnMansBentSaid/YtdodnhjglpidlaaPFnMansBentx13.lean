-- by a program of this session (a turned copy of the print: make with a capacity)
import Derived.Test.YtdodnhjglpidlaaVMade2
import Derived.Test.YtdodnhjglpidlaaPFnMansBentx0
import Derived.Test.YtdodnhjglpidlaaPFnMansBentx1
import Derived.Test.YtdodnhjglpidlaaPFnMansBentx6
namespace Go.Proofs.Ytdodnhjglpidlaa.PFnMansBent
open Go.RowKit Go.Proofs.YtdodnhjglpidlaaW.PrintWords Go.Proofs.YtdodnhjglpidlaaW.PrintLast Go.Proofs.YtdodnhjglpidlaaW.PrintMore
attribute [local go_sem] max2_int min2_int max_two min_two max_three min_three max_four min_four   -- for this text's walks alone
set_option linter.unusedVariables false
set_option linter.unusedSimpArgs false

attribute [local go_sem high] eqA56
/-! ### laws_sameSums: function 39 -/
def laws_sameSums.l0 : Nat → List (S56) → List (S56) → Int → Option (Bool)
 | 0,_,_,_ => none
 | k + 1,x0,x1,x5 => if x5 < (x0.length : Int) then (if 0 ≤ x5 then (if x5 < (x1.length : Int) then (if (!(((rd_T56 x0 x5).f0) == ((rd_T56 x1 x5).f0)) || (!(((rd_T56 x0 x5).f1) == ((rd_T56 x1 x5).f1)))) = true then (some false) else (laws_sameSums.l0 k x0 x1 (wrap64 (x5 + 1)))) else (none)) else (none)) else (some true)
def laws_sameSums.f (k : Nat) (l0 : List (S56)) (l1 : List (S56)) : Option (Bool) := if (l0.length : Int) = (l1.length : Int) then (laws_sameSums.l0 k l0 l1 0) else (some false)
theorem laws_sameSums.mono_l : ∀ k,(∀ y0 y1 y2,LeO (laws_sameSums.l0 k y0 y1 y2) (laws_sameSums.l0 (k + 1) y0 y1 y2))
 | 0 => fun _ _ _ r h => by simp [laws_sameSums.l0] at h
 | k + 1 => by
  have ih0 := laws_sameSums.mono_l k
  ·intro y0 y1 y2
   unfold laws_sameSums.l0
   repeat' first
   | (with_reducible exact ih0 _ _ _)
   | (with_reducible exact LeO.refl _)
   | (with_reducible exact LeO.none _)
   | (with_reducible refine LeO.ite ?_ ?_)
   | (with_reducible refine LeO.bind ?_ (fun _ => ?_))
   | exact ih0 _ _ _
   | exact LeO.none _
   | refine LeO.ite ?_ ?_
   | refine LeO.bind ?_ (fun _ => ?_)
theorem laws_sameSums.mono : ∀ a0 a1 k,LeO (laws_sameSums.f k a0 a1) (laws_sameSums.f (k + 1) a0 a1) := by
 intro a0 a1 k
 have ih0 := laws_sameSums.mono_l k
 unfold laws_sameSums.f
 repeat' first
   | (with_reducible exact ih0 _ _ _)
   | (with_reducible exact LeO.refl _)
   | (with_reducible exact LeO.none _)
   | (with_reducible refine LeO.ite ?_ ?_)
   | (with_reducible refine LeO.bind ?_ (fun _ => ?_))
   | exact ih0 _ _ _
   | exact LeO.none _
   | refine LeO.ite ?_ ?_
   | refine LeO.bind ?_ (fun _ => ?_)
set_option maxHeartbeats 8000000 in
set_option maxRecDepth 100000 in
theorem laws_sameSums.calls (k : Nat) (A0 : Option Addr) (c0 : Nat) (l0 : List (S56)) (A1 : Option Addr) (c1 : Nat) (l1 : List (S56)) (r : Bool) (w : World) (hr0 : Kd.C k56 w A0 l0.length l0) (hc0 : l0.length ≤ c0) (hr1 : Kd.C k56 w A1 l1.length l1) (hc1 : l1.length ≤ c1) (h : laws_sameSums.f k l0 l1 = some r) :
  Calls Try.prog 39 #[.slice A0 l0.length c0,.slice A1 l1.length c1] w fun e w' => e = .returned (.bool r) ∧ Drawn0 w w' := by
 have hu56 := Try.underlying56
 have hf56_0 : ∀ (a_ b_ : Int) (W_ : World),(Instr.field 56 (.agg #[.int .i64 a_,.int .i64 b_]) 0).run Try.prog W_ = .ok (.int .i64 a_) W_ := fun _ _ _ => by kernel_rfl
 have hf56_1 : ∀ (a_ b_ : Int) (W_ : World),(Instr.field 56 (.agg #[.int .i64 a_,.int .i64 b_]) 1).run Try.prog W_ = .ok (.int .i64 b_) W_ := fun _ _ _ => by kernel_rfl
 have HR0 := Mk hr0
 have HC0 := Mk hc0
 clear hr0 hc0
 have HR1 := Mk hr1
 have HC1 := Mk hc1
 clear hr1 hc1
 have H : (if (l0.length : Int) = (l1.length : Int) then (laws_sameSums.l0 k l0 l1 0) else (some false)) = some r := h
 clear h
 by_cases c3 : (l0.length : Int) = (l1.length : Int)
 ·rw [if_pos c3] at H
  have c3b0 : ((l0.length : Int) == (l1.length : Int)) = true := beq_iff_eq.mpr c3
  have c3b1 : ((l0.length : Int) != (l1.length : Int)) = false := bne_eq_false_iff_eq.mpr c3
  have c3b2 : (l0.length == l1.length) = true := by first | simpa using c3 | (simp at c3 ⊢;omega)
  clear c3
  have H' := Mk H
  clear H
  go_enter Try.func39,Try.ntmps39
  go_wp2
  repeat (go_quiet (fail);try go_wp2)
  go_loopg [5] k (fun kq v5 w' => ∃ (x5_1 : Int),v5 = .int .i64 x5_1 ∧ Aside0 (laws_sameSums.l0 kq l0 l1 x5_1 = some r) ∧ Aside0 (kq ≤ k) ∧ Drawn0 w w')
  case atStart => exact ⟨(0),eqs_,H',⟨Nat.le_refl _⟩,by repeat (first | exact Drawn0.refl _ | apply Drawn0.step)⟩
  case round =>
   clear H'
   try clear c1
   try clear p2
   try clear c3
   try clear c3b0
   try clear c3b1
   try clear c3b2
   obtain ⟨x5_1,rfl,HA,HK1,⟨m1,rfl⟩⟩ := hrel
   cases gk with
   | zero => exact absurd HA.out (by simp [laws_sameSums.l0])
   | succ k1 =>
    have H := HA.out
    clear HA
    simp only [laws_sameSums.l0] at H
    by_cases c4 : x5_1 < (l0.length : Int)
    ·rw [if_pos c4] at H
     have c4b0 : decide (x5_1 < (l0.length : Int)) = true := decide_eq_true c4
     clear c4
     by_cases c5 : 0 ≤ x5_1
     ·rw [if_pos c5] at H
      have c5b0 : decide (0 ≤ x5_1) = true := decide_eq_true c5
      clear c5
      by_cases c6 : x5_1 < (l1.length : Int)
      ·rw [if_pos c6] at H
       have c6b0 : decide (x5_1 < (l1.length : Int)) = true := decide_eq_true c6
       clear c6
       by_cases c7 : (!(((rd_T56 l0 x5_1).f0) == ((rd_T56 l1 x5_1).f0)) || (!(((rd_T56 l0 x5_1).f1) == ((rd_T56 l1 x5_1).f1)))) = true
       ·rw [if_pos c7] at H
        have c7b0 : (!(((rd_T56 l0 x5_1).f0) == ((rd_T56 l1 x5_1).f0)) || (!(((rd_T56 l0 x5_1).f1) == ((rd_T56 l1 x5_1).f1)))) = true := c7
        clear c7
        obtain rfl := Option.some.inj H
        have p567 : 0 ≤ (x5_1 : Int) := ofd
        have q567 : x5_1 < (l0.length : Int) := ofd
        obtain ⟨ad567,e567,hx567_0,hx567_1⟩ := at_T56 HR0.out x5_1 p567 q567
        cases e567
        replace p567 := eq_true p567
        replace q567 := eq_true q567
        have p568 : 0 ≤ (x5_1 : Int) := ofd
        have q568 : x5_1 < (l1.length : Int) := ofd
        obtain ⟨ad568,e568,hx568_0,hx568_1⟩ := at_T56 HR1.out x5_1 p568 q568
        cases e568
        replace p568 := eq_true p568
        replace q568 := eq_true q568
        go_wp2
        repeat (go_quiet (fail);try go_wp2)
        go_ret
        exact ⟨by first | rfl | (simp;done) | (simp [*];done),by repeat (first | exact Drawn0.refl _ | apply Drawn0.step)⟩
       ·rw [if_neg c7] at H
        have c7b0 : (!(((rd_T56 l0 x5_1).f0) == ((rd_T56 l1 x5_1).f0)) || (!(((rd_T56 l0 x5_1).f1) == ((rd_T56 l1 x5_1).f1)))) = false := by simpa using c7
        clear c7
        have H' := Mk H
        clear H
        have p567 : 0 ≤ (x5_1 : Int) := ofd
        have q567 : x5_1 < (l0.length : Int) := ofd
        obtain ⟨ad567,e567,hx567_0,hx567_1⟩ := at_T56 HR0.out x5_1 p567 q567
        cases e567
        replace p567 := eq_true p567
        replace q567 := eq_true q567
        have p568 : 0 ≤ (x5_1 : Int) := ofd
        have q568 : x5_1 < (l1.length : Int) := ofd
        obtain ⟨ad568,e568,hx568_0,hx568_1⟩ := at_T56 HR1.out x5_1 p568 q568
        cases e568
        replace p568 := eq_true p568
        replace q568 := eq_true q568
        go_wp2
        repeat (go_quiet (fail);try go_wp2)
        go_roundg k1
        case measure => have := HK1.out;omega
        case rel => exact ⟨(wrap64 (x5_1 + 1)),eqs_,H',⟨by have := HK1.out;omega⟩,by repeat (first | exact Drawn0.refl _ | apply Drawn0.step)⟩
      ·rw [if_neg c6] at H
       exact absurd H (by simp)
     ·rw [if_neg c5] at H
      exact absurd H (by simp)
    ·rw [if_neg c4] at H
     have c4b0 : decide (x5_1 < (l0.length : Int)) = false := decide_eq_false c4
     clear c4
     obtain rfl := Option.some.inj H
     go_wp2
     repeat (go_quiet (fail);try go_wp2)
     go_ret
     exact ⟨by first | rfl | (simp;done) | (simp [*];done),by repeat (first | exact Drawn0.refl _ | apply Drawn0.step)⟩
 ·rw [if_neg c3] at H
  have c3b0 : ((l0.length : Int) == (l1.length : Int)) = false := beq_eq_false_iff_ne.mpr c3
  have c3b1 : ((l0.length : Int) != (l1.length : Int)) = true := bne_iff_ne.mpr c3
  have c3b2 : (l0.length == l1.length) = false := by first | simpa using c3 | (simp at c3 ⊢;omega)
  obtain rfl := Option.some.inj H
  go_enter Try.func39,Try.ntmps39
  go_wp2
  repeat (go_quiet (fail);try go_wp2)
  go_ret
  exact ⟨by first | rfl | (simp;done) | (simp [*];done),by repeat (first | exact Drawn0.refl _ | apply Drawn0.step)⟩

/-! ### laws_sameMan: function 11 -/
def laws_sameMan.f (k : Nat) (a0_0 : Int) (a0_1 : Int) (a0_2 : Int) (l0_3 : List (S56)) (a1_0 : Int) (a1_1 : Int) (a1_2 : Int) (l1_3 : List (S56)) : Option (Bool) := if a0_0 = a1_0 then (if a0_1 = a1_1 then (if a0_2 = a1_2 then ((laws_sameSums.f k l0_3 l1_3).bind fun t571 => (some t571)) else (some false)) else (some false)) else (some false)
theorem laws_sameMan.mono : ∀ a0 a1 a2 a3 a4 a5 a6 a7 k,LeO (laws_sameMan.f k a0 a1 a2 a3 a4 a5 a6 a7) (laws_sameMan.f (k + 1) a0 a1 a2 a3 a4 a5 a6 a7) := by
 intro a0 a1 a2 a3 a4 a5 a6 a7 k
 unfold laws_sameMan.f
 repeat' first
   | (with_reducible exact laws_sameSums.mono _ _ _)
   | (with_reducible exact LeO.refl _)
   | (with_reducible exact LeO.none _)
   | (with_reducible refine LeO.ite ?_ ?_)
   | (with_reducible refine LeO.bind ?_ (fun _ => ?_))
   | exact laws_sameSums.mono _ _ _
   | exact LeO.none _
   | refine LeO.ite ?_ ?_
   | refine LeO.bind ?_ (fun _ => ?_)
set_option maxHeartbeats 8000000 in
set_option maxRecDepth 100000 in
theorem laws_sameMan.calls (k : Nat) (a0_0 : Int) (a0_1 : Int) (a0_2 : Int) (A0_3 : Option Addr) (c0_3 : Nat) (l0_3 : List (S56)) (a1_0 : Int) (a1_1 : Int) (a1_2 : Int) (A1_3 : Option Addr) (c1_3 : Nat) (l1_3 : List (S56)) (r : Bool) (w : World) (hr0_3 : Kd.C k56 w A0_3 l0_3.length l0_3) (hc0_3 : l0_3.length ≤ c0_3) (hr1_3 : Kd.C k56 w A1_3 l1_3.length l1_3) (hc1_3 : l1_3.length ≤ c1_3) (h : laws_sameMan.f k a0_0 a0_1 a0_2 l0_3 a1_0 a1_1 a1_2 l1_3 = some r) :
  Calls Try.prog 11 #[.agg #[.int .i64 a0_0,.int .i64 a0_1,.int .i64 a0_2,.slice A0_3 l0_3.length c0_3],.agg #[.int .i64 a1_0,.int .i64 a1_1,.int .i64 a1_2,.slice A1_3 l1_3.length c1_3]] w fun e w' => e = .returned (.bool r) ∧ Below w.heap.size w w' := by
 have hu28 := Try.underlying28
 have HR0_3 := Mk hr0_3
 have HC0_3 := Mk hc0_3
 clear hr0_3 hc0_3
 have HR1_3 := Mk hr1_3
 have HC1_3 := Mk hc1_3
 clear hr1_3 hc1_3
 have HB := Mk (Below.refl w.heap.size w)
 have H : (if a0_0 = a1_0 then (if a0_1 = a1_1 then (if a0_2 = a1_2 then ((laws_sameSums.f k l0_3 l1_3).bind fun t571 => (some t571)) else (some false)) else (some false)) else (some false)) = some r := h
 clear h
 by_cases c3 : a0_0 = a1_0
 ·rw [if_pos c3] at H
  have c3b0 : (a0_0 == a1_0) = true := beq_iff_eq.mpr c3
  have c3b1 : (a0_0 != a1_0) = false := bne_eq_false_iff_eq.mpr c3
  clear c3
  by_cases c4 : a0_1 = a1_1
  ·rw [if_pos c4] at H
   have c4b0 : (a0_1 == a1_1) = true := beq_iff_eq.mpr c4
   have c4b1 : (a0_1 != a1_1) = false := bne_eq_false_iff_eq.mpr c4
   clear c4
   by_cases c5 : a0_2 = a1_2
   ·rw [if_pos c5] at H
    have c5b0 : (a0_2 == a1_2) = true := beq_iff_eq.mpr c5
    have c5b1 : (a0_2 != a1_2) = false := bne_eq_false_iff_eq.mpr c5
    clear c5
    replace H := Option.bind_eq_some_iff.mp H
    obtain ⟨t571,A60,H⟩ := H
    replace H : (some t571) = some r := H
    have A6 := Mk A60
    clear A60
    obtain rfl := Option.some.inj H
    go_enter Try.func11,Try.ntmps11
    go_wp2_with (first | ((with_reducible refine gate_dst (N := 2) rfl ?_);refine box_event ?hg (N := 2) ?hd (cs := #[.int .i64 a0_0,.int .i64 a0_1,.int .i64 a0_2,.slice A0_3 l0_3.length c0_3]) (t := 28) ?hr ?_;(case hd => rfl);(case hg => rfl);(case hr => first | (go_simp;done) | (go_simp;rfl));intro gb569 hg w7 hbox hb;have BK569 := Mk (hbox);have GW569 := Mk ((by rw [hg];exact (below_size (B_up HB.out)) : w.heap.size ≤ gb569));have GE569 := Mk ((by rw [hg];exact (below_size (B_up HB.out)) : w.heap.size ≤ gb569));replace HB := Mk (below_step (B_up HB.out) hb);clear hb hbox hg) | ((with_reducible refine gate_dst (N := 3) rfl ?_);refine box_event ?hg (N := 3) ?hd (cs := #[.int .i64 a1_0,.int .i64 a1_1,.int .i64 a1_2,.slice A1_3 l1_3.length c1_3]) (t := 28) ?hr ?_;(case hd => rfl);(case hg => rfl);(case hr => first | (go_simp;done) | (go_simp;rfl));intro gb570 hg w8 hbox hb;have BK570 := Mk (hbox);have GW570 := Mk ((by rw [hg];exact (below_size (B_set HB.out)) : w.heap.size ≤ gb570));have GE570 := Mk ((by rw [hg];exact (below_size (B_set HB.out)) : w.heap.size ≤ gb570));replace HB := Mk (below_step (B_set HB.out) hb);have NB569_570 := Mk ((by rw [hg];exact Nat.ne_of_lt (blk_lt (blk_up BK569.out)) : gb569 ≠ gb570));have NB570_569 := Mk ((by rw [hg];exact Nat.ne_of_gt (blk_lt (blk_up BK569.out)) : gb570 ≠ gb569));replace BK569 := Mk (blk_below (blk_up BK569.out) hb);clear hb hbox hg;have hnb9 := NB569_570.out;have hnc9 := NB570_569.out;obtain ⟨hcz10_0,hcz10_1,hcz10_2,hcz10_3⟩ := cz4 BK569.out;obtain ⟨hfz10_0,hfz10_1,hfz10_2,hfz10_3⟩ := fz4 BK569.out;obtain ⟨hcz11_0,hcz11_1,hcz11_2,hcz11_3⟩ := cz4 BK570.out;obtain ⟨hfz11_0,hfz11_1,hfz11_2,hfz11_3⟩ := fz4 BK570.out) | (go_at_call 39;(with_reducible refine (laws_sameSums.calls k _ _ l0_3 _ _ l1_3 t571 _ ?side1 ?side2 ?side3 ?side4 A6.out).mono ?_);(case side1 => repeat (first | exact (Kd.C_below HR0_3.out HB.out) | (with_reducible refine Kd.C_alloc ?_ _) | (with_reducible refine Kd.C_drewN ?_ _) | (with_reducible refine Kd.C_drew ?_)));(case side2 => exact HC0_3.out);(case side3 => repeat (first | exact (Kd.C_below HR1_3.out HB.out) | (with_reducible refine Kd.C_alloc ?_ _) | (with_reducible refine Kd.C_drewN ?_ _) | (with_reducible refine Kd.C_drew ?_)));(case side4 => exact HC1_3.out);rintro e w' ⟨rfl,⟨nd,rfl⟩⟩))
    go_ret
    exact ⟨err_,B_set HB.out⟩
   ·rw [if_neg c5] at H
    have c5b0 : (a0_2 == a1_2) = false := beq_eq_false_iff_ne.mpr c5
    have c5b1 : (a0_2 != a1_2) = true := bne_iff_ne.mpr c5
    obtain rfl := Option.some.inj H
    go_enter Try.func11,Try.ntmps11
    go_wp2_with (first | ((with_reducible refine gate_dst (N := 2) rfl ?_);refine box_event ?hg (N := 2) ?hd (cs := #[.int .i64 a0_0,.int .i64 a0_1,.int .i64 a0_2,.slice A0_3 l0_3.length c0_3]) (t := 28) ?hr ?_;(case hd => rfl);(case hg => rfl);(case hr => first | (go_simp;done) | (go_simp;rfl));intro gb569 hg w12 hbox hb;have BK569 := Mk (hbox);have GW569 := Mk ((by rw [hg];exact (below_size (B_up HB.out)) : w.heap.size ≤ gb569));have GE569 := Mk ((by rw [hg];exact (below_size (B_up HB.out)) : w.heap.size ≤ gb569));replace HB := Mk (below_step (B_up HB.out) hb);clear hb hbox hg) | ((with_reducible refine gate_dst (N := 3) rfl ?_);refine box_event ?hg (N := 3) ?hd (cs := #[.int .i64 a1_0,.int .i64 a1_1,.int .i64 a1_2,.slice A1_3 l1_3.length c1_3]) (t := 28) ?hr ?_;(case hd => rfl);(case hg => rfl);(case hr => first | (go_simp;done) | (go_simp;rfl));intro gb570 hg w13 hbox hb;have BK570 := Mk (hbox);have GW570 := Mk ((by rw [hg];exact (below_size (B_set HB.out)) : w.heap.size ≤ gb570));have GE570 := Mk ((by rw [hg];exact (below_size (B_set HB.out)) : w.heap.size ≤ gb570));replace HB := Mk (below_step (B_set HB.out) hb);have NB569_570 := Mk ((by rw [hg];exact Nat.ne_of_lt (blk_lt (blk_up BK569.out)) : gb569 ≠ gb570));have NB570_569 := Mk ((by rw [hg];exact Nat.ne_of_gt (blk_lt (blk_up BK569.out)) : gb570 ≠ gb569));replace BK569 := Mk (blk_below (blk_up BK569.out) hb);clear hb hbox hg;have hnb14 := NB569_570.out;have hnc14 := NB570_569.out;obtain ⟨hcz15_0,hcz15_1,hcz15_2,hcz15_3⟩ := cz4 BK569.out;obtain ⟨hfz15_0,hfz15_1,hfz15_2,hfz15_3⟩ := fz4 BK569.out;obtain ⟨hcz16_0,hcz16_1,hcz16_2,hcz16_3⟩ := cz4 BK570.out;obtain ⟨hfz16_0,hfz16_1,hfz16_2,hfz16_3⟩ := fz4 BK570.out))
    go_ret
    exact ⟨err_,B_set HB.out⟩
  ·rw [if_neg c4] at H
   have c4b0 : (a0_1 == a1_1) = false := beq_eq_false_iff_ne.mpr c4
   have c4b1 : (a0_1 != a1_1) = true := bne_iff_ne.mpr c4
   obtain rfl := Option.some.inj H
   go_enter Try.func11,Try.ntmps11
   go_wp2_with (first | ((with_reducible refine gate_dst (N := 2) rfl ?_);refine box_event ?hg (N := 2) ?hd (cs := #[.int .i64 a0_0,.int .i64 a0_1,.int .i64 a0_2,.slice A0_3 l0_3.length c0_3]) (t := 28) ?hr ?_;(case hd => rfl);(case hg => rfl);(case hr => first | (go_simp;done) | (go_simp;rfl));intro gb569 hg w17 hbox hb;have BK569 := Mk (hbox);have GW569 := Mk ((by rw [hg];exact (below_size (B_up HB.out)) : w.heap.size ≤ gb569));have GE569 := Mk ((by rw [hg];exact (below_size (B_up HB.out)) : w.heap.size ≤ gb569));replace HB := Mk (below_step (B_up HB.out) hb);clear hb hbox hg) | ((with_reducible refine gate_dst (N := 3) rfl ?_);refine box_event ?hg (N := 3) ?hd (cs := #[.int .i64 a1_0,.int .i64 a1_1,.int .i64 a1_2,.slice A1_3 l1_3.length c1_3]) (t := 28) ?hr ?_;(case hd => rfl);(case hg => rfl);(case hr => first | (go_simp;done) | (go_simp;rfl));intro gb570 hg w18 hbox hb;have BK570 := Mk (hbox);have GW570 := Mk ((by rw [hg];exact (below_size (B_set HB.out)) : w.heap.size ≤ gb570));have GE570 := Mk ((by rw [hg];exact (below_size (B_set HB.out)) : w.heap.size ≤ gb570));replace HB := Mk (below_step (B_set HB.out) hb);have NB569_570 := Mk ((by rw [hg];exact Nat.ne_of_lt (blk_lt (blk_up BK569.out)) : gb569 ≠ gb570));have NB570_569 := Mk ((by rw [hg];exact Nat.ne_of_gt (blk_lt (blk_up BK569.out)) : gb570 ≠ gb569));replace BK569 := Mk (blk_below (blk_up BK569.out) hb);clear hb hbox hg;have hnb19 := NB569_570.out;have hnc19 := NB570_569.out;obtain ⟨hcz20_0,hcz20_1,hcz20_2,hcz20_3⟩ := cz4 BK569.out;obtain ⟨hfz20_0,hfz20_1,hfz20_2,hfz20_3⟩ := fz4 BK569.out;obtain ⟨hcz21_0,hcz21_1,hcz21_2,hcz21_3⟩ := cz4 BK570.out;obtain ⟨hfz21_0,hfz21_1,hfz21_2,hfz21_3⟩ := fz4 BK570.out))
   go_ret
   exact ⟨err_,B_set HB.out⟩
 ·rw [if_neg c3] at H
  have c3b0 : (a0_0 == a1_0) = false := beq_eq_false_iff_ne.mpr c3
  have c3b1 : (a0_0 != a1_0) = true := bne_iff_ne.mpr c3
  obtain rfl := Option.some.inj H
  go_enter Try.func11,Try.ntmps11
  go_wp2_with (first | ((with_reducible refine gate_dst (N := 2) rfl ?_);refine box_event ?hg (N := 2) ?hd (cs := #[.int .i64 a0_0,.int .i64 a0_1,.int .i64 a0_2,.slice A0_3 l0_3.length c0_3]) (t := 28) ?hr ?_;(case hd => rfl);(case hg => rfl);(case hr => first | (go_simp;done) | (go_simp;rfl));intro gb569 hg w22 hbox hb;have BK569 := Mk (hbox);have GW569 := Mk ((by rw [hg];exact (below_size (B_up HB.out)) : w.heap.size ≤ gb569));have GE569 := Mk ((by rw [hg];exact (below_size (B_up HB.out)) : w.heap.size ≤ gb569));replace HB := Mk (below_step (B_up HB.out) hb);clear hb hbox hg) | ((with_reducible refine gate_dst (N := 3) rfl ?_);refine box_event ?hg (N := 3) ?hd (cs := #[.int .i64 a1_0,.int .i64 a1_1,.int .i64 a1_2,.slice A1_3 l1_3.length c1_3]) (t := 28) ?hr ?_;(case hd => rfl);(case hg => rfl);(case hr => first | (go_simp;done) | (go_simp;rfl));intro gb570 hg w23 hbox hb;have BK570 := Mk (hbox);have GW570 := Mk ((by rw [hg];exact (below_size (B_set HB.out)) : w.heap.size ≤ gb570));have GE570 := Mk ((by rw [hg];exact (below_size (B_set HB.out)) : w.heap.size ≤ gb570));replace HB := Mk (below_step (B_set HB.out) hb);have NB569_570 := Mk ((by rw [hg];exact Nat.ne_of_lt (blk_lt (blk_up BK569.out)) : gb569 ≠ gb570));have NB570_569 := Mk ((by rw [hg];exact Nat.ne_of_gt (blk_lt (blk_up BK569.out)) : gb570 ≠ gb569));replace BK569 := Mk (blk_below (blk_up BK569.out) hb);clear hb hbox hg;have hnb24 := NB569_570.out;have hnc24 := NB570_569.out;obtain ⟨hcz25_0,hcz25_1,hcz25_2,hcz25_3⟩ := cz4 BK569.out;obtain ⟨hfz25_0,hfz25_1,hfz25_2,hfz25_3⟩ := fz4 BK569.out;obtain ⟨hcz26_0,hcz26_1,hcz26_2,hcz26_3⟩ := cz4 BK570.out;obtain ⟨hfz26_0,hfz26_1,hfz26_2,hfz26_3⟩ := fz4 BK570.out))
  go_ret
  exact ⟨err_,B_set HB.out⟩

/-! ### laws_same: function 12 -/
def laws_same.l0 : Nat → List Int → List Int → Int → Option (Bool)
 | 0,_,_,_ => none
 | k + 1,x0,x1,x5 => if x5 < (x0.length : Int) then (if 0 ≤ x5 then (if x5 < (x1.length : Int) then (if (rd x0 x5) = (rd x1 x5) then (laws_same.l0 k x0 x1 (wrap64 (x5 + 1))) else (some false)) else (none)) else (none)) else (some true)
def laws_same.f (k : Nat) (l0 : List Int) (l1 : List Int) : Option (Bool) := if (l0.length : Int) = (l1.length : Int) then (laws_same.l0 k l0 l1 0) else (some false)
theorem laws_same.mono_l : ∀ k,(∀ y0 y1 y2,LeO (laws_same.l0 k y0 y1 y2) (laws_same.l0 (k + 1) y0 y1 y2))
 | 0 => fun _ _ _ r h => by simp [laws_same.l0] at h
 | k + 1 => by
  have ih0 := laws_same.mono_l k
  ·intro y0 y1 y2
   unfold laws_same.l0
   repeat' first
   | (with_reducible exact ih0 _ _ _)
   | (with_reducible exact LeO.refl _)
   | (with_reducible exact LeO.none _)
   | (with_reducible refine LeO.ite ?_ ?_)
   | (with_reducible refine LeO.bind ?_ (fun _ => ?_))
   | exact ih0 _ _ _
   | exact LeO.none _
   | refine LeO.ite ?_ ?_
   | refine LeO.bind ?_ (fun _ => ?_)
theorem laws_same.mono : ∀ a0 a1 k,LeO (laws_same.f k a0 a1) (laws_same.f (k + 1) a0 a1) := by
 intro a0 a1 k
 have ih0 := laws_same.mono_l k
 unfold laws_same.f
 repeat' first
   | (with_reducible exact ih0 _ _ _)
   | (with_reducible exact LeO.refl _)
   | (with_reducible exact LeO.none _)
   | (with_reducible refine LeO.ite ?_ ?_)
   | (with_reducible refine LeO.bind ?_ (fun _ => ?_))
   | exact ih0 _ _ _
   | exact LeO.none _
   | refine LeO.ite ?_ ?_
   | refine LeO.bind ?_ (fun _ => ?_)
set_option maxHeartbeats 8000000 in
set_option maxRecDepth 100000 in
theorem laws_same.calls (k : Nat) (A0 : Option Addr) (c0 : Nat) (l0 : List Int) (A1 : Option Addr) (c1 : Nat) (l1 : List Int) (r : Bool) (w : World) (hr0 : Kd.C (Kd.int .u8) w A0 l0.length l0) (hc0 : l0.length ≤ c0) (hr1 : Kd.C (Kd.int .u8) w A1 l1.length l1) (hc1 : l1.length ≤ c1) (h : laws_same.f k l0 l1 = some r) :
  Calls Try.prog 12 #[.slice A0 l0.length c0,.slice A1 l1.length c1] w fun e w' => e = .returned (.bool r) ∧ Drawn0 w w' := by
 have HR0 := Mk hr0
 have HC0 := Mk hc0
 clear hr0 hc0
 have HR1 := Mk hr1
 have HC1 := Mk hc1
 clear hr1 hc1
 have H : (if (l0.length : Int) = (l1.length : Int) then (laws_same.l0 k l0 l1 0) else (some false)) = some r := h
 clear h
 by_cases c3 : (l0.length : Int) = (l1.length : Int)
 ·rw [if_pos c3] at H
  have c3b0 : ((l0.length : Int) == (l1.length : Int)) = true := beq_iff_eq.mpr c3
  have c3b1 : ((l0.length : Int) != (l1.length : Int)) = false := bne_eq_false_iff_eq.mpr c3
  have c3b2 : (l0.length == l1.length) = true := by first | simpa using c3 | (simp at c3 ⊢;omega)
  clear c3
  have H' := Mk H
  clear H
  go_enter Try.func12,Try.ntmps12
  go_wp2
  repeat (go_quiet (fail);try go_wp2)
  go_loopg [5] k (fun kq v5 w' => ∃ (x5_1 : Int),v5 = .int .i64 x5_1 ∧ Aside0 (laws_same.l0 kq l0 l1 x5_1 = some r) ∧ Aside0 (kq ≤ k) ∧ Drawn0 w w')
  case atStart => exact ⟨(0),eqs_,H',⟨Nat.le_refl _⟩,by repeat (first | exact Drawn0.refl _ | apply Drawn0.step)⟩
  case round =>
   clear H'
   try clear c1
   try clear p2
   try clear c3
   try clear c3b0
   try clear c3b1
   try clear c3b2
   obtain ⟨x5_1,rfl,HA,HK1,⟨m1,rfl⟩⟩ := hrel
   cases gk with
   | zero => exact absurd HA.out (by simp [laws_same.l0])
   | succ k1 =>
    have H := HA.out
    clear HA
    simp only [laws_same.l0] at H
    by_cases c4 : x5_1 < (l0.length : Int)
    ·rw [if_pos c4] at H
     have c4b0 : decide (x5_1 < (l0.length : Int)) = true := decide_eq_true c4
     clear c4
     by_cases c5 : 0 ≤ x5_1
     ·rw [if_pos c5] at H
      have c5b0 : decide (0 ≤ x5_1) = true := decide_eq_true c5
      clear c5
      by_cases c6 : x5_1 < (l1.length : Int)
      ·rw [if_pos c6] at H
       have c6b0 : decide (x5_1 < (l1.length : Int)) = true := decide_eq_true c6
       clear c6
       by_cases c7 : (rd l0 x5_1) = (rd l1 x5_1)
       ·rw [if_pos c7] at H
        have c7b0 : ((rd l0 x5_1) == (rd l1 x5_1)) = true := beq_iff_eq.mpr c7
        have c7b1 : ((rd l0 x5_1) != (rd l1 x5_1)) = false := bne_eq_false_iff_eq.mpr c7
        clear c7
        have H' := Mk H
        clear H
        have p572 : 0 ≤ (x5_1 : Int) := ofd
        have q572 : x5_1 < (l0.length : Int) := ofd
        obtain ⟨ad572,e572,hx572_0⟩ := Kd.at_int HR0.out x5_1 p572 q572
        cases e572
        replace p572 := eq_true p572
        replace q572 := eq_true q572
        have p573 : 0 ≤ (x5_1 : Int) := ofd
        have q573 : x5_1 < (l1.length : Int) := ofd
        obtain ⟨ad573,e573,hx573_0⟩ := Kd.at_int HR1.out x5_1 p573 q573
        cases e573
        replace p573 := eq_true p573
        replace q573 := eq_true q573
        go_wp2
        repeat (go_quiet (fail);try go_wp2)
        go_roundg k1
        case measure => have := HK1.out;omega
        case rel => exact ⟨(wrap64 (x5_1 + 1)),eqs_,H',⟨by have := HK1.out;omega⟩,by repeat (first | exact Drawn0.refl _ | apply Drawn0.step)⟩
       ·rw [if_neg c7] at H
        have c7b0 : ((rd l0 x5_1) == (rd l1 x5_1)) = false := beq_eq_false_iff_ne.mpr c7
        have c7b1 : ((rd l0 x5_1) != (rd l1 x5_1)) = true := bne_iff_ne.mpr c7
        obtain rfl := Option.some.inj H
        have p572 : 0 ≤ (x5_1 : Int) := ofd
        have q572 : x5_1 < (l0.length : Int) := ofd
        obtain ⟨ad572,e572,hx572_0⟩ := Kd.at_int HR0.out x5_1 p572 q572
        cases e572
        replace p572 := eq_true p572
        replace q572 := eq_true q572
        have p573 : 0 ≤ (x5_1 : Int) := ofd
        have q573 : x5_1 < (l1.length : Int) := ofd
        obtain ⟨ad573,e573,hx573_0⟩ := Kd.at_int HR1.out x5_1 p573 q573
        cases e573
        replace p573 := eq_true p573
        replace q573 := eq_true q573
        go_wp2
        repeat (go_quiet (fail);try go_wp2)
        go_ret
        exact ⟨by first | rfl | (simp;done) | (simp [*];done),by repeat (first | exact Drawn0.refl _ | apply Drawn0.step)⟩
      ·rw [if_neg c6] at H
       exact absurd H (by simp)
     ·rw [if_neg c5] at H
      exact absurd H (by simp)
    ·rw [if_neg c4] at H
     have c4b0 : decide (x5_1 < (l0.length : Int)) = false := decide_eq_false c4
     clear c4
     obtain rfl := Option.some.inj H
     go_wp2
     repeat (go_quiet (fail);try go_wp2)
     go_ret
     exact ⟨by first | rfl | (simp;done) | (simp [*];done),by repeat (first | exact Drawn0.refl _ | apply Drawn0.step)⟩
 ·rw [if_neg c3] at H
  have c3b0 : ((l0.length : Int) == (l1.length : Int)) = false := beq_eq_false_iff_ne.mpr c3
  have c3b1 : ((l0.length : Int) != (l1.length : Int)) = true := bne_iff_ne.mpr c3
  have c3b2 : (l0.length == l1.length) = false := by first | simpa using c3 | (simp at c3 ⊢;omega)
  obtain rfl := Option.some.inj H
  go_enter Try.func12,Try.ntmps12
  go_wp2
  repeat (go_quiet (fail);try go_wp2)
  go_ret
  exact ⟨by first | rfl | (simp;done) | (simp [*];done),by repeat (first | exact Drawn0.refl _ | apply Drawn0.step)⟩

/-! ### impl_cloned: function 40 -/
def impl_cloned.f (l0 : List Int) : Option (List Int) := if 0 ≤ (l0.length : Int) then (if ((l0.length : Int) : Int).toNat ≤ 281474976710656 then ((some (List.replicate 0 0 : List Int)).bind fun y574 => (if y574.length + l0.length < 140737488355328 then (some (y574 ++ l0)) else (none))) else (none)) else (none)
set_option maxHeartbeats 8000000 in
set_option maxRecDepth 100000 in
theorem impl_cloned.calls (A0 : Option Addr) (c0 : Nat) (l0 : List Int) (r : List Int) (w : World) (hr0 : Kd.C (Kd.int .u8) w A0 l0.length l0) (hc0 : l0.length ≤ c0) (h : impl_cloned.f l0 = some r) :
  Calls Try.prog 40 #[.slice A0 l0.length c0] w fun e w' => ∃ v0_ : Value,e = .returned (v0_) ∧ Kd.R (Kd.int .u8) 5 w' w.heap.size (fun _ => True) v0_ r ∧ Below w.heap.size w w' := by
 have HR0 := Mk hr0
 have HC0 := Mk hc0
 clear hr0 hc0
 have HB := Mk (Below.refl w.heap.size w)
 have H : (if 0 ≤ (l0.length : Int) then (if ((l0.length : Int) : Int).toNat ≤ 281474976710656 then ((some (List.replicate 0 0 : List Int)).bind fun y574 => (if y574.length + l0.length < 140737488355328 then (some (y574 ++ l0)) else (none))) else (none)) else (none)) = some r := h
 clear h
 by_cases c2 : 0 ≤ (l0.length : Int)
 ·rw [if_pos c2] at H
  have c2b0 := eq_true c2
  have c2b1 : decide (0 ≤ (l0.length : Int)) = true := decide_eq_true c2
  clear c2
  by_cases c3 : ((l0.length : Int) : Int).toNat ≤ 281474976710656
  ·rw [if_pos c3] at H
   have c3b0 := eq_true c3
   have c3b1 : decide (((l0.length : Int) : Int).toNat ≤ 281474976710656) = true := decide_eq_true c3
   clear c3
   obtain ⟨y574,hy574⟩ : ∃ y_ : List Int,y_ = (List.replicate 0 0) := ⟨_,rfl⟩
   replace H : (if y574.length + l0.length < 140737488355328 then (some (y574 ++ l0)) else (none)) = some r := by first | (rw [hy574];with_reducible exact H) | (have H2_ := (Option.bind_some _ _).symm.trans H;rw [hy574];with_reducible exact H2_) | (have H2_ := (Option.bind_some _ _).symm.trans H;with_reducible exact H2_) | with_reducible exact H | (rw [hy574];exact H) | exact H
   have Ny574 := Mk hy574
   clear hy574
   by_cases c4 : y574.length + l0.length < 140737488355328
   ·rw [if_pos c4] at H
    have LMc4 := Mk c4
    clear c4
    obtain ⟨y577,hy577⟩ : ∃ y_ : List Int,y_ = (y574 ++ l0) := ⟨_,rfl⟩
    replace H : (some y577) = some r := by first | (rw [hy577];with_reducible exact H) | (have H2_ := (Option.bind_some _ _).symm.trans H;rw [hy577];with_reducible exact H2_) | (have H2_ := (Option.bind_some _ _).symm.trans H;with_reducible exact H2_) | with_reducible exact H | (rw [hy577];exact H) | exact H
    have Ny577 := Mk hy577
    clear hy577
    obtain rfl := Option.some.inj H
    go_enter Try.func40,Try.ntmps40
    go_wp2_with (first | ((with_reducible refine gate_dst (N := 5) rfl ?_);refine Kd.R_make0 (Kd.int .u8) _ 5 rfl (N := 5) rfl 22 _ _ rfl (l0.length : Int) rfl rfl Try.underlying22 (.int .u8 0) 1 info5 rfl (by decide) (by omega) 0 (ok := fun _ => True) trivial ofd (Nat.le_trans (Nat.mul_le_mul_right _ (ofd : (l0.length : Int).toNat ≤ 281474976710656)) (by omega)) (Below.refl _ _) (Nat.le_refl _) ?_;intro v575 w5 ho6 hb hg_ hnew_;clear hg_ hnew_;(first | rw [← Ny574.out] at ho6 | (simp only [Int.reduceToNat] at ho6;rw [← Ny574.out] at ho6));have HO576 := Mk (Kd.R_lower ho6 (below_size (B_up HB.out)));replace HB := Mk (below_step (B_up HB.out) hb);clear hb ho6) | ((with_reducible refine gate_builtin (b := .append) (xs := #[.tmp 5,.tmp 6]) rfl ?_);at_builtin;refine Kd.R_append_rows (Kd.int .u8) (w0 := w) w.heap.size rfl (.tmp 5) (.tmp 6) 22 5 (.int .u8 0) 1 rfl Try.underlying22 info5 rfl (by decide) (by omega) v575 y574 l0 _ _ _ (fun _ => True) (fun _ => False) rfl rfl ?aO ?aR (fun _ _ h => h) (fun _ h => h.elim) ?aF ?aB ?aS ?aL ?_;(case aR => repeat (first | exact (Kd.C_below HR0.out HB.out) | (with_reducible refine Kd.C_alloc ?_ _) | (with_reducible refine Kd.C_drewN ?_ _) | (with_reducible refine Kd.C_drew ?_)));(case aB => exact (B_up HB.out));(case aF => exact (fun _ _ => trivial));(case aO => exact (Kd.R_up HO576.out));(case aS => exact (below_size (B_up HB.out)));(case aL => have := LMc4.out;omega);intro v578 w7 ho hb hg hat;rw [← Ny577.out] at ho;replace HB := Mk (hb);have HO579 := Mk (ho);clear HO576;clear ho hb hg hat))
    go_ret
    exact ⟨_,err_,Kd.R_up HO579.out,B_set HB.out⟩
   ·rw [if_neg c4] at H
    exact absurd H (by simp)
  ·rw [if_neg c3] at H
   exact absurd H (by simp)
 ·rw [if_neg c2] at H
  exact absurd H (by simp)

/-! ### impl_appendVar: function 42 -/
def impl_appendVar.l0 : Nat → List Int → Int → Option (List Int)
 | 0,_,_ => none
 | k + 1,x0,x1 => if x1 ≥ 128 then (if x0.length < 140737488355328 then (impl_appendVar.l0 k (x0 ++ [Go.bits .or .u8 ((x1) % 256) 128]) (x1 / 128)) else (none)) else (if x0.length < 140737488355328 then (some (x0 ++ [(x1) % 256])) else (none))
def impl_appendVar.f (k : Nat) (l0 : List Int) (a1 : Int) : Option (List Int) := impl_appendVar.l0 k l0 a1
theorem impl_appendVar.mono_l : ∀ k,(∀ y0 y1,LeO (impl_appendVar.l0 k y0 y1) (impl_appendVar.l0 (k + 1) y0 y1))
 | 0 => fun _ _ r h => by simp [impl_appendVar.l0] at h
 | k + 1 => by
  have ih0 := impl_appendVar.mono_l k
  ·intro y0 y1
   unfold impl_appendVar.l0
   repeat' first
   | (with_reducible exact ih0 _ _)
   | (with_reducible exact LeO.refl _)
   | (with_reducible exact LeO.none _)
   | (with_reducible refine LeO.ite ?_ ?_)
   | (with_reducible refine LeO.bind ?_ (fun _ => ?_))
   | exact ih0 _ _
   | exact LeO.none _
   | refine LeO.ite ?_ ?_
   | refine LeO.bind ?_ (fun _ => ?_)
theorem impl_appendVar.mono : ∀ a0 a1 k,LeO (impl_appendVar.f k a0 a1) (impl_appendVar.f (k + 1) a0 a1) := by
 intro a0 a1 k
 have ih0 := impl_appendVar.mono_l k
 unfold impl_appendVar.f
 repeat' first
   | (with_reducible exact ih0 _ _)
   | (with_reducible exact LeO.refl _)
   | (with_reducible exact LeO.none _)
   | (with_reducible refine LeO.ite ?_ ?_)
   | (with_reducible refine LeO.bind ?_ (fun _ => ?_))
   | exact ih0 _ _
   | exact LeO.none _
   | refine LeO.ite ?_ ?_
   | refine LeO.bind ?_ (fun _ => ?_)
set_option maxHeartbeats 8000000 in
set_option maxRecDepth 100000 in
theorem impl_appendVar.calls (k : Nat) (P0_ : Nat → Prop) (u9000_ : Value) (l0 : List Int) (a1 : Int) (r : List Int) (w0 w : World) (hB : Below w0.heap.size w0 w) (ho0 : Kd.R (Kd.int .u8) 5 w w0.heap.size P0_ u9000_ l0) (h : impl_appendVar.f k l0 a1 = some r) :
  Calls Try.prog 42 #[u9000_,.int .i64 a1] w fun e w' => ∃ v0_ : Value,e = .returned (v0_) ∧ Kd.R (Kd.int .u8) 5 w' w0.heap.size (fun k_ => (P0_ k_ ∨ w.heap.size ≤ k_)) v0_ r ∧ Below w0.heap.size w0 w' ∧ Kept w w' (fun k_ => P0_ k_) := by
 have HO0 := Mk (show Kd.R (Kd.int .u8) 5 w w0.heap.size (fun k_ => (P0_ k_ ∨ w.heap.size ≤ k_)) u9000_ l0 from Kd.R_mono ho0 (fun k_ hk => (.inl hk)))
 have HK := Mk (Kept.refl w (fun k_ => P0_ k_))
 have HW0 := Mk hB.size
 have HB := Mk hB
 clear hB
 have H : (impl_appendVar.l0 k l0 a1) = some r := h
 clear h
 have H' := Mk H
 clear H
 go_enter Try.func42,Try.ntmps42
 go_wp2
 go_loopg [0,1] k (fun kq v0 v1 w' => ∃ (x0_1 : List Int) (x1_1 : Int),v1 = .int .i64 x1_1 ∧ Aside0 (impl_appendVar.l0 kq x0_1 x1_1 = some r) ∧ Aside0 (kq ≤ k) ∧ Aside0 (Kd.R (Kd.int .u8) 5 w' w0.heap.size (fun k_ => (P0_ k_ ∨ w.heap.size ≤ k_)) v0 x0_1) ∧ Aside0 (Kept w w' (fun k_ => P0_ k_)) ∧ Aside0 (Below w0.heap.size w0 w'))
 case atStart => exact ⟨(l0),(a1),eqs_,H',⟨Nat.le_refl _⟩,⟨Kd.R_up HO0.out⟩,⟨by repeat (first | (with_reducible first | exact HK.out | apply Kept.alloc | apply Kept.drewN | apply Kept.drew) | exact HK.out)⟩,⟨B_set HB.out⟩⟩
 case round =>
  clear H'
  try clear p2
  obtain ⟨x0_1,x1_1,rfl,HA,HK1,HO_0,HK,HB⟩ := hrel
  cases gk with
  | zero => exact absurd HA.out (by simp [impl_appendVar.l0])
  | succ k1 =>
   have H := HA.out
   clear HA
   simp only [impl_appendVar.l0] at H
   by_cases c3 : x1_1 ≥ 128
   ·rw [if_pos c3] at H
    have c3b0 : decide (128 ≤ x1_1) = true := decide_eq_true c3
    clear c3
    by_cases c4 : x0_1.length < 140737488355328
    ·rw [if_pos c4] at H
     have LMc4 := Mk c4
     clear c4
     obtain ⟨y580,hy580⟩ : ∃ y_ : List Int,y_ = (x0_1 ++ [Go.bits .or .u8 ((x1_1) % 256) 128]) := ⟨_,rfl⟩
     replace H : (impl_appendVar.l0 k1 y580 (x1_1 / 128)) = some r := by first | (rw [hy580];with_reducible exact H) | (have H2_ := (Option.bind_some _ _).symm.trans H;rw [hy580];with_reducible exact H2_) | (have H2_ := (Option.bind_some _ _).symm.trans H;with_reducible exact H2_) | with_reducible exact H | (rw [hy580];exact H) | exact H
     have Ny580 := Mk hy580
     clear hy580
     have H' := Mk H
     clear H
     go_wp2_with (first | ((with_reducible refine gate_builtin (b := .append) (xs := #[.tmp 7,.tmp 11]) rfl ?_);at_builtin;refine Kd.R_append (Kd.int .u8) (w0 := w0) w0.heap.size rfl (.tmp 7) (.tmp 11) 22 5 (.int .u8 0) 1 rfl Try.underlying22 info5 rfl (by decide) (by omega) u0 x0_1 (Go.bits .or .u8 ((x1_1) % 256) 128) [.int .u8 (Go.bits .or .u8 ((x1_1) % 256) 128)] (fun k_ => (P0_ k_ ∨ w.heap.size ≤ k_)) (fun _ => False) rfl rfl ?aP (fun _ hk => hk.elim) ?aF ?aO ?aB ?aS ?aL ?_;(case aP => exact rfl);(case aB => exact (B_up HB.out));(case aF => exact (fun k_ hk => (.inr (Nat.le_trans (by first | exact HK.out.1 | exact (show Kept w _ (fun k_ => P0_ k_) from by repeat (first | (with_reducible first | exact HK.out | apply Kept.alloc | apply Kept.drewN | apply Kept.drew) | exact HK.out)).1) hk))));(case aO => exact (Kd.R_up HO_0.out));(case aS => exact (below_size (B_up HB.out)));(case aL => have := LMc4.out;omega);intro v581 w5 ho hb hg hat;rw [← Ny580.out] at ho;replace HB := Mk (hb);replace HK := Mk (Kept.of_grown (S := (fun k_ => P0_ k_)) hg (by repeat (first | (with_reducible first | exact HK.out | apply Kept.alloc | apply Kept.drewN | apply Kept.drew) | exact HK.out)) (fun k_ e_ => (HO_0.out.1 k_ e_)));have HO582 := Mk (ho);clear HO_0;clear ho hb hg hat))
     go_roundg k1
     case measure => have := HK1.out;omega
     case rel => exact ⟨(y580),(x1_1 / 128),eqs_,H',⟨by have := HK1.out;omega⟩,⟨Kd.R_up HO582.out⟩,⟨by repeat (first | (with_reducible first | exact HK.out | apply Kept.alloc | apply Kept.drewN | apply Kept.drew) | exact HK.out)⟩,⟨B_set HB.out⟩⟩
    ·rw [if_neg c4] at H
     exact absurd H (by simp)
   ·rw [if_neg c3] at H
    have c3b0 : decide (128 ≤ x1_1) = false := decide_eq_false c3
    clear c3
    by_cases c6 : x0_1.length < 140737488355328
    ·rw [if_pos c6] at H
     have LMc6 := Mk c6
     clear c6
     obtain ⟨y583,hy583⟩ : ∃ y_ : List Int,y_ = (x0_1 ++ [(x1_1) % 256]) := ⟨_,rfl⟩
     replace H : (some y583) = some r := by first | (rw [hy583];with_reducible exact H) | (have H2_ := (Option.bind_some _ _).symm.trans H;rw [hy583];with_reducible exact H2_) | (have H2_ := (Option.bind_some _ _).symm.trans H;with_reducible exact H2_) | with_reducible exact H | (rw [hy583];exact H) | exact H
     have Ny583 := Mk hy583
     clear hy583
     obtain rfl := Option.some.inj H
     go_wp2_with (first | ((with_reducible refine gate_builtin (b := .append) (xs := #[.tmp 15,.tmp 18]) rfl ?_);at_builtin;refine Kd.R_append (Kd.int .u8) (w0 := w0) w0.heap.size rfl (.tmp 15) (.tmp 18) 22 5 (.int .u8 0) 1 rfl Try.underlying22 info5 rfl (by decide) (by omega) u0 x0_1 ((x1_1) % 256) [.int .u8 ((x1_1) % 256)] (fun k_ => (P0_ k_ ∨ w.heap.size ≤ k_)) (fun _ => False) rfl rfl ?aP (fun _ hk => hk.elim) ?aF ?aO ?aB ?aS ?aL ?_;(case aP => exact rfl);(case aB => exact (B_up HB.out));(case aF => exact (fun k_ hk => (.inr (Nat.le_trans (by first | exact HK.out.1 | exact (show Kept w _ (fun k_ => P0_ k_) from by repeat (first | (with_reducible first | exact HK.out | apply Kept.alloc | apply Kept.drewN | apply Kept.drew) | exact HK.out)).1) hk))));(case aO => exact (Kd.R_up HO_0.out));(case aS => exact (below_size (B_up HB.out)));(case aL => have := LMc6.out;omega);intro v584 w7 ho hb hg hat;rw [← Ny583.out] at ho;replace HB := Mk (hb);replace HK := Mk (Kept.of_grown (S := (fun k_ => P0_ k_)) hg (by repeat (first | (with_reducible first | exact HK.out | apply Kept.alloc | apply Kept.drewN | apply Kept.drew) | exact HK.out)) (fun k_ e_ => (HO_0.out.1 k_ e_)));have HO585 := Mk (ho);clear HO_0;clear ho hb hg hat))
     go_ret
     exact ⟨_,err_,Kd.R_up HO585.out,B_set HB.out,by repeat (first | (with_reducible first | exact HK.out | apply Kept.alloc | apply Kept.drewN | apply Kept.drew) | exact HK.out)⟩
    ·rw [if_neg c6] at H
     exact absurd H (by simp)

/-! ### impl_PutVar: function 41 -/
def impl_PutVar.f (k : Nat) (l0 : List Int) (a1 : Int) : Option (List Int) := (impl_cloned.f l0).bind fun t586 => ((impl_within.f a1 0 1000000000000).bind fun t589 => (if t589 = true then ((impl_appendVar.f k t586 a1).bind fun t590 => (some t590)) else (some t586)))
theorem impl_PutVar.mono : ∀ a0 a1 k,LeO (impl_PutVar.f k a0 a1) (impl_PutVar.f (k + 1) a0 a1) := by
 intro a0 a1 k
 unfold impl_PutVar.f
 repeat' first
   | (with_reducible exact impl_appendVar.mono _ _ _)
   | (with_reducible exact LeO.refl _)
   | (with_reducible exact LeO.none _)
   | (with_reducible refine LeO.ite ?_ ?_)
   | (with_reducible refine LeO.bind ?_ (fun _ => ?_))
   | exact impl_appendVar.mono _ _ _
   | exact LeO.none _
   | refine LeO.ite ?_ ?_
   | refine LeO.bind ?_ (fun _ => ?_)
set_option maxHeartbeats 8000000 in
set_option maxRecDepth 100000 in
theorem impl_PutVar.calls (k : Nat) (A0 : Option Addr) (c0 : Nat) (l0 : List Int) (a1 : Int) (r : List Int) (w : World) (hr0 : Kd.C (Kd.int .u8) w A0 l0.length l0) (hc0 : l0.length ≤ c0) (h : impl_PutVar.f k l0 a1 = some r) :
  Calls Try.prog 41 #[.slice A0 l0.length c0,.int .i64 a1] w fun e w' => ∃ v0_ : Value,e = .returned (v0_) ∧ Kd.R (Kd.int .u8) 5 w' w.heap.size (fun _ => True) v0_ r ∧ Below w.heap.size w w' := by
 have HR0 := Mk hr0
 have HC0 := Mk hc0
 clear hr0 hc0
 have HB := Mk (Below.refl w.heap.size w)
 have H : ((impl_cloned.f l0).bind fun t586 => ((impl_within.f a1 0 1000000000000).bind fun t589 => (if t589 = true then ((impl_appendVar.f k t586 a1).bind fun t590 => (some t590)) else (some t586)))) = some r := h
 clear h
 replace H := bsm H
 obtain ⟨t586,A3,H⟩ := H
 (try dsimp only at H)
 replace H := bsm H
 obtain ⟨t589,A4,H⟩ := H
 (try dsimp only at H)
 by_cases c5 : t589 = true
 ·subst c5
  rw [if_pos rfl] at H
  replace H := Option.bind_eq_some_iff.mp H
  obtain ⟨t590,A60,H⟩ := H
  replace H : (some t590) = some r := H
  have A6 := Mk A60
  clear A60
  obtain rfl := Option.some.inj H
  go_enter Try.func41,Try.ntmps41
  go_wp2_with (first | ((with_reducible refine gate_callee (f := 40) rfl ?_);refine goesL_ (some 7) rfl rfl Try.func40 (by kernel_rfl) rfl #[.slice A0 l0.length c0] rfl eq_up ?_;(with_reducible refine (impl_cloned.calls _ _ l0 t586 _ ?side1 ?side2 A3.out).mono ?_);(case side1 => exact Kd.C_up HR0.out);(case side2 => exact HC0.out);rintro e w7 ⟨v587,rfl,ho0,hb⟩;refine ⟨_,rfl,?_⟩;have HO588 := Mk (Kd.R_lower ho0 (below_size (B_up HB.out)));replace HB := Mk (below_step (B_up HB.out) hb);(try clear hb);(try clear hb2);(try clear hk);(try clear hi);(try clear ho0)) | ((with_reducible refine gate_callee (f := 47) rfl ?_);refine goesL_ (some 9) rfl rfl Try.func47 (by kernel_rfl) rfl #[.int .i64 a1,.int .i64 0,.int .i64 1000000000000] rfl eq_up ?_;(with_reducible refine (impl_within.calls a1 0 1000000000000 true _ A4.out).mono ?_);rintro e w' ⟨rfl,⟨nd,rfl⟩⟩;refine ⟨_,rfl,?_⟩;obtain ⟨Ao8,co8,eo8⟩ := Kd.R_slice HO588.out;subst eo8) | ((with_reducible refine gate_callee (f := 42) rfl ?_);refine goesL_ (some 14) rfl rfl Try.func42 (by kernel_rfl) rfl #[.slice Ao8 t586.length co8,.int .i64 a1] rfl eq_up ?_;(with_reducible refine (impl_appendVar.calls k (fun k_ => some k_ = (.slice Ao8 t586.length co8 : Value).ownBlock) (.slice Ao8 t586.length co8) t586 a1 t590 w _ ?side1 ?side2 A6.out).mono ?_);(case side1 => exact B_set HB.out);(case side2 => exact Kd.R_tight rfl HO588.out);rintro e w9 ⟨v591,rfl,ho0,hb,hkp⟩;refine ⟨_,rfl,?_⟩;have HO592 := Mk (Kd.R_mono (ok' := fun k_ => True) ho0 (fun k_ hk_ => trivial));replace HB := Mk (hb);clear HO588;(try clear hb);(try clear hkp);(try clear ho0)))
  go_ret
  exact ⟨_,err_,Kd.R_up HO592.out,B_set HB.out⟩
 ·replace c5 := Bool.eq_false_iff.mpr c5
  subst c5
  have H1 : (some t586) = some r := by rw [if_neg (show ¬ (false = true) by decide)] at H;exact H
  clear H
  have H := H1
  clear H1
  obtain rfl := Option.some.inj H
  go_enter Try.func41,Try.ntmps41
  go_wp2_with (first | ((with_reducible refine gate_callee (f := 40) rfl ?_);refine goesL_ (some 7) rfl rfl Try.func40 (by kernel_rfl) rfl #[.slice A0 l0.length c0] rfl eq_up ?_;(with_reducible refine (impl_cloned.calls _ _ l0 t586 _ ?side1 ?side2 A3.out).mono ?_);(case side1 => exact Kd.C_up HR0.out);(case side2 => exact HC0.out);rintro e w10 ⟨v587,rfl,ho0,hb⟩;refine ⟨_,rfl,?_⟩;have HO588 := Mk (Kd.R_lower ho0 (below_size (B_up HB.out)));replace HB := Mk (below_step (B_up HB.out) hb);(try clear hb);(try clear hb2);(try clear hk);(try clear hi);(try clear ho0)) | ((with_reducible refine gate_callee (f := 47) rfl ?_);refine goesL_ (some 9) rfl rfl Try.func47 (by kernel_rfl) rfl #[.int .i64 a1,.int .i64 0,.int .i64 1000000000000] rfl eq_up ?_;(with_reducible refine (impl_within.calls a1 0 1000000000000 false _ A4.out).mono ?_);rintro e w' ⟨rfl,⟨nd,rfl⟩⟩;refine ⟨_,rfl,?_⟩))
  go_ret
  exact ⟨_,err_,Kd.R_up HO588.out,B_set HB.out⟩

end Go.Proofs.Ytdodnhjglpidlaa.PFnMansBent
