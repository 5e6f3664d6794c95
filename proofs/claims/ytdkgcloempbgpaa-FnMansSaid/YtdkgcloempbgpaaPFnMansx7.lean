-- by a program of this session (a turned copy of the print: make with a capacity)
import Derived.Test.YtdkgcloempbgpaaVMade1
import Derived.Test.YtdkgcloempbgpaaPFnMansx0
import Derived.Test.YtdkgcloempbgpaaPFnMansx5
import Derived.Test.YtdkgcloempbgpaaPFnMansx6
namespace Go.Proofs.Ytdkgcloempbgpaa.PFnMans
open Go.RowKit Go.Proofs.YtdkgcloempbgpaaW.PrintWords Go.Proofs.YtdkgcloempbgpaaW.PrintLast Go.Proofs.YtdkgcloempbgpaaW.PrintMore
attribute [local go_sem] max2_int min2_int max_two min_two max_three min_three max_four min_four   -- for this text's walks alone
set_option linter.unusedVariables false
set_option linter.unusedSimpArgs false

/-! ### spec_CeilDiv: function 101 -/
def spec_CeilDiv.f (a0 : Int) (a1 : Int) : Option (Int) := (spec_l1In.f a0 0 1000000000000).bind fun t333 => (if t333 = true then ((spec_l1In.f a1 1 1000000000000).bind fun t334 => (if t334 = true then (if a1 = 0 then (none) else (some (wrap64 (Int.tdiv (wrap64 ((wrap64 (a0 + a1)) - 1)) a1)))) else (some 0))) else (some 0))
set_option maxHeartbeats 8000000 in
set_option maxRecDepth 100000 in
theorem spec_CeilDiv.calls (a0 : Int) (a1 : Int) (r : Int) (w : World) (h : spec_CeilDiv.f a0 a1 = some r) :
  Calls Try.prog 101 #[.int .i64 a0,.int .i64 a1] w fun e w' => e = .returned (.int .i64 r) ∧ Drawn0 w w' := by
 have H : ((spec_l1In.f a0 0 1000000000000).bind fun t333 => (if t333 = true then ((spec_l1In.f a1 1 1000000000000).bind fun t334 => (if t334 = true then (if a1 = 0 then (none) else (some (wrap64 (Int.tdiv (wrap64 ((wrap64 (a0 + a1)) - 1)) a1)))) else (some 0))) else (some 0))) = some r := h
 clear h
 replace H := Option.bind_eq_some_iff.mp H
 obtain ⟨t333,A30,H⟩ := H
 (try dsimp only at H)
 have A3 := Aside0.mk A30
 clear A30
 by_cases c4 : t333 = true
 ·subst c4
  rw [if_pos rfl] at H
  replace H := Option.bind_eq_some_iff.mp H
  obtain ⟨t334,A50,H⟩ := H
  (try dsimp only at H)
  have A5 := Aside0.mk A50
  clear A50
  by_cases c6 : t334 = true
  ·subst c6
   rw [if_pos rfl] at H
   by_cases c7 : a1 = 0
   ·rw [if_pos c7] at H
    exact absurd H (by simp)
   ·rw [if_neg c7] at H
    have c7b0 : (a1 == 0) = false := beq_eq_false_iff_ne.mpr c7
    have c7b1 : (a1 != 0) = true := bne_iff_ne.mpr c7
    obtain rfl := Option.some.inj H
    go_enter Try.func101,Try.ntmps101
    go_wp2_with (first | ((with_reducible refine gate_callee (f := 89) rfl ?_);refine goesL_ (some 6) rfl rfl Try.func89 (by kernel_rfl) rfl #[.int .i64 a0,.int .i64 0,.int .i64 1000000000000] rfl eq_up ?_;(with_reducible refine (spec_l1In.calls a0 0 1000000000000 true _ A3.out).mono ?_);rintro e w' ⟨rfl,⟨nd,rfl⟩⟩;refine ⟨_,rfl,?_⟩) | (go_at_call 89;(with_reducible refine (spec_l1In.calls a1 1 1000000000000 true _ A5.out).mono ?_);rintro e w' ⟨rfl,⟨nd,rfl⟩⟩))
    go_ret
    exact ⟨by first | rfl | (simp;done) | (simp [*];done),by repeat (first | exact Drawn0.refl _ | apply Drawn0.step)⟩
  ·replace c6 := Bool.eq_false_iff.mpr c6
   subst c6
   have H1 : (some 0) = some r := by rw [if_neg (show ¬ (false = true) by decide)] at H;exact H
   clear H
   have H := H1
   clear H1
   obtain rfl := Option.some.inj H
   go_enter Try.func101,Try.ntmps101
   go_wp2_with (first | ((with_reducible refine gate_callee (f := 89) rfl ?_);refine goesL_ (some 6) rfl rfl Try.func89 (by kernel_rfl) rfl #[.int .i64 a0,.int .i64 0,.int .i64 1000000000000] rfl eq_up ?_;(with_reducible refine (spec_l1In.calls a0 0 1000000000000 true _ A3.out).mono ?_);rintro e w' ⟨rfl,⟨nd,rfl⟩⟩;refine ⟨_,rfl,?_⟩) | (go_at_call 89;(with_reducible refine (spec_l1In.calls a1 1 1000000000000 false _ A5.out).mono ?_);rintro e w' ⟨rfl,⟨nd,rfl⟩⟩))
   go_ret
   exact ⟨by first | rfl | (simp;done) | (simp [*];done),by repeat (first | exact Drawn0.refl _ | apply Drawn0.step)⟩
 ·replace c4 := Bool.eq_false_iff.mpr c4
  subst c4
  have H1 : (some 0) = some r := by rw [if_neg (show ¬ (false = true) by decide)] at H;exact H
  clear H
  have H := H1
  clear H1
  obtain rfl := Option.some.inj H
  go_enter Try.func101,Try.ntmps101
  go_wp2_with (first | ((with_reducible refine gate_callee (f := 89) rfl ?_);refine goesL_ (some 6) rfl rfl Try.func89 (by kernel_rfl) rfl #[.int .i64 a0,.int .i64 0,.int .i64 1000000000000] rfl eq_up ?_;(with_reducible refine (spec_l1In.calls a0 0 1000000000000 false _ A3.out).mono ?_);rintro e w' ⟨rfl,⟨nd,rfl⟩⟩;refine ⟨_,rfl,?_⟩))
  go_ret
  exact ⟨by first | rfl | (simp;done) | (simp [*];done),by repeat (first | exact Drawn0.refl _ | apply Drawn0.step)⟩

/-! ### spec_Blocks: function 69 -/
def spec_Blocks.f (a0 : Int) (a1 : Int) : Option (Int) := (spec_SizeOk.f a0 a1).bind fun t335 => (if t335 = true then ((spec_CeilDiv.f a1 a0).bind fun t336 => (some t336)) else (some 0))
set_option maxHeartbeats 8000000 in
set_option maxRecDepth 100000 in
theorem spec_Blocks.calls (a0 : Int) (a1 : Int) (r : Int) (w : World) (h : spec_Blocks.f a0 a1 = some r) :
  Calls Try.prog 69 #[.int .i64 a0,.int .i64 a1] w fun e w' => e = .returned (.int .i64 r) ∧ Drawn0 w w' := by
 have H : ((spec_SizeOk.f a0 a1).bind fun t335 => (if t335 = true then ((spec_CeilDiv.f a1 a0).bind fun t336 => (some t336)) else (some 0))) = some r := h
 clear h
 replace H := Option.bind_eq_some_iff.mp H
 obtain ⟨t335,A30,H⟩ := H
 replace H : (if t335 = true then ((spec_CeilDiv.f a1 a0).bind fun t336 => (some t336)) else (some 0)) = some r := H
 have A3 := Aside0.mk A30
 clear A30
 by_cases c4 : t335 = true
 ·subst c4
  rw [if_pos rfl] at H
  replace H := Option.bind_eq_some_iff.mp H
  obtain ⟨t336,A50,H⟩ := H
  replace H : (some t336) = some r := H
  have A5 := Aside0.mk A50
  clear A50
  obtain rfl := Option.some.inj H
  go_enter Try.func69,Try.ntmps69
  go_wp2_with (first | ((with_reducible refine gate_callee (f := 90) rfl ?_);refine goesL_ (some 7) rfl rfl Try.func90 (by kernel_rfl) rfl #[.int .i64 a0,.int .i64 a1] rfl eq_up ?_;(with_reducible refine (spec_SizeOk.calls a0 a1 true _ A3.out).mono ?_);rintro e w' ⟨rfl,⟨nd,rfl⟩⟩;refine ⟨_,rfl,?_⟩) | ((with_reducible refine gate_callee (f := 101) rfl ?_);refine goesL_ (some 11) rfl rfl Try.func101 (by kernel_rfl) rfl #[.int .i64 a1,.int .i64 a0] rfl eq_up ?_;(with_reducible refine (spec_CeilDiv.calls a1 a0 t336 _ A5.out).mono ?_);rintro e w' ⟨rfl,⟨nd,rfl⟩⟩;refine ⟨_,rfl,?_⟩))
  go_ret
  exact ⟨by first | rfl | (simp;done) | (simp [*];done),by repeat (first | exact Drawn0.refl _ | apply Drawn0.step)⟩
 ·replace c4 := Bool.eq_false_iff.mpr c4
  subst c4
  have H1 : (some 0) = some r := by rw [if_neg (show ¬ (false = true) by decide)] at H;exact H
  clear H
  have H := H1
  clear H1
  obtain rfl := Option.some.inj H
  go_enter Try.func69,Try.ntmps69
  go_wp2_with (first | ((with_reducible refine gate_callee (f := 90) rfl ?_);refine goesL_ (some 7) rfl rfl Try.func90 (by kernel_rfl) rfl #[.int .i64 a0,.int .i64 a1] rfl eq_up ?_;(with_reducible refine (spec_SizeOk.calls a0 a1 false _ A3.out).mono ?_);rintro e w' ⟨rfl,⟨nd,rfl⟩⟩;refine ⟨_,rfl,?_⟩))
  go_ret
  exact ⟨by first | rfl | (simp;done) | (simp [*];done),by repeat (first | exact Drawn0.refl _ | apply Drawn0.step)⟩

/-! ### spec_WeakOf: function 102 -/
def spec_WeakOf.l0 : Nat → List Int → Int → Int → Int → Option (Int)
 | 0,_,_,_,_ => none
 | k + 1,x0,x3,x4,x5 => if x5 < (x0.length : Int) then (if 0 ≤ x5 then (spec_WeakOf.l0 k x0 (Int.tmod (wrap64 (x3 + (wrap64 (rd x0 x5)))) 251) (Int.tmod (wrap64 (x4 + (Int.tmod (wrap64 (x3 + (wrap64 (rd x0 x5)))) 251))) 251) (wrap64 (x5 + 1))) else (none)) else (some (wrap64 (x3 + (wrap64 (251 * x4)))))
def spec_WeakOf.f (k : Nat) (l0 : List Int) : Option (Int) := spec_WeakOf.l0 k l0 0 0 0
theorem spec_WeakOf.mono_l : ∀ k,(∀ y0 y1 y2 y3,LeO (spec_WeakOf.l0 k y0 y1 y2 y3) (spec_WeakOf.l0 (k + 1) y0 y1 y2 y3))
 | 0 => fun _ _ _ _ r h => by simp [spec_WeakOf.l0] at h
 | k + 1 => by
  have ih0 := spec_WeakOf.mono_l k
  ·intro y0 y1 y2 y3
   unfold spec_WeakOf.l0
   repeat' first
   | (with_reducible exact ih0 _ _ _ _)
   | (with_reducible exact LeO.refl _)
   | (with_reducible exact LeO.none _)
   | (with_reducible refine LeO.ite ?_ ?_)
   | (with_reducible refine LeO.bind ?_ (fun _ => ?_))
   | exact ih0 _ _ _ _
   | exact LeO.none _
   | refine LeO.ite ?_ ?_
   | refine LeO.bind ?_ (fun _ => ?_)
theorem spec_WeakOf.mono : ∀ a0 k,LeO (spec_WeakOf.f k a0) (spec_WeakOf.f (k + 1) a0) := by
 intro a0 k
 have ih0 := spec_WeakOf.mono_l k
 unfold spec_WeakOf.f
 repeat' first
   | (with_reducible exact ih0 _ _ _ _)
   | (with_reducible exact LeO.refl _)
   | (with_reducible exact LeO.none _)
   | (with_reducible refine LeO.ite ?_ ?_)
   | (with_reducible refine LeO.bind ?_ (fun _ => ?_))
   | exact ih0 _ _ _ _
   | exact LeO.none _
   | refine LeO.ite ?_ ?_
   | refine LeO.bind ?_ (fun _ => ?_)
set_option maxHeartbeats 8000000 in
set_option maxRecDepth 100000 in
theorem spec_WeakOf.calls (k : Nat) (A0 : Option Addr) (c0 : Nat) (l0 : List Int) (r : Int) (w : World) (hr0 : Kd.C (Kd.int .u8) w A0 l0.length l0) (hc0 : l0.length ≤ c0) (h : spec_WeakOf.f k l0 = some r) :
  Calls Try.prog 102 #[.slice A0 l0.length c0] w fun e w' => e = .returned (.int .i64 r) ∧ Drawn0 w w' := by
 have HR0 := Aside0.mk hr0
 have HC0 := Aside0.mk hc0
 clear hr0 hc0
 have H : (spec_WeakOf.l0 k l0 0 0 0) = some r := h
 clear h
 have H' := Aside0.mk H
 clear H
 go_enter Try.func102,Try.ntmps102
 go_wp2
 go_loopg [3,4,5] k (fun kq v3 v4 v5 w' => ∃ (x3_1 : Int) (x4_1 : Int) (x5_1 : Int),v3 = .int .i64 x3_1 ∧ v4 = .int .i64 x4_1 ∧ v5 = .int .i64 x5_1 ∧ Aside0 (spec_WeakOf.l0 kq l0 x3_1 x4_1 x5_1 = some r) ∧ Aside0 (kq ≤ k) ∧ Drawn0 w w')
 case atStart => exact ⟨(0),(0),(0),(by first | rfl | (simp;done) | (simp [*];done)),(by first | rfl | (simp;done) | (simp [*];done)),(by first | rfl | (simp;done) | (simp [*];done)),H',⟨Nat.le_refl _⟩,by repeat (first | exact Drawn0.refl _ | apply Drawn0.step)⟩
 case round =>
  clear H'
  try clear c1
  obtain ⟨x3_1,x4_1,x5_1,rfl,rfl,rfl,HA,HK1,⟨m1,rfl⟩⟩ := hrel
  cases gk with
  | zero => exact absurd HA.out (by simp [spec_WeakOf.l0])
  | succ k1 =>
   have H := HA.out
   clear HA
   simp only [spec_WeakOf.l0] at H
   by_cases c2 : x5_1 < (l0.length : Int)
   ·rw [if_pos c2] at H
    have c2b0 : decide (x5_1 < (l0.length : Int)) = true := decide_eq_true c2
    clear c2
    by_cases c3 : 0 ≤ x5_1
    ·rw [if_pos c3] at H
     have c3b0 : decide (0 ≤ x5_1) = true := decide_eq_true c3
     clear c3
     have H' := Aside0.mk H
     clear H
     have p337 : 0 ≤ (x5_1 : Int) := of_decide_eq_true (by first | (with_reducible assumption) | assumption)
     have q337 : x5_1 < (l0.length : Int) := of_decide_eq_true (by first | (with_reducible assumption) | assumption)
     obtain ⟨ad337,e337,hx337_0⟩ := Kd.at_int HR0.out x5_1 p337 q337
     cases e337
     replace p337 := eq_true p337
     replace q337 := eq_true q337
     go_wp2
     go_roundg k1
     case measure => have := HK1.out;omega
     case rel => exact ⟨(Int.tmod (wrap64 (x3_1 + (wrap64 (rd l0 x5_1)))) 251),(Int.tmod (wrap64 (x4_1 + (Int.tmod (wrap64 (x3_1 + (wrap64 (rd l0 x5_1)))) 251))) 251),(wrap64 (x5_1 + 1)),(by first | rfl | (simp;done) | (simp [*];done)),(by first | rfl | (simp;done) | (simp [*];done)),(by first | rfl | (simp;done) | (simp [*];done)),H',⟨by have := HK1.out;omega⟩,by repeat (first | exact Drawn0.refl _ | apply Drawn0.step)⟩
    ·rw [if_neg c3] at H
     exact absurd H (by simp)
   ·rw [if_neg c2] at H
    have c2b0 : decide (x5_1 < (l0.length : Int)) = false := decide_eq_false c2
    clear c2
    obtain rfl := Option.some.inj H
    go_wp2
    go_ret
    exact ⟨by first | rfl | (simp;done) | (simp [*];done),by repeat (first | exact Drawn0.refl _ | apply Drawn0.step)⟩

/-! ### spec_SumOf: function 72 -/
def spec_SumOf.l0 : Nat → List Int → Int → Int → Option (Int × Int)
 | 0,_,_,_ => none
 | k + 1,x0,x3,x4 => if x4 < (x0.length : Int) then (if 0 ≤ x4 then (spec_SumOf.l0 k x0 (wrap64 ((wrap64 (256 * x3)) + (wrap64 (rd x0 x4)))) (wrap64 (x4 + 1))) else (none)) else ((spec_WeakOf.f k x0).bind fun t340 => (some (t340,x3)))
def spec_SumOf.f (k : Nat) (l0 : List Int) : Option (Int × Int) := if (l0.length : Int) > 6 then (some (0,0)) else (spec_SumOf.l0 k l0 1 0)
theorem spec_SumOf.mono_l : ∀ k,(∀ y0 y1 y2,LeO (spec_SumOf.l0 k y0 y1 y2) (spec_SumOf.l0 (k + 1) y0 y1 y2))
 | 0 => fun _ _ _ r h => by simp [spec_SumOf.l0] at h
 | k + 1 => by
  have ih0 := spec_SumOf.mono_l k
  ·intro y0 y1 y2
   unfold spec_SumOf.l0
   repeat' first
   | (with_reducible exact ih0 _ _ _)
   | (with_reducible exact spec_WeakOf.mono _ _)
   | (with_reducible exact LeO.refl _)
   | (with_reducible exact LeO.none _)
   | (with_reducible refine LeO.ite ?_ ?_)
   | (with_reducible refine LeO.bind ?_ (fun _ => ?_))
   | exact ih0 _ _ _
   | exact spec_WeakOf.mono _ _
   | exact LeO.none _
   | refine LeO.ite ?_ ?_
   | refine LeO.bind ?_ (fun _ => ?_)
theorem spec_SumOf.mono : ∀ a0 k,LeO (spec_SumOf.f k a0) (spec_SumOf.f (k + 1) a0) := by
 intro a0 k
 have ih0 := spec_SumOf.mono_l k
 unfold spec_SumOf.f
 repeat' first
   | (with_reducible exact ih0 _ _ _)
   | (with_reducible exact spec_WeakOf.mono _ _)
   | (with_reducible exact LeO.refl _)
   | (with_reducible exact LeO.none _)
   | (with_reducible refine LeO.ite ?_ ?_)
   | (with_reducible refine LeO.bind ?_ (fun _ => ?_))
   | exact ih0 _ _ _
   | exact spec_WeakOf.mono _ _
   | exact LeO.none _
   | refine LeO.ite ?_ ?_
   | refine LeO.bind ?_ (fun _ => ?_)
set_option maxHeartbeats 8000000 in
set_option maxRecDepth 100000 in
theorem spec_SumOf.calls (k : Nat) (A0 : Option Addr) (c0 : Nat) (l0 : List Int) (r1 : Int) (r2 : Int) (w : World) (hr0 : Kd.C (Kd.int .u8) w A0 l0.length l0) (hc0 : l0.length ≤ c0) (h : spec_SumOf.f k l0 = some (r1,r2)) :
  Calls Try.prog 72 #[.slice A0 l0.length c0] w fun e w' => e = .returned (.agg #[.int .i64 r1,.int .i64 r2]) ∧ Below w.heap.size w w' := by
 have hu66 := Try.underlying66
 have hf66_0 : ∀ (a_ b_ : Int) (W_ : World),(Instr.field 66 (.agg #[.int .i64 a_,.int .i64 b_]) 0).run Try.prog W_ = .ok (.int .i64 a_) W_ := fun _ _ _ => by kernel_rfl
 have hf66_1 : ∀ (a_ b_ : Int) (W_ : World),(Instr.field 66 (.agg #[.int .i64 a_,.int .i64 b_]) 1).run Try.prog W_ = .ok (.int .i64 b_) W_ := fun _ _ _ => by kernel_rfl
 have HR0 := Aside0.mk hr0
 have HC0 := Aside0.mk hc0
 clear hr0 hc0
 have HB := Aside0.mk (Below.refl w.heap.size w)
 have H : (if (l0.length : Int) > 6 then (some (0,0)) else (spec_SumOf.l0 k l0 1 0)) = some (r1,r2) := h
 clear h
 by_cases c2 : (l0.length : Int) > 6
 ·rw [if_pos c2] at H
  have c2b0 : decide (6 < (l0.length : Int)) = true := decide_eq_true c2
  have c2b1 : decide (6 < l0.length) = true := decide_eq_true (by omega)
  clear c2
  simp only [Option.some.injEq,Prod.mk.injEq] at H
  obtain ⟨rfl,rfl⟩ := H
  go_enter Try.func72,Try.ntmps72
  go_wp2_with (first | ((with_reducible refine gate_dst (N := 2) rfl ?_);refine box_event ?hg (N := 2) ?hd (cs := #[.int .i64 0,.int .i64 0]) (t := 66) ?hr ?_;(case hd => rfl);(case hg => rfl);(case hr => first | (go_simp;done) | (go_simp;rfl));intro gb338 hg w3 hbox hb;have n0_ := Aside0.mk (below_step (B_up HB.out) hb);have n1_ := Aside0.mk (hbox);have n2_ := Aside0.mk ((by rw [hg];exact (below_size (B_up HB.out)) : w.heap.size ≤ gb338));have n3_ := Aside0.mk ((by rw [hg];exact (below_size (B_up HB.out)) : w.heap.size ≤ gb338));clear HB;have HB := n0_;have BK338 := n1_;have GW338 := n2_;have GE338 := n3_;clear n0_ n1_ n2_ n3_;clear hb hbox hg;have hcz4_0 : w3.cell? ⟨gb338,0,none⟩ = some (.int .i64 0) := (blk_cell BK338.out 0).trans rfl;have hcz4_1 : w3.cell? ⟨gb338,1,none⟩ = some (.int .i64 0) := (blk_cell BK338.out 1).trans rfl;have hfz4_0 := blk_frozen BK338.out 0;have hfz4_1 := blk_frozen BK338.out 1))
  refine bodyPost_ret (results_cell_row rfl _ _ gb338 66 #[.int .i64 0,.int .i64 0] (0,0) _ rfl (by (with_reducible repeat (first | refine blk_drewN ?_ _ | refine blk_drew ?_ | refine blk_alloc ?_ _));refine blk_put (cs := #[.int .i64 0,.int .i64 0]) ?_ 1 _ rfl;(with_reducible repeat (first | refine blk_drewN ?_ _ | refine blk_drew ?_ | refine blk_alloc ?_ _));refine blk_put (cs := #[.int .i64 0,.int .i64 0]) ?_ 0 _ rfl;(with_reducible repeat (first | refine blk_drewN ?_ _ | refine blk_drew ?_ | refine blk_alloc ?_ _));exact BK338.out) Try.underlying66 rfl (by kernel_rfl)) rfl ?_
  exact ⟨by first | rfl | (simp [errW_none,errW_some] <;> rfl) | (simp [*,errW_none,errW_some] <;> rfl),by repeat (first | (with_reducible first | exact HB.out | apply below_alloc | apply pw_below_drewN | apply below_drew1 | refine below_set ?_ GE338.out) | exact HB.out)⟩
 ·rw [if_neg c2] at H
  have c2b0 : decide (6 < (l0.length : Int)) = false := decide_eq_false c2
  have c2b1 : decide (6 < l0.length) = false := decide_eq_false (by omega)
  clear c2
  have H' := Aside0.mk H
  clear H
  go_enter Try.func72,Try.ntmps72
  go_wp2_with (first | ((with_reducible refine gate_dst (N := 2) rfl ?_);refine box_event ?hg (N := 2) ?hd (cs := #[.int .i64 0,.int .i64 0]) (t := 66) ?hr ?_;(case hd => rfl);(case hg => rfl);(case hr => first | (go_simp;done) | (go_simp;rfl));intro gb338 hg w5 hbox hb;have n0_ := Aside0.mk (below_step (B_up HB.out) hb);have n1_ := Aside0.mk (hbox);have n2_ := Aside0.mk ((by rw [hg];exact (below_size (B_up HB.out)) : w.heap.size ≤ gb338));have n3_ := Aside0.mk ((by rw [hg];exact (below_size (B_up HB.out)) : w.heap.size ≤ gb338));clear HB;have HB := n0_;have BK338 := n1_;have GW338 := n2_;have GE338 := n3_;clear n0_ n1_ n2_ n3_;clear hb hbox hg))
  go_loopg [3,4] k (fun kq v3 v4 w' => ∃ (x3_1 : Int) (x4_1 : Int),v3 = .int .i64 x3_1 ∧ v4 = .int .i64 x4_1 ∧ Aside0 (spec_SumOf.l0 kq l0 x3_1 x4_1 = some (r1,r2)) ∧ Aside0 (kq ≤ k) ∧ Aside0 (w'.heap[gb338]? = some (.cells #[.int .i64 0,.int .i64 0] 66 (0,0))) ∧ Aside0 (Below w.heap.size w w'))
  case atStart => exact ⟨(1),(0),(by first | rfl | (simp;done) | (simp [*];done)),(by first | rfl | (simp;done) | (simp [*];done)),H',⟨Nat.le_refl _⟩,⟨by (with_reducible repeat (first | refine blk_drewN ?_ _ | refine blk_drew ?_ | refine blk_alloc ?_ _));exact BK338.out⟩,⟨by repeat (first | (with_reducible first | exact HB.out | apply below_alloc | apply pw_below_drewN | apply below_drew1 | refine below_set ?_ GE338.out) | exact HB.out)⟩⟩
  case round =>
   clear H'
   try clear c2
   try clear c2b0
   try clear c2b1
   try clear p2
   try clear hcz4_0
   try clear hcz4_1
   try clear hfz4_0
   try clear hfz4_1
   obtain ⟨x3_1,x4_1,rfl,rfl,HA,HK1,BK338,HB⟩ := hrel
   cases gk with
   | zero => exact absurd HA.out (by simp [spec_SumOf.l0])
   | succ k1 =>
    have H := HA.out
    clear HA
    simp only [spec_SumOf.l0] at H
    by_cases c6 : x4_1 < (l0.length : Int)
    ·rw [if_pos c6] at H
     have c6b0 : decide (x4_1 < (l0.length : Int)) = true := decide_eq_true c6
     clear c6
     by_cases c7 : 0 ≤ x4_1
     ·rw [if_pos c7] at H
      have c7b0 : decide (0 ≤ x4_1) = true := decide_eq_true c7
      clear c7
      have H' := Aside0.mk H
      clear H
      have p339 : 0 ≤ (x4_1 : Int) := of_decide_eq_true (by first | (with_reducible assumption) | assumption)
      have q339 : x4_1 < (l0.length : Int) := of_decide_eq_true (by first | (with_reducible assumption) | assumption)
      obtain ⟨ad339,e339,hx339_0⟩ := Kd.at_int HR0.out x4_1 p339 q339
      cases e339
      replace hx339_0 := (HB.out.cell (World.block_lt_of_cell? w _ hx339_0)).trans hx339_0
      replace p339 := eq_true p339
      replace q339 := eq_true q339
      go_wp2
      go_roundg k1
      case measure => have := HK1.out;omega
      case rel => exact ⟨(wrap64 ((wrap64 (256 * x3_1)) + (wrap64 (rd l0 x4_1)))),(wrap64 (x4_1 + 1)),(by first | rfl | (simp;done) | (simp [*];done)),(by first | rfl | (simp;done) | (simp [*];done)),H',⟨by have := HK1.out;omega⟩,⟨by (with_reducible repeat (first | refine blk_drewN ?_ _ | refine blk_drew ?_ | refine blk_alloc ?_ _));exact BK338.out⟩,⟨by repeat (first | (with_reducible first | exact HB.out | apply below_alloc | apply pw_below_drewN | apply below_drew1 | refine below_set ?_ GE338.out) | exact HB.out)⟩⟩
     ·rw [if_neg c7] at H
      exact absurd H (by simp)
    ·rw [if_neg c6] at H
     have c6b0 : decide (x4_1 < (l0.length : Int)) = false := decide_eq_false c6
     clear c6
     replace H := Option.bind_eq_some_iff.mp H
     obtain ⟨t340,A80,H⟩ := H
     replace H : (some (t340,x3_1)) = some (r1,r2) := H
     have A8 := Aside0.mk A80
     clear A80
     simp only [Option.some.injEq,Prod.mk.injEq] at H
     obtain ⟨rfl,rfl⟩ := H
     go_wp2_with (first | ((with_reducible refine gate_callee (f := 102) rfl ?_);refine goesL_ (some 24) rfl rfl Try.func102 (by kernel_rfl) rfl #[.slice A0 l0.length c0] rfl eq_up ?_;(with_reducible refine (spec_WeakOf.calls k1 _ _ l0 t340 _ ?side1 ?side2 A8.out).mono ?_);(case side1 => repeat (first | exact (Kd.C_below HR0.out HB.out) | (with_reducible refine Kd.C_alloc ?_ _) | (with_reducible refine Kd.C_drewN ?_ _) | (with_reducible refine Kd.C_drew ?_)));(case side2 => exact HC0.out);rintro e w' ⟨rfl,⟨nd,rfl⟩⟩;refine ⟨_,rfl,?_⟩;(try (rw [drewN_self wr];generalize hq_ : World.drewN wr _ = wr;have n0_ : Aside0 (wr.heap[gb338]? = some (.cells #[.int .i64 0,.int .i64 0] 66 (0,0))) := ⟨by rw [← hq_];exact (blk_up BK338.out)⟩;have n1_ : Aside0 (Below w.heap.size w wr) := ⟨by rw [← hq_];exact (B_set HB.out)⟩;clear BK338 HB hq_;have BK338 := n0_;have HB := n1_;clear n0_ n1_));have hcz9_0 : wr.cell? ⟨gb338,0,none⟩ = some (.int .i64 0) := (blk_cell BK338.out 0).trans rfl;have hcz9_1 : wr.cell? ⟨gb338,1,none⟩ = some (.int .i64 0) := (blk_cell BK338.out 1).trans rfl;have hfz9_0 := blk_frozen BK338.out 0;have hfz9_1 := blk_frozen BK338.out 1))
     refine bodyPost_ret (results_cell_row rfl _ _ gb338 66 #[.int .i64 t340,.int .i64 x3_1] (0,0) _ rfl (by (with_reducible repeat (first | refine blk_drewN ?_ _ | refine blk_drew ?_ | refine blk_alloc ?_ _));refine blk_put (cs := #[.int .i64 t340,.int .i64 0]) ?_ 1 _ rfl;(with_reducible repeat (first | refine blk_drewN ?_ _ | refine blk_drew ?_ | refine blk_alloc ?_ _));refine blk_put (cs := #[.int .i64 0,.int .i64 0]) ?_ 0 _ rfl;(with_reducible repeat (first | refine blk_drewN ?_ _ | refine blk_drew ?_ | refine blk_alloc ?_ _));exact BK338.out) Try.underlying66 rfl (by kernel_rfl)) rfl ?_
     exact ⟨by first | rfl | (simp [errW_none,errW_some] <;> rfl) | (simp [*,errW_none,errW_some] <;> rfl),by repeat (first | (with_reducible first | exact HB.out | apply below_alloc | apply pw_below_drewN | apply below_drew1 | refine below_set ?_ GE338.out) | exact HB.out)⟩

/-! ### spec_Least: function 60 -/
def spec_Least.f (a0 : Int) (a1 : Int) : Option (Int) := if a1 < a0 then (some a1) else (some a0)
set_option maxHeartbeats 8000000 in
set_option maxRecDepth 100000 in
theorem spec_Least.calls (a0 : Int) (a1 : Int) (r : Int) (w : World) (h : spec_Least.f a0 a1 = some r) :
  Calls Try.prog 60 #[.int .i64 a0,.int .i64 a1] w fun e w' => e = .returned (.int .i64 r) ∧ Drawn0 w w' := by
 have H : (if a1 < a0 then (some a1) else (some a0)) = some r := h
 clear h
 by_cases c3 : a1 < a0
 ·rw [if_pos c3] at H
  have c3b0 : decide (a1 < a0) = true := decide_eq_true c3
  clear c3
  obtain rfl := Option.some.inj H
  go_enter Try.func60,Try.ntmps60
  go_wp2
  go_ret
  exact ⟨by first | rfl | (simp;done) | (simp [*];done),by repeat (first | exact Drawn0.refl _ | apply Drawn0.step)⟩
 ·rw [if_neg c3] at H
  have c3b0 : decide (a1 < a0) = false := decide_eq_false c3
  clear c3
  obtain rfl := Option.some.inj H
  go_enter Try.func60,Try.ntmps60
  go_wp2
  go_ret
  exact ⟨by first | rfl | (simp;done) | (simp [*];done),by repeat (first | exact Drawn0.refl _ | apply Drawn0.step)⟩

/-! ### spec_SpanOf: function 49 -/
def spec_SpanOf.f (a0 : Int) (a1 : Int) (a2 : Int) : Option (Int × Int) := (spec_Blocks.f a0 a1).bind fun t341 => ((spec_l1In.f a2 0 (wrap64 (t341 - 1))).bind fun t342 => (if t342 = true then ((spec_Least.f a0 (wrap64 (a1 - (wrap64 (a2 * a0))))).bind fun t343 => (some (wrap64 (a2 * a0),t343))) else (some (0,0))))
set_option maxHeartbeats 8000000 in
set_option maxRecDepth 100000 in
theorem spec_SpanOf.calls (a0 : Int) (a1 : Int) (a2 : Int) (r1 : Int) (r2 : Int) (w : World) (h : spec_SpanOf.f a0 a1 a2 = some (r1,r2)) :
  Calls Try.prog 49 #[.int .i64 a0,.int .i64 a1,.int .i64 a2] w fun e w' => e = .returned (.tuple #[.int .i64 r1,.int .i64 r2]) ∧ Drawn0 w w' := by
 have H : ((spec_Blocks.f a0 a1).bind fun t341 => ((spec_l1In.f a2 0 (wrap64 (t341 - 1))).bind fun t342 => (if t342 = true then ((spec_Least.f a0 (wrap64 (a1 - (wrap64 (a2 * a0))))).bind fun t343 => (some (wrap64 (a2 * a0),t343))) else (some (0,0))))) = some (r1,r2) := h
 clear h
 replace H := Option.bind_eq_some_iff.mp H
 obtain ⟨t341,A40,H⟩ := H
 (try dsimp only at H)
 have A4 := Aside0.mk A40
 clear A40
 replace H := Option.bind_eq_some_iff.mp H
 obtain ⟨t342,A50,H⟩ := H
 (try dsimp only at H)
 have A5 := Aside0.mk A50
 clear A50
 by_cases c6 : t342 = true
 ·subst c6
  rw [if_pos rfl] at H
  replace H := Option.bind_eq_some_iff.mp H
  obtain ⟨t343,A70,H⟩ := H
  replace H : (some (wrap64 (a2 * a0),t343)) = some (r1,r2) := H
  have A7 := Aside0.mk A70
  clear A70
  simp only [Option.some.injEq,Prod.mk.injEq] at H
  obtain ⟨rfl,rfl⟩ := H
  go_enter Try.func49,Try.ntmps49
  go_wp2_with (first | ((with_reducible refine gate_callee (f := 69) rfl ?_);refine goesL_ (some 11) rfl rfl Try.func69 (by kernel_rfl) rfl #[.int .i64 a0,.int .i64 a1] rfl eq_up ?_;(with_reducible refine (spec_Blocks.calls a0 a1 t341 _ A4.out).mono ?_);rintro e w' ⟨rfl,⟨nd,rfl⟩⟩;refine ⟨_,rfl,?_⟩) | ((with_reducible refine gate_callee (f := 89) rfl ?_);refine goesL_ (some 13) rfl rfl Try.func89 (by kernel_rfl) rfl #[.int .i64 a2,.int .i64 0,.int .i64 (wrap64 (t341 - 1))] rfl eq_up ?_;(with_reducible refine (spec_l1In.calls a2 0 (wrap64 (t341 - 1)) true _ A5.out).mono ?_);rintro e w' ⟨rfl,⟨nd,rfl⟩⟩;refine ⟨_,rfl,?_⟩) | ((with_reducible refine gate_callee (f := 60) rfl ?_);refine goesL_ (some 24) rfl rfl Try.func60 (by kernel_rfl) rfl #[.int .i64 a0,.int .i64 (wrap64 (a1 - (wrap64 (a2 * a0))))] rfl eq_up ?_;(with_reducible refine (spec_Least.calls a0 (wrap64 (a1 - (wrap64 (a2 * a0)))) t343 _ A7.out).mono ?_);rintro e w' ⟨rfl,⟨nd,rfl⟩⟩;refine ⟨_,rfl,?_⟩))
  go_ret2
  exact ⟨by first | rfl | (simp;done) | (simp [*];done),by repeat (first | exact Drawn0.refl _ | apply Drawn0.step)⟩
 ·replace c6 := Bool.eq_false_iff.mpr c6
  subst c6
  have H1 : (some (0,0)) = some (r1,r2) := by rw [if_neg (show ¬ (false = true) by decide)] at H;exact H
  clear H
  have H := H1
  clear H1
  simp only [Option.some.injEq,Prod.mk.injEq] at H
  obtain ⟨rfl,rfl⟩ := H
  go_enter Try.func49,Try.ntmps49
  go_wp2_with (first | ((with_reducible refine gate_callee (f := 69) rfl ?_);refine goesL_ (some 11) rfl rfl Try.func69 (by kernel_rfl) rfl #[.int .i64 a0,.int .i64 a1] rfl eq_up ?_;(with_reducible refine (spec_Blocks.calls a0 a1 t341 _ A4.out).mono ?_);rintro e w' ⟨rfl,⟨nd,rfl⟩⟩;refine ⟨_,rfl,?_⟩) | ((with_reducible refine gate_callee (f := 89) rfl ?_);refine goesL_ (some 13) rfl rfl Try.func89 (by kernel_rfl) rfl #[.int .i64 a2,.int .i64 0,.int .i64 (wrap64 (t341 - 1))] rfl eq_up ?_;(with_reducible refine (spec_l1In.calls a2 0 (wrap64 (t341 - 1)) false _ A5.out).mono ?_);rintro e w' ⟨rfl,⟨nd,rfl⟩⟩;refine ⟨_,rfl,?_⟩))
  go_ret2
  exact ⟨by first | rfl | (simp;done) | (simp [*];done),by repeat (first | exact Drawn0.refl _ | apply Drawn0.step)⟩

/-! ### spec_BlockAt: function 107 -/
def spec_BlockAt.f (l0 : List Int) (a1 : Int) (a2 : Int) : Option (List Int × Bool) := (spec_SpanOf.f a1 (l0.length : Int) a2).bind fun bt344 => (if bt344.2 = 0 then (some ((([] : List Int)),false)) else ((some (([] : List Int) : List Int)).bind fun y349 => (if 0 ≤ bt344.1 then (if bt344.1 ≤ (wrap64 (bt344.1 + bt344.2)) then (if (wrap64 (bt344.1 + bt344.2)) ≤ (l0.length : Int) then (if y349.length + ((l0.take ((wrap64 (bt344.1 + bt344.2)) : Int).toNat).drop (bt344.1 : Int).toNat).length < 140737488355328 then (some ((y349 ++ ((l0.take ((wrap64 (bt344.1 + bt344.2)) : Int).toNat).drop (bt344.1 : Int).toNat)),true)) else (none)) else (none)) else (none)) else (none))))
set_option maxHeartbeats 8000000 in
set_option maxRecDepth 100000 in
theorem spec_BlockAt.calls (A0 : Option Addr) (c0 : Nat) (l0 : List Int) (a1 : Int) (a2 : Int) (r1 : List Int) (r2 : Bool) (w : World) (hr0 : Kd.C (Kd.int .u8) w A0 l0.length l0) (hc0 : l0.length ≤ c0) (h : spec_BlockAt.f l0 a1 a2 = some (r1,r2)) :
  Calls Try.prog 107 #[.slice A0 l0.length c0,.int .i64 a1,.int .i64 a2] w fun e w' => ∃ v0_ : Value,e = .returned (.tuple #[v0_,.bool r2]) ∧ Kd.R (Kd.int .u8) 5 w' w.heap.size (fun _ => True) v0_ r1 ∧ Below w.heap.size w w' := by
 have HR0 := Aside0.mk hr0
 have HC0 := Aside0.mk hc0
 clear hr0 hc0
 have HB := Aside0.mk (Below.refl w.heap.size w)
 have H : ((spec_SpanOf.f a1 (l0.length : Int) a2).bind fun bt344 => (if bt344.2 = 0 then (some ((([] : List Int)),false)) else ((some (([] : List Int) : List Int)).bind fun y349 => (if 0 ≤ bt344.1 then (if bt344.1 ≤ (wrap64 (bt344.1 + bt344.2)) then (if (wrap64 (bt344.1 + bt344.2)) ≤ (l0.length : Int) then (if y349.length + ((l0.take ((wrap64 (bt344.1 + bt344.2)) : Int).toNat).drop (bt344.1 : Int).toNat).length < 140737488355328 then (some ((y349 ++ ((l0.take ((wrap64 (bt344.1 + bt344.2)) : Int).toNat).drop (bt344.1 : Int).toNat)),true)) else (none)) else (none)) else (none)) else (none))))) = some (r1,r2) := h
 clear h
 replace H := Option.bind_eq_some_iff.mp H
 obtain ⟨⟨t344,t345⟩,A40,H⟩ := H
 (try dsimp only at H)
 have A4 := Aside0.mk A40
 clear A40
 by_cases c5 : t345 = 0
 ·rw [if_pos c5] at H
  have c5b0 : (t345 == 0) = true := beq_iff_eq.mpr c5
  have c5b1 : (t345 != 0) = false := bne_eq_false_iff_eq.mpr c5
  clear c5
  obtain ⟨y346,hy346⟩ : ∃ y_ : List Int,y_ = (([] : List Int)) := ⟨_,rfl⟩
  replace H : (some (y346,false)) = some (r1,r2) := by first | (rw [hy346];with_reducible exact H) | (have H2_ := (Option.bind_some _ _).symm.trans H;rw [hy346];with_reducible exact H2_) | (have H2_ := (Option.bind_some _ _).symm.trans H;with_reducible exact H2_) | with_reducible exact H | (rw [hy346];exact H) | exact H
  have Ny346 := Aside0.mk hy346
  clear hy346
  simp only [Option.some.injEq,Prod.mk.injEq] at H
  obtain ⟨rfl,rfl⟩ := H
  go_enter Try.func107,Try.ntmps107
  go_wp2_with (first | ((with_reducible refine gate_callee (f := 49) rfl ?_);refine goesL_ (some 15) rfl rfl Try.func49 (by kernel_rfl) rfl #[.int .i64 a1,.int .i64 (l0.length : Int),.int .i64 a2] rfl eq_up ?_;(with_reducible refine (spec_SpanOf.calls a1 (l0.length : Int) a2 t344 t345 _ A4.out).mono ?_);rintro e w' ⟨rfl,⟨nd,rfl⟩⟩;refine ⟨_,rfl,?_⟩) | ((with_reducible refine gate_dst (N := 20) rfl ?_);refine Kd.R_lit (Kd.int .u8) _ 5 ?hg (N := 20) ?hd (xs := ([] : List Int)) (inner := []) (ok := fun _ => True) (okp := fun _ => True) ?hr ?hp (fun _ hk => hk) trivial (Below.refl _ _) (Nat.le_refl _) (by simp) ?_;(case hd => rfl);(case hg => rfl);(case hr => first | (go_simp;done) | (go_simp;rfl));(case hp => exact (Reps.none _ _));intro v347 w6 ho7 hb hg_ hnew_;clear hg_ hnew_;(first | rw [← Ny346.out] at ho7 | (simp only [Int.reduceToNat] at ho7;rw [← Ny346.out] at ho7));have n0_ := Aside0.mk (Kd.R_lower ho7 (below_size (B_up HB.out)));have n1_ := Aside0.mk (below_step (B_up HB.out) hb);clear HB;have HO348 := n0_;have HB := n1_;clear n0_ n1_;clear hb ho7))
  go_ret2
  exact ⟨_,by first | rfl | (simp [errW_none,errW_some] <;> rfl) | (simp [*,errW_none,errW_some] <;> rfl),by (with_reducible repeat (first | apply Kd.R_alloc | apply Kd.R_drewN | apply Kd.R_drew));exact HO348.out,by repeat (first | (with_reducible first | exact HB.out | apply below_alloc | apply pw_below_drewN | apply below_drew1) | exact HB.out)⟩
 ·rw [if_neg c5] at H
  have c5b0 : (t345 == 0) = false := beq_eq_false_iff_ne.mpr c5
  have c5b1 : (t345 != 0) = true := bne_iff_ne.mpr c5
  obtain ⟨y349,hy349⟩ : ∃ y_ : List Int,y_ = (([] : List Int)) := ⟨_,rfl⟩
  replace H : (if 0 ≤ t344 then (if t344 ≤ (wrap64 (t344 + t345)) then (if (wrap64 (t344 + t345)) ≤ (l0.length : Int) then (if y349.length + ((l0.take ((wrap64 (t344 + t345)) : Int).toNat).drop (t344 : Int).toNat).length < 140737488355328 then (some ((y349 ++ ((l0.take ((wrap64 (t344 + t345)) : Int).toNat).drop (t344 : Int).toNat)),true)) else (none)) else (none)) else (none)) else (none)) = some (r1,r2) := by first | (rw [hy349];with_reducible exact H) | (have H2_ := (Option.bind_some _ _).symm.trans H;rw [hy349];with_reducible exact H2_) | (have H2_ := (Option.bind_some _ _).symm.trans H;with_reducible exact H2_) | with_reducible exact H | (rw [hy349];exact H) | exact H
  have Ny349 := Aside0.mk hy349
  clear hy349
  by_cases c8 : 0 ≤ t344
  ·rw [if_pos c8] at H
   have c8b0 := eq_true c8
   have c8b1 : decide (0 ≤ t344) = true := decide_eq_true c8
   clear c8
   by_cases c9 : t344 ≤ (wrap64 (t344 + t345))
   ·rw [if_pos c9] at H
    have c9b0 := eq_true c9
    have c9b1 : decide (t344 ≤ (wrap64 (t344 + t345))) = true := decide_eq_true c9
    by_cases c10 : (wrap64 (t344 + t345)) ≤ (l0.length : Int)
    ·rw [if_pos c10] at H
     have c10b0 := eq_true c10
     have c10b1 : decide ((wrap64 (t344 + t345)) ≤ (l0.length : Int)) = true := decide_eq_true c10
     by_cases c11 : y349.length + ((l0.take ((wrap64 (t344 + t345)) : Int).toNat).drop (t344 : Int).toNat).length < 140737488355328
     ·rw [if_pos c11] at H
      have LMc11 := Aside0.mk c11
      clear c11
      obtain ⟨y353,hy353⟩ : ∃ y_ : List Int,y_ = (y349 ++ ((l0.take ((wrap64 (t344 + t345)) : Int).toNat).drop (t344 : Int).toNat)) := ⟨_,rfl⟩
      replace H : (some (y353,true)) = some (r1,r2) := by first | (rw [hy353];with_reducible exact H) | (have H2_ := (Option.bind_some _ _).symm.trans H;rw [hy353];with_reducible exact H2_) | (have H2_ := (Option.bind_some _ _).symm.trans H;with_reducible exact H2_) | with_reducible exact H | (rw [hy353];exact H) | exact H
      have Ny353 := Aside0.mk hy353
      clear hy353
      simp only [Option.some.injEq,Prod.mk.injEq] at H
      obtain ⟨rfl,rfl⟩ := H
      go_enter Try.func107,Try.ntmps107
      go_wp2_with (first | ((with_reducible refine gate_callee (f := 49) rfl ?_);refine goesL_ (some 15) rfl rfl Try.func49 (by kernel_rfl) rfl #[.int .i64 a1,.int .i64 (l0.length : Int),.int .i64 a2] rfl eq_up ?_;(with_reducible refine (spec_SpanOf.calls a1 (l0.length : Int) a2 t344 t345 _ A4.out).mono ?_);rintro e w' ⟨rfl,⟨nd,rfl⟩⟩;refine ⟨_,rfl,?_⟩) | ((with_reducible refine gate_dst (N := 21) rfl ?_);refine Kd.R_lit (Kd.int .u8) _ 5 ?hg (N := 21) ?hd (xs := ([] : List Int)) (inner := []) (ok := fun _ => True) (okp := fun _ => True) ?hr ?hp (fun _ hk => hk) trivial (Below.refl _ _) (Nat.le_refl _) (by simp) ?_;(case hd => rfl);(case hg => rfl);(case hr => first | (go_simp;done) | (go_simp;rfl));(case hp => exact (Reps.none _ _));intro v350 w12 ho13 hb hg_ hnew_;clear hg_ hnew_;(first | rw [← Ny349.out] at ho13 | (simp only [Int.reduceToNat] at ho13;rw [← Ny349.out] at ho13));have n0_ := Aside0.mk (Kd.R_lower ho13 (below_size (B_up HB.out)));have n1_ := Aside0.mk (below_step (B_up HB.out) hb);clear HB;have HO351 := n0_;have HB := n1_;clear n0_ n1_;clear hb ho13;obtain ⟨i014,hi014,_,hsz14,_⟩ := info_parts info5;obtain ⟨A14,hcut14,hA14,hC14⟩ := print_mid_of (P := Try.prog) (Value.int .u8) 0 22 5 .i64 .i64 Try.underlying22 hi014 hsz14 A0 c0 l0 t344 (wrap64 (t344 + t345)) (of_decide_eq_true (by first | (with_reducible assumption) | assumption)) (by first | omega | exact of_decide_eq_true (by first | (with_reducible assumption) | assumption)) (of_decide_eq_true (by first | (with_reducible assumption) | assumption)) HC0.out;have HR352 := Aside0.mk (Kd.C_of_reads (h1 := fun _ => rfl) (hA14 _ (Kd.reads_of_C HR0.out)));have HC352 := Aside0.mk hC14;clear hA14 hC14 hi014 hsz14) | ((with_reducible refine gate_builtin (b := .append) (xs := #[.tmp 21,.tmp 27]) rfl ?_);at_builtin;refine Kd.R_append_rows (Kd.int .u8) (w0 := w) w.heap.size rfl (.tmp 21) (.tmp 27) 22 5 (.int .u8 0) 1 rfl Try.underlying22 info5 rfl (by decide) (by omega) v350 y349 ((l0.take ((wrap64 (t344 + t345)) : Int).toNat).drop (t344 : Int).toNat) _ _ _ (fun _ => True) (fun _ => False) rfl rfl ?aO ?aR (fun _ _ h => h) (fun _ h => h.elim) ?aF ?aB ?aS ?aL ?_;(case aR => first | (rw [← show ((l0.take ((wrap64 (t344 + t345)) : Int).toNat).drop (t344 : Int).toNat).length = ((wrap64 (t344 + t345)).toNat - t344.toNat) from (by rw [List.length_drop,List.length_take];have h_ : ((wrap64 (t344 + t345)) : Int) ≤ (l0.length : Int) := of_decide_eq_true (by first | (with_reducible assumption) | assumption);omega)];repeat (first | exact (Kd.C_below HR352.out HB.out) | (with_reducible refine Kd.C_alloc ?_ _) | (with_reducible refine Kd.C_drewN ?_ _) | (with_reducible refine Kd.C_drew ?_))) | (repeat (first | exact (Kd.C_below HR352.out HB.out) | (with_reducible refine Kd.C_alloc ?_ _) | (with_reducible refine Kd.C_drewN ?_ _) | (with_reducible refine Kd.C_drew ?_))));(case aB => exact (B_up HB.out));(case aF => exact (fun _ _ => trivial));(case aO => exact (Kd.R_up HO351.out));(case aS => exact (below_size (B_up HB.out)));(case aL => have := LMc11.out;have hlx_ := (show ((l0.take ((wrap64 (t344 + t345)) : Int).toNat).drop (t344 : Int).toNat).length = ((wrap64 (t344 + t345)).toNat - t344.toNat) from (by rw [List.length_drop,List.length_take];have h_ : ((wrap64 (t344 + t345)) : Int) ≤ (l0.length : Int) := of_decide_eq_true (by first | (with_reducible assumption) | assumption);omega));omega);intro v354 w15 ho hb hg hat;rw [← Ny353.out] at ho;have n0_ := Aside0.mk (hb);have n1_ := Aside0.mk (ho);clear HB;clear HO351;have HB := n0_;have HO355 := n1_;clear n0_ n1_;clear ho hb hg hat))
      go_ret2
      exact ⟨_,by first | rfl | (simp [errW_none,errW_some] <;> rfl) | (simp [*,errW_none,errW_some] <;> rfl),by (with_reducible repeat (first | apply Kd.R_alloc | apply Kd.R_drewN | apply Kd.R_drew));exact HO355.out,by repeat (first | (with_reducible first | exact HB.out | apply below_alloc | apply pw_below_drewN | apply below_drew1) | exact HB.out)⟩
     ·rw [if_neg c11] at H
      exact absurd H (by simp)
    ·rw [if_neg c10] at H
     exact absurd H (by simp)
   ·rw [if_neg c9] at H
    exact absurd H (by simp)
  ·rw [if_neg c8] at H
   exact absurd H (by simp)

/-! ### spec_SumsOf: function 91 -/
def spec_SumsOf.l0 : Nat → List Int → Int → List (S66) → Int → Option ((List (S66)))
 | 0,_,_,_,_ => none
 | k + 1,x0,x1,x5,x6 => (spec_Blocks.f x1 (x0.length : Int)).bind fun t359 => (if x6 < t359 then ((spec_BlockAt.f x0 x1 x6).bind fun bt360 => ((spec_SumOf.f k bt360.1).bind fun bt364 => (if x5.length < 8796093022208 then (spec_SumsOf.l0 k x0 x1 (x5 ++ [(⟨bt364.1,bt364.2⟩ : S66)]) (wrap64 (x6 + 1))) else (none)))) else (some x5))
def spec_SumsOf.f (k : Nat) (l0 : List Int) (a1 : Int) : Option ((List (S66))) := spec_SumsOf.l0 k l0 a1 (([] : List (S66))) 0
theorem spec_SumsOf.mono_l : ∀ k,(∀ y0 y1 y2 y3,LeO (spec_SumsOf.l0 k y0 y1 y2 y3) (spec_SumsOf.l0 (k + 1) y0 y1 y2 y3))
 | 0 => fun _ _ _ _ r h => by simp [spec_SumsOf.l0] at h
 | k + 1 => by
  have ih0 := spec_SumsOf.mono_l k
  ·intro y0 y1 y2 y3
   unfold spec_SumsOf.l0
   repeat' first
   | (with_reducible exact ih0 _ _ _ _)
   | (with_reducible exact spec_SumOf.mono _ _)
   | (with_reducible exact LeO.refl _)
   | (with_reducible exact LeO.none _)
   | (with_reducible refine LeO.ite ?_ ?_)
   | (with_reducible refine LeO.bind ?_ (fun _ => ?_))
   | exact ih0 _ _ _ _
   | exact spec_SumOf.mono _ _
   | exact LeO.none _
   | refine LeO.ite ?_ ?_
   | refine LeO.bind ?_ (fun _ => ?_)
theorem spec_SumsOf.mono : ∀ a0 a1 k,LeO (spec_SumsOf.f k a0 a1) (spec_SumsOf.f (k + 1) a0 a1) := by
 intro a0 a1 k
 have ih0 := spec_SumsOf.mono_l k
 unfold spec_SumsOf.f
 repeat' first
   | (with_reducible exact ih0 _ _ _ _)
   | (with_reducible exact spec_SumOf.mono _ _)
   | (with_reducible exact LeO.refl _)
   | (with_reducible exact LeO.none _)
   | (with_reducible refine LeO.ite ?_ ?_)
   | (with_reducible refine LeO.bind ?_ (fun _ => ?_))
   | exact ih0 _ _ _ _
   | exact spec_SumOf.mono _ _
   | exact LeO.none _
   | refine LeO.ite ?_ ?_
   | refine LeO.bind ?_ (fun _ => ?_)
set_option maxHeartbeats 8000000 in
set_option maxRecDepth 100000 in
theorem spec_SumsOf.calls (k : Nat) (A0 : Option Addr) (c0 : Nat) (l0 : List Int) (a1 : Int) (r : List (S66)) (w : World) (hr0 : Kd.C (Kd.int .u8) w A0 l0.length l0) (hc0 : l0.length ≤ c0) (h : spec_SumsOf.f k l0 a1 = some r) :
  Calls Try.prog 91 #[.slice A0 l0.length c0,.int .i64 a1] w fun e w' => ∃ v0_ : Value,e = .returned (v0_) ∧ Kd.R k66 66 w' w.heap.size (fun _ => True) v0_ r ∧ Below w.heap.size w w' := by
 have HR0 := Aside0.mk hr0
 have HC0 := Aside0.mk hc0
 clear hr0 hc0
 have HB := Aside0.mk (Below.refl w.heap.size w)
 have H : (spec_SumsOf.l0 k l0 a1 (([] : List (S66))) 0) = some r := h
 clear h
 obtain ⟨y356,hy356⟩ : ∃ y_ : List (S66),y_ = (([] : List (S66))) := ⟨_,rfl⟩
 replace H : (spec_SumsOf.l0 k l0 a1 y356 0) = some r := by first | (rw [hy356];with_reducible exact H) | (have H2_ := (Option.bind_some _ _).symm.trans H;rw [hy356];with_reducible exact H2_) | (have H2_ := (Option.bind_some _ _).symm.trans H;with_reducible exact H2_) | with_reducible exact H | (rw [hy356];exact H) | exact H
 have Ny356 := Aside0.mk hy356
 clear hy356
 have H' := Aside0.mk H
 clear H
 go_enter Try.func91,Try.ntmps91
 go_wp2_with (first | ((with_reducible refine gate_dst (N := 9) rfl ?_);refine Kd.R_lit k66 _ 66 ?hg (N := 9) ?hd (xs := ([] : List (S66))) (inner := []) (ok := fun _ => True) (okp := fun _ => True) ?hr ?hp (fun _ hk => hk) trivial (Below.refl _ _) (Nat.le_refl _) (by simp) ?_;(case hd => rfl);(case hg => rfl);(case hr => first | (go_simp;done) | (go_simp;rfl));(case hp => exact (Reps.none _ _));intro v357 w3 ho4 hb hg_ hnew_;clear hg_ hnew_;(first | rw [← Ny356.out] at ho4 | (simp only [Int.reduceToNat] at ho4;rw [← Ny356.out] at ho4));have n0_ := Aside0.mk (Kd.R_lower ho4 (below_size (B_up HB.out)));have n1_ := Aside0.mk (below_step (B_up HB.out) hb);clear HB;have HO358 := n0_;have HB := n1_;clear n0_ n1_;clear hb ho4))
 go_loopg [5,6] k (fun kq v5 v6 w' => ∃ (x5_1 : List (S66)) (x6_1 : Int),v6 = .int .i64 x6_1 ∧ Aside0 (spec_SumsOf.l0 kq l0 a1 x5_1 x6_1 = some r) ∧ Aside0 (kq ≤ k) ∧ Aside0 (Kd.R k66 66 w' w.heap.size (fun _ => True) v5 x5_1) ∧ Aside0 (Below w.heap.size w w'))
 case atStart => exact ⟨(y356),(0),(by first | rfl | (simp;done) | (simp [*];done)),H',⟨Nat.le_refl _⟩,⟨by (with_reducible repeat (first | apply Kd.R_alloc | apply Kd.R_drewN | apply Kd.R_drew));exact HO358.out⟩,⟨by repeat (first | (with_reducible first | exact HB.out | apply below_alloc | apply pw_below_drewN | apply below_drew1) | exact HB.out)⟩⟩
 case round =>
  clear H'
  try clear p2
  obtain ⟨x5_1,x6_1,rfl,HA,HK1,HO_5,HB⟩ := hrel
  cases gk with
  | zero => exact absurd HA.out (by simp [spec_SumsOf.l0])
  | succ k1 =>
   have H := HA.out
   clear HA
   simp only [spec_SumsOf.l0] at H
   replace H := Option.bind_eq_some_iff.mp H
   obtain ⟨t359,A50,H⟩ := H
   (try dsimp only at H)
   have A5 := Aside0.mk A50
   clear A50
   by_cases c6 : x6_1 < t359
   ·rw [if_pos c6] at H
    have c6b0 : decide (x6_1 < t359) = true := decide_eq_true c6
    clear c6
    replace H := Option.bind_eq_some_iff.mp H
    obtain ⟨⟨t360,t361⟩,A70,H⟩ := H
    (try dsimp only at H)
    have A7 := Aside0.mk A70
    clear A70
    replace H := Option.bind_eq_some_iff.mp H
    obtain ⟨⟨t364,t365⟩,A80,H⟩ := H
    (try dsimp only at H)
    have A8 := Aside0.mk A80
    clear A80
    by_cases c9 : x5_1.length < 8796093022208
    ·rw [if_pos c9] at H
     have LMc9 := Aside0.mk c9
     clear c9
     obtain ⟨y366,hy366⟩ : ∃ y_ : List (S66),y_ = (x5_1 ++ [(⟨t364,t365⟩ : S66)]) := ⟨_,rfl⟩
     replace H : (spec_SumsOf.l0 k1 l0 a1 y366 (wrap64 (x6_1 + 1))) = some r := by first | (rw [hy366];with_reducible exact H) | (have H2_ := (Option.bind_some _ _).symm.trans H;rw [hy366];with_reducible exact H2_) | (have H2_ := (Option.bind_some _ _).symm.trans H;with_reducible exact H2_) | with_reducible exact H | (rw [hy366];exact H) | exact H
     have Ny366 := Aside0.mk hy366
     clear hy366
     have H' := Aside0.mk H
     clear H
     go_wp2_with (first | ((with_reducible refine gate_callee (f := 69) rfl ?_);refine goesL_ (some 14) rfl rfl Try.func69 (by kernel_rfl) rfl #[.int .i64 a1,.int .i64 (l0.length : Int)] rfl eq_up ?_;(with_reducible refine (spec_Blocks.calls a1 (l0.length : Int) t359 _ A5.out).mono ?_);rintro e w' ⟨rfl,⟨nd,rfl⟩⟩;refine ⟨_,rfl,?_⟩) | ((with_reducible refine gate_callee (f := 107) rfl ?_);refine goesL_ (some 22) rfl rfl Try.func107 (by kernel_rfl) rfl #[.slice A0 l0.length c0,.int .i64 a1,.int .i64 x6_1] rfl eq_up ?_;(with_reducible refine (spec_BlockAt.calls _ _ l0 a1 x6_1 t360 t361 _ ?side1 ?side2 A7.out).mono ?_);(case side1 => repeat (first | exact (Kd.C_below HR0.out (B_up HB.out)) | (with_reducible refine Kd.C_alloc ?_ _) | (with_reducible refine Kd.C_drewN ?_ _) | (with_reducible refine Kd.C_drew ?_)));(case side2 => exact HC0.out);rintro e w10 ⟨v362,rfl,ho0,hb⟩;refine ⟨_,rfl,?_⟩;have n0_ := Aside0.mk (Kd.R_below (Kd.R_up HO_5.out) hb);have n1_ := Aside0.mk (Kd.R_lower ho0 (below_size (B_up HB.out)));have n2_ := Aside0.mk (below_step (B_up HB.out) hb);clear HO_5;clear HB;have HO_5 := n0_;have HO363 := n1_;have HB := n2_;clear n0_ n1_ n2_;(try clear hb);(try clear hb2);(try clear hk);(try clear hi);(try clear ho0);obtain ⟨Ao11,co11,eo11⟩ := Kd.R_slice HO363.out;subst eo11) | ((with_reducible refine gate_callee (f := 72) rfl ?_);refine goesL_ (some 27) rfl rfl Try.func72 (by kernel_rfl) rfl #[.slice Ao11 t360.length co11] rfl eq_up ?_;(with_reducible refine (spec_SumOf.calls k1 _ _ t360 t364 t365 _ ?side1 ?side2 A8.out).mono ?_);(case side1 => exact Kd.C_up (Kd.R_reads' HO363.out).2.2);(case side2 => exact (Kd.R_reads' HO363.out).2.1);rintro e w12 ⟨rfl,hb⟩;refine ⟨_,rfl,?_⟩;have n0_ := Aside0.mk (Kd.R_below (Kd.R_up HO_5.out) hb);have n1_ := Aside0.mk (Kd.R_below (Kd.R_up HO363.out) hb);have n2_ := Aside0.mk (below_step (B_up HB.out) hb);clear HO_5;clear HO363;clear HB;have HO_5 := n0_;have HO363 := n1_;have HB := n2_;clear n0_ n1_ n2_;(try clear hb);(try clear hb2);(try clear hk);(try clear hi)) | ((with_reducible refine gate_builtin (b := .append) (xs := #[.tmp 25,.tmp 28]) rfl ?_);at_builtin;refine Kd.R_append k66 (w0 := w) w.heap.size rfl (.tmp 25) (.tmp 28) 29 66 (.agg #[(.int .i64 0),(.int .i64 0)]) 16 rfl Try.underlying29 info66 rfl (by decide) (by omega) u5 x5_1 (⟨t364,t365⟩ : S66) [.int .i64 t364,.int .i64 t365] (fun _ => True) (fun _ => False) rfl rfl ?aP (fun _ hk => hk.elim) ?aF ?aO ?aB ?aS ?aL ?_;(case aP => exact k66_mkM _ _ _ (⟨t364,t365⟩ : S66));(case aB => exact (B_up HB.out));(case aF => exact (fun _ _ => trivial));(case aO => exact (Kd.R_up HO_5.out));(case aS => exact (below_size (B_up HB.out)));(case aL => have := LMc9.out;omega);intro v367 w13 ho hb hg hat;rw [← Ny366.out] at ho;have n0_ := Aside0.mk (Kd.R_over' (Kd.R_up HO363.out) (Kd.R_typed (Kd.R_up HO_5.out)) (by decide) hg);have n1_ := Aside0.mk (hb);have n2_ := Aside0.mk (ho);clear HO363;clear HB;clear HO_5;have HO363 := n0_;have HB := n1_;have HO368 := n2_;clear n0_ n1_ n2_;clear ho hb hg hat))
     go_roundg k1
     case measure => have := HK1.out;omega
     case rel => exact ⟨(y366),(wrap64 (x6_1 + 1)),(by first | rfl | (simp;done) | (simp [*];done)),H',⟨by have := HK1.out;omega⟩,⟨by (with_reducible repeat (first | apply Kd.R_alloc | apply Kd.R_drewN | apply Kd.R_drew));exact HO368.out⟩,⟨by repeat (first | (with_reducible first | exact HB.out | apply below_alloc | apply pw_below_drewN | apply below_drew1) | exact HB.out)⟩⟩
    ·rw [if_neg c9] at H
     exact absurd H (by simp)
   ·rw [if_neg c6] at H
    have c6b0 : decide (x6_1 < t359) = false := decide_eq_false c6
    clear c6
    obtain rfl := Option.some.inj H
    go_wp2_with (first | ((with_reducible refine gate_callee (f := 69) rfl ?_);refine goesL_ (some 14) rfl rfl Try.func69 (by kernel_rfl) rfl #[.int .i64 a1,.int .i64 (l0.length : Int)] rfl eq_up ?_;(with_reducible refine (spec_Blocks.calls a1 (l0.length : Int) t359 _ A5.out).mono ?_);rintro e w' ⟨rfl,⟨nd,rfl⟩⟩;refine ⟨_,rfl,?_⟩))
    go_ret
    exact ⟨_,by first | rfl | (simp [errW_none,errW_some] <;> rfl) | (simp [*,errW_none,errW_some] <;> rfl),by (with_reducible repeat (first | apply Kd.R_alloc | apply Kd.R_drewN | apply Kd.R_drew));exact HO_5.out,by repeat (first | (with_reducible first | exact HB.out | apply below_alloc | apply pw_below_drewN | apply below_drew1) | exact HB.out)⟩

/-! ### spec_ManOf: function 40 -/
def spec_ManOf.f (k : Nat) (a0 : Int) (l1 : List Int) (a2 : Int) : Option (Int × Int × Int × (List (S66))) := (spec_l1In.f a0 1 1000000).bind fun t370 => (if t370 = true then ((spec_SizeOk.f a2 (l1.length : Int)).bind fun t371 => (if t371 = true then ((spec_SumsOf.f k l1 a2).bind fun t372 => (some (a0,a2,(l1.length : Int),t372))) else (some (0,0,0,([] : List (S66)))))) else (some (0,0,0,([] : List (S66)))))
theorem spec_ManOf.mono : ∀ a0 a1 a2 k,LeO (spec_ManOf.f k a0 a1 a2) (spec_ManOf.f (k + 1) a0 a1 a2) := by
 intro a0 a1 a2 k
 unfold spec_ManOf.f
 repeat' first
   | (with_reducible exact spec_SumsOf.mono _ _ _)
   | (with_reducible exact LeO.refl _)
   | (with_reducible exact LeO.none _)
   | (with_reducible refine LeO.ite ?_ ?_)
   | (with_reducible refine LeO.bind ?_ (fun _ => ?_))
   | exact spec_SumsOf.mono _ _ _
   | exact LeO.none _
   | refine LeO.ite ?_ ?_
   | refine LeO.bind ?_ (fun _ => ?_)
set_option maxHeartbeats 8000000 in
set_option maxRecDepth 100000 in
theorem spec_ManOf.calls (k : Nat) (a0 : Int) (A1 : Option Addr) (c1 : Nat) (l1 : List Int) (a2 : Int) (r1 : Int) (r2 : Int) (r3 : Int) (r4 : List (S66)) (w : World) (hr1 : Kd.C (Kd.int .u8) w A1 l1.length l1) (hc1 : l1.length ≤ c1) (h : spec_ManOf.f k a0 l1 a2 = some (r1,r2,r3,r4)) :
  Calls Try.prog 40 #[.int .i64 a0,.slice A1 l1.length c1,.int .i64 a2] w fun e w' => ∃ v3_ : Value,e = .returned (.agg #[.int .i64 r1,.int .i64 r2,.int .i64 r3,v3_]) ∧ Kd.R k66 66 w' w.heap.size (fun _ => True) v3_ r4 ∧ Below w.heap.size w w' := by
 have hu31 := Try.underlying31
 have HR1 := Aside0.mk hr1
 have HC1 := Aside0.mk hc1
 clear hr1 hc1
 have HB := Aside0.mk (Below.refl w.heap.size w)
 have H : ((spec_l1In.f a0 1 1000000).bind fun t370 => (if t370 = true then ((spec_SizeOk.f a2 (l1.length : Int)).bind fun t371 => (if t371 = true then ((spec_SumsOf.f k l1 a2).bind fun t372 => (some (a0,a2,(l1.length : Int),t372))) else (some (0,0,0,([] : List (S66)))))) else (some (0,0,0,([] : List (S66)))))) = some (r1,r2,r3,r4) := h
 clear h
 replace H := Option.bind_eq_some_iff.mp H
 obtain ⟨t370,A40,H⟩ := H
 (try dsimp only at H)
 have A4 := Aside0.mk A40
 clear A40
 by_cases c5 : t370 = true
 ·subst c5
  rw [if_pos rfl] at H
  replace H := Option.bind_eq_some_iff.mp H
  obtain ⟨t371,A60,H⟩ := H
  (try dsimp only at H)
  have A6 := Aside0.mk A60
  clear A60
  by_cases c7 : t371 = true
  ·subst c7
   rw [if_pos rfl] at H
   replace H := Option.bind_eq_some_iff.mp H
   obtain ⟨t372,A80,H⟩ := H
   replace H : (some (a0,a2,(l1.length : Int),t372)) = some (r1,r2,r3,r4) := H
   have A8 := Aside0.mk A80
   clear A80
   simp only [Option.some.injEq,Prod.mk.injEq] at H
   obtain ⟨rfl,rfl,rfl,rfl⟩ := H
   go_enter Try.func40,Try.ntmps40
   go_wp2_with (first | ((with_reducible refine gate_dst (N := 6) rfl ?_);(try (refine gate_guard (by rfl) ?_;dsimp only));refine box_event ?hg (N := 6) ?hd (cs := #[.int .i64 0,.int .i64 0,.int .i64 0,.slice none 0 0]) (t := 31) ?hr ?_;(case hd => rfl);(case hg => rfl);(case hr => first | (go_simp;done) | (go_simp;rfl));intro gb369 hg w9 hbox hb;have n0_ := Aside0.mk (below_step (B_up HB.out) hb);have n1_ := Aside0.mk (hbox);have n2_ := Aside0.mk ((by rw [hg];exact (below_size (B_up HB.out)) : w.heap.size ≤ gb369));have n3_ := Aside0.mk ((by rw [hg];exact (below_size (B_up HB.out)) : w.heap.size ≤ gb369));clear HB;have HB := n0_;have BK369 := n1_;have GW369 := n2_;have GE369 := n3_;clear n0_ n1_ n2_ n3_;clear hb hbox hg) | ((with_reducible refine gate_callee (f := 89) rfl ?_);refine goesL_ (some 8) rfl rfl Try.func89 (by kernel_rfl) rfl #[.int .i64 a0,.int .i64 1,.int .i64 1000000] rfl eq_up ?_;(with_reducible refine (spec_l1In.calls a0 1 1000000 true _ A4.out).mono ?_);rintro e w' ⟨rfl,⟨nd,rfl⟩⟩;refine ⟨_,rfl,?_⟩;(try (rw [drewN_self w9];generalize hq_ : World.drewN w9 _ = w9;have n0_ : Aside0 (w9.heap[gb369]? = some (.cells #[.int .i64 0,.int .i64 0,.int .i64 0,.slice none 0 0] 31 (0,0))) := ⟨by rw [← hq_];exact (blk_up BK369.out)⟩;have n1_ : Aside0 (Below w.heap.size w w9) := ⟨by rw [← hq_];exact (B_set HB.out)⟩;clear BK369 HB hq_;have BK369 := n0_;have HB := n1_;clear n0_ n1_))) | (go_at_call 90;(with_reducible refine (spec_SizeOk.calls a2 (l1.length : Int) true _ A6.out).mono ?_);rintro e w' ⟨rfl,⟨nd,rfl⟩⟩;(try (rw [drewN_self w9];generalize hq_ : World.drewN w9 _ = w9;have n0_ : Aside0 (w9.heap[gb369]? = some (.cells #[.int .i64 0,.int .i64 0,.int .i64 0,.slice none 0 0] 31 (0,0))) := ⟨by rw [← hq_];exact (blk_up BK369.out)⟩;have n1_ : Aside0 (Below w.heap.size w w9) := ⟨by rw [← hq_];exact (B_set HB.out)⟩;clear BK369 HB hq_;have BK369 := n0_;have HB := n1_;clear n0_ n1_))) | ((with_reducible refine gate_callee (f := 91) rfl ?_);refine goesL_ (some 24) rfl rfl Try.func91 (by kernel_rfl) rfl #[.slice A1 l1.length c1,.int .i64 a2] rfl eq_up ?_;(with_reducible refine (spec_SumsOf.calls k _ _ l1 a2 t372 _ ?side1 ?side2 A8.out).mono ?_);(case side1 => repeat (first | exact (Kd.C_below HR1.out HB.out) | (with_reducible refine Kd.C_alloc ?_ _) | (with_reducible refine Kd.C_drewN ?_ _) | (with_reducible refine Kd.C_drew ?_)));(case side2 => exact HC1.out);rintro e w10 ⟨v373,rfl,ho0,hb⟩;refine ⟨_,rfl,?_⟩;have n0_ := Aside0.mk (Kd.R_lower ho0 (below_size (B_set HB.out)));have n1_ := Aside0.mk (blk_below (g := gb369) (o := .cells #[.int .i64 0,.int .i64 0,.int .i64 0,.slice none 0 0] 31 (0,0)) (blk_up BK369.out) hb);have n2_ := Aside0.mk (below_step (B_set HB.out) hb);clear BK369;clear HB;have HO374 := n0_;have BK369 := n1_;have HB := n2_;clear n0_ n1_ n2_;(try clear hb);(try clear hb2);(try clear hk);(try clear hi);(try clear ho0);obtain ⟨Ao11,co11,eo11⟩ := Kd.R_slice HO374.out;subst eo11;have hcz12_0 : w10.cell? ⟨gb369,0,none⟩ = some (.int .i64 0) := (blk_cell BK369.out 0).trans rfl;have hcz12_1 : w10.cell? ⟨gb369,1,none⟩ = some (.int .i64 0) := (blk_cell BK369.out 1).trans rfl;have hcz12_2 : w10.cell? ⟨gb369,2,none⟩ = some (.int .i64 0) := (blk_cell BK369.out 2).trans rfl;have hcz12_3 : w10.cell? ⟨gb369,3,none⟩ = some (.slice none 0 0) := (blk_cell BK369.out 3).trans rfl;have hfz12_0 := blk_frozen BK369.out 0;have hfz12_1 := blk_frozen BK369.out 1;have hfz12_2 := blk_frozen BK369.out 2;have hfz12_3 := blk_frozen BK369.out 3))
   refine bodyPost_ret (results_cell_row rfl _ _ gb369 31 #[.int .i64 a0,.int .i64 a2,.int .i64 (l1.length : Int),.slice Ao11 t372.length co11] (0,0) _ rfl (by (with_reducible repeat (first | refine blk_drewN ?_ _ | refine blk_drew ?_ | refine blk_alloc ?_ _));refine blk_put (cs := #[.int .i64 a0,.int .i64 a2,.int .i64 (l1.length : Int),.slice none 0 0]) ?_ 3 _ rfl;(with_reducible repeat (first | refine blk_drewN ?_ _ | refine blk_drew ?_ | refine blk_alloc ?_ _));refine blk_put (cs := #[.int .i64 a0,.int .i64 a2,.int .i64 0,.slice none 0 0]) ?_ 2 _ rfl;(with_reducible repeat (first | refine blk_drewN ?_ _ | refine blk_drew ?_ | refine blk_alloc ?_ _));refine blk_put (cs := #[.int .i64 a0,.int .i64 0,.int .i64 0,.slice none 0 0]) ?_ 1 _ rfl;(with_reducible repeat (first | refine blk_drewN ?_ _ | refine blk_drew ?_ | refine blk_alloc ?_ _));refine blk_put (cs := #[.int .i64 0,.int .i64 0,.int .i64 0,.slice none 0 0]) ?_ 0 _ rfl;(with_reducible repeat (first | refine blk_drewN ?_ _ | refine blk_drew ?_ | refine blk_alloc ?_ _));exact BK369.out) Try.underlying31 rfl (by kernel_rfl)) rfl ?_
   exact ⟨_,by first | rfl | (simp [errW_none,errW_some] <;> rfl) | (simp [*,errW_none,errW_some] <;> rfl),by (with_reducible repeat (first | apply Kd.R_alloc | apply Kd.R_drewN | apply Kd.R_drew));exact Kd.R_mono (Kd.R_far (p := ⟨gb369,3,none⟩) (Kd.R_far (p := ⟨gb369,2,none⟩) (Kd.R_far (p := ⟨gb369,1,none⟩) (Kd.R_far (p := ⟨gb369,0,none⟩) (Kd.R_types HO374.out BK369.out (by decide)) (fun _ hk => hk.2) (.int .i64 a0)) (fun _ hk => hk.2) (.int .i64 a2)) (fun _ hk => hk.2) (.int .i64 (l1.length : Int))) (fun _ hk => hk.2) (.slice Ao11 t372.length co11)) (fun _ hk => trivial),by repeat (first | (with_reducible first | exact HB.out | apply below_alloc | apply pw_below_drewN | apply below_drew1 | refine below_set ?_ GE369.out) | exact HB.out)⟩
  ·replace c7 := Bool.eq_false_iff.mpr c7
   subst c7
   have H1 : (some (0,0,0,([] : List (S66)))) = some (r1,r2,r3,r4) := by rw [if_neg (show ¬ (false = true) by decide)] at H;exact H
   clear H
   have H := H1
   clear H1
   simp only [Option.some.injEq,Prod.mk.injEq] at H
   obtain ⟨rfl,rfl,rfl,rfl⟩ := H
   go_enter Try.func40,Try.ntmps40
   go_wp2_with (first | ((with_reducible refine gate_dst (N := 6) rfl ?_);(try (refine gate_guard (by rfl) ?_;dsimp only));refine box_event ?hg (N := 6) ?hd (cs := #[.int .i64 0,.int .i64 0,.int .i64 0,.slice none 0 0]) (t := 31) ?hr ?_;(case hd => rfl);(case hg => rfl);(case hr => first | (go_simp;done) | (go_simp;rfl));intro gb369 hg w13 hbox hb;have n0_ := Aside0.mk (below_step (B_up HB.out) hb);have n1_ := Aside0.mk (hbox);have n2_ := Aside0.mk ((by rw [hg];exact (below_size (B_up HB.out)) : w.heap.size ≤ gb369));have n3_ := Aside0.mk ((by rw [hg];exact (below_size (B_up HB.out)) : w.heap.size ≤ gb369));clear HB;have HB := n0_;have BK369 := n1_;have GW369 := n2_;have GE369 := n3_;clear n0_ n1_ n2_ n3_;clear hb hbox hg) | ((with_reducible refine gate_callee (f := 89) rfl ?_);refine goesL_ (some 8) rfl rfl Try.func89 (by kernel_rfl) rfl #[.int .i64 a0,.int .i64 1,.int .i64 1000000] rfl eq_up ?_;(with_reducible refine (spec_l1In.calls a0 1 1000000 true _ A4.out).mono ?_);rintro e w' ⟨rfl,⟨nd,rfl⟩⟩;refine ⟨_,rfl,?_⟩;(try (rw [drewN_self w13];generalize hq_ : World.drewN w13 _ = w13;have n0_ : Aside0 (w13.heap[gb369]? = some (.cells #[.int .i64 0,.int .i64 0,.int .i64 0,.slice none 0 0] 31 (0,0))) := ⟨by rw [← hq_];exact (blk_up BK369.out)⟩;have n1_ : Aside0 (Below w.heap.size w w13) := ⟨by rw [← hq_];exact (B_set HB.out)⟩;clear BK369 HB hq_;have BK369 := n0_;have HB := n1_;clear n0_ n1_))) | (go_at_call 90;(with_reducible refine (spec_SizeOk.calls a2 (l1.length : Int) false _ A6.out).mono ?_);rintro e w' ⟨rfl,⟨nd,rfl⟩⟩;(try (rw [drewN_self w13];generalize hq_ : World.drewN w13 _ = w13;have n0_ : Aside0 (w13.heap[gb369]? = some (.cells #[.int .i64 0,.int .i64 0,.int .i64 0,.slice none 0 0] 31 (0,0))) := ⟨by rw [← hq_];exact (blk_up BK369.out)⟩;have n1_ : Aside0 (Below w.heap.size w w13) := ⟨by rw [← hq_];exact (B_set HB.out)⟩;clear BK369 HB hq_;have BK369 := n0_;have HB := n1_;clear n0_ n1_));have hcz14_0 : w13.cell? ⟨gb369,0,none⟩ = some (.int .i64 0) := (blk_cell BK369.out 0).trans rfl;have hcz14_1 : w13.cell? ⟨gb369,1,none⟩ = some (.int .i64 0) := (blk_cell BK369.out 1).trans rfl;have hcz14_2 : w13.cell? ⟨gb369,2,none⟩ = some (.int .i64 0) := (blk_cell BK369.out 2).trans rfl;have hcz14_3 : w13.cell? ⟨gb369,3,none⟩ = some (.slice none 0 0) := (blk_cell BK369.out 3).trans rfl;have hfz14_0 := blk_frozen BK369.out 0;have hfz14_1 := blk_frozen BK369.out 1;have hfz14_2 := blk_frozen BK369.out 2;have hfz14_3 := blk_frozen BK369.out 3))
   refine bodyPost_ret (results_cell_row rfl _ _ gb369 31 #[.int .i64 0,.int .i64 0,.int .i64 0,.slice none 0 0] (0,0) _ rfl (by (with_reducible repeat (first | refine blk_drewN ?_ _ | refine blk_drew ?_ | refine blk_alloc ?_ _));refine blk_put (cs := #[.int .i64 0,.int .i64 0,.int .i64 0,.slice none 0 0]) ?_ 3 _ rfl;(with_reducible repeat (first | refine blk_drewN ?_ _ | refine blk_drew ?_ | refine blk_alloc ?_ _));refine blk_put (cs := #[.int .i64 0,.int .i64 0,.int .i64 0,.slice none 0 0]) ?_ 2 _ rfl;(with_reducible repeat (first | refine blk_drewN ?_ _ | refine blk_drew ?_ | refine blk_alloc ?_ _));refine blk_put (cs := #[.int .i64 0,.int .i64 0,.int .i64 0,.slice none 0 0]) ?_ 1 _ rfl;(with_reducible repeat (first | refine blk_drewN ?_ _ | refine blk_drew ?_ | refine blk_alloc ?_ _));refine blk_put (cs := #[.int .i64 0,.int .i64 0,.int .i64 0,.slice none 0 0]) ?_ 0 _ rfl;(with_reducible repeat (first | refine blk_drewN ?_ _ | refine blk_drew ?_ | refine blk_alloc ?_ _));exact BK369.out) Try.underlying31 rfl (by kernel_rfl)) rfl ?_
   exact ⟨_,by first | rfl | (simp [errW_none,errW_some] <;> rfl) | (simp [*,errW_none,errW_some] <;> rfl),by first | exact Kd.R_nil _ _ _ _ _ | exact Kd.N_nil _ _ _ _ _ | exact Kd.V_nil _ _ _ _ _ | exact Kd.Q_nil _ _ _ _ _ | exact Kd.S_nil _ _ _ _ _,by repeat (first | (with_reducible first | exact HB.out | apply below_alloc | apply pw_below_drewN | apply below_drew1 | refine below_set ?_ GE369.out) | exact HB.out)⟩
 ·replace c5 := Bool.eq_false_iff.mpr c5
  subst c5
  have H1 : (some (0,0,0,([] : List (S66)))) = some (r1,r2,r3,r4) := by rw [if_neg (show ¬ (false = true) by decide)] at H;exact H
  clear H
  have H := H1
  clear H1
  simp only [Option.some.injEq,Prod.mk.injEq] at H
  obtain ⟨rfl,rfl,rfl,rfl⟩ := H
  go_enter Try.func40,Try.ntmps40
  go_wp2_with (first | ((with_reducible refine gate_dst (N := 6) rfl ?_);(try (refine gate_guard (by rfl) ?_;dsimp only));refine box_event ?hg (N := 6) ?hd (cs := #[.int .i64 0,.int .i64 0,.int .i64 0,.slice none 0 0]) (t := 31) ?hr ?_;(case hd => rfl);(case hg => rfl);(case hr => first | (go_simp;done) | (go_simp;rfl));intro gb369 hg w15 hbox hb;have n0_ := Aside0.mk (below_step (B_up HB.out) hb);have n1_ := Aside0.mk (hbox);have n2_ := Aside0.mk ((by rw [hg];exact (below_size (B_up HB.out)) : w.heap.size ≤ gb369));have n3_ := Aside0.mk ((by rw [hg];exact (below_size (B_up HB.out)) : w.heap.size ≤ gb369));clear HB;have HB := n0_;have BK369 := n1_;have GW369 := n2_;have GE369 := n3_;clear n0_ n1_ n2_ n3_;clear hb hbox hg) | ((with_reducible refine gate_callee (f := 89) rfl ?_);refine goesL_ (some 8) rfl rfl Try.func89 (by kernel_rfl) rfl #[.int .i64 a0,.int .i64 1,.int .i64 1000000] rfl eq_up ?_;(with_reducible refine (spec_l1In.calls a0 1 1000000 false _ A4.out).mono ?_);rintro e w' ⟨rfl,⟨nd,rfl⟩⟩;refine ⟨_,rfl,?_⟩;(try (rw [drewN_self w15];generalize hq_ : World.drewN w15 _ = w15;have n0_ : Aside0 (w15.heap[gb369]? = some (.cells #[.int .i64 0,.int .i64 0,.int .i64 0,.slice none 0 0] 31 (0,0))) := ⟨by rw [← hq_];exact (blk_up BK369.out)⟩;have n1_ : Aside0 (Below w.heap.size w w15) := ⟨by rw [← hq_];exact (B_set HB.out)⟩;clear BK369 HB hq_;have BK369 := n0_;have HB := n1_;clear n0_ n1_));have hcz16_0 : w15.cell? ⟨gb369,0,none⟩ = some (.int .i64 0) := (blk_cell BK369.out 0).trans rfl;have hcz16_1 : w15.cell? ⟨gb369,1,none⟩ = some (.int .i64 0) := (blk_cell BK369.out 1).trans rfl;have hcz16_2 : w15.cell? ⟨gb369,2,none⟩ = some (.int .i64 0) := (blk_cell BK369.out 2).trans rfl;have hcz16_3 : w15.cell? ⟨gb369,3,none⟩ = some (.slice none 0 0) := (blk_cell BK369.out 3).trans rfl;have hfz16_0 := blk_frozen BK369.out 0;have hfz16_1 := blk_frozen BK369.out 1;have hfz16_2 := blk_frozen BK369.out 2;have hfz16_3 := blk_frozen BK369.out 3))
  refine bodyPost_ret (results_cell_row rfl _ _ gb369 31 #[.int .i64 0,.int .i64 0,.int .i64 0,.slice none 0 0] (0,0) _ rfl (by (with_reducible repeat (first | refine blk_drewN ?_ _ | refine blk_drew ?_ | refine blk_alloc ?_ _));refine blk_put (cs := #[.int .i64 0,.int .i64 0,.int .i64 0,.slice none 0 0]) ?_ 3 _ rfl;(with_reducible repeat (first | refine blk_drewN ?_ _ | refine blk_drew ?_ | refine blk_alloc ?_ _));refine blk_put (cs := #[.int .i64 0,.int .i64 0,.int .i64 0,.slice none 0 0]) ?_ 2 _ rfl;(with_reducible repeat (first | refine blk_drewN ?_ _ | refine blk_drew ?_ | refine blk_alloc ?_ _));refine blk_put (cs := #[.int .i64 0,.int .i64 0,.int .i64 0,.slice none 0 0]) ?_ 1 _ rfl;(with_reducible repeat (first | refine blk_drewN ?_ _ | refine blk_drew ?_ | refine blk_alloc ?_ _));refine blk_put (cs := #[.int .i64 0,.int .i64 0,.int .i64 0,.slice none 0 0]) ?_ 0 _ rfl;(with_reducible repeat (first | refine blk_drewN ?_ _ | refine blk_drew ?_ | refine blk_alloc ?_ _));exact BK369.out) Try.underlying31 rfl (by kernel_rfl)) rfl ?_
  exact ⟨_,by first | rfl | (simp [errW_none,errW_some] <;> rfl) | (simp [*,errW_none,errW_some] <;> rfl),by first | exact Kd.R_nil _ _ _ _ _ | exact Kd.N_nil _ _ _ _ _ | exact Kd.V_nil _ _ _ _ _ | exact Kd.Q_nil _ _ _ _ _ | exact Kd.S_nil _ _ _ _ _,by repeat (first | (with_reducible first | exact HB.out | apply below_alloc | apply pw_below_drewN | apply below_drew1 | refine below_set ?_ GE369.out) | exact HB.out)⟩

/-! ### spec_l6Draw: function 85 -/
def spec_l6Draw.f (k : Nat) (s0_0 : List Int) (s0_1 : Int) (s0_2 : Int) : Option (Int × Int × Int × (List (S66)) × List Int × Int × Int) := (spec_l6Image.f k s0_0 s0_1 s0_2).bind fun bt376 => ((spec_l1Below.f s0_0 bt376.2.1 bt376.2.2 5).bind fun bt381 => ((spec_l1Below.f s0_0 bt381.2.1 bt381.2.2 5).bind fun bt384 => ((spec_ManOf.f k (wrap64 (1 + bt381.1)) bt376.1 (wrap64 (2 + bt384.1))).bind fun bt387 => (some (bt387.1,bt387.2.1,bt387.2.2.1,bt387.2.2.2,bt376.1,bt384.2.1,bt384.2.2)))))
theorem spec_l6Draw.mono : ∀ a0 a1 a2 k,LeO (spec_l6Draw.f k a0 a1 a2) (spec_l6Draw.f (k + 1) a0 a1 a2) := by
 intro a0 a1 a2 k
 unfold spec_l6Draw.f
 repeat' first
   | (with_reducible exact spec_ManOf.mono _ _ _ _)
   | (with_reducible exact spec_l6Image.mono _ _ _ _)
   | (with_reducible exact LeO.refl _)
   | (with_reducible exact LeO.none _)
   | (with_reducible refine LeO.ite ?_ ?_)
   | (with_reducible refine LeO.bind ?_ (fun _ => ?_))
   | exact spec_ManOf.mono _ _ _ _
   | exact spec_l6Image.mono _ _ _ _
   | exact LeO.none _
   | refine LeO.ite ?_ ?_
   | refine LeO.bind ?_ (fun _ => ?_)
set_option maxHeartbeats 8000000 in
set_option maxRecDepth 100000 in
theorem spec_l6Draw.calls (k : Nat) (g : Nat) (s0_0 : List Int) (s0_1 : Int) (s0_2 : Int) (r1 : Int) (r2 : Int) (r3 : Int) (r4 : List (S66)) (r5 : List Int) (r6 : Int) (r7 : Int) (w0 w : World) (hI : IsS100 w0 w g s0_0 s0_1 s0_2) (hB : Below w0.heap.size w0 w) (h : spec_l6Draw.f k s0_0 s0_1 s0_2 = some (r1,r2,r3,r4,r5,r6,r7)) :
  Calls Try.prog 85 #[.pointer (some ⟨g,0,none⟩)] w fun e w' => ∃ v3_ v4_ : Value,e = .returned (.tuple #[.agg #[.int .i64 r1,.int .i64 r2,.int .i64 r3,v3_],v4_]) ∧ Kd.R k66 66 w' w.heap.size (fun _ => True) v3_ r4 ∧ Kd.R (Kd.int .u8) 5 w' w.heap.size (fun _ => True) v4_ r5 ∧ IsS100 w0 w' g s0_0 r6 r7 ∧ Below w0.heap.size w0 w' ∧ KeepBut w w' g none := by
 have hu31 := Try.underlying31
 have HI0 := Aside0.mk hI
 have HK := Aside0.mk (KeepBut.refl w g none)
 have HL := Aside0.mk hB.size
 clear hI
 have HW0 := Aside0.mk hB.size
 have HB := Aside0.mk hB
 clear hB
 have H : ((spec_l6Image.f k s0_0 s0_1 s0_2).bind fun bt376 => ((spec_l1Below.f s0_0 bt376.2.1 bt376.2.2 5).bind fun bt381 => ((spec_l1Below.f s0_0 bt381.2.1 bt381.2.2 5).bind fun bt384 => ((spec_ManOf.f k (wrap64 (1 + bt381.1)) bt376.1 (wrap64 (2 + bt384.1))).bind fun bt387 => (some (bt387.1,bt387.2.1,bt387.2.2.1,bt387.2.2.2,bt376.1,bt384.2.1,bt384.2.2)))))) = some (r1,r2,r3,r4,r5,r6,r7) := h
 clear h
 replace H := Option.bind_eq_some_iff.mp H
 obtain ⟨⟨t376,t379,t380⟩,A20,H⟩ := H
 (try dsimp only at H)
 have A2 := Aside0.mk A20
 clear A20
 replace H := Option.bind_eq_some_iff.mp H
 obtain ⟨⟨t381,t382,t383⟩,A30,H⟩ := H
 (try dsimp only at H)
 have A3 := Aside0.mk A30
 clear A30
 replace H := Option.bind_eq_some_iff.mp H
 obtain ⟨⟨t384,t385,t386⟩,A40,H⟩ := H
 (try dsimp only at H)
 have A4 := Aside0.mk A40
 clear A40
 replace H := Option.bind_eq_some_iff.mp H
 obtain ⟨⟨t387,t388,t389,t390⟩,A50,H⟩ := H
 replace H : (some (t387,t388,t389,t390,t376,t385,t386)) = some (r1,r2,r3,r4,r5,r6,r7) := H
 have A5 := Aside0.mk A50
 clear A50
 simp only [Option.some.injEq,Prod.mk.injEq] at H
 obtain ⟨rfl,rfl,rfl,rfl,rfl,rfl,rfl⟩ := H
 go_enter Try.func85,Try.ntmps85
 go_wp2_with (first | ((with_reducible refine gate_dst (N := 2) rfl ?_);refine box_event ?hg (N := 2) ?hd (cs := #[.int .i64 0,.int .i64 0,.int .i64 0,.slice none 0 0]) (t := 31) ?hr ?_;(case hd => rfl);(case hg => rfl);(case hr => first | (go_simp;done) | (go_simp;rfl));intro gb375 hg w6 hbox hb;have n0_ := Aside0.mk (IsS100.below (by repeat (first | (with_reducible first | exact HI0.out | apply IsS100.alloc | apply IsS100.drewN | apply IsS100.drew | apply IsS100.set_1 | apply IsS100.set_2) | exact HI0.out)) hb);have n1_ := Aside0.mk (KeepBut.trans (by repeat (first | (with_reducible first | exact HK.out | apply KeepBut.set_ | apply keep_drewN | apply keep_drew | apply keep_alloc) | exact HK.out)) (KeepBut.of_below hb g none) (.inl rfl));have n2_ := Aside0.mk (below_step (by repeat (first | (with_reducible first | exact HB.out | apply below_alloc | apply pw_below_drewN | apply below_drew1 | refine below_set ?_ (IsS100.ge HI0.out)) | exact HB.out)) hb);have n3_ := Aside0.mk (hbox);have n4_ := Aside0.mk ((by rw [hg];exact (keep_size (w := w) (g := g) (row := none) (by repeat (first | (with_reducible first | exact HK.out | apply KeepBut.set_ | apply keep_drewN | apply keep_drew | apply keep_alloc) | exact HK.out))) : w.heap.size ≤ gb375));have n5_ := Aside0.mk ((Nat.le_trans HW0.out (by rw [hg];exact (keep_size (w := w) (g := g) (row := none) (by repeat (first | (with_reducible first | exact HK.out | apply KeepBut.set_ | apply keep_drewN | apply keep_drew | apply keep_alloc) | exact HK.out))) : w.heap.size ≤ gb375) : w0.heap.size ≤ gb375));have n6_ := Aside0.mk ((by rw [hg];exact Nat.ne_of_lt (IsS100.lt (show IsS100 w0 _ g s0_0 s0_1 s0_2 from by repeat (first | (with_reducible first | exact HI0.out | apply IsS100.alloc | apply IsS100.drewN | apply IsS100.drew | apply IsS100.set_1 | apply IsS100.set_2) | exact HI0.out))) : g ≠ gb375));have n7_ := Aside0.mk ((by rw [hg];exact Nat.ne_of_gt (IsS100.lt (show IsS100 w0 _ g s0_0 s0_1 s0_2 from by repeat (first | (with_reducible first | exact HI0.out | apply IsS100.alloc | apply IsS100.drewN | apply IsS100.drew | apply IsS100.set_1 | apply IsS100.set_2) | exact HI0.out))) : gb375 ≠ g));clear HI0;clear HK;clear HB;have HI0 := n0_;have HK := n1_;have HB := n2_;have BK375 := n3_;have GW375 := n4_;have GE375 := n5_;have NB0_375 := n6_;have NB375_0 := n7_;clear n0_ n1_ n2_ n3_ n4_ n5_ n6_ n7_;clear hb hbox hg) | ((with_reducible refine gate_callee (f := 79) rfl ?_);refine goesL_ (some 6) rfl rfl Try.func79 (by kernel_rfl) rfl #[.pointer (some ⟨g,0,none⟩)] rfl eq_up ?_;(with_reducible refine (spec_l6Image.calls k g s0_0 s0_1 s0_2 t376 t379 t380 w0 _ ?side1 ?side2 A2.out).mono ?_);(case side1 => repeat (first | (with_reducible first | exact HI0.out | apply IsS100.alloc | apply IsS100.drewN | apply IsS100.drew | apply IsS100.set_1 | apply IsS100.set_2 | refine IsS100.far ?_ NB0_375.out _) | exact HI0.out));(case side2 => repeat (first | (with_reducible first | exact HB.out | apply below_alloc | apply pw_below_drewN | apply below_drew1 | refine below_set ?_ (IsS100.ge HI0.out) | refine below_set ?_ GE375.out) | exact HB.out));rintro e w7 ⟨v377,rfl,ho0,hi,hb,hk⟩;refine ⟨_,rfl,?_⟩;have n0_ := Aside0.mk (KeepBut.blk hk (g' := gb375) (o := .cells #[.int .i64 0,.int .i64 0,.int .i64 0,.slice none 0 0] 31 (0,0)) (blk_up BK375.out) NB375_0.out (by simp));have n1_ := Aside0.mk (Kd.R_lower ho0 (keep_size (w := w) (g := g) (row := none) (by repeat (first | (with_reducible first | exact HK.out | apply KeepBut.set_ | apply keep_drewN | apply keep_drew | apply keep_alloc | refine keep_far ?_ GW375.out _) | exact HK.out))));have n2_ := Aside0.mk (KeepBut.trans (by repeat (first | (with_reducible first | exact HK.out | apply KeepBut.set_ | apply keep_drewN | apply keep_drew | apply keep_alloc | refine keep_far ?_ GW375.out _) | exact HK.out)) hk (.inl rfl));have n3_ := Aside0.mk (hb);have n4_ := Aside0.mk (hi);clear BK375;clear HK;clear HB;clear HI0;have BK375 := n0_;have HO378 := n1_;have HK := n2_;have HB := n3_;have HI0 := n4_;clear n0_ n1_ n2_ n3_ n4_;(try clear hb);(try clear hb2);(try clear hk);(try clear hi);(try clear ho0)) | ((with_reducible refine gate_callee (f := 80) rfl ?_);refine goesL_ (some 8) rfl rfl Try.func80 (by kernel_rfl) rfl #[.pointer (some ⟨g,0,none⟩),.int .i64 5] rfl eq_up ?_;(with_reducible refine (spec_l1Below.calls g s0_0 t379 t380 5 t381 t382 t383 w0 _ ?side1 ?side2 A3.out).mono ?_);(case side1 => repeat (first | (with_reducible first | exact HI0.out | apply IsS100.alloc | apply IsS100.drewN | apply IsS100.drew | apply IsS100.set_1 | apply IsS100.set_2 | refine IsS100.far ?_ NB0_375.out _) | exact HI0.out));(case side2 => repeat (first | (with_reducible first | exact HB.out | apply below_alloc | apply pw_below_drewN | apply below_drew1 | refine below_set ?_ (IsS100.ge HI0.out) | refine below_set ?_ GE375.out) | exact HB.out));rintro e w8 ⟨rfl,hi,hb,hk⟩;refine ⟨_,rfl,?_⟩;have n0_ := Aside0.mk (KeepBut.blk hk (g' := gb375) (o := .cells #[.int .i64 0,.int .i64 0,.int .i64 0,.slice none 0 0] 31 (0,0)) (blk_up BK375.out) NB375_0.out (by simp));have n1_ := Aside0.mk (Kd.R_mono (Kd.R_keep (IsS100.apart (show IsS100 w0 _ g s0_0 t379 t380 from by repeat (first | (with_reducible first | exact HI0.out | apply IsS100.alloc | apply IsS100.drewN | apply IsS100.drew | apply IsS100.set_1 | apply IsS100.set_2 | refine IsS100.far ?_ NB0_375.out _) | exact HI0.out)) (Kd.R_up HO378.out) (by decide)) hk (fun _ h => h.2)) (fun _ h => h.1));have n2_ := Aside0.mk (KeepBut.trans (by repeat (first | (with_reducible first | exact HK.out | apply KeepBut.set_ | apply keep_drewN | apply keep_drew | apply keep_alloc | refine keep_far ?_ GW375.out _) | exact HK.out)) hk (.inl rfl));have n3_ := Aside0.mk (hb);have n4_ := Aside0.mk (hi);clear BK375;clear HO378;clear HK;clear HB;clear HI0;have BK375 := n0_;have HO378 := n1_;have HK := n2_;have HB := n3_;have HI0 := n4_;clear n0_ n1_ n2_ n3_ n4_;(try clear hb);(try clear hb2);(try clear hk);(try clear hi)) | ((with_reducible refine gate_callee (f := 80) rfl ?_);refine goesL_ (some 12) rfl rfl Try.func80 (by kernel_rfl) rfl #[.pointer (some ⟨g,0,none⟩),.int .i64 5] rfl eq_up ?_;(with_reducible refine (spec_l1Below.calls g s0_0 t382 t383 5 t384 t385 t386 w0 _ ?side1 ?side2 A4.out).mono ?_);(case side1 => repeat (first | (with_reducible first | exact HI0.out | apply IsS100.alloc | apply IsS100.drewN | apply IsS100.drew | apply IsS100.set_1 | apply IsS100.set_2 | refine IsS100.far ?_ NB0_375.out _) | exact HI0.out));(case side2 => repeat (first | (with_reducible first | exact HB.out | apply below_alloc | apply pw_below_drewN | apply below_drew1 | refine below_set ?_ (IsS100.ge HI0.out) | refine below_set ?_ GE375.out) | exact HB.out));rintro e w9 ⟨rfl,hi,hb,hk⟩;refine ⟨_,rfl,?_⟩;have n0_ := Aside0.mk (KeepBut.blk hk (g' := gb375) (o := .cells #[.int .i64 0,.int .i64 0,.int .i64 0,.slice none 0 0] 31 (0,0)) (blk_up BK375.out) NB375_0.out (by simp));have n1_ := Aside0.mk (Kd.R_mono (Kd.R_keep (IsS100.apart (show IsS100 w0 _ g s0_0 t382 t383 from by repeat (first | (with_reducible first | exact HI0.out | apply IsS100.alloc | apply IsS100.drewN | apply IsS100.drew | apply IsS100.set_1 | apply IsS100.set_2 | refine IsS100.far ?_ NB0_375.out _) | exact HI0.out)) (Kd.R_up HO378.out) (by decide)) hk (fun _ h => h.2)) (fun _ h => h.1));have n2_ := Aside0.mk (KeepBut.trans (by repeat (first | (with_reducible first | exact HK.out | apply KeepBut.set_ | apply keep_drewN | apply keep_drew | apply keep_alloc | refine keep_far ?_ GW375.out _) | exact HK.out)) hk (.inl rfl));have n3_ := Aside0.mk (hb);have n4_ := Aside0.mk (hi);clear BK375;clear HO378;clear HK;clear HB;clear HI0;have BK375 := n0_;have HO378 := n1_;have HK := n2_;have HB := n3_;have HI0 := n4_;clear n0_ n1_ n2_ n3_ n4_;(try clear hb);(try clear hb2);(try clear hk);(try clear hi);obtain ⟨Ao10,co10,eo10⟩ := Kd.R_slice HO378.out;subst eo10) | ((with_reducible refine gate_callee (f := 40) rfl ?_);refine goesL_ (some 14) rfl rfl Try.func40 (by kernel_rfl) rfl #[.int .i64 (wrap64 (1 + t381)),.slice Ao10 t376.length co10,.int .i64 (wrap64 (2 + t384))] rfl eq_up ?_;(with_reducible refine (spec_ManOf.calls k (wrap64 (1 + t381)) _ _ t376 (wrap64 (2 + t384)) t387 t388 t389 t390 _ ?side1 ?side2 A5.out).mono ?_);(case side1 => exact Kd.C_up (Kd.R_reads' HO378.out).2.2);(case side2 => exact (Kd.R_reads' HO378.out).2.1);rintro e w11 ⟨v391,rfl,ho0,hb⟩;refine ⟨_,rfl,?_⟩;have n0_ := Aside0.mk (Kd.R_below (Kd.R_up HO378.out) hb);have n1_ := Aside0.mk (Kd.R_lower ho0 (keep_size (w := w) (g := g) (row := none) (by repeat (first | (with_reducible first | exact HK.out | apply KeepBut.set_ | apply keep_drewN | apply keep_drew | apply keep_alloc | refine keep_far ?_ GW375.out _) | exact HK.out))));have n2_ := Aside0.mk (IsS100.below (by repeat (first | (with_reducible first | exact HI0.out | apply IsS100.alloc | apply IsS100.drewN | apply IsS100.drew | apply IsS100.set_1 | apply IsS100.set_2 | refine IsS100.far ?_ NB0_375.out _) | exact HI0.out)) hb);have n3_ := Aside0.mk (blk_below (g := gb375) (o := .cells #[.int .i64 0,.int .i64 0,.int .i64 0,.slice none 0 0] 31 (0,0)) (blk_up BK375.out) hb);have n4_ := Aside0.mk (KeepBut.trans (by repeat (first | (with_reducible first | exact HK.out | apply KeepBut.set_ | apply keep_drewN | apply keep_drew | apply keep_alloc | refine keep_far ?_ GW375.out _) | exact HK.out)) (KeepBut.of_below hb g none) (.inl rfl));have n5_ := Aside0.mk (below_step (by repeat (first | (with_reducible first | exact HB.out | apply below_alloc | apply pw_below_drewN | apply below_drew1 | refine below_set ?_ (IsS100.ge HI0.out) | refine below_set ?_ GE375.out) | exact HB.out)) hb);clear HO378;clear HI0;clear BK375;clear HK;clear HB;have HO378 := n0_;have HO392 := n1_;have HI0 := n2_;have BK375 := n3_;have HK := n4_;have HB := n5_;clear n0_ n1_ n2_ n3_ n4_ n5_;(try clear hb);(try clear hb2);(try clear hk);(try clear hi);(try clear ho0);have hnb12 := NB375_0.out;have hnc12 := NB0_375.out;have hcz13_0 : w11.cell? ⟨gb375,0,none⟩ = some (.int .i64 0) := (blk_cell BK375.out 0).trans rfl;have hcz13_1 : w11.cell? ⟨gb375,1,none⟩ = some (.int .i64 0) := (blk_cell BK375.out 1).trans rfl;have hcz13_2 : w11.cell? ⟨gb375,2,none⟩ = some (.int .i64 0) := (blk_cell BK375.out 2).trans rfl;have hcz13_3 : w11.cell? ⟨gb375,3,none⟩ = some (.slice none 0 0) := (blk_cell BK375.out 3).trans rfl;have hfz13_0 := blk_frozen BK375.out 0;have hfz13_1 := blk_frozen BK375.out 1;have hfz13_2 := blk_frozen BK375.out 2;have hfz13_3 := blk_frozen BK375.out 3;obtain ⟨Ao14,co14,eo14⟩ := Kd.R_slice HO392.out;subst eo14))
 refine bodyPost_ret (results_ct rfl _ _ gb375 31 #[.int .i64 t387,.int .i64 t388,.int .i64 t389,.slice Ao14 t390.length co14] (0,0) _ rfl (by (with_reducible repeat (first | refine blk_drewN ?_ _ | refine blk_drew ?_ | refine blk_alloc ?_ _));refine blk_put (cs := #[.int .i64 t387,.int .i64 t388,.int .i64 t389,.slice none 0 0]) ?_ 3 _ rfl;(with_reducible repeat (first | refine blk_drewN ?_ _ | refine blk_drew ?_ | refine blk_alloc ?_ _));refine blk_put (cs := #[.int .i64 t387,.int .i64 t388,.int .i64 0,.slice none 0 0]) ?_ 2 _ rfl;(with_reducible repeat (first | refine blk_drewN ?_ _ | refine blk_drew ?_ | refine blk_alloc ?_ _));refine blk_put (cs := #[.int .i64 t387,.int .i64 0,.int .i64 0,.slice none 0 0]) ?_ 1 _ rfl;(with_reducible repeat (first | refine blk_drewN ?_ _ | refine blk_drew ?_ | refine blk_alloc ?_ _));refine blk_put (cs := #[.int .i64 0,.int .i64 0,.int .i64 0,.slice none 0 0]) ?_ 0 _ rfl;(with_reducible repeat (first | refine blk_drewN ?_ _ | refine blk_drew ?_ | refine blk_alloc ?_ _));exact BK375.out) Try.underlying31 rfl (by kernel_rfl)) rfl ?_
 exact ⟨_,_,by first | rfl | (simp [errW_none,errW_some] <;> rfl) | (simp [*,errW_none,errW_some] <;> rfl),by (with_reducible repeat (first | apply Kd.R_alloc | apply Kd.R_drewN | apply Kd.R_drew));exact Kd.R_mono (Kd.R_far (p := ⟨gb375,3,none⟩) (Kd.R_far (p := ⟨gb375,2,none⟩) (Kd.R_far (p := ⟨gb375,1,none⟩) (Kd.R_far (p := ⟨gb375,0,none⟩) (Kd.R_types HO392.out BK375.out (by decide)) (fun _ hk => hk.2) (.int .i64 t387)) (fun _ hk => hk.2) (.int .i64 t388)) (fun _ hk => hk.2) (.int .i64 t389)) (fun _ hk => hk.2) (.slice Ao14 t390.length co14)) (fun _ hk => trivial),by (with_reducible repeat (first | apply Kd.R_alloc | apply Kd.R_drewN | apply Kd.R_drew));exact Kd.R_mono (Kd.R_far (p := ⟨gb375,3,none⟩) (Kd.R_far (p := ⟨gb375,2,none⟩) (Kd.R_far (p := ⟨gb375,1,none⟩) (Kd.R_far (p := ⟨gb375,0,none⟩) (Kd.R_types HO378.out BK375.out (by decide)) (fun _ hk => hk.2) (.int .i64 t387)) (fun _ hk => hk.2) (.int .i64 t388)) (fun _ hk => hk.2) (.int .i64 t389)) (fun _ hk => hk.2) (.slice Ao14 t390.length co14)) (fun _ hk => trivial),by repeat (first | (with_reducible first | exact HI0.out | apply IsS100.alloc | apply IsS100.drewN | apply IsS100.drew | apply IsS100.set_1 | apply IsS100.set_2 | refine IsS100.far ?_ NB0_375.out _) | exact HI0.out),by repeat (first | (with_reducible first | exact HB.out | apply below_alloc | apply pw_below_drewN | apply below_drew1 | refine below_set ?_ (IsS100.ge HI0.out) | refine below_set ?_ GE375.out) | exact HB.out),by repeat (first | (with_reducible first | exact HK.out | apply KeepBut.set_ | apply keep_drewN | apply keep_drew | apply keep_alloc | refine keep_far ?_ GW375.out _) | exact HK.out)⟩

end Go.Proofs.Ytdkgcloempbgpaa.PFnMans
