-- by a program of this session (a turned copy of the print: make with a capacity)
import Derived.Test.YtdodnhjglpidlaaVMade2
import Derived.Test.YtdodnhjglpidlaaPFnMansBentx0
import Derived.Test.YtdodnhjglpidlaaPFnMansBentx6
import Derived.Test.YtdodnhjglpidlaaPFnMansBentx7
import Derived.Test.YtdodnhjglpidlaaPFnMansBentx8
namespace Go.Proofs.Ytdodnhjglpidlaa.PFnMansBent
open Go.RowKit Go.Proofs.YtdodnhjglpidlaaW.PrintWords Go.Proofs.YtdodnhjglpidlaaW.PrintLast Go.Proofs.YtdodnhjglpidlaaW.PrintMore
attribute [local go_sem] max2_int min2_int max_two min_two max_three min_three max_four min_four   -- for this text's walks alone
set_option linter.unusedVariables false
set_option linter.unusedSimpArgs false

/-! ### impl_SumOf: function 28 -/
def impl_SumOf.l0 : Nat → List Int → Int → List Int → Int → Int → Option (Int × Int)
 | 0,_,_,_,_,_ => none
 | k + 1,x0,x3,x10,x11,x12 => if x12 < x11 then (if 0 ≤ x12 then (if x12 < (x10.length : Int) then (impl_SumOf.l0 k x0 (Go.bits .or .i64 (wrap64 (x3 * 256)) (wrap64 (rd x10 x12))) x10 x11 (wrap64 (x12 + 1))) else (none)) else (none)) else ((impl_WeakOf.f k x0).bind fun t393 => (some (t393,x3)))
def impl_SumOf.f (k : Nat) (l0 : List Int) : Option (Int × Int) := if (l0.length : Int) > 6 then (some (0,0)) else (impl_SumOf.l0 k l0 1 l0 (l0.length : Int) 0)
theorem impl_SumOf.mono_l : ∀ k,(∀ y0 y1 y2 y3 y4,LeO (impl_SumOf.l0 k y0 y1 y2 y3 y4) (impl_SumOf.l0 (k + 1) y0 y1 y2 y3 y4))
 | 0 => fun _ _ _ _ _ r h => by simp [impl_SumOf.l0] at h
 | k + 1 => by
  have ih0 := impl_SumOf.mono_l k
  ·intro y0 y1 y2 y3 y4
   unfold impl_SumOf.l0
   repeat' first
   | (with_reducible exact ih0 _ _ _ _ _)
   | (with_reducible exact impl_WeakOf.mono _ _)
   | (with_reducible exact LeO.refl _)
   | (with_reducible exact LeO.none _)
   | (with_reducible refine LeO.ite ?_ ?_)
   | (with_reducible refine LeO.bind ?_ (fun _ => ?_))
   | exact ih0 _ _ _ _ _
   | exact impl_WeakOf.mono _ _
   | exact LeO.none _
   | refine LeO.ite ?_ ?_
   | refine LeO.bind ?_ (fun _ => ?_)
theorem impl_SumOf.mono : ∀ a0 k,LeO (impl_SumOf.f k a0) (impl_SumOf.f (k + 1) a0) := by
 intro a0 k
 have ih0 := impl_SumOf.mono_l k
 unfold impl_SumOf.f
 repeat' first
   | (with_reducible exact ih0 _ _ _ _ _)
   | (with_reducible exact impl_WeakOf.mono _ _)
   | (with_reducible exact LeO.refl _)
   | (with_reducible exact LeO.none _)
   | (with_reducible refine LeO.ite ?_ ?_)
   | (with_reducible refine LeO.bind ?_ (fun _ => ?_))
   | exact ih0 _ _ _ _ _
   | exact impl_WeakOf.mono _ _
   | exact LeO.none _
   | refine LeO.ite ?_ ?_
   | refine LeO.bind ?_ (fun _ => ?_)
set_option maxHeartbeats 8000000 in
set_option maxRecDepth 100000 in
theorem impl_SumOf.calls (k : Nat) (A0 : Option Addr) (c0 : Nat) (l0 : List Int) (r1 : Int) (r2 : Int) (w : World) (hr0 : Kd.C (Kd.int .u8) w A0 l0.length l0) (hc0 : l0.length ≤ c0) (h : impl_SumOf.f k l0 = some (r1,r2)) :
  Calls Try.prog 28 #[.slice A0 l0.length c0] w fun e w' => e = .returned (.agg #[.int .i64 r1,.int .i64 r2]) ∧ Below w.heap.size w w' := by
 have hu56 := Try.underlying56
 have hf56_0 : ∀ (a_ b_ : Int) (W_ : World),(Instr.field 56 (.agg #[.int .i64 a_,.int .i64 b_]) 0).run Try.prog W_ = .ok (.int .i64 a_) W_ := fun _ _ _ => by kernel_rfl
 have hf56_1 : ∀ (a_ b_ : Int) (W_ : World),(Instr.field 56 (.agg #[.int .i64 a_,.int .i64 b_]) 1).run Try.prog W_ = .ok (.int .i64 b_) W_ := fun _ _ _ => by kernel_rfl
 have HR0 := Mk hr0
 have HC0 := Mk hc0
 clear hr0 hc0
 have HB := Mk (Below.refl w.heap.size w)
 have H : (if (l0.length : Int) > 6 then (some (0,0)) else (impl_SumOf.l0 k l0 1 l0 (l0.length : Int) 0)) = some (r1,r2) := h
 clear h
 by_cases c2 : (l0.length : Int) > 6
 ·rw [if_pos c2] at H
  have c2b0 : decide (6 < (l0.length : Int)) = true := decide_eq_true c2
  have c2b1 : decide (6 < l0.length) = true := decide_eq_true (by omega)
  clear c2
  simp only [Option.some.injEq,Prod.mk.injEq] at H
  obtain ⟨rfl,rfl⟩ := H
  go_enter Try.func28,Try.ntmps28
  go_wp2_with (first | ((with_reducible refine gate_dst (N := 2) rfl ?_);refine box_event ?hg (N := 2) ?hd (cs := #[.int .i64 0,.int .i64 0]) (t := 56) ?hr ?_;(case hd => rfl);(case hg => rfl);(case hr => first | (go_simp;done) | (go_simp;rfl));intro gb391 hg w3 hbox hb;have BK391 := Mk (hbox);have GW391 := Mk ((by rw [hg];exact (below_size (B_up HB.out)) : w.heap.size ≤ gb391));have GE391 := Mk ((by rw [hg];exact (below_size (B_up HB.out)) : w.heap.size ≤ gb391));replace HB := Mk (below_step (B_up HB.out) hb);clear hb hbox hg;obtain ⟨hcz4_0,hcz4_1⟩ := cz2 BK391.out;obtain ⟨hfz4_0,hfz4_1⟩ := fz2 BK391.out))
  refine bodyPost_ret (results_cell_row rfl _ _ gb391 56 #[.int .i64 0,.int .i64 0] (0,0) _ rfl (by (with_reducible repeat (first | refine blk_drewN ?_ _ | refine blk_drew ?_ | refine blk_alloc ?_ _));refine blk_put (cs := #[.int .i64 0,.int .i64 0]) ?_ 1 _ rfl;(with_reducible repeat (first | refine blk_drewN ?_ _ | refine blk_drew ?_ | refine blk_alloc ?_ _));refine blk_put (cs := #[.int .i64 0,.int .i64 0]) ?_ 0 _ rfl;(with_reducible repeat (first | refine blk_drewN ?_ _ | refine blk_drew ?_ | refine blk_alloc ?_ _));exact BK391.out) Try.underlying56 rfl (by kernel_rfl)) rfl ?_
  exact ⟨err_,B_set HB.out⟩
 ·rw [if_neg c2] at H
  have c2b0 : decide (6 < (l0.length : Int)) = false := decide_eq_false c2
  have c2b1 : decide (6 < l0.length) = false := decide_eq_false (by omega)
  clear c2
  have H' := Mk H
  clear H
  go_enter Try.func28,Try.ntmps28
  go_wp2_with (first | ((with_reducible refine gate_dst (N := 2) rfl ?_);refine box_event ?hg (N := 2) ?hd (cs := #[.int .i64 0,.int .i64 0]) (t := 56) ?hr ?_;(case hd => rfl);(case hg => rfl);(case hr => first | (go_simp;done) | (go_simp;rfl));intro gb391 hg w5 hbox hb;have BK391 := Mk (hbox);have GW391 := Mk ((by rw [hg];exact (below_size (B_up HB.out)) : w.heap.size ≤ gb391));have GE391 := Mk ((by rw [hg];exact (below_size (B_up HB.out)) : w.heap.size ≤ gb391));replace HB := Mk (below_step (B_up HB.out) hb);clear hb hbox hg))
  go_loopg [3,12] k (fun kq v3 v12 w' => ∃ (x3_1 : Int) (x12_1 : Int),v3 = .int .i64 x3_1 ∧ v12 = .int .i64 x12_1 ∧ Aside0 (impl_SumOf.l0 kq l0 x3_1 l0 (l0.length : Int) x12_1 = some (r1,r2)) ∧ Aside0 (kq ≤ k) ∧ Aside0 (w'.heap[gb391]? = some (.cells #[.int .i64 0,.int .i64 0] 56 (0,0))) ∧ Aside0 (Below w.heap.size w w'))
  case atStart => exact ⟨(1),(0),eqs_,eqs_,H',⟨Nat.le_refl _⟩,⟨by (with_reducible repeat (first | refine blk_drewN ?_ _ | refine blk_drew ?_ | refine blk_alloc ?_ _));exact BK391.out⟩,⟨B_set HB.out⟩⟩
  case round =>
   clear H'
   try clear c2
   try clear c2b0
   try clear c2b1
   try clear p2
   try clear hcz4_0
   try clear hcz4_1
   try clear hfz4_0
   try clear hfz4_1
   obtain ⟨x3_1,x12_1,rfl,rfl,HA,HK1,BK391,HB⟩ := hrel
   cases gk with
   | zero => exact absurd HA.out (by simp [impl_SumOf.l0])
   | succ k1 =>
    have H := HA.out
    clear HA
    simp only [impl_SumOf.l0] at H
    by_cases c6 : x12_1 < (l0.length : Int)
    ·rw [if_pos c6] at H
     have c6b0 : decide (x12_1 < (l0.length : Int)) = true := decide_eq_true c6
     clear c6
     by_cases c7 : 0 ≤ x12_1
     ·rw [if_pos c7] at H
      have c7b0 : decide (0 ≤ x12_1) = true := decide_eq_true c7
      clear c7
      by_cases c8 : x12_1 < (l0.length : Int)
      ·rw [if_pos c8] at H
       have c8b0 : decide (x12_1 < (l0.length : Int)) = true := decide_eq_true c8
       clear c8
       have H' := Mk H
       clear H
       have p392 : 0 ≤ (x12_1 : Int) := ofd
       have q392 : x12_1 < (l0.length : Int) := ofd
       obtain ⟨ad392,e392,hx392_0⟩ := Kd.at_int HR0.out x12_1 p392 q392
       cases e392
       replace hx392_0 := (HB.out.cell (World.block_lt_of_cell? w _ hx392_0)).trans hx392_0
       replace p392 := eq_true p392
       replace q392 := eq_true q392
       go_wp2
       go_roundg k1
       case measure => have := HK1.out;omega
       case rel => exact ⟨(Go.bits .or .i64 (wrap64 (x3_1 * 256)) (wrap64 (rd l0 x12_1))),(wrap64 (x12_1 + 1)),eqs_,eqs_,H',⟨by have := HK1.out;omega⟩,⟨by (with_reducible repeat (first | refine blk_drewN ?_ _ | refine blk_drew ?_ | refine blk_alloc ?_ _));exact BK391.out⟩,⟨B_set HB.out⟩⟩
      ·rw [if_neg c8] at H
       exact absurd H (by simp)
     ·rw [if_neg c7] at H
      exact absurd H (by simp)
    ·rw [if_neg c6] at H
     have c6b0 : decide (x12_1 < (l0.length : Int)) = false := decide_eq_false c6
     clear c6
     replace H := Option.bind_eq_some_iff.mp H
     obtain ⟨t393,A90,H⟩ := H
     replace H : (some (t393,x3_1)) = some (r1,r2) := H
     have A9 := Mk A90
     clear A90
     simp only [Option.some.injEq,Prod.mk.injEq] at H
     obtain ⟨rfl,rfl⟩ := H
     go_wp2_with (first | ((with_reducible refine gate_callee (f := 50) rfl ?_);refine goesL_ (some 23) rfl rfl Try.func50 (by kernel_rfl) rfl #[.slice A0 l0.length c0] rfl eq_up ?_;(with_reducible refine (impl_WeakOf.calls k1 _ _ l0 t393 _ ?side1 ?side2 A9.out).mono ?_);(case side1 => repeat (first | exact (Kd.C_below HR0.out HB.out) | (with_reducible refine Kd.C_alloc ?_ _) | (with_reducible refine Kd.C_drewN ?_ _) | (with_reducible refine Kd.C_drew ?_)));(case side2 => exact HC0.out);rintro e w' ⟨rfl,⟨nd,rfl⟩⟩;refine ⟨_,rfl,?_⟩;(try (rw [drewN_self wr];generalize hq_ : World.drewN wr _ = wr;have n0_ : Aside0 (wr.heap[gb391]? = some (.cells #[.int .i64 0,.int .i64 0] 56 (0,0))) := ⟨by rw [← hq_];exact (blk_up BK391.out)⟩;have n1_ : Aside0 (Below w.heap.size w wr) := ⟨by rw [← hq_];exact (B_set HB.out)⟩;clear BK391 HB hq_;have BK391 := n0_;have HB := n1_;clear n0_ n1_));obtain ⟨hcz10_0,hcz10_1⟩ := cz2 BK391.out;obtain ⟨hfz10_0,hfz10_1⟩ := fz2 BK391.out))
     refine bodyPost_ret (results_cell_row rfl _ _ gb391 56 #[.int .i64 t393,.int .i64 x3_1] (0,0) _ rfl (by (with_reducible repeat (first | refine blk_drewN ?_ _ | refine blk_drew ?_ | refine blk_alloc ?_ _));refine blk_put (cs := #[.int .i64 t393,.int .i64 0]) ?_ 1 _ rfl;(with_reducible repeat (first | refine blk_drewN ?_ _ | refine blk_drew ?_ | refine blk_alloc ?_ _));refine blk_put (cs := #[.int .i64 0,.int .i64 0]) ?_ 0 _ rfl;(with_reducible repeat (first | refine blk_drewN ?_ _ | refine blk_drew ?_ | refine blk_alloc ?_ _));exact BK391.out) Try.underlying56 rfl (by kernel_rfl)) rfl ?_
     exact ⟨err_,B_set HB.out⟩

/-! ### impl_GetMan: function 6 -/
def impl_GetMan.l0 : Nat → List Int → Int → Int → Int → Int → Int → Int → List (S56) → Option (Int × Int × Int × (List (S56)) × Int × Bool)
 | 0,_,_,_,_,_,_,_,_ => none
 | k + 1,x0,x1,x39,x40,x404000,x404001,x404002,x404003 => if x40 < x39 then ((impl_readVar.f k x0 x1 8).bind fun bt406 => ((impl_BytesOf.f k bt406.1).bind fun bt409 => (if bt406.2.2 = true then (if bt409.2 = true then ((impl_SumOf.f k bt409.1).bind fun bt413 => (if x404003.length < 8796093022208 then (impl_GetMan.l0 k x0 bt406.2.1 x39 (wrap64 (x40 + 1)) x404000 x404001 x404002 (x404003 ++ [(⟨bt413.1,bt413.2⟩ : S56)])) else (none))) else (some (0,0,0,([] : List (S56)),0,false))) else (some (0,0,0,([] : List (S56)),0,false))))) else ((impl_ManOk.f k x404000 x404001 x404002 x404003).bind fun t405 => (if t405 = true then (some (x404000,x404001,x404002,x404003,x1,true)) else (some (0,0,0,([] : List (S56)),0,false))))
def impl_GetMan.f (k : Nat) (l0 : List Int) (a1 : Int) : Option (Int × Int × Int × (List (S56)) × Int × Bool) := (impl_readVars.f k l0 a1 3).bind fun bt395 => (if bt395.2.2 = true then (if 0 < (bt395.1.length : Int) then (if 1 < (bt395.1.length : Int) then (if 2 < (bt395.1.length : Int) then ((impl_Blocks.f (rd bt395.1 1) (rd bt395.1 2)).bind fun t404 => (impl_GetMan.l0 k l0 bt395.2.1 t404 0 (rd bt395.1 0) (rd bt395.1 1) (rd bt395.1 2) ([] : List (S56)))) else (none)) else (none)) else (none)) else (some (0,0,0,([] : List (S56)),0,false)))
theorem impl_GetMan.mono_l : ∀ k,(∀ y0 y1 y2 y3 y4 y5 y6 y7,LeO (impl_GetMan.l0 k y0 y1 y2 y3 y4 y5 y6 y7) (impl_GetMan.l0 (k + 1) y0 y1 y2 y3 y4 y5 y6 y7))
 | 0 => fun _ _ _ _ _ _ _ _ r h => by simp [impl_GetMan.l0] at h
 | k + 1 => by
  have ih0 := impl_GetMan.mono_l k
  ·intro y0 y1 y2 y3 y4 y5 y6 y7
   unfold impl_GetMan.l0
   repeat' first
   | (with_reducible exact ih0 _ _ _ _ _ _ _ _)
   | (with_reducible exact impl_BytesOf.mono _ _)
   | (with_reducible exact impl_ManOk.mono _ _ _ _ _)
   | (with_reducible exact impl_SumOf.mono _ _)
   | (with_reducible exact impl_readVar.mono _ _ _ _)
   | (with_reducible exact impl_readVars.mono _ _ _ _)
   | (with_reducible exact LeO.refl _)
   | (with_reducible exact LeO.none _)
   | (with_reducible refine LeO.ite ?_ ?_)
   | (with_reducible refine LeO.bind ?_ (fun _ => ?_))
   | exact ih0 _ _ _ _ _ _ _ _
   | exact impl_BytesOf.mono _ _
   | exact impl_ManOk.mono _ _ _ _ _
   | exact impl_SumOf.mono _ _
   | exact impl_readVar.mono _ _ _ _
   | exact impl_readVars.mono _ _ _ _
   | exact LeO.none _
   | refine LeO.ite ?_ ?_
   | refine LeO.bind ?_ (fun _ => ?_)
theorem impl_GetMan.mono : ∀ a0 a1 k,LeO (impl_GetMan.f k a0 a1) (impl_GetMan.f (k + 1) a0 a1) := by
 intro a0 a1 k
 have ih0 := impl_GetMan.mono_l k
 unfold impl_GetMan.f
 repeat' first
   | (with_reducible exact ih0 _ _ _ _ _ _ _ _)
   | (with_reducible exact impl_BytesOf.mono _ _)
   | (with_reducible exact impl_ManOk.mono _ _ _ _ _)
   | (with_reducible exact impl_SumOf.mono _ _)
   | (with_reducible exact impl_readVar.mono _ _ _ _)
   | (with_reducible exact impl_readVars.mono _ _ _ _)
   | (with_reducible exact LeO.refl _)
   | (with_reducible exact LeO.none _)
   | (with_reducible refine LeO.ite ?_ ?_)
   | (with_reducible refine LeO.bind ?_ (fun _ => ?_))
   | exact ih0 _ _ _ _ _ _ _ _
   | exact impl_BytesOf.mono _ _
   | exact impl_ManOk.mono _ _ _ _ _
   | exact impl_SumOf.mono _ _
   | exact impl_readVar.mono _ _ _ _
   | exact impl_readVars.mono _ _ _ _
   | exact LeO.none _
   | refine LeO.ite ?_ ?_
   | refine LeO.bind ?_ (fun _ => ?_)
def impl_GetMan.T4 : Bool × List (List Nat × List Nat) := (true,[([],[]),([0],[0]),([1],[1]),([],[]),([3],[3]),([4],[4]),([],[]),([6],[6]),([7],[7]),([2,5,8],[2,5,8]),([],[]),([10,9,0,1,2,3,4,5,6,7,8,9,10],[9,10])])
def impl_GetMan.B4 : List Nat := [0,1,3,0,8,24,0,64,192,511,0,2047]
theorem impl_GetMan.tab4 : rtab .any (opsOf Try.f6 4) = impl_GetMan.T4 := by kernel_rfl
theorem impl_GetMan.bits4 : waitsOk impl_GetMan.T4.2 impl_GetMan.B4 = true := by kernel_rfl
def impl_GetMan.T11 : Bool × List (List Nat × List Nat) := (true,[([],[]),([0],[0]),([],[]),([2],[2]),([3],[3]),([1,4,3],[1,4]),([0,1,2,3,4,5],[]),([6,5,5,0,1,2,3,4,5],[5,6])])
def impl_GetMan.B11 : List Nat := [0,1,0,4,12,31,63,127]
theorem impl_GetMan.tab11 : rtab .any (opsOf Try.f6 11) = impl_GetMan.T11 := by kernel_rfl
theorem impl_GetMan.bits11 : waitsOk impl_GetMan.T11.2 impl_GetMan.B11 = true := by kernel_rfl
set_option maxHeartbeats 8000000 in
set_option maxRecDepth 100000 in
theorem impl_GetMan.calls (k : Nat) (A0 : Option Addr) (c0 : Nat) (l0 : List Int) (a1 : Int) (r1 : Int) (r2 : Int) (r3 : Int) (r4 : List (S56)) (r5 : Int) (r6 : Bool) (w : World) (hr0 : Kd.C (Kd.int .u8) w A0 l0.length l0) (hc0 : l0.length ≤ c0) (h : impl_GetMan.f k l0 a1 = some (r1,r2,r3,r4,r5,r6)) :
  Calls Try.prog 6 #[.slice A0 l0.length c0,.int .i64 a1] w fun e w' => ∃ v3_ : Value,e = .returned (.tuple #[.agg #[.int .i64 r1,.int .i64 r2,.int .i64 r3,v3_],.int .i64 r5,.bool r6]) ∧ Kd.R k56 56 w' w.heap.size (fun _ => True) v3_ r4 ∧ Below w.heap.size w w' := by
 have hu28 := Try.underlying28
 have HR0 := Mk hr0
 have HC0 := Mk hc0
 clear hr0 hc0
 have HB := Mk (Below.refl w.heap.size w)
 have H : ((impl_readVars.f k l0 a1 3).bind fun bt395 => (if bt395.2.2 = true then (if 0 < (bt395.1.length : Int) then (if 1 < (bt395.1.length : Int) then (if 2 < (bt395.1.length : Int) then ((impl_Blocks.f (rd bt395.1 1) (rd bt395.1 2)).bind fun t404 => (impl_GetMan.l0 k l0 bt395.2.1 t404 0 (rd bt395.1 0) (rd bt395.1 1) (rd bt395.1 2) ([] : List (S56)))) else (none)) else (none)) else (none)) else (some (0,0,0,([] : List (S56)),0,false)))) = some (r1,r2,r3,r4,r5,r6) := h
 clear h
 replace H := bsm H
 obtain ⟨⟨t395,t396,t397⟩,A3,H⟩ := H
 (try dsimp only at H)
 by_cases c4 : t397 = true
 ·subst c4
  rw [if_pos rfl] at H
  by_cases c5 : 0 < (t395.length : Int)
  ·rw [if_pos c5] at H
   have c5b0 : decide (0 < (t395.length : Int)) = true := decide_eq_true c5
   have c5b1 : decide (0 < t395.length) = true := decide_eq_true (by omega)
   clear c5
   by_cases c6 : 1 < (t395.length : Int)
   ·rw [if_pos c6] at H
    have c6b0 : decide (1 < (t395.length : Int)) = true := decide_eq_true c6
    have c6b1 : decide (1 < t395.length) = true := decide_eq_true (by omega)
    clear c6
    by_cases c7 : 2 < (t395.length : Int)
    ·rw [if_pos c7] at H
     have c7b0 : decide (2 < (t395.length : Int)) = true := decide_eq_true c7
     have c7b1 : decide (2 < t395.length) = true := decide_eq_true (by omega)
     clear c7
     replace H := bsm H
     obtain ⟨t404,A8,H⟩ := H
     (try dsimp only at H)
     have H' := Mk H
     clear H
     go_enter Try.func6,Try.ntmps6
     try go_wp2_with (first | ((with_reducible refine gate_dst (N := 4) rfl ?_);refine box_event ?hg (N := 4) ?hd (cs := #[.int .i64 0,.int .i64 0,.int .i64 0,.slice none 0 0]) (t := 28) ?hr ?_;(case hd => rfl);(case hg => rfl);(case hr => first | (go_simp;done) | (go_simp;rfl));intro gb394 hg w9 hbox hb;have BK394 := Mk (hbox);have GW394 := Mk ((by rw [hg];exact (below_size (B_up HB.out)) : w.heap.size ≤ gb394));have GE394 := Mk ((by rw [hg];exact (below_size (B_up HB.out)) : w.heap.size ≤ gb394));replace HB := Mk (below_step (B_up HB.out) hb);clear hb hbox hg) | ((with_reducible refine gate_callee (f := 24) rfl ?_);refine goesL_ (some 18) rfl rfl Try.func24 (by kernel_rfl) rfl #[.slice A0 l0.length c0,.int .i64 a1,.int .i64 3] rfl eq_up ?_;(with_reducible refine (impl_readVars.calls k _ _ l0 a1 3 t395 t396 true _ ?side1 ?side2 A3.out).mono ?_);(case side1 => repeat (first | exact (Kd.C_below HR0.out HB.out) | (with_reducible refine Kd.C_alloc ?_ _) | (with_reducible refine Kd.C_drewN ?_ _) | (with_reducible refine Kd.C_drew ?_)));(case side2 => exact HC0.out);rintro e w10 ⟨v398,rfl,ho0,hb⟩;refine ⟨_,rfl,?_⟩;have HO399 := Mk (Kd.R_lower ho0 (below_size (B_set HB.out)));replace BK394 := Mk (blk_below (blk_up BK394.out) hb);replace HB := Mk (below_step (B_set HB.out) hb);(try clear hb);(try clear hb2);(try clear hk);(try clear hi);(try clear ho0)))
     replace HO399 := Mk (Kd.R_drew HO399.out)
     replace BK394 := Mk (blk_drew BK394.out)
     replace HB := Mk (below_drew1 HB.out)
     obtain ⟨Ao12,co12,eo12⟩ := Kd.R_slice HO399.out
     (first | subst eo12 | (injection eo12 with f1_ f2_ f3_;have f4_ := f1_.symm;have f5_ := f3_.symm;clear f1_ f2_ f3_;subst f4_;subst f5_))
     have p400 : 0 ≤ (0 : Int) := (by omega)
     have q400 : 0 < (t395.length : Int) := ofd
     obtain ⟨ad400,e400,hx400_0⟩ := Kd.at_int (Kd.R_reads' HO399.out).2.2 0 p400 q400
     cases e400
     have qi400 : (0 < t395.length) = True := eq_true (by omega)
     (try rw [show ((0 : Int)).toNat = 0 from rfl] at hx400_0)
     (try rw [Addr.add_zero'] at hx400_0)
     replace p400 := eq_true p400
     replace q400 := eq_true q400
     have p401 : 0 ≤ (1 : Int) := (by omega)
     have q401 : 1 < (t395.length : Int) := ofd
     obtain ⟨ad401,e401,hx401_0⟩ := Kd.at_int (Kd.R_reads' HO399.out).2.2 1 p401 q401
     obtain rfl : ad400 = ad401 := (by injection e401)
     (try simp only [show (1 : Int).toNat = 1 from rfl,Nat.reduceMul,Nat.reduceEqDiff,Go.Addr.add,↓reduceIte] at hx401_0)
     have qi401 : (1 < t395.length) = True := eq_true (by omega)
     (try rw [show ((1 : Int)).toNat = 1 from rfl] at hx401_0)
     replace p401 := eq_true p401
     replace q401 := eq_true q401
     have p402 : 0 ≤ (2 : Int) := (by omega)
     have q402 : 2 < (t395.length : Int) := ofd
     obtain ⟨ad402,e402,hx402_0⟩ := Kd.at_int (Kd.R_reads' HO399.out).2.2 2 p402 q402
     obtain rfl : ad400 = ad402 := (by injection e402)
     (try simp only [show (2 : Int).toNat = 2 from rfl,Nat.reduceMul,Nat.reduceEqDiff,Go.Addr.add,↓reduceIte] at hx402_0)
     have qi402 : (2 < t395.length) = True := eq_true (by omega)
     (try rw [show ((2 : Int)).toNat = 2 from rfl] at hx402_0)
     replace p402 := eq_true p402
     replace q402 := eq_true q402
     refine start_ (n := 12) (S := fun w' => w'.cell? ad400 = some (.int .i64 (rd t395 0)) ∧ w'.cell? ⟨ad400.block,ad400.off + 1,none⟩ = some (.int .i64 (rd t395 1)) ∧ w'.cell? ⟨ad400.block,ad400.off + 2,none⟩ = some (.int .i64 (rd t395 2))) (ds := []) #[false,false,false,false,false,false,false,false,false,false,false,false] (by kernel_rfl) rfl rfl ⟨hx400_0,hx401_0,hx402_0⟩ (fun hHeld => ?_);refine with_tabW impl_GetMan.tab4 impl_GetMan.bits4 (fun HT_ HW_ => ?_)
     generalize w10.drew = w11 at HO399 BK394 HB hx400_0 hx401_0 hx402_0 hHeld ⊢
     refine pure_ (i := 0) (N := some 25) (v := ?_) (a' := ?_) #[true,false,false,false,false,false,false,false,false,false,false,false] rfl rfl (any_of HT_.out (by kernel_rfl)) (fun _ _ _ h => h) (Or.inl ⟨by rfl,?_⟩) ?_ ?_
     rotate_left
     ·intro w'
      go_simp
      with_reducible rfl
     rotate_left
     ·simp only [Act.put,List.setIfInBounds_toArray,List.set_cons_zero,List.set_cons_succ,i64_w,i32_w]
      rfl
     refine pure_ (i := 1) (N := some 26) (v := ?_) (a' := ?_) #[true,true,false,false,false,false,false,false,false,false,false,false] rfl rfl (any_of HT_.out (by kernel_rfl)) (fun _ _ _ h => h) (Or.inl ⟨by rfl,?_⟩) ?_ ?_
     rotate_left
     ·intro w'
      go_simp
      with_reducible rfl
     rotate_left
     ·simp only [Act.put,List.setIfInBounds_toArray,List.set_cons_zero,List.set_cons_succ,i64_w,i32_w]
      rfl
     refine pure_ (i := 3) (N := some 28) (v := ?_) (a' := ?_) #[true,true,false,true,false,false,false,false,false,false,false,false] rfl rfl (any_of HT_.out (by kernel_rfl)) (fun _ _ _ h => h) (Or.inl ⟨by rfl,?_⟩) ?_ ?_
     rotate_left
     ·intro w'
      go_simp
      with_reducible rfl
     rotate_left
     ·simp only [Act.put,List.setIfInBounds_toArray,List.set_cons_zero,List.set_cons_succ,i64_w,i32_w]
      rfl
     refine pure_ (i := 4) (N := some 29) (v := ?_) (a' := ?_) #[true,true,false,true,true,false,false,false,false,false,false,false] rfl rfl (any_of HT_.out (by kernel_rfl)) (fun _ _ _ h => h) (Or.inl ⟨by rfl,?_⟩) ?_ ?_
     rotate_left
     ·intro w'
      go_simp
      with_reducible rfl
     rotate_left
     ·simp only [Act.put,List.setIfInBounds_toArray,List.set_cons_zero,List.set_cons_succ,i64_w,i32_w]
      rfl
     refine pure_ (i := 6) (N := some 31) (v := ?_) (a' := ?_) #[true,true,false,true,true,false,true,false,false,false,false,false] rfl rfl (any_of HT_.out (by kernel_rfl)) (fun _ _ _ h => h) (Or.inl ⟨by rfl,?_⟩) ?_ ?_
     rotate_left
     ·intro w'
      go_simp
      with_reducible rfl
     rotate_left
     ·simp only [Act.put,List.setIfInBounds_toArray,List.set_cons_zero,List.set_cons_succ,i64_w,i32_w]
      rfl
     refine pure_ (i := 7) (N := some 32) (v := ?_) (a' := ?_) #[true,true,false,true,true,false,true,true,false,false,false,false] rfl rfl (any_of HT_.out (by kernel_rfl)) (fun _ _ _ h => h) (Or.inl ⟨by rfl,?_⟩) ?_ ?_
     rotate_left
     ·intro w'
      go_simp
      with_reducible rfl
     rotate_left
     ·simp only [Act.put,List.setIfInBounds_toArray,List.set_cons_zero,List.set_cons_succ,i64_w,i32_w]
      rfl
     refine take_ (i := 2) (N := some 27) (v := ?_) (a' := ?_) #[true,true,true,true,true,false,true,true,false,false,false,false] rfl rfl (take_ofW HT_.out HW_.out (by kernel_rfl)) (fun _ _ _ h => h) (Or.inl ⟨by rfl,?_⟩) hHeld ?_ ?_
     rotate_left
     ·rintro w' ⟨s0,s1,s2⟩
      go_simp
      with_reducible rfl
     rotate_left
     ·simp only [Act.put,List.setIfInBounds_toArray,List.set_cons_zero,List.set_cons_succ,i64_w,i32_w]
      rfl
     refine take_ (i := 5) (N := some 30) (v := ?_) (a' := ?_) #[true,true,true,true,true,true,true,true,false,false,false,false] rfl rfl (take_ofW HT_.out HW_.out (by kernel_rfl)) (fun _ _ _ h => h) (Or.inl ⟨by rfl,?_⟩) hHeld ?_ ?_
     rotate_left
     ·rintro w' ⟨s0,s1,s2⟩
      go_simp
      with_reducible rfl
     rotate_left
     ·simp only [Act.put,List.setIfInBounds_toArray,List.set_cons_zero,List.set_cons_succ,i64_w,i32_w]
      rfl
     refine take_ (i := 8) (N := some 33) (v := ?_) (a' := ?_) #[true,true,true,true,true,true,true,true,true,false,false,false] rfl rfl (take_ofW HT_.out HW_.out (by kernel_rfl)) (fun _ _ _ h => h) (Or.inl ⟨by rfl,?_⟩) hHeld ?_ ?_
     rotate_left
     ·rintro w' ⟨s0,s1,s2⟩
      go_simp
      with_reducible rfl
     rotate_left
     ·simp only [Act.put,List.setIfInBounds_toArray,List.set_cons_zero,List.set_cons_succ,i64_w,i32_w]
      rfl
     refine pure_ (i := 9) (N := some 34) (v := ?_) (a' := ?_) #[true,true,true,true,true,true,true,true,true,true,false,false] rfl rfl (any_of HT_.out (by kernel_rfl)) (fun _ _ _ h => h) (Or.inl ⟨by rfl,?_⟩) ?_ ?_
     rotate_left
     ·intro w'
      go_simp
      with_reducible rfl
     rotate_left
     ·simp only [Act.put,List.setIfInBounds_toArray,List.set_cons_zero,List.set_cons_succ,i64_w,i32_w]
      rfl
     refine one_ (i := 10) (N := some 9) #[true,true,true,true,true,true,true,true,true,true,true,false] rfl rfl (one_of HT_.out (by kernel_rfl)) (by decide) (fun K hK => ?_)
     refine box_step ?hg (N := 9) ?hd (cs := #[.int .i64 0,.int .i64 0,.int .i64 0,.slice none 0 0]) (t := 28) ?hr ?_;(case hd => rfl);(case hg => rfl);(case hr => first | (go_simp;done) | (go_simp;rfl))
     intro gb403 hg w13 hbox hb
     have HS0_ := (hb.cell (World.block_lt_of_cell? _ _ (hHeld.1))).trans (hHeld.1)
     have HS1_ := (hb.cell (World.block_lt_of_cell? _ _ (hHeld.2.1))).trans (hHeld.2.1)
     have HS2_ := (hb.cell (World.block_lt_of_cell? _ _ (hHeld.2.2))).trans (hHeld.2.2)
     replace HO399 := Mk (Kd.R_below (Kd.R_up HO399.out) hb)
     have BK403 := Mk (hbox)
     have GW403 := Mk ((by rw [hg];exact (below_size (B_set HB.out)) : w.heap.size ≤ gb403))
     have GE403 := Mk ((by rw [hg];exact (below_size (B_set HB.out)) : w.heap.size ≤ gb403))
     replace HB := Mk (below_step (B_set HB.out) hb)
     have NB394_403 := Mk ((by rw [hg];exact Nat.ne_of_lt (blk_lt (blk_up BK394.out)) : gb394 ≠ gb403))
     have NB403_394 := Mk ((by rw [hg];exact Nat.ne_of_gt (blk_lt (blk_up BK394.out)) : gb403 ≠ gb394))
     replace BK394 := Mk (blk_below (blk_up BK394.out) hb)
     clear hb hbox hg
     refine hK.out _ _ ⟨HS0_,HS1_,HS2_⟩ (fun hHeld => ?_)
     clear hK K
     refine norm_ (a' := ?_) ?_ ?_
     rotate_left
     ·show Act.put _ (some 9) _ = _
      simp only [Act.put,List.setIfInBounds_toArray,List.set_cons_zero,List.set_cons_succ,i64_w,i32_w]
      rfl
     refine one_ (i := 11) (N := none) #[true,true,true,true,true,true,true,true,true,true,true,true] rfl rfl (one_of HT_.out (by kernel_rfl)) (by decide) (fun K hK => ?_)
     have hs14 : w13.cell? ⟨gb403,0,none⟩ = some (.int .i64 0) := (blk_cell BK403.out 0).trans rfl
     have hfs14 := blk_frozen BK403.out 0
     have hns14_0 := NB394_403.out
     have hms14_0 := NB403_394.out
     have hs15 : w13.cell? ⟨gb403,1,none⟩ = some (.int .i64 0) := (blk_cell BK403.out 1).trans rfl
     have hfs15 := blk_frozen BK403.out 1
     have hns15_0 := NB394_403.out
     have hms15_0 := NB403_394.out
     have hs16 : w13.cell? ⟨gb403,2,none⟩ = some (.int .i64 0) := (blk_cell BK403.out 2).trans rfl
     have hfs16 := blk_frozen BK403.out 2
     have hns16_0 := NB394_403.out
     have hms16_0 := NB403_394.out
     have hs17 : w13.cell? ⟨gb403,3,none⟩ = some (.slice none 0 0) := (blk_cell BK403.out 3).trans rfl
     have hfs17 := blk_frozen BK403.out 3
     have hns17_0 := NB394_403.out
     have hms17_0 := NB403_394.out
     refine skip_ (w1 := ?_) (by rfl) rfl ?_ ?_
     rotate_left
     ·go_simp
      rfl
     refine hK.out _ _ ⟨((cell_far (p := ⟨gb403,_,none⟩) (by first | exact Kd.own_blk (Kd.R_ne HO399.out BK403.out (by decide)) | (rw [add_block];exact Kd.own_blk (Kd.R_ne HO399.out BK403.out (by decide))) | (show (Addr.add _ _).block ≠ _;rw [add_block];exact Kd.own_blk (Kd.R_ne HO399.out BK403.out (by decide))) | (dsimp only;exact Kd.own_blk (Kd.R_ne HO399.out BK403.out (by decide)))) _).trans (((cell_far (p := ⟨gb403,_,none⟩) (by first | exact Kd.own_blk (Kd.R_ne HO399.out BK403.out (by decide)) | (rw [add_block];exact Kd.own_blk (Kd.R_ne HO399.out BK403.out (by decide))) | (show (Addr.add _ _).block ≠ _;rw [add_block];exact Kd.own_blk (Kd.R_ne HO399.out BK403.out (by decide))) | (dsimp only;exact Kd.own_blk (Kd.R_ne HO399.out BK403.out (by decide)))) _).trans (((cell_far (p := ⟨gb403,_,none⟩) (by first | exact Kd.own_blk (Kd.R_ne HO399.out BK403.out (by decide)) | (rw [add_block];exact Kd.own_blk (Kd.R_ne HO399.out BK403.out (by decide))) | (show (Addr.add _ _).block ≠ _;rw [add_block];exact Kd.own_blk (Kd.R_ne HO399.out BK403.out (by decide))) | (dsimp only;exact Kd.own_blk (Kd.R_ne HO399.out BK403.out (by decide)))) _).trans (((cell_far (p := ⟨gb403,_,none⟩) (by first | exact Kd.own_blk (Kd.R_ne HO399.out BK403.out (by decide)) | (rw [add_block];exact Kd.own_blk (Kd.R_ne HO399.out BK403.out (by decide))) | (show (Addr.add _ _).block ≠ _;rw [add_block];exact Kd.own_blk (Kd.R_ne HO399.out BK403.out (by decide))) | (dsimp only;exact Kd.own_blk (Kd.R_ne HO399.out BK403.out (by decide)))) _).trans (hHeld.1)))))))),((cell_far (p := ⟨gb403,_,none⟩) (by first | exact Kd.own_blk (Kd.R_ne HO399.out BK403.out (by decide)) | (rw [add_block];exact Kd.own_blk (Kd.R_ne HO399.out BK403.out (by decide))) | (show (Addr.add _ _).block ≠ _;rw [add_block];exact Kd.own_blk (Kd.R_ne HO399.out BK403.out (by decide))) | (dsimp only;exact Kd.own_blk (Kd.R_ne HO399.out BK403.out (by decide)))) _).trans (((cell_far (p := ⟨gb403,_,none⟩) (by first | exact Kd.own_blk (Kd.R_ne HO399.out BK403.out (by decide)) | (rw [add_block];exact Kd.own_blk (Kd.R_ne HO399.out BK403.out (by decide))) | (show (Addr.add _ _).block ≠ _;rw [add_block];exact Kd.own_blk (Kd.R_ne HO399.out BK403.out (by decide))) | (dsimp only;exact Kd.own_blk (Kd.R_ne HO399.out BK403.out (by decide)))) _).trans (((cell_far (p := ⟨gb403,_,none⟩) (by first | exact Kd.own_blk (Kd.R_ne HO399.out BK403.out (by decide)) | (rw [add_block];exact Kd.own_blk (Kd.R_ne HO399.out BK403.out (by decide))) | (show (Addr.add _ _).block ≠ _;rw [add_block];exact Kd.own_blk (Kd.R_ne HO399.out BK403.out (by decide))) | (dsimp only;exact Kd.own_blk (Kd.R_ne HO399.out BK403.out (by decide)))) _).trans (((cell_far (p := ⟨gb403,_,none⟩) (by first | exact Kd.own_blk (Kd.R_ne HO399.out BK403.out (by decide)) | (rw [add_block];exact Kd.own_blk (Kd.R_ne HO399.out BK403.out (by decide))) | (show (Addr.add _ _).block ≠ _;rw [add_block];exact Kd.own_blk (Kd.R_ne HO399.out BK403.out (by decide))) | (dsimp only;exact Kd.own_blk (Kd.R_ne HO399.out BK403.out (by decide)))) _).trans (hHeld.2.1)))))))),((cell_far (p := ⟨gb403,_,none⟩) (by first | exact Kd.own_blk (Kd.R_ne HO399.out BK403.out (by decide)) | (rw [add_block];exact Kd.own_blk (Kd.R_ne HO399.out BK403.out (by decide))) | (show (Addr.add _ _).block ≠ _;rw [add_block];exact Kd.own_blk (Kd.R_ne HO399.out BK403.out (by decide))) | (dsimp only;exact Kd.own_blk (Kd.R_ne HO399.out BK403.out (by decide)))) _).trans (((cell_far (p := ⟨gb403,_,none⟩) (by first | exact Kd.own_blk (Kd.R_ne HO399.out BK403.out (by decide)) | (rw [add_block];exact Kd.own_blk (Kd.R_ne HO399.out BK403.out (by decide))) | (show (Addr.add _ _).block ≠ _;rw [add_block];exact Kd.own_blk (Kd.R_ne HO399.out BK403.out (by decide))) | (dsimp only;exact Kd.own_blk (Kd.R_ne HO399.out BK403.out (by decide)))) _).trans (((cell_far (p := ⟨gb403,_,none⟩) (by first | exact Kd.own_blk (Kd.R_ne HO399.out BK403.out (by decide)) | (rw [add_block];exact Kd.own_blk (Kd.R_ne HO399.out BK403.out (by decide))) | (show (Addr.add _ _).block ≠ _;rw [add_block];exact Kd.own_blk (Kd.R_ne HO399.out BK403.out (by decide))) | (dsimp only;exact Kd.own_blk (Kd.R_ne HO399.out BK403.out (by decide)))) _).trans (((cell_far (p := ⟨gb403,_,none⟩) (by first | exact Kd.own_blk (Kd.R_ne HO399.out BK403.out (by decide)) | (rw [add_block];exact Kd.own_blk (Kd.R_ne HO399.out BK403.out (by decide))) | (show (Addr.add _ _).block ≠ _;rw [add_block];exact Kd.own_blk (Kd.R_ne HO399.out BK403.out (by decide))) | (dsimp only;exact Kd.own_blk (Kd.R_ne HO399.out BK403.out (by decide)))) _).trans (hHeld.2.2))))))))⟩ (fun hHeld => ?_)
     clear hK K
     refine done_ (done_of HT_.out (by kernel_rfl)) ?_
     have hnb18 := NB403_394.out
     have hnc18 := NB394_403.out
     obtain ⟨hcz19_0,hcz19_1,hcz19_2,hcz19_3⟩ := cz4 BK403.out
     obtain ⟨hfz19_0,hfz19_1,hfz19_2,hfz19_3⟩ := fz4 BK403.out
     try go_wp2_with (first | ((with_reducible refine gate_callee (f := 25) rfl ?_);refine goesL_ (some 39) rfl rfl Try.func25 (by kernel_rfl) rfl #[.int .i64 (rd t395 1),.int .i64 (rd t395 2)] rfl eq_up ?_;(with_reducible refine (impl_Blocks.calls (rd t395 1) (rd t395 2) t404 _ A8.out).mono ?_);rintro e w' ⟨rfl,⟨nd,rfl⟩⟩;refine ⟨_,rfl,?_⟩))
     go_loopg [1,40] k (fun kq v1 v40 w' => ∃ (x1_1 : Int) (x40_1 : Int) (x395000_1 : Int) (x395001_1 : Int) (x395002_1 : Int) (x404003_1 : List (S56)) (u404003 : Value),v1 = .int .i64 x1_1 ∧ v40 = .int .i64 x40_1 ∧ Aside0 (impl_GetMan.l0 kq l0 x1_1 t404 x40_1 (rd t395 0) (rd t395 1) (rd t395 2) x404003_1 = some (r1,r2,r3,r4,r5,r6)) ∧ Aside0 (kq ≤ k) ∧ Aside0 (Kd.R k56 56 w' w.heap.size (fun _ => True) u404003 x404003_1) ∧ Aside0 (w'.heap[gb394]? = some (.cells #[.int .i64 x395000_1,.int .i64 x395001_1,.int .i64 x395002_1,(.slice none 0 0)] 28 (0,0))) ∧ Aside0 (w'.heap[gb403]? = some (.cells #[.int .i64 (rd t395 0),.int .i64 (rd t395 1),.int .i64 (rd t395 2),u404003] 28 (0,0))) ∧ Aside0 (Below w.heap.size w w'))
     case atStart => exact ⟨(t396),(0),(0),(0),(0),(([] : List (S56))),(.slice none 0 0),eqs_,eqs_,H',⟨Nat.le_refl _⟩,⟨by first | exact Kd.R_nil _ _ _ _ _ | exact Kd.N_nil _ _ _ _ _ | exact Kd.V_nil _ _ _ _ _ | exact Kd.Q_nil _ _ _ _ _ | exact Kd.S_nil _ _ _ _ _⟩,⟨by (with_reducible repeat (first | refine blk_drewN ?_ _ | refine blk_drew ?_ | refine blk_alloc ?_ _));refine blk_far ?_ NB394_403.out _;(with_reducible repeat (first | refine blk_drewN ?_ _ | refine blk_drew ?_ | refine blk_alloc ?_ _));refine blk_far ?_ NB394_403.out _;(with_reducible repeat (first | refine blk_drewN ?_ _ | refine blk_drew ?_ | refine blk_alloc ?_ _));refine blk_far ?_ NB394_403.out _;(with_reducible repeat (first | refine blk_drewN ?_ _ | refine blk_drew ?_ | refine blk_alloc ?_ _));refine blk_far ?_ NB394_403.out _;(with_reducible repeat (first | refine blk_drewN ?_ _ | refine blk_drew ?_ | refine blk_alloc ?_ _));exact BK394.out⟩,⟨by (with_reducible repeat (first | refine blk_drewN ?_ _ | refine blk_drew ?_ | refine blk_alloc ?_ _));refine blk_put (cs := #[.int .i64 (rd t395 0),.int .i64 (rd t395 1),.int .i64 (rd t395 2),.slice none 0 0]) ?_ 3 _ rfl;(with_reducible repeat (first | refine blk_drewN ?_ _ | refine blk_drew ?_ | refine blk_alloc ?_ _));refine blk_put (cs := #[.int .i64 (rd t395 0),.int .i64 (rd t395 1),.int .i64 0,.slice none 0 0]) ?_ 2 _ rfl;(with_reducible repeat (first | refine blk_drewN ?_ _ | refine blk_drew ?_ | refine blk_alloc ?_ _));refine blk_put (cs := #[.int .i64 (rd t395 0),.int .i64 0,.int .i64 0,.slice none 0 0]) ?_ 1 _ rfl;(with_reducible repeat (first | refine blk_drewN ?_ _ | refine blk_drew ?_ | refine blk_alloc ?_ _));refine blk_put (cs := #[.int .i64 0,.int .i64 0,.int .i64 0,.slice none 0 0]) ?_ 0 _ rfl;(with_reducible repeat (first | refine blk_drewN ?_ _ | refine blk_drew ?_ | refine blk_alloc ?_ _));exact BK403.out⟩,⟨B_set HB.out⟩⟩
     case round =>
      clear H'
      try clear c1
      try clear c2
      try clear p2
      try clear c4
      try clear p4
      try clear q4
      try clear hx4
      try clear qi4
      try clear c5
      try clear c5b0
      try clear c5b1
      try clear c6
      try clear c6b0
      try clear c6b1
      try clear c7
      try clear c7b0
      try clear c7b1
      try clear c18
      try clear hcz19_0
      try clear hcz19_1
      try clear hcz19_2
      try clear hcz19_3
      try clear hfz19_0
      try clear hfz19_1
      try clear hfz19_2
      try clear hfz19_3
      try clear hx400_0
      try clear hx401_0
      try clear hx402_0
      try clear p400
      try clear p401
      try clear p402
      try clear q400
      try clear q401
      try clear q402
      obtain ⟨x1_1,x40_1,x395000_1,x395001_1,x395002_1,x404003_1,u404003,rfl,rfl,HA,HK1,HO_404003,BK394,BK403,HB⟩ := hrel
      cases gk with
      | zero => exact absurd HA.out (by simp [impl_GetMan.l0])
      | succ k1 =>
       have H := HA.out
       clear HA
       simp only [impl_GetMan.l0] at H
       by_cases c20 : x40_1 < t404
       ·rw [if_pos c20] at H
        have c20b0 : decide (x40_1 < t404) = true := decide_eq_true c20
        clear c20
        replace H := bsm H
        obtain ⟨⟨t406,t407,t408⟩,A21,H⟩ := H
        (try dsimp only at H)
        replace H := bsm H
        obtain ⟨⟨t409,t410⟩,A22,H⟩ := H
        (try dsimp only at H)
        by_cases c23 : t408 = true
        ·subst c23
         rw [if_pos rfl] at H
         by_cases c24 : t410 = true
         ·subst c24
          rw [if_pos rfl] at H
          replace H := bsm H
          obtain ⟨⟨t413,t414⟩,A25,H⟩ := H
          (try dsimp only at H)
          by_cases c26 : x404003_1.length < 8796093022208
          ·rw [if_pos c26] at H
           have LMc26 := Mk c26
           clear c26
           obtain ⟨y415,hy415⟩ : ∃ y_ : List (S56),y_ = (x404003_1 ++ [(⟨t413,t414⟩ : S56)]) := ⟨_,rfl⟩
           replace H : (impl_GetMan.l0 k1 l0 t407 t404 (wrap64 (x40_1 + 1)) (rd t395 0) (rd t395 1) (rd t395 2) y415) = some (r1,r2,r3,r4,r5,r6) := by first | (rw [hy415];with_reducible exact H) | (have H2_ := (Option.bind_some _ _).symm.trans H;rw [hy415];with_reducible exact H2_) | (have H2_ := (Option.bind_some _ _).symm.trans H;with_reducible exact H2_) | with_reducible exact H | (rw [hy415];exact H) | exact H
           have Ny415 := Mk hy415
           clear hy415
           have H' := Mk H
           clear H
           try go_wp2_with (first | ((with_reducible refine gate_callee (f := 26) rfl ?_);refine goesL_ (some 45) rfl rfl Try.func26 (by kernel_rfl) rfl #[.slice A0 l0.length c0,.int .i64 x1_1,.int .i64 8] rfl eq_up ?_;(with_reducible refine (impl_readVar.calls k1 _ _ l0 x1_1 8 t406 t407 true _ ?side1 ?side2 A21.out).mono ?_);(case side1 => repeat (first | exact (Kd.C_below HR0.out HB.out) | (with_reducible refine Kd.C_alloc ?_ _) | (with_reducible refine Kd.C_drewN ?_ _) | (with_reducible refine Kd.C_drew ?_)));(case side2 => exact HC0.out);rintro e w' ⟨rfl,⟨nd,rfl⟩⟩;refine ⟨_,rfl,?_⟩;(try (rw [drewN_self wr];generalize hq_ : World.drewN wr _ = wr;have n0_ : Aside0 (Kd.R k56 56 wr w.heap.size (fun _ => True) u404003 x404003_1) := ⟨by rw [← hq_];exact (Kd.R_up HO_404003.out)⟩;have n1_ : Aside0 (wr.heap[gb394]? = some (.cells #[.int .i64 x395000_1,.int .i64 x395001_1,.int .i64 x395002_1,.slice none 0 0] 28 (0,0))) := ⟨by rw [← hq_];exact (blk_up BK394.out)⟩;have n2_ : Aside0 (wr.heap[gb403]? = some (.cells #[.int .i64 (rd t395 0),.int .i64 (rd t395 1),.int .i64 (rd t395 2),u404003] 28 (0,0))) := ⟨by rw [← hq_];exact (blk_up BK403.out)⟩;have n3_ : Aside0 (Below w.heap.size w wr) := ⟨by rw [← hq_];exact (B_set HB.out)⟩;clear HO_404003 BK394 BK403 HB hq_;have HO_404003 := n0_;have BK394 := n1_;have BK403 := n2_;have HB := n3_;clear n0_ n1_ n2_ n3_))) | ((with_reducible refine gate_callee (f := 27) rfl ?_);refine goesL_ (some 51) rfl rfl Try.func27 (by kernel_rfl) rfl #[.int .i64 t406] rfl eq_up ?_;(with_reducible refine (impl_BytesOf.calls k1 t406 t409 true _ A22.out).mono ?_);rintro e w27 ⟨v411,rfl,ho0,hb⟩;refine ⟨_,rfl,?_⟩;replace HO_404003 := Mk (Kd.R_below (Kd.R_up HO_404003.out) hb);have HO412 := Mk (Kd.R_lower ho0 (below_size (B_set HB.out)));replace BK394 := Mk (blk_below (blk_up BK394.out) hb);replace BK403 := Mk (blk_below (blk_up BK403.out) hb);replace HB := Mk (below_step (B_set HB.out) hb);(try clear hb);(try clear hb2);(try clear hk);(try clear hi);(try clear ho0)))
           replace HO_404003 := Mk (Kd.R_drew HO_404003.out)
           replace HO412 := Mk (Kd.R_drew HO412.out)
           replace BK394 := Mk (blk_drew BK394.out)
           replace BK403 := Mk (blk_drew BK403.out)
           replace HB := Mk (below_drew1 HB.out)
           obtain ⟨Ao29,co29,eo29⟩ := Kd.R_slice HO412.out
           (first | subst eo29 | (injection eo29 with f1_ f2_ f3_;have f4_ := f1_.symm;have f5_ := f3_.symm;clear f1_ f2_ f3_;subst f4_;subst f5_))
           refine start_ (n := 8) (S := fun w' => w'.cell? ⟨gb403,0,none⟩ = some (.int .i64 (rd t395 0)) ∧ w'.cell? ⟨gb403,1,none⟩ = some (.int .i64 (rd t395 1)) ∧ w'.cell? ⟨gb403,2,none⟩ = some (.int .i64 (rd t395 2)) ∧ w'.cell? ⟨gb403,3,none⟩ = some (u404003)) (ds := [7]) #[false,false,false,false,false,false,false,false] (by kernel_rfl) rfl rfl ⟨(blk_cell BK403.out 0).trans rfl,(blk_cell BK403.out 1).trans rfl,(blk_cell BK403.out 2).trans rfl,(blk_cell BK403.out 3).trans rfl⟩ (fun hHeld => ?_);refine with_tabW impl_GetMan.tab11 impl_GetMan.bits11 (fun HT_ HW_ => ?_)
           generalize w27.drew = w28 at HO_404003 HO412 BK394 BK403 HB hHeld ⊢
           refine pure_ (i := 0) (N := some 61) (v := ?_) (a' := ?_) #[true,false,false,false,false,false,false,false] rfl rfl (any_of HT_.out (by kernel_rfl)) (fun _ _ _ h => h) (Or.inl ⟨by rfl,?_⟩) ?_ ?_
           rotate_left
           ·intro w'
            go_simp
            with_reducible rfl
           rotate_left
           ·simp only [Act.put,List.setIfInBounds_toArray,List.set_cons_zero,List.set_cons_succ,i64_w,i32_w]
            rfl
           refine pure_ (i := 2) (N := some 63) (v := ?_) (a' := ?_) #[true,false,true,false,false,false,false,false] rfl rfl (any_of HT_.out (by kernel_rfl)) (fun _ _ _ h => h) (Or.inl ⟨by rfl,?_⟩) ?_ ?_
           rotate_left
           ·intro w'
            go_simp
            with_reducible rfl
           rotate_left
           ·simp only [Act.put,List.setIfInBounds_toArray,List.set_cons_zero,List.set_cons_succ,i64_w,i32_w]
            rfl
           refine take_ (i := 1) (N := some 62) (v := ?_) (a' := ?_) #[true,true,true,false,false,false,false,false] rfl rfl (take_ofW HT_.out HW_.out (by kernel_rfl)) (fun _ _ _ h => h) (Or.inl ⟨by rfl,?_⟩) hHeld ?_ ?_
           rotate_left
           ·rintro w' ⟨s0,s1,s2,s3⟩
            go_simp
            with_reducible rfl
           rotate_left
           ·simp only [Act.put,List.setIfInBounds_toArray,List.set_cons_zero,List.set_cons_succ,i64_w,i32_w]
            rfl
           refine one_ (i := 3) (N := some 64) #[true,true,true,true,false,false,false,false] rfl rfl (one_of HT_.out (by kernel_rfl)) (by decide) (fun K hK => ?_)
           refine goes_ Try.func28 (by kernel_rfl) rfl #[.slice Ao29 t409.length co29] (by rfl) rfl rfl eq_up ?_
           with_reducible refine (impl_SumOf.calls k1 _ _ t409 t413 t414 _ ?side1 ?side2 A25.out).mono ?_
           (case side1 => exact Kd.C_up (Kd.R_reads' HO412.out).2.2)
           (case side2 => exact (Kd.R_reads' HO412.out).2.1)
           rintro e w30 ⟨rfl,hb⟩
           refine ⟨_,rfl,?_⟩
           replace HO_404003 := Mk (Kd.R_below (Kd.R_up HO_404003.out) hb)
           replace HO412 := Mk (Kd.R_below (Kd.R_up HO412.out) hb)
           replace BK394 := Mk (blk_below (blk_up BK394.out) hb)
           replace BK403 := Mk (blk_below (blk_up BK403.out) hb)
           replace HB := Mk (below_step (B_set HB.out) hb)
           (try clear hb)
           (try clear hb2)
           (try clear hk)
           (try clear hi)
           refine hK.out _ _ ⟨(blk_cell BK403.out 0).trans rfl,(blk_cell BK403.out 1).trans rfl,(blk_cell BK403.out 2).trans rfl,(blk_cell BK403.out 3).trans rfl⟩ (fun hHeld => ?_)
           clear hK K
           refine norm_ (a' := ?_) ?_ ?_
           rotate_left
           ·show Act.put _ (some 64) _ = _
            simp only [Act.put,List.setIfInBounds_toArray,List.set_cons_zero,List.set_cons_succ,i64_w,i32_w]
            rfl
           refine one_ (i := 4) (N := some 65) #[true,true,true,true,true,false,false,false] rfl rfl (one_of HT_.out (by kernel_rfl)) (by decide) (fun K hK => ?_)
           refine value_ (w1 := ?_) (v := ?_) (by rfl) rfl ?_ ?_
           rotate_left 2
           ·go_simp
            constructor
            ·rfl
            ·rfl
           refine hK.out _ _ ⟨(blk_cell (blk_alloc BK403.out _) 0).trans rfl,(blk_cell (blk_alloc BK403.out _) 1).trans rfl,(blk_cell (blk_alloc BK403.out _) 2).trans rfl,(blk_cell (blk_alloc BK403.out _) 3).trans rfl⟩ (fun hHeld => ?_)
           clear hK K
           refine norm_ (a' := ?_) ?_ ?_
           rotate_left
           ·show Act.put _ (some 65) _ = _
            simp only [Act.put,List.setIfInBounds_toArray,List.set_cons_zero,List.set_cons_succ,i64_w,i32_w]
            rfl
           refine one_ (i := 5) (N := some 66) #[true,true,true,true,true,true,false,false] rfl rfl (one_of HT_.out (by kernel_rfl)) (by decide) (fun K hK => ?_)
           refine Kd.R_append_step k56 (w0 := w) w.heap.size (by rfl) (.tmp 62) (.tmp 65) 26 56 (.agg #[(.int .i64 0),(.int .i64 0)]) 16 rfl Try.underlying26 info56 rfl (by decide) (by omega) u404003 x404003_1 (⟨t413,t414⟩ : S56) [.int .i64 t413,.int .i64 t414] (fun _ => True) (fun _ => False) rfl rfl ?aP (fun _ hk => hk.elim) ?aF ?aO ?aB ?aS ?aL ?_
           (case aP => exact k56_mkM _ _ _ (⟨t413,t414⟩ : S56))
           (case aB => exact (B_set HB.out))
           (case aF => exact (fun _ _ => trivial))
           (case aO => exact (Kd.R_up HO_404003.out))
           (case aS => exact (below_size (B_set HB.out)))
           (case aL => have := LMc26.out;omega)
           intro v416 w31 ho hb hg hat
           rw [← Ny415.out] at ho
           replace BK394 := Mk (blk_grown (blk_up BK394.out) hg (Kd.R_ne HO_404003.out BK394.out (by decide)))
           replace BK403 := Mk (blk_grown (blk_up BK403.out) hg (Kd.R_ne HO_404003.out BK403.out (by decide)))
           replace HO412 := Mk (Kd.R_over' (Kd.R_up HO412.out) (Kd.R_typed (Kd.R_up HO_404003.out)) (by decide) hg)
           replace HB := Mk (hb)
           have HO417 := Mk (ho)
           clear HO_404003
           clear ho hb hg hat
           obtain ⟨Ao32,co32,eo32⟩ := Kd.R_slice HO417.out
           (first | subst eo32 | (injection eo32 with f1_ f2_ f3_;have f4_ := f1_.symm;have f5_ := f3_.symm;clear f1_ f2_ f3_;subst f4_;subst f5_))
           refine hK.out _ _ ⟨(blk_cell BK403.out 0).trans rfl,(blk_cell BK403.out 1).trans rfl,(blk_cell BK403.out 2).trans rfl,(blk_cell BK403.out 3).trans rfl⟩ (fun hHeld => ?_)
           clear hK K
           refine norm_ (a' := ?_) ?_ ?_
           rotate_left
           ·show Act.put _ (some 66) _ = _
            simp only [Act.put,List.setIfInBounds_toArray,List.set_cons_zero,List.set_cons_succ,i64_w,i32_w]
            rfl
           refine pure_ (i := 6) (N := some 67) (v := ?_) (a' := ?_) #[true,true,true,true,true,true,true,false] rfl rfl (any_of HT_.out (by kernel_rfl)) (fun _ _ _ h => h) (Or.inl ⟨by rfl,?_⟩) ?_ ?_
           rotate_left
           ·intro w'
            go_simp
            with_reducible rfl
           rotate_left
           ·simp only [Act.put,List.setIfInBounds_toArray,List.set_cons_zero,List.set_cons_succ,i64_w,i32_w]
            rfl
           refine last_ (i := 7) (N := none) #[true,true,true,true,true,true,true,true] rfl rfl (one_of HT_.out (by kernel_rfl)) (by decide) (fun K hK => ?_)
           have hs33 : w31.cell? ⟨gb403,3,none⟩ = some (u404003) := (blk_cell BK403.out 3).trans rfl
           have hfs33 := blk_frozen BK403.out 3
           have hns33_0 := NB394_403.out
           have hms33_0 := NB403_394.out
           refine skip_ (w1 := ?_) (by rfl) rfl ?_ ?_
           rotate_left
           ·go_simp
            rfl
           refine hK.out _ _ ?_
           clear hK K
           refine done_ (done_of HT_.out (by kernel_rfl)) ?_
           try go_wp2
           go_roundg k1
           case measure => have := HK1.out;omega
           case rel => exact ⟨(t407),(wrap64 (x40_1 + 1)),(x395000_1),(x395001_1),(x395002_1),(y415),(.slice Ao32 y415.length co32),eqs_,eqs_,H',⟨by have := HK1.out;omega⟩,⟨Kd.R_up (Kd.R_mono (Kd.R_far (p := ⟨gb403,3,none⟩) (Kd.R_types HO417.out BK403.out (by decide)) (fun _ hk => hk.2) (.slice Ao32 y415.length co32)) (fun _ hk => trivial))⟩,⟨by (with_reducible repeat (first | refine blk_drewN ?_ _ | refine blk_drew ?_ | refine blk_alloc ?_ _));refine blk_far ?_ NB394_403.out _;(with_reducible repeat (first | refine blk_drewN ?_ _ | refine blk_drew ?_ | refine blk_alloc ?_ _));exact BK394.out⟩,⟨by (with_reducible repeat (first | refine blk_drewN ?_ _ | refine blk_drew ?_ | refine blk_alloc ?_ _));refine blk_put (cs := #[.int .i64 (rd t395 0),.int .i64 (rd t395 1),.int .i64 (rd t395 2),u404003]) ?_ 3 _ rfl;(with_reducible repeat (first | refine blk_drewN ?_ _ | refine blk_drew ?_ | refine blk_alloc ?_ _));exact BK403.out⟩,⟨B_set HB.out⟩⟩
          ·rw [if_neg c26] at H
           exact absurd H (by simp)
         ·replace c24 := Bool.eq_false_iff.mpr c24
          subst c24
          have H1 : (some (0,0,0,([] : List (S56)),0,false)) = some (r1,r2,r3,r4,r5,r6) := by rw [if_neg (show ¬ (false = true) by decide)] at H;exact H
          clear H
          have H := H1
          clear H1
          simp only [Option.some.injEq,Prod.mk.injEq] at H
          obtain ⟨rfl,rfl,rfl,rfl,rfl,rfl⟩ := H
          go_wp2_with (first | ((with_reducible refine gate_callee (f := 26) rfl ?_);refine goesL_ (some 45) rfl rfl Try.func26 (by kernel_rfl) rfl #[.slice A0 l0.length c0,.int .i64 x1_1,.int .i64 8] rfl eq_up ?_;(with_reducible refine (impl_readVar.calls k1 _ _ l0 x1_1 8 t406 t407 true _ ?side1 ?side2 A21.out).mono ?_);(case side1 => repeat (first | exact (Kd.C_below HR0.out HB.out) | (with_reducible refine Kd.C_alloc ?_ _) | (with_reducible refine Kd.C_drewN ?_ _) | (with_reducible refine Kd.C_drew ?_)));(case side2 => exact HC0.out);rintro e w' ⟨rfl,⟨nd,rfl⟩⟩;refine ⟨_,rfl,?_⟩;(try (rw [drewN_self wr];generalize hq_ : World.drewN wr _ = wr;have n0_ : Aside0 (Kd.R k56 56 wr w.heap.size (fun _ => True) u404003 x404003_1) := ⟨by rw [← hq_];exact (Kd.R_up HO_404003.out)⟩;have n1_ : Aside0 (wr.heap[gb394]? = some (.cells #[.int .i64 x395000_1,.int .i64 x395001_1,.int .i64 x395002_1,.slice none 0 0] 28 (0,0))) := ⟨by rw [← hq_];exact (blk_up BK394.out)⟩;have n2_ : Aside0 (wr.heap[gb403]? = some (.cells #[.int .i64 (rd t395 0),.int .i64 (rd t395 1),.int .i64 (rd t395 2),u404003] 28 (0,0))) := ⟨by rw [← hq_];exact (blk_up BK403.out)⟩;have n3_ : Aside0 (Below w.heap.size w wr) := ⟨by rw [← hq_];exact (B_set HB.out)⟩;clear HO_404003 BK394 BK403 HB hq_;have HO_404003 := n0_;have BK394 := n1_;have BK403 := n2_;have HB := n3_;clear n0_ n1_ n2_ n3_))) | ((with_reducible refine gate_callee (f := 27) rfl ?_);refine goesL_ (some 51) rfl rfl Try.func27 (by kernel_rfl) rfl #[.int .i64 t406] rfl eq_up ?_;(with_reducible refine (impl_BytesOf.calls k1 t406 t409 false _ A22.out).mono ?_);rintro e w34 ⟨v411,rfl,ho0,hb⟩;refine ⟨_,rfl,?_⟩;replace HO_404003 := Mk (Kd.R_below (Kd.R_up HO_404003.out) hb);have HO412 := Mk (Kd.R_lower ho0 (below_size (B_set HB.out)));replace BK394 := Mk (blk_below (blk_up BK394.out) hb);replace BK403 := Mk (blk_below (blk_up BK403.out) hb);replace HB := Mk (below_step (B_set HB.out) hb);(try clear hb);(try clear hb2);(try clear hk);(try clear hi);(try clear ho0);have hnb35 := NB394_403.out;have hnc35 := NB403_394.out;obtain ⟨hcz36_0,hcz36_1,hcz36_2,hcz36_3⟩ := cz4 BK394.out;obtain ⟨hfz36_0,hfz36_1,hfz36_2,hfz36_3⟩ := fz4 BK394.out))
          refine bodyPost_ret (results_ctt rfl _ _ gb394 28 #[.int .i64 0,.int .i64 0,.int .i64 0,.slice none 0 0] (0,0) _ rfl (by (with_reducible repeat (first | refine blk_drewN ?_ _ | refine blk_drew ?_ | refine blk_alloc ?_ _));refine blk_put (cs := #[.int .i64 0,.int .i64 0,.int .i64 0,.slice none 0 0]) ?_ 3 _ rfl;(with_reducible repeat (first | refine blk_drewN ?_ _ | refine blk_drew ?_ | refine blk_alloc ?_ _));refine blk_put (cs := #[.int .i64 0,.int .i64 0,.int .i64 x395002_1,.slice none 0 0]) ?_ 2 _ rfl;(with_reducible repeat (first | refine blk_drewN ?_ _ | refine blk_drew ?_ | refine blk_alloc ?_ _));refine blk_put (cs := #[.int .i64 0,.int .i64 x395001_1,.int .i64 x395002_1,.slice none 0 0]) ?_ 1 _ rfl;(with_reducible repeat (first | refine blk_drewN ?_ _ | refine blk_drew ?_ | refine blk_alloc ?_ _));refine blk_put (cs := #[.int .i64 x395000_1,.int .i64 x395001_1,.int .i64 x395002_1,.slice none 0 0]) ?_ 0 _ rfl;(with_reducible repeat (first | refine blk_drewN ?_ _ | refine blk_drew ?_ | refine blk_alloc ?_ _));exact BK394.out) Try.underlying28 rfl (by kernel_rfl)) rfl ?_
          exact ⟨_,err_,by first | exact Kd.R_nil _ _ _ _ _ | exact Kd.N_nil _ _ _ _ _ | exact Kd.V_nil _ _ _ _ _ | exact Kd.Q_nil _ _ _ _ _ | exact Kd.S_nil _ _ _ _ _,B_set HB.out⟩
        ·replace c23 := Bool.eq_false_iff.mpr c23
         subst c23
         have H1 : (some (0,0,0,([] : List (S56)),0,false)) = some (r1,r2,r3,r4,r5,r6) := by rw [if_neg (show ¬ (false = true) by decide)] at H;exact H
         clear H
         have H := H1
         clear H1
         simp only [Option.some.injEq,Prod.mk.injEq] at H
         obtain ⟨rfl,rfl,rfl,rfl,rfl,rfl⟩ := H
         go_wp2_with (first | ((with_reducible refine gate_callee (f := 26) rfl ?_);refine goesL_ (some 45) rfl rfl Try.func26 (by kernel_rfl) rfl #[.slice A0 l0.length c0,.int .i64 x1_1,.int .i64 8] rfl eq_up ?_;(with_reducible refine (impl_readVar.calls k1 _ _ l0 x1_1 8 t406 t407 false _ ?side1 ?side2 A21.out).mono ?_);(case side1 => repeat (first | exact (Kd.C_below HR0.out HB.out) | (with_reducible refine Kd.C_alloc ?_ _) | (with_reducible refine Kd.C_drewN ?_ _) | (with_reducible refine Kd.C_drew ?_)));(case side2 => exact HC0.out);rintro e w' ⟨rfl,⟨nd,rfl⟩⟩;refine ⟨_,rfl,?_⟩;(try (rw [drewN_self wr];generalize hq_ : World.drewN wr _ = wr;have n0_ : Aside0 (Kd.R k56 56 wr w.heap.size (fun _ => True) u404003 x404003_1) := ⟨by rw [← hq_];exact (Kd.R_up HO_404003.out)⟩;have n1_ : Aside0 (wr.heap[gb394]? = some (.cells #[.int .i64 x395000_1,.int .i64 x395001_1,.int .i64 x395002_1,.slice none 0 0] 28 (0,0))) := ⟨by rw [← hq_];exact (blk_up BK394.out)⟩;have n2_ : Aside0 (wr.heap[gb403]? = some (.cells #[.int .i64 (rd t395 0),.int .i64 (rd t395 1),.int .i64 (rd t395 2),u404003] 28 (0,0))) := ⟨by rw [← hq_];exact (blk_up BK403.out)⟩;have n3_ : Aside0 (Below w.heap.size w wr) := ⟨by rw [← hq_];exact (B_set HB.out)⟩;clear HO_404003 BK394 BK403 HB hq_;have HO_404003 := n0_;have BK394 := n1_;have BK403 := n2_;have HB := n3_;clear n0_ n1_ n2_ n3_))) | ((with_reducible refine gate_callee (f := 27) rfl ?_);refine goesL_ (some 51) rfl rfl Try.func27 (by kernel_rfl) rfl #[.int .i64 t406] rfl eq_up ?_;(with_reducible refine (impl_BytesOf.calls k1 t406 t409 t410 _ A22.out).mono ?_);rintro e w37 ⟨v411,rfl,ho0,hb⟩;refine ⟨_,rfl,?_⟩;replace HO_404003 := Mk (Kd.R_below (Kd.R_up HO_404003.out) hb);have HO412 := Mk (Kd.R_lower ho0 (below_size (B_set HB.out)));replace BK394 := Mk (blk_below (blk_up BK394.out) hb);replace BK403 := Mk (blk_below (blk_up BK403.out) hb);replace HB := Mk (below_step (B_set HB.out) hb);(try clear hb);(try clear hb2);(try clear hk);(try clear hi);(try clear ho0);have hnb38 := NB394_403.out;have hnc38 := NB403_394.out;obtain ⟨hcz39_0,hcz39_1,hcz39_2,hcz39_3⟩ := cz4 BK394.out;obtain ⟨hfz39_0,hfz39_1,hfz39_2,hfz39_3⟩ := fz4 BK394.out))
         refine bodyPost_ret (results_ctt rfl _ _ gb394 28 #[.int .i64 0,.int .i64 0,.int .i64 0,.slice none 0 0] (0,0) _ rfl (by (with_reducible repeat (first | refine blk_drewN ?_ _ | refine blk_drew ?_ | refine blk_alloc ?_ _));refine blk_put (cs := #[.int .i64 0,.int .i64 0,.int .i64 0,.slice none 0 0]) ?_ 3 _ rfl;(with_reducible repeat (first | refine blk_drewN ?_ _ | refine blk_drew ?_ | refine blk_alloc ?_ _));refine blk_put (cs := #[.int .i64 0,.int .i64 0,.int .i64 x395002_1,.slice none 0 0]) ?_ 2 _ rfl;(with_reducible repeat (first | refine blk_drewN ?_ _ | refine blk_drew ?_ | refine blk_alloc ?_ _));refine blk_put (cs := #[.int .i64 0,.int .i64 x395001_1,.int .i64 x395002_1,.slice none 0 0]) ?_ 1 _ rfl;(with_reducible repeat (first | refine blk_drewN ?_ _ | refine blk_drew ?_ | refine blk_alloc ?_ _));refine blk_put (cs := #[.int .i64 x395000_1,.int .i64 x395001_1,.int .i64 x395002_1,.slice none 0 0]) ?_ 0 _ rfl;(with_reducible repeat (first | refine blk_drewN ?_ _ | refine blk_drew ?_ | refine blk_alloc ?_ _));exact BK394.out) Try.underlying28 rfl (by kernel_rfl)) rfl ?_
         exact ⟨_,err_,by first | exact Kd.R_nil _ _ _ _ _ | exact Kd.N_nil _ _ _ _ _ | exact Kd.V_nil _ _ _ _ _ | exact Kd.Q_nil _ _ _ _ _ | exact Kd.S_nil _ _ _ _ _,B_set HB.out⟩
       ·rw [if_neg c20] at H
        have c20b0 : decide (x40_1 < t404) = false := decide_eq_false c20
        clear c20
        replace H := bsm H
        obtain ⟨t405,A40,H⟩ := H
        (try dsimp only at H)
        by_cases c41 : t405 = true
        ·subst c41
         rw [if_pos rfl] at H
         simp only [Option.some.injEq,Prod.mk.injEq] at H
         obtain ⟨rfl,rfl,rfl,rfl,rfl,rfl⟩ := H
         have hnb42 := NB403_394.out
         have hnc42 := NB394_403.out
         obtain ⟨hcz43_0,hcz43_1,hcz43_2,hcz43_3⟩ := cz4 BK403.out
         obtain ⟨hfz43_0,hfz43_1,hfz43_2,hfz43_3⟩ := fz4 BK403.out
         obtain ⟨Ao44,co44,eo44⟩ := Kd.R_slice HO_404003.out
         subst eo44
         go_wp2_with (first | ((with_reducible refine gate_callee (f := 16) rfl ?_);refine goesL_ (some 71) rfl rfl Try.func16 (by kernel_rfl) rfl #[.agg #[.int .i64 (rd t395 0),.int .i64 (rd t395 1),.int .i64 (rd t395 2),.slice Ao44 x404003_1.length co44]] rfl eq_up ?_;(with_reducible refine (impl_ManOk.calls k1 (rd t395 0) (rd t395 1) (rd t395 2) _ _ x404003_1 true _ ?side1 ?side2 A40.out).mono ?_);(case side1 => exact Kd.C_up (Kd.R_reads' HO_404003.out).2.2);(case side2 => exact (Kd.R_reads' HO_404003.out).2.1);rintro e w45 ⟨rfl,hb⟩;refine ⟨_,rfl,?_⟩;replace HO_404003 := Mk (Kd.R_below (Kd.R_up HO_404003.out) hb);replace BK394 := Mk (blk_below (blk_up BK394.out) hb);replace BK403 := Mk (blk_below (blk_up BK403.out) hb);replace HB := Mk (below_step (B_set HB.out) hb);(try clear hb);(try clear hb2);(try clear hk);(try clear hi);obtain ⟨hcz46_0,hcz46_1,hcz46_2,hcz46_3⟩ := cz4 BK403.out;obtain ⟨hfz46_0,hfz46_1,hfz46_2,hfz46_3⟩ := fz4 BK403.out;obtain ⟨hcz47_0,hcz47_1,hcz47_2,hcz47_3⟩ := cz4 BK394.out;obtain ⟨hfz47_0,hfz47_1,hfz47_2,hfz47_3⟩ := fz4 BK394.out))
         refine bodyPost_ret (results_ctt rfl _ _ gb394 28 #[.int .i64 (rd t395 0),.int .i64 (rd t395 1),.int .i64 (rd t395 2),.slice Ao44 x404003_1.length co44] (0,0) _ rfl (by (with_reducible repeat (first | refine blk_drewN ?_ _ | refine blk_drew ?_ | refine blk_alloc ?_ _));refine blk_put (cs := #[.int .i64 (rd t395 0),.int .i64 (rd t395 1),.int .i64 (rd t395 2),.slice none 0 0]) ?_ 3 _ rfl;(with_reducible repeat (first | refine blk_drewN ?_ _ | refine blk_drew ?_ | refine blk_alloc ?_ _));refine blk_put (cs := #[.int .i64 (rd t395 0),.int .i64 (rd t395 1),.int .i64 x395002_1,.slice none 0 0]) ?_ 2 _ rfl;(with_reducible repeat (first | refine blk_drewN ?_ _ | refine blk_drew ?_ | refine blk_alloc ?_ _));refine blk_put (cs := #[.int .i64 (rd t395 0),.int .i64 x395001_1,.int .i64 x395002_1,.slice none 0 0]) ?_ 1 _ rfl;(with_reducible repeat (first | refine blk_drewN ?_ _ | refine blk_drew ?_ | refine blk_alloc ?_ _));refine blk_put (cs := #[.int .i64 x395000_1,.int .i64 x395001_1,.int .i64 x395002_1,.slice none 0 0]) ?_ 0 _ rfl;(with_reducible repeat (first | refine blk_drewN ?_ _ | refine blk_drew ?_ | refine blk_alloc ?_ _));exact BK394.out) Try.underlying28 rfl (by kernel_rfl)) rfl ?_
         exact ⟨_,err_,Kd.R_up (Kd.R_mono (Kd.R_far (p := ⟨gb394,3,none⟩) (Kd.R_far (p := ⟨gb394,2,none⟩) (Kd.R_far (p := ⟨gb394,1,none⟩) (Kd.R_far (p := ⟨gb394,0,none⟩) (Kd.R_types HO_404003.out BK394.out (by decide)) (fun _ hk => hk.2) (.int .i64 (rd t395 0))) (fun _ hk => hk.2) (.int .i64 (rd t395 1))) (fun _ hk => hk.2) (.int .i64 (rd t395 2))) (fun _ hk => hk.2) (.slice Ao44 x404003_1.length co44)) (fun _ hk => trivial)),B_set HB.out⟩
        ·replace c41 := Bool.eq_false_iff.mpr c41
         subst c41
         have H1 : (some (0,0,0,([] : List (S56)),0,false)) = some (r1,r2,r3,r4,r5,r6) := by rw [if_neg (show ¬ (false = true) by decide)] at H;exact H
         clear H
         have H := H1
         clear H1
         simp only [Option.some.injEq,Prod.mk.injEq] at H
         obtain ⟨rfl,rfl,rfl,rfl,rfl,rfl⟩ := H
         have hnb48 := NB403_394.out
         have hnc48 := NB394_403.out
         obtain ⟨hcz49_0,hcz49_1,hcz49_2,hcz49_3⟩ := cz4 BK403.out
         obtain ⟨hfz49_0,hfz49_1,hfz49_2,hfz49_3⟩ := fz4 BK403.out
         obtain ⟨Ao50,co50,eo50⟩ := Kd.R_slice HO_404003.out
         subst eo50
         go_wp2_with (first | ((with_reducible refine gate_callee (f := 16) rfl ?_);refine goesL_ (some 71) rfl rfl Try.func16 (by kernel_rfl) rfl #[.agg #[.int .i64 (rd t395 0),.int .i64 (rd t395 1),.int .i64 (rd t395 2),.slice Ao50 x404003_1.length co50]] rfl eq_up ?_;(with_reducible refine (impl_ManOk.calls k1 (rd t395 0) (rd t395 1) (rd t395 2) _ _ x404003_1 false _ ?side1 ?side2 A40.out).mono ?_);(case side1 => exact Kd.C_up (Kd.R_reads' HO_404003.out).2.2);(case side2 => exact (Kd.R_reads' HO_404003.out).2.1);rintro e w51 ⟨rfl,hb⟩;refine ⟨_,rfl,?_⟩;replace HO_404003 := Mk (Kd.R_below (Kd.R_up HO_404003.out) hb);replace BK394 := Mk (blk_below (blk_up BK394.out) hb);replace BK403 := Mk (blk_below (blk_up BK403.out) hb);replace HB := Mk (below_step (B_set HB.out) hb);(try clear hb);(try clear hb2);(try clear hk);(try clear hi);obtain ⟨hcz52_0,hcz52_1,hcz52_2,hcz52_3⟩ := cz4 BK394.out;obtain ⟨hfz52_0,hfz52_1,hfz52_2,hfz52_3⟩ := fz4 BK394.out))
         refine bodyPost_ret (results_ctt rfl _ _ gb394 28 #[.int .i64 0,.int .i64 0,.int .i64 0,.slice none 0 0] (0,0) _ rfl (by (with_reducible repeat (first | refine blk_drewN ?_ _ | refine blk_drew ?_ | refine blk_alloc ?_ _));refine blk_put (cs := #[.int .i64 0,.int .i64 0,.int .i64 0,.slice none 0 0]) ?_ 3 _ rfl;(with_reducible repeat (first | refine blk_drewN ?_ _ | refine blk_drew ?_ | refine blk_alloc ?_ _));refine blk_put (cs := #[.int .i64 0,.int .i64 0,.int .i64 x395002_1,.slice none 0 0]) ?_ 2 _ rfl;(with_reducible repeat (first | refine blk_drewN ?_ _ | refine blk_drew ?_ | refine blk_alloc ?_ _));refine blk_put (cs := #[.int .i64 0,.int .i64 x395001_1,.int .i64 x395002_1,.slice none 0 0]) ?_ 1 _ rfl;(with_reducible repeat (first | refine blk_drewN ?_ _ | refine blk_drew ?_ | refine blk_alloc ?_ _));refine blk_put (cs := #[.int .i64 x395000_1,.int .i64 x395001_1,.int .i64 x395002_1,.slice none 0 0]) ?_ 0 _ rfl;(with_reducible repeat (first | refine blk_drewN ?_ _ | refine blk_drew ?_ | refine blk_alloc ?_ _));exact BK394.out) Try.underlying28 rfl (by kernel_rfl)) rfl ?_
         exact ⟨_,err_,by first | exact Kd.R_nil _ _ _ _ _ | exact Kd.N_nil _ _ _ _ _ | exact Kd.V_nil _ _ _ _ _ | exact Kd.Q_nil _ _ _ _ _ | exact Kd.S_nil _ _ _ _ _,B_set HB.out⟩
    ·rw [if_neg c7] at H
     exact absurd H (by simp)
   ·rw [if_neg c6] at H
    exact absurd H (by simp)
  ·rw [if_neg c5] at H
   exact absurd H (by simp)
 ·replace c4 := Bool.eq_false_iff.mpr c4
  subst c4
  have H1 : (some (0,0,0,([] : List (S56)),0,false)) = some (r1,r2,r3,r4,r5,r6) := by rw [if_neg (show ¬ (false = true) by decide)] at H;exact H
  clear H
  have H := H1
  clear H1
  simp only [Option.some.injEq,Prod.mk.injEq] at H
  obtain ⟨rfl,rfl,rfl,rfl,rfl,rfl⟩ := H
  go_enter Try.func6,Try.ntmps6
  go_wp2_with (first | ((with_reducible refine gate_dst (N := 4) rfl ?_);refine box_event ?hg (N := 4) ?hd (cs := #[.int .i64 0,.int .i64 0,.int .i64 0,.slice none 0 0]) (t := 28) ?hr ?_;(case hd => rfl);(case hg => rfl);(case hr => first | (go_simp;done) | (go_simp;rfl));intro gb394 hg w53 hbox hb;have BK394 := Mk (hbox);have GW394 := Mk ((by rw [hg];exact (below_size (B_up HB.out)) : w.heap.size ≤ gb394));have GE394 := Mk ((by rw [hg];exact (below_size (B_up HB.out)) : w.heap.size ≤ gb394));replace HB := Mk (below_step (B_up HB.out) hb);clear hb hbox hg) | ((with_reducible refine gate_callee (f := 24) rfl ?_);refine goesL_ (some 18) rfl rfl Try.func24 (by kernel_rfl) rfl #[.slice A0 l0.length c0,.int .i64 a1,.int .i64 3] rfl eq_up ?_;(with_reducible refine (impl_readVars.calls k _ _ l0 a1 3 t395 t396 false _ ?side1 ?side2 A3.out).mono ?_);(case side1 => repeat (first | exact (Kd.C_below HR0.out HB.out) | (with_reducible refine Kd.C_alloc ?_ _) | (with_reducible refine Kd.C_drewN ?_ _) | (with_reducible refine Kd.C_drew ?_)));(case side2 => exact HC0.out);rintro e w54 ⟨v398,rfl,ho0,hb⟩;refine ⟨_,rfl,?_⟩;have HO399 := Mk (Kd.R_lower ho0 (below_size (B_set HB.out)));replace BK394 := Mk (blk_below (blk_up BK394.out) hb);replace HB := Mk (below_step (B_set HB.out) hb);(try clear hb);(try clear hb2);(try clear hk);(try clear hi);(try clear ho0);obtain ⟨hcz55_0,hcz55_1,hcz55_2,hcz55_3⟩ := cz4 BK394.out;obtain ⟨hfz55_0,hfz55_1,hfz55_2,hfz55_3⟩ := fz4 BK394.out))
  refine bodyPost_ret (results_ctt rfl _ _ gb394 28 #[.int .i64 0,.int .i64 0,.int .i64 0,.slice none 0 0] (0,0) _ rfl (by (with_reducible repeat (first | refine blk_drewN ?_ _ | refine blk_drew ?_ | refine blk_alloc ?_ _));refine blk_put (cs := #[.int .i64 0,.int .i64 0,.int .i64 0,.slice none 0 0]) ?_ 3 _ rfl;(with_reducible repeat (first | refine blk_drewN ?_ _ | refine blk_drew ?_ | refine blk_alloc ?_ _));refine blk_put (cs := #[.int .i64 0,.int .i64 0,.int .i64 0,.slice none 0 0]) ?_ 2 _ rfl;(with_reducible repeat (first | refine blk_drewN ?_ _ | refine blk_drew ?_ | refine blk_alloc ?_ _));refine blk_put (cs := #[.int .i64 0,.int .i64 0,.int .i64 0,.slice none 0 0]) ?_ 1 _ rfl;(with_reducible repeat (first | refine blk_drewN ?_ _ | refine blk_drew ?_ | refine blk_alloc ?_ _));refine blk_put (cs := #[.int .i64 0,.int .i64 0,.int .i64 0,.slice none 0 0]) ?_ 0 _ rfl;(with_reducible repeat (first | refine blk_drewN ?_ _ | refine blk_drew ?_ | refine blk_alloc ?_ _));exact BK394.out) Try.underlying28 rfl (by kernel_rfl)) rfl ?_
  exact ⟨_,err_,by first | exact Kd.R_nil _ _ _ _ _ | exact Kd.N_nil _ _ _ _ _ | exact Kd.V_nil _ _ _ _ _ | exact Kd.Q_nil _ _ _ _ _ | exact Kd.S_nil _ _ _ _ _,B_set HB.out⟩

end Go.Proofs.Ytdodnhjglpidlaa.PFnMansBent
