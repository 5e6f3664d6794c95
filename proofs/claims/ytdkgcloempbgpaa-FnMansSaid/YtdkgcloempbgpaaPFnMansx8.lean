-- by a program of this session (a turned copy of the print: make with a capacity)
import Derived.Test.YtdkgcloempbgpaaVMade1
import Derived.Test.YtdkgcloempbgpaaPFnMansx0
import Derived.Test.YtdkgcloempbgpaaPFnMansx1
import Derived.Test.YtdkgcloempbgpaaPFnMansx5
import Derived.Test.YtdkgcloempbgpaaPFnMansx6
import Derived.Test.YtdkgcloempbgpaaPFnMansx7
namespace Go.Proofs.Ytdkgcloempbgpaa.PFnMans
open Go.RowKit Go.Proofs.YtdkgcloempbgpaaW.PrintWords Go.Proofs.YtdkgcloempbgpaaW.PrintLast Go.Proofs.YtdkgcloempbgpaaW.PrintMore
attribute [local go_sem] max2_int min2_int max_two min_two max_three min_three max_four min_four   -- for this text's walks alone
set_option linter.unusedVariables false
set_option linter.unusedSimpArgs false

attribute [local go_sem high] eqA66
/-! ### spec_l1Bent: function 87 -/
def spec_l1Bent.f (s0_0 : List Int) (s0_1 : Int) (s0_2 : Int) (l1 : List Int) : Option (List Int × Int × Int) := (some (([] : List Int) : List Int)).bind fun y393 => (if y393.length + l1.length < 140737488355328 then ((some (y393 ++ l1 : List Int)).bind fun y396 => ((spec_l1Below.f s0_0 s0_1 s0_2 6).bind fun bt399 => (if bt399.1 = 0 then (if (y396.length : Int) > 0 then ((spec_l1Below.f s0_0 bt399.2.1 bt399.2.2 (y396.length : Int)).bind fun bt402 => ((spec_l1Below.f s0_0 bt402.2.1 bt402.2.2 256).bind fun bt405 => (if 0 ≤ bt402.1 then (if bt402.1 < (y396.length : Int) then (some ((y396.set (bt402.1 : Int).toNat ((bt405.1) % 256)),bt405.2.1,bt405.2.2)) else (none)) else (none)))) else (some (y396,bt399.2.1,bt399.2.2))) else (if bt399.1 = 1 then ((spec_l1Below.f s0_0 bt399.2.1 bt399.2.2 (wrap64 ((y396.length : Int) + 1))).bind fun bt409 => (if 0 ≤ bt409.1 then (if bt409.1 ≤ (y396.length : Int) then (some ((y396.take (bt409.1 : Int).toNat),bt409.2.1,bt409.2.2)) else (none)) else (none))) else (if bt399.1 = 2 then ((spec_l1Int.f s0_0 bt399.2.1 bt399.2.2 (([0,1,128,255] : List Int))).bind fun bt418 => (if y396.length < 140737488355328 then (some ((y396 ++ [(bt418.1) % 256]),bt418.2.1,bt418.2.2)) else (none))) else (if bt399.1 = 3 then (if (y396.length : Int) > 0 then ((spec_l1Below.f s0_0 bt399.2.1 bt399.2.2 (y396.length : Int)).bind fun bt424 => (if 0 ≤ bt424.1 then (if bt424.1 < (y396.length : Int) then ((spec_l1Below.f s0_0 bt424.2.1 bt424.2.2 8).bind fun bt428 => (if 0 ≤ bt428.1 then (some ((y396.set (bt424.1 : Int).toNat (Go.bits .xor .u8 (rd y396 bt424.1) (shl .u8 1 bt428.1))),bt428.2.1,bt428.2.2)) else (none))) else (none)) else (none))) else (some (y396,bt399.2.1,bt399.2.2))) else (some (y396,bt399.2.1,bt399.2.2)))))))) else (none))
def spec_l1Bent.T13 : Bool × List (List Nat × List Nat) := (true,[([],[]),([],[]),([],[]),([],[]),([2,3],[2,3]),([4],[4]),([],[]),([6],[6]),([7],[7]),([5,8],[5,8]),([0,1,0,1,2,3,4,5,6,7,8,9],[0,1]),([10,9,7,0,1,2,3,4,5,6,7,8,9],[9,10])])
def spec_l1Bent.B13 : List Nat := [0,0,0,0,12,28,0,64,192,508,1023,2047]
theorem spec_l1Bent.tab13 : rtab .any (opsOf Try.f87 13) = spec_l1Bent.T13 := by kernel_rfl
theorem spec_l1Bent.bits13 : waitsOk spec_l1Bent.T13.2 spec_l1Bent.B13 = true := by kernel_rfl
set_option maxHeartbeats 8000000 in
set_option maxRecDepth 100000 in
theorem spec_l1Bent.calls (g : Nat) (s0_0 : List Int) (s0_1 : Int) (s0_2 : Int) (A1 : Option Addr) (c1 : Nat) (l1 : List Int) (r1 : List Int) (r2 : Int) (r3 : Int) (w0 w : World) (hI : IsS100 w0 w g s0_0 s0_1 s0_2) (hB : Below w0.heap.size w0 w) (hr1 : Kd.C (Kd.int .u8) w A1 l1.length l1) (hc1 : l1.length ≤ c1) (hf1 : ∀ ad,A1 = some ad → 0 < l1.length → ad.block ≠ g) (h : spec_l1Bent.f s0_0 s0_1 s0_2 l1 = some (r1,r2,r3)) :
  Calls Try.prog 87 #[.pointer (some ⟨g,0,none⟩),.slice A1 l1.length c1] w fun e w' => ∃ v0_ : Value,e = .returned (v0_) ∧ Kd.R (Kd.int .u8) 5 w' w.heap.size (fun _ => True) v0_ r1 ∧ IsS100 w0 w' g s0_0 r2 r3 ∧ Below w0.heap.size w0 w' ∧ KeepBut w w' g none := by
 have HR1 := Aside0.mk hr1
 have HC1 := Aside0.mk hc1
 clear hr1 hc1
 have HI0 := Aside0.mk hI
 have HK := Aside0.mk (KeepBut.refl w g none)
 have HL := Aside0.mk hB.size
 clear hI
 have HW0 := Aside0.mk hB.size
 have HB := Aside0.mk hB
 clear hB
 have H : ((some (([] : List Int) : List Int)).bind fun y393 => (if y393.length + l1.length < 140737488355328 then ((some (y393 ++ l1 : List Int)).bind fun y396 => ((spec_l1Below.f s0_0 s0_1 s0_2 6).bind fun bt399 => (if bt399.1 = 0 then (if (y396.length : Int) > 0 then ((spec_l1Below.f s0_0 bt399.2.1 bt399.2.2 (y396.length : Int)).bind fun bt402 => ((spec_l1Below.f s0_0 bt402.2.1 bt402.2.2 256).bind fun bt405 => (if 0 ≤ bt402.1 then (if bt402.1 < (y396.length : Int) then (some ((y396.set (bt402.1 : Int).toNat ((bt405.1) % 256)),bt405.2.1,bt405.2.2)) else (none)) else (none)))) else (some (y396,bt399.2.1,bt399.2.2))) else (if bt399.1 = 1 then ((spec_l1Below.f s0_0 bt399.2.1 bt399.2.2 (wrap64 ((y396.length : Int) + 1))).bind fun bt409 => (if 0 ≤ bt409.1 then (if bt409.1 ≤ (y396.length : Int) then (some ((y396.take (bt409.1 : Int).toNat),bt409.2.1,bt409.2.2)) else (none)) else (none))) else (if bt399.1 = 2 then ((spec_l1Int.f s0_0 bt399.2.1 bt399.2.2 (([0,1,128,255] : List Int))).bind fun bt418 => (if y396.length < 140737488355328 then (some ((y396 ++ [(bt418.1) % 256]),bt418.2.1,bt418.2.2)) else (none))) else (if bt399.1 = 3 then (if (y396.length : Int) > 0 then ((spec_l1Below.f s0_0 bt399.2.1 bt399.2.2 (y396.length : Int)).bind fun bt424 => (if 0 ≤ bt424.1 then (if bt424.1 < (y396.length : Int) then ((spec_l1Below.f s0_0 bt424.2.1 bt424.2.2 8).bind fun bt428 => (if 0 ≤ bt428.1 then (some ((y396.set (bt424.1 : Int).toNat (Go.bits .xor .u8 (rd y396 bt424.1) (shl .u8 1 bt428.1))),bt428.2.1,bt428.2.2)) else (none))) else (none)) else (none))) else (some (y396,bt399.2.1,bt399.2.2))) else (some (y396,bt399.2.1,bt399.2.2)))))))) else (none))) = some (r1,r2,r3) := h
 clear h
 obtain ⟨y393,hy393⟩ : ∃ y_ : List Int,y_ = (([] : List Int)) := ⟨_,rfl⟩
 replace H : (if y393.length + l1.length < 140737488355328 then ((some (y393 ++ l1 : List Int)).bind fun y396 => ((spec_l1Below.f s0_0 s0_1 s0_2 6).bind fun bt399 => (if bt399.1 = 0 then (if (y396.length : Int) > 0 then ((spec_l1Below.f s0_0 bt399.2.1 bt399.2.2 (y396.length : Int)).bind fun bt402 => ((spec_l1Below.f s0_0 bt402.2.1 bt402.2.2 256).bind fun bt405 => (if 0 ≤ bt402.1 then (if bt402.1 < (y396.length : Int) then (some ((y396.set (bt402.1 : Int).toNat ((bt405.1) % 256)),bt405.2.1,bt405.2.2)) else (none)) else (none)))) else (some (y396,bt399.2.1,bt399.2.2))) else (if bt399.1 = 1 then ((spec_l1Below.f s0_0 bt399.2.1 bt399.2.2 (wrap64 ((y396.length : Int) + 1))).bind fun bt409 => (if 0 ≤ bt409.1 then (if bt409.1 ≤ (y396.length : Int) then (some ((y396.take (bt409.1 : Int).toNat),bt409.2.1,bt409.2.2)) else (none)) else (none))) else (if bt399.1 = 2 then ((spec_l1Int.f s0_0 bt399.2.1 bt399.2.2 (([0,1,128,255] : List Int))).bind fun bt418 => (if y396.length < 140737488355328 then (some ((y396 ++ [(bt418.1) % 256]),bt418.2.1,bt418.2.2)) else (none))) else (if bt399.1 = 3 then (if (y396.length : Int) > 0 then ((spec_l1Below.f s0_0 bt399.2.1 bt399.2.2 (y396.length : Int)).bind fun bt424 => (if 0 ≤ bt424.1 then (if bt424.1 < (y396.length : Int) then ((spec_l1Below.f s0_0 bt424.2.1 bt424.2.2 8).bind fun bt428 => (if 0 ≤ bt428.1 then (some ((y396.set (bt424.1 : Int).toNat (Go.bits .xor .u8 (rd y396 bt424.1) (shl .u8 1 bt428.1))),bt428.2.1,bt428.2.2)) else (none))) else (none)) else (none))) else (some (y396,bt399.2.1,bt399.2.2))) else (some (y396,bt399.2.1,bt399.2.2)))))))) else (none)) = some (r1,r2,r3) := by first | (rw [hy393];with_reducible exact H) | (have H2_ := (Option.bind_some _ _).symm.trans H;rw [hy393];with_reducible exact H2_) | (have H2_ := (Option.bind_some _ _).symm.trans H;with_reducible exact H2_) | with_reducible exact H | (rw [hy393];exact H) | exact H
 have Ny393 := Aside0.mk hy393
 clear hy393
 by_cases c3 : y393.length + l1.length < 140737488355328
 ·rw [if_pos c3] at H
  have LMc3 := Aside0.mk c3
  clear c3
  obtain ⟨y396,hy396⟩ : ∃ y_ : List Int,y_ = (y393 ++ l1) := ⟨_,rfl⟩
  replace H : ((spec_l1Below.f s0_0 s0_1 s0_2 6).bind fun bt399 => (if bt399.1 = 0 then (if (y396.length : Int) > 0 then ((spec_l1Below.f s0_0 bt399.2.1 bt399.2.2 (y396.length : Int)).bind fun bt402 => ((spec_l1Below.f s0_0 bt402.2.1 bt402.2.2 256).bind fun bt405 => (if 0 ≤ bt402.1 then (if bt402.1 < (y396.length : Int) then (some ((y396.set (bt402.1 : Int).toNat ((bt405.1) % 256)),bt405.2.1,bt405.2.2)) else (none)) else (none)))) else (some (y396,bt399.2.1,bt399.2.2))) else (if bt399.1 = 1 then ((spec_l1Below.f s0_0 bt399.2.1 bt399.2.2 (wrap64 ((y396.length : Int) + 1))).bind fun bt409 => (if 0 ≤ bt409.1 then (if bt409.1 ≤ (y396.length : Int) then (some ((y396.take (bt409.1 : Int).toNat),bt409.2.1,bt409.2.2)) else (none)) else (none))) else (if bt399.1 = 2 then ((spec_l1Int.f s0_0 bt399.2.1 bt399.2.2 (([0,1,128,255] : List Int))).bind fun bt418 => (if y396.length < 140737488355328 then (some ((y396 ++ [(bt418.1) % 256]),bt418.2.1,bt418.2.2)) else (none))) else (if bt399.1 = 3 then (if (y396.length : Int) > 0 then ((spec_l1Below.f s0_0 bt399.2.1 bt399.2.2 (y396.length : Int)).bind fun bt424 => (if 0 ≤ bt424.1 then (if bt424.1 < (y396.length : Int) then ((spec_l1Below.f s0_0 bt424.2.1 bt424.2.2 8).bind fun bt428 => (if 0 ≤ bt428.1 then (some ((y396.set (bt424.1 : Int).toNat (Go.bits .xor .u8 (rd y396 bt424.1) (shl .u8 1 bt428.1))),bt428.2.1,bt428.2.2)) else (none))) else (none)) else (none))) else (some (y396,bt399.2.1,bt399.2.2))) else (some (y396,bt399.2.1,bt399.2.2))))))) = some (r1,r2,r3) := by first | (rw [hy396];with_reducible exact H) | (have H2_ := (Option.bind_some _ _).symm.trans H;rw [hy396];with_reducible exact H2_) | (have H2_ := (Option.bind_some _ _).symm.trans H;with_reducible exact H2_) | with_reducible exact H | (rw [hy396];exact H) | exact H
  have Ny396 := Aside0.mk hy396
  clear hy396
  replace H := Option.bind_eq_some_iff.mp H
  obtain ⟨⟨t399,t400,t401⟩,A40,H⟩ := H
  (try dsimp only at H)
  have A4 := Aside0.mk A40
  clear A40
  by_cases c5 : t399 = 0
  ·rw [if_pos c5] at H
   have c5b0 : (t399 == 0) = true := beq_iff_eq.mpr c5
   have c5b1 : (t399 != 0) = false := bne_eq_false_iff_eq.mpr c5
   clear c5
   by_cases c6 : (y396.length : Int) > 0
   ·rw [if_pos c6] at H
    have c6b0 : decide (0 < (y396.length : Int)) = true := decide_eq_true c6
    have c6b1 : decide (0 < y396.length) = true := decide_eq_true (by omega)
    clear c6
    replace H := Option.bind_eq_some_iff.mp H
    obtain ⟨⟨t402,t403,t404⟩,A70,H⟩ := H
    (try dsimp only at H)
    have A7 := Aside0.mk A70
    clear A70
    replace H := Option.bind_eq_some_iff.mp H
    obtain ⟨⟨t405,t406,t407⟩,A80,H⟩ := H
    (try dsimp only at H)
    have A8 := Aside0.mk A80
    clear A80
    by_cases c9 : 0 ≤ t402
    ·rw [if_pos c9] at H
     have c9b0 : decide (0 ≤ t402) = true := decide_eq_true c9
     clear c9
     by_cases c10 : t402 < (y396.length : Int)
     ·rw [if_pos c10] at H
      have c10b0 : decide (t402 < (y396.length : Int)) = true := decide_eq_true c10
      clear c10
      obtain ⟨y408,hy408⟩ : ∃ y_ : List Int,y_ = (y396.set (t402 : Int).toNat ((t405) % 256)) := ⟨_,rfl⟩
      replace H : (some (y408,t406,t407)) = some (r1,r2,r3) := by first | (rw [hy408];with_reducible exact H) | (have H2_ := (Option.bind_some _ _).symm.trans H;rw [hy408];with_reducible exact H2_) | (have H2_ := (Option.bind_some _ _).symm.trans H;with_reducible exact H2_) | with_reducible exact H | (rw [hy408];exact H) | exact H
      have Ny408 := Aside0.mk hy408
      clear hy408
      simp only [Option.some.injEq,Prod.mk.injEq] at H
      obtain ⟨rfl,rfl,rfl⟩ := H
      go_enter Try.func87,Try.ntmps87
      go_wp2_with (first | ((with_reducible refine gate_dst (N := 7) rfl ?_);refine Kd.R_lit (Kd.int .u8) _ 5 ?hg (N := 7) ?hd (xs := ([] : List Int)) (inner := []) (ok := fun _ => True) (okp := fun _ => True) ?hr ?hp (fun _ hk => hk) trivial (Below.refl _ _) (Nat.le_refl _) (by simp) ?_;(case hd => rfl);(case hg => rfl);(case hr => first | (go_simp;done) | (go_simp;rfl));(case hp => exact (Reps.none _ _));intro v394 w12 ho13 hb hg_ hnew_;clear hg_ hnew_;(first | rw [← Ny393.out] at ho13 | (simp only [Int.reduceToNat] at ho13;rw [← Ny393.out] at ho13));have n0_ := Aside0.mk (Kd.R_lower ho13 (keep_size (w := w) (g := g) (row := none) (by repeat (first | (with_reducible first | exact HK.out | apply KeepBut.set_ | apply keep_drewN | apply keep_drew | apply keep_alloc) | exact HK.out))));have n1_ := Aside0.mk (IsS100.below (by repeat (first | (with_reducible first | exact HI0.out | apply IsS100.alloc | apply IsS100.drewN | apply IsS100.drew | apply IsS100.set_1 | apply IsS100.set_2) | exact HI0.out)) hb);have n2_ := Aside0.mk (KeepBut.trans (by repeat (first | (with_reducible first | exact HK.out | apply KeepBut.set_ | apply keep_drewN | apply keep_drew | apply keep_alloc) | exact HK.out)) (KeepBut.of_below hb g none) (.inl rfl));have n3_ := Aside0.mk (below_step (by repeat (first | (with_reducible first | exact HB.out | apply below_alloc | apply pw_below_drewN | apply below_drew1 | refine below_set ?_ (IsS100.ge HI0.out)) | exact HB.out)) hb);clear HI0;clear HK;clear HB;have HO395 := n0_;have HI0 := n1_;have HK := n2_;have HB := n3_;clear n0_ n1_ n2_ n3_;clear hb ho13) | ((with_reducible refine gate_builtin (b := .append) (xs := #[.tmp 7,.tmp 8]) rfl ?_);at_builtin;refine Kd.R_append_rows (Kd.int .u8) w.heap.size rfl (.tmp 7) (.tmp 8) 22 5 (.int .u8 0) 1 rfl Try.underlying22 info5 rfl (by decide) (by omega) v394 y393 l1 _ _ _ (fun _ => True) (fun _ => False) rfl rfl ?aO ?aR (fun _ _ h => h) (fun _ h => h.elim) ?aF (Below.refl _ _) ?aS ?aL ?_;(case aR => exact Kd.C_keep 0 HR1.out (by repeat (first | (with_reducible first | exact HK.out | apply KeepBut.set_ | apply keep_drewN | apply keep_drew | apply keep_alloc) | exact HK.out)) hf1);(case aF => exact (fun _ _ => trivial));(case aO => exact (Kd.R_up HO395.out));(case aS => exact (keep_size (w := w) (g := g) (row := none) (by repeat (first | (with_reducible first | exact HK.out | apply KeepBut.set_ | apply keep_drewN | apply keep_drew | apply keep_alloc) | exact HK.out))));(case aL => have := LMc3.out;omega);intro v397 w14 ho hb hg hat;rw [← Ny396.out] at ho;have n0_ := Aside0.mk (IsS100.grown (by repeat (first | (with_reducible first | exact HI0.out | apply IsS100.alloc | apply IsS100.drewN | apply IsS100.drew | apply IsS100.set_1 | apply IsS100.set_2) | exact HI0.out)) hg (IsS100.own_ne HI0.out HO395.out (by decide)));have n1_ := Aside0.mk (below_weaken (by repeat (first | (with_reducible first | exact HB.out | apply below_alloc | apply pw_below_drewN | apply below_drew1 | refine below_set ?_ (IsS100.ge HI0.out)) | exact HB.out)) HL.out hb);have n2_ := Aside0.mk (KeepBut.trans (by repeat (first | (with_reducible first | exact HK.out | apply KeepBut.set_ | apply keep_drewN | apply keep_drew | apply keep_alloc) | exact HK.out)) (KeepBut.of_grown hg g) (Kd.R_base2 HO395.out));have n3_ := Aside0.mk (ho);clear HI0;clear HB;clear HK;clear HO395;have HI0 := n0_;have HB := n1_;have HK := n2_;have HO398 := n3_;clear n0_ n1_ n2_ n3_;clear ho hb hg hat) | ((with_reducible refine gate_callee (f := 80) rfl ?_);refine goesL_ (some 11) rfl rfl Try.func80 (by kernel_rfl) rfl #[.pointer (some ⟨g,0,none⟩),.int .i64 6] rfl eq_up ?_;(with_reducible refine (spec_l1Below.calls g s0_0 s0_1 s0_2 6 t399 t400 t401 w0 _ ?side1 ?side2 A4.out).mono ?_);(case side1 => repeat (first | (with_reducible first | exact HI0.out | apply IsS100.alloc | apply IsS100.drewN | apply IsS100.drew | apply IsS100.set_1 | apply IsS100.set_2) | exact HI0.out));(case side2 => repeat (first | (with_reducible first | exact HB.out | apply below_alloc | apply pw_below_drewN | apply below_drew1 | refine below_set ?_ (IsS100.ge HI0.out)) | exact HB.out));rintro e w15 ⟨rfl,hi,hb,hk⟩;refine ⟨_,rfl,?_⟩;have n0_ := Aside0.mk (Kd.R_mono (Kd.R_keep (IsS100.apart (show IsS100 w0 _ g s0_0 s0_1 s0_2 from by repeat (first | (with_reducible first | exact HI0.out | apply IsS100.alloc | apply IsS100.drewN | apply IsS100.drew | apply IsS100.set_1 | apply IsS100.set_2) | exact HI0.out)) (Kd.R_up HO398.out) (by decide)) hk (fun _ h => h.2)) (fun _ h => h.1));have n1_ := Aside0.mk (KeepBut.trans (by repeat (first | (with_reducible first | exact HK.out | apply KeepBut.set_ | apply keep_drewN | apply keep_drew | apply keep_alloc) | exact HK.out)) hk (.inl rfl));have n2_ := Aside0.mk (hb);have n3_ := Aside0.mk (hi);clear HO398;clear HK;clear HB;clear HI0;have HO398 := n0_;have HK := n1_;have HB := n2_;have HI0 := n3_;clear n0_ n1_ n2_ n3_;(try clear hb);(try clear hb2);(try clear hk);(try clear hi);obtain ⟨Ao16,co16,eo16⟩ := Kd.R_slice HO398.out;subst eo16) | ((with_reducible refine gate_callee (f := 80) rfl ?_);refine goesL_ (some 21) rfl rfl Try.func80 (by kernel_rfl) rfl #[.pointer (some ⟨g,0,none⟩),.int .i64 (y396.length : Int)] rfl eq_up ?_;(with_reducible refine (spec_l1Below.calls g s0_0 t400 t401 (y396.length : Int) t402 t403 t404 w0 _ ?side1 ?side2 A7.out).mono ?_);(case side1 => repeat (first | (with_reducible first | exact HI0.out | apply IsS100.alloc | apply IsS100.drewN | apply IsS100.drew | apply IsS100.set_1 | apply IsS100.set_2) | exact HI0.out));(case side2 => repeat (first | (with_reducible first | exact HB.out | apply below_alloc | apply pw_below_drewN | apply below_drew1 | refine below_set ?_ (IsS100.ge HI0.out)) | exact HB.out));rintro e w17 ⟨rfl,hi,hb,hk⟩;refine ⟨_,rfl,?_⟩;have n0_ := Aside0.mk (Kd.R_mono (Kd.R_keep (IsS100.apart (show IsS100 w0 _ g s0_0 t400 t401 from by repeat (first | (with_reducible first | exact HI0.out | apply IsS100.alloc | apply IsS100.drewN | apply IsS100.drew | apply IsS100.set_1 | apply IsS100.set_2) | exact HI0.out)) (Kd.R_up HO398.out) (by decide)) hk (fun _ h => h.2)) (fun _ h => h.1));have n1_ := Aside0.mk (KeepBut.trans (by repeat (first | (with_reducible first | exact HK.out | apply KeepBut.set_ | apply keep_drewN | apply keep_drew | apply keep_alloc) | exact HK.out)) hk (.inl rfl));have n2_ := Aside0.mk (hb);have n3_ := Aside0.mk (hi);clear HO398;clear HK;clear HB;clear HI0;have HO398 := n0_;have HK := n1_;have HB := n2_;have HI0 := n3_;clear n0_ n1_ n2_ n3_;(try clear hb);(try clear hb2);(try clear hk);(try clear hi)) | ((with_reducible refine gate_callee (f := 80) rfl ?_);refine goesL_ (some 23) rfl rfl Try.func80 (by kernel_rfl) rfl #[.pointer (some ⟨g,0,none⟩),.int .i64 256] rfl eq_up ?_;(with_reducible refine (spec_l1Below.calls g s0_0 t403 t404 256 t405 t406 t407 w0 _ ?side1 ?side2 A8.out).mono ?_);(case side1 => repeat (first | (with_reducible first | exact HI0.out | apply IsS100.alloc | apply IsS100.drewN | apply IsS100.drew | apply IsS100.set_1 | apply IsS100.set_2) | exact HI0.out));(case side2 => repeat (first | (with_reducible first | exact HB.out | apply below_alloc | apply pw_below_drewN | apply below_drew1 | refine below_set ?_ (IsS100.ge HI0.out)) | exact HB.out));rintro e w18 ⟨rfl,hi,hb,hk⟩;refine ⟨_,rfl,?_⟩;have n0_ := Aside0.mk (Kd.R_mono (Kd.R_keep (IsS100.apart (show IsS100 w0 _ g s0_0 t403 t404 from by repeat (first | (with_reducible first | exact HI0.out | apply IsS100.alloc | apply IsS100.drewN | apply IsS100.drew | apply IsS100.set_1 | apply IsS100.set_2) | exact HI0.out)) (Kd.R_up HO398.out) (by decide)) hk (fun _ h => h.2)) (fun _ h => h.1));have n1_ := Aside0.mk (KeepBut.trans (by repeat (first | (with_reducible first | exact HK.out | apply KeepBut.set_ | apply keep_drewN | apply keep_drew | apply keep_alloc) | exact HK.out)) hk (.inl rfl));have n2_ := Aside0.mk (hb);have n3_ := Aside0.mk (hi);clear HO398;clear HK;clear HB;clear HI0;have HO398 := n0_;have HK := n1_;have HB := n2_;have HI0 := n3_;clear n0_ n1_ n2_ n3_;(try clear hb);(try clear hb2);(try clear hk);(try clear hi);have p11 : 0 ≤ (t402 : Int) := of_decide_eq_true (by first | (with_reducible assumption) | assumption);have q11 : (t402 : Int) < ((y396.length : Int) : Int) := of_decide_eq_true (by first | (with_reducible assumption) | assumption);obtain ⟨go11,co11,eo11,gb11,gl11,cl11,HG11⟩ := Kd.R_form HO398.out (by omega);(first | cases eo11 | (injection eo11 with ea_ en_ ec_;(first | subst ea_ | (injection ea_ with ea_;subst ea_));subst ec_;clear en_));have GB11 := Aside0.mk gb11;have GG11 := Aside0.mk HG11;clear gb11 gl11 HG11;obtain ⟨hx11_0,hf11_0⟩ := Kd.R_celln 0 HO398.out (t402 : Int) p11 q11;replace p11 := eq_true p11;replace q11 := eq_true q11;obtain ⟨hy19_,hz19_⟩ := Kd.R_celln 0 HO398.out (t402 : Int) (of_decide_eq_true (by first | (with_reducible assumption) | assumption)) (of_decide_eq_true (by first | (with_reducible assumption) | assumption));have HP19 := Kd.R_putg HO398.out (t402 : Int) ((t405) % 256)) | ((with_reducible refine gate_store (t := 5) (p := 25) rfl ?_);refine store_event (t := 5) (p := 25) (v := ?vo_w20) (w1 := (w18.setCell ⟨go11,(t402 : Int).toNat,none⟩ (.int .u8 ((t405) % 256)))) ?hg ?ho ?hn ?hr ?_;(case ho => rfl);(case hg => rfl);(case hn => rfl);(case hr => first | (go_simp;done) | (go_simp;rfl));intro w20 hw;have hg : w18.grownBy w20 (some go11) := (by rw [hw];exact HP19.2);have hp_ : Kd.R (Kd.int .u8) 5 w20 w.heap.size (fun _ => True) (.slice (some ⟨go11,0,none⟩) y396.length co16) y408 := (by rw [hw,Ny408.out];exact HP19.1);clear HP19;have n0_ := Aside0.mk (IsS100.grown (by repeat (first | (with_reducible first | exact HI0.out | apply IsS100.alloc | apply IsS100.drewN | apply IsS100.drew | apply IsS100.set_1 | apply IsS100.set_2) | exact HI0.out)) hg (IsS100.own_ne HI0.out HO398.out (by decide)));have n1_ := Aside0.mk (hp_);have n2_ := Aside0.mk ((by rw [hw];exact below_set (HB.out) (Nat.le_trans HL.out GB11.out) : Below w0.heap.size w0 w20));have n3_ := Aside0.mk (KeepBut.trans (by repeat (first | (with_reducible first | exact HK.out | apply KeepBut.set_ | apply keep_drewN | apply keep_drew | apply keep_alloc) | exact HK.out)) (KeepBut.of_grown hg g) (Kd.R_base2 HO398.out));clear HI0;clear HO398;clear HB;clear HK;have HI0 := n0_;have HO398 := n1_;have HB := n2_;have HK := n3_;clear n0_ n1_ n2_ n3_;clear hg hw hp_))
      go_ret
      exact ⟨_,by first | rfl | (simp [errW_none,errW_some] <;> rfl) | (simp [*,errW_none,errW_some] <;> rfl),by (with_reducible repeat (first | apply Kd.R_alloc | apply Kd.R_drewN | apply Kd.R_drew));exact HO398.out,by repeat (first | (with_reducible first | exact HI0.out | apply IsS100.alloc | apply IsS100.drewN | apply IsS100.drew | apply IsS100.set_1 | apply IsS100.set_2) | exact HI0.out),by repeat (first | (with_reducible first | exact HB.out | apply below_alloc | apply pw_below_drewN | apply below_drew1 | refine below_set ?_ (IsS100.ge HI0.out)) | exact HB.out),by repeat (first | (with_reducible first | exact HK.out | apply KeepBut.set_ | apply keep_drewN | apply keep_drew | apply keep_alloc) | exact HK.out)⟩
     ·rw [if_neg c10] at H
      exact absurd H (by simp)
    ·rw [if_neg c9] at H
     exact absurd H (by simp)
   ·rw [if_neg c6] at H
    have c6b0 : decide (0 < (y396.length : Int)) = false := decide_eq_false c6
    have c6b1 : decide (0 < y396.length) = false := decide_eq_false (by omega)
    clear c6
    simp only [Option.some.injEq,Prod.mk.injEq] at H
    obtain ⟨rfl,rfl,rfl⟩ := H
    go_enter Try.func87,Try.ntmps87
    go_wp2_with (first | ((with_reducible refine gate_dst (N := 7) rfl ?_);refine Kd.R_lit (Kd.int .u8) _ 5 ?hg (N := 7) ?hd (xs := ([] : List Int)) (inner := []) (ok := fun _ => True) (okp := fun _ => True) ?hr ?hp (fun _ hk => hk) trivial (Below.refl _ _) (Nat.le_refl _) (by simp) ?_;(case hd => rfl);(case hg => rfl);(case hr => first | (go_simp;done) | (go_simp;rfl));(case hp => exact (Reps.none _ _));intro v394 w21 ho22 hb hg_ hnew_;clear hg_ hnew_;(first | rw [← Ny393.out] at ho22 | (simp only [Int.reduceToNat] at ho22;rw [← Ny393.out] at ho22));have n0_ := Aside0.mk (Kd.R_lower ho22 (keep_size (w := w) (g := g) (row := none) (by repeat (first | (with_reducible first | exact HK.out | apply KeepBut.set_ | apply keep_drewN | apply keep_drew | apply keep_alloc) | exact HK.out))));have n1_ := Aside0.mk (IsS100.below (by repeat (first | (with_reducible first | exact HI0.out | apply IsS100.alloc | apply IsS100.drewN | apply IsS100.drew | apply IsS100.set_1 | apply IsS100.set_2) | exact HI0.out)) hb);have n2_ := Aside0.mk (KeepBut.trans (by repeat (first | (with_reducible first | exact HK.out | apply KeepBut.set_ | apply keep_drewN | apply keep_drew | apply keep_alloc) | exact HK.out)) (KeepBut.of_below hb g none) (.inl rfl));have n3_ := Aside0.mk (below_step (by repeat (first | (with_reducible first | exact HB.out | apply below_alloc | apply pw_below_drewN | apply below_drew1 | refine below_set ?_ (IsS100.ge HI0.out)) | exact HB.out)) hb);clear HI0;clear HK;clear HB;have HO395 := n0_;have HI0 := n1_;have HK := n2_;have HB := n3_;clear n0_ n1_ n2_ n3_;clear hb ho22) | ((with_reducible refine gate_builtin (b := .append) (xs := #[.tmp 7,.tmp 8]) rfl ?_);at_builtin;refine Kd.R_append_rows (Kd.int .u8) w.heap.size rfl (.tmp 7) (.tmp 8) 22 5 (.int .u8 0) 1 rfl Try.underlying22 info5 rfl (by decide) (by omega) v394 y393 l1 _ _ _ (fun _ => True) (fun _ => False) rfl rfl ?aO ?aR (fun _ _ h => h) (fun _ h => h.elim) ?aF (Below.refl _ _) ?aS ?aL ?_;(case aR => exact Kd.C_keep 0 HR1.out (by repeat (first | (with_reducible first | exact HK.out | apply KeepBut.set_ | apply keep_drewN | apply keep_drew | apply keep_alloc) | exact HK.out)) hf1);(case aF => exact (fun _ _ => trivial));(case aO => exact (Kd.R_up HO395.out));(case aS => exact (keep_size (w := w) (g := g) (row := none) (by repeat (first | (with_reducible first | exact HK.out | apply KeepBut.set_ | apply keep_drewN | apply keep_drew | apply keep_alloc) | exact HK.out))));(case aL => have := LMc3.out;omega);intro v397 w23 ho hb hg hat;rw [← Ny396.out] at ho;have n0_ := Aside0.mk (IsS100.grown (by repeat (first | (with_reducible first | exact HI0.out | apply IsS100.alloc | apply IsS100.drewN | apply IsS100.drew | apply IsS100.set_1 | apply IsS100.set_2) | exact HI0.out)) hg (IsS100.own_ne HI0.out HO395.out (by decide)));have n1_ := Aside0.mk (below_weaken (by repeat (first | (with_reducible first | exact HB.out | apply below_alloc | apply pw_below_drewN | apply below_drew1 | refine below_set ?_ (IsS100.ge HI0.out)) | exact HB.out)) HL.out hb);have n2_ := Aside0.mk (KeepBut.trans (by repeat (first | (with_reducible first | exact HK.out | apply KeepBut.set_ | apply keep_drewN | apply keep_drew | apply keep_alloc) | exact HK.out)) (KeepBut.of_grown hg g) (Kd.R_base2 HO395.out));have n3_ := Aside0.mk (ho);clear HI0;clear HB;clear HK;clear HO395;have HI0 := n0_;have HB := n1_;have HK := n2_;have HO398 := n3_;clear n0_ n1_ n2_ n3_;clear ho hb hg hat) | ((with_reducible refine gate_callee (f := 80) rfl ?_);refine goesL_ (some 11) rfl rfl Try.func80 (by kernel_rfl) rfl #[.pointer (some ⟨g,0,none⟩),.int .i64 6] rfl eq_up ?_;(with_reducible refine (spec_l1Below.calls g s0_0 s0_1 s0_2 6 t399 t400 t401 w0 _ ?side1 ?side2 A4.out).mono ?_);(case side1 => repeat (first | (with_reducible first | exact HI0.out | apply IsS100.alloc | apply IsS100.drewN | apply IsS100.drew | apply IsS100.set_1 | apply IsS100.set_2) | exact HI0.out));(case side2 => repeat (first | (with_reducible first | exact HB.out | apply below_alloc | apply pw_below_drewN | apply below_drew1 | refine below_set ?_ (IsS100.ge HI0.out)) | exact HB.out));rintro e w24 ⟨rfl,hi,hb,hk⟩;refine ⟨_,rfl,?_⟩;have n0_ := Aside0.mk (Kd.R_mono (Kd.R_keep (IsS100.apart (show IsS100 w0 _ g s0_0 s0_1 s0_2 from by repeat (first | (with_reducible first | exact HI0.out | apply IsS100.alloc | apply IsS100.drewN | apply IsS100.drew | apply IsS100.set_1 | apply IsS100.set_2) | exact HI0.out)) (Kd.R_up HO398.out) (by decide)) hk (fun _ h => h.2)) (fun _ h => h.1));have n1_ := Aside0.mk (KeepBut.trans (by repeat (first | (with_reducible first | exact HK.out | apply KeepBut.set_ | apply keep_drewN | apply keep_drew | apply keep_alloc) | exact HK.out)) hk (.inl rfl));have n2_ := Aside0.mk (hb);have n3_ := Aside0.mk (hi);clear HO398;clear HK;clear HB;clear HI0;have HO398 := n0_;have HK := n1_;have HB := n2_;have HI0 := n3_;clear n0_ n1_ n2_ n3_;(try clear hb);(try clear hb2);(try clear hk);(try clear hi);obtain ⟨Ao25,co25,eo25⟩ := Kd.R_slice HO398.out;subst eo25))
    go_ret
    exact ⟨_,by first | rfl | (simp [errW_none,errW_some] <;> rfl) | (simp [*,errW_none,errW_some] <;> rfl),by (with_reducible repeat (first | apply Kd.R_alloc | apply Kd.R_drewN | apply Kd.R_drew));exact HO398.out,by repeat (first | (with_reducible first | exact HI0.out | apply IsS100.alloc | apply IsS100.drewN | apply IsS100.drew | apply IsS100.set_1 | apply IsS100.set_2) | exact HI0.out),by repeat (first | (with_reducible first | exact HB.out | apply below_alloc | apply pw_below_drewN | apply below_drew1 | refine below_set ?_ (IsS100.ge HI0.out)) | exact HB.out),by repeat (first | (with_reducible first | exact HK.out | apply KeepBut.set_ | apply keep_drewN | apply keep_drew | apply keep_alloc) | exact HK.out)⟩
  ·rw [if_neg c5] at H
   have c5b0 : (t399 == 0) = false := beq_eq_false_iff_ne.mpr c5
   have c5b1 : (t399 != 0) = true := bne_iff_ne.mpr c5
   by_cases c26 : t399 = 1
   ·rw [if_pos c26] at H
    have c26b0 : (t399 == 1) = true := beq_iff_eq.mpr c26
    have c26b1 : (t399 != 1) = false := bne_eq_false_iff_eq.mpr c26
    clear c26
    replace H := Option.bind_eq_some_iff.mp H
    obtain ⟨⟨t409,t410,t411⟩,A270,H⟩ := H
    (try dsimp only at H)
    have A27 := Aside0.mk A270
    clear A270
    by_cases c28 : 0 ≤ t409
    ·rw [if_pos c28] at H
     have c28b0 := eq_true c28
     have c28b1 : decide (0 ≤ t409) = true := decide_eq_true c28
     clear c28
     by_cases c29 : t409 ≤ (y396.length : Int)
     ·rw [if_pos c29] at H
      have c29b0 := eq_true c29
      have c29b1 : decide (t409 ≤ (y396.length : Int)) = true := decide_eq_true c29
      clear c29
      obtain ⟨y412,hy412⟩ : ∃ y_ : List Int,y_ = (y396.take (t409 : Int).toNat) := ⟨_,rfl⟩
      replace H : (some (y412,t410,t411)) = some (r1,r2,r3) := by first | (rw [hy412];with_reducible exact H) | (have H2_ := (Option.bind_some _ _).symm.trans H;rw [hy412];with_reducible exact H2_) | (have H2_ := (Option.bind_some _ _).symm.trans H;with_reducible exact H2_) | with_reducible exact H | (rw [hy412];exact H) | exact H
      have Ny412 := Aside0.mk hy412
      clear hy412
      simp only [Option.some.injEq,Prod.mk.injEq] at H
      obtain ⟨rfl,rfl,rfl⟩ := H
      go_enter Try.func87,Try.ntmps87
      go_wp2_with (first | ((with_reducible refine gate_dst (N := 7) rfl ?_);refine Kd.R_lit (Kd.int .u8) _ 5 ?hg (N := 7) ?hd (xs := ([] : List Int)) (inner := []) (ok := fun _ => True) (okp := fun _ => True) ?hr ?hp (fun _ hk => hk) trivial (Below.refl _ _) (Nat.le_refl _) (by simp) ?_;(case hd => rfl);(case hg => rfl);(case hr => first | (go_simp;done) | (go_simp;rfl));(case hp => exact (Reps.none _ _));intro v394 w30 ho31 hb hg_ hnew_;clear hg_ hnew_;(first | rw [← Ny393.out] at ho31 | (simp only [Int.reduceToNat] at ho31;rw [← Ny393.out] at ho31));have n0_ := Aside0.mk (Kd.R_lower ho31 (keep_size (w := w) (g := g) (row := none) (by repeat (first | (with_reducible first | exact HK.out | apply KeepBut.set_ | apply keep_drewN | apply keep_drew | apply keep_alloc) | exact HK.out))));have n1_ := Aside0.mk (IsS100.below (by repeat (first | (with_reducible first | exact HI0.out | apply IsS100.alloc | apply IsS100.drewN | apply IsS100.drew | apply IsS100.set_1 | apply IsS100.set_2) | exact HI0.out)) hb);have n2_ := Aside0.mk (KeepBut.trans (by repeat (first | (with_reducible first | exact HK.out | apply KeepBut.set_ | apply keep_drewN | apply keep_drew | apply keep_alloc) | exact HK.out)) (KeepBut.of_below hb g none) (.inl rfl));have n3_ := Aside0.mk (below_step (by repeat (first | (with_reducible first | exact HB.out | apply below_alloc | apply pw_below_drewN | apply below_drew1 | refine below_set ?_ (IsS100.ge HI0.out)) | exact HB.out)) hb);clear HI0;clear HK;clear HB;have HO395 := n0_;have HI0 := n1_;have HK := n2_;have HB := n3_;clear n0_ n1_ n2_ n3_;clear hb ho31) | ((with_reducible refine gate_builtin (b := .append) (xs := #[.tmp 7,.tmp 8]) rfl ?_);at_builtin;refine Kd.R_append_rows (Kd.int .u8) w.heap.size rfl (.tmp 7) (.tmp 8) 22 5 (.int .u8 0) 1 rfl Try.underlying22 info5 rfl (by decide) (by omega) v394 y393 l1 _ _ _ (fun _ => True) (fun _ => False) rfl rfl ?aO ?aR (fun _ _ h => h) (fun _ h => h.elim) ?aF (Below.refl _ _) ?aS ?aL ?_;(case aR => exact Kd.C_keep 0 HR1.out (by repeat (first | (with_reducible first | exact HK.out | apply KeepBut.set_ | apply keep_drewN | apply keep_drew | apply keep_alloc) | exact HK.out)) hf1);(case aF => exact (fun _ _ => trivial));(case aO => exact (Kd.R_up HO395.out));(case aS => exact (keep_size (w := w) (g := g) (row := none) (by repeat (first | (with_reducible first | exact HK.out | apply KeepBut.set_ | apply keep_drewN | apply keep_drew | apply keep_alloc) | exact HK.out))));(case aL => have := LMc3.out;omega);intro v397 w32 ho hb hg hat;rw [← Ny396.out] at ho;have n0_ := Aside0.mk (IsS100.grown (by repeat (first | (with_reducible first | exact HI0.out | apply IsS100.alloc | apply IsS100.drewN | apply IsS100.drew | apply IsS100.set_1 | apply IsS100.set_2) | exact HI0.out)) hg (IsS100.own_ne HI0.out HO395.out (by decide)));have n1_ := Aside0.mk (below_weaken (by repeat (first | (with_reducible first | exact HB.out | apply below_alloc | apply pw_below_drewN | apply below_drew1 | refine below_set ?_ (IsS100.ge HI0.out)) | exact HB.out)) HL.out hb);have n2_ := Aside0.mk (KeepBut.trans (by repeat (first | (with_reducible first | exact HK.out | apply KeepBut.set_ | apply keep_drewN | apply keep_drew | apply keep_alloc) | exact HK.out)) (KeepBut.of_grown hg g) (Kd.R_base2 HO395.out));have n3_ := Aside0.mk (ho);clear HI0;clear HB;clear HK;clear HO395;have HI0 := n0_;have HB := n1_;have HK := n2_;have HO398 := n3_;clear n0_ n1_ n2_ n3_;clear ho hb hg hat) | ((with_reducible refine gate_callee (f := 80) rfl ?_);refine goesL_ (some 11) rfl rfl Try.func80 (by kernel_rfl) rfl #[.pointer (some ⟨g,0,none⟩),.int .i64 6] rfl eq_up ?_;(with_reducible refine (spec_l1Below.calls g s0_0 s0_1 s0_2 6 t399 t400 t401 w0 _ ?side1 ?side2 A4.out).mono ?_);(case side1 => repeat (first | (with_reducible first | exact HI0.out | apply IsS100.alloc | apply IsS100.drewN | apply IsS100.drew | apply IsS100.set_1 | apply IsS100.set_2) | exact HI0.out));(case side2 => repeat (first | (with_reducible first | exact HB.out | apply below_alloc | apply pw_below_drewN | apply below_drew1 | refine below_set ?_ (IsS100.ge HI0.out)) | exact HB.out));rintro e w33 ⟨rfl,hi,hb,hk⟩;refine ⟨_,rfl,?_⟩;have n0_ := Aside0.mk (Kd.R_mono (Kd.R_keep (IsS100.apart (show IsS100 w0 _ g s0_0 s0_1 s0_2 from by repeat (first | (with_reducible first | exact HI0.out | apply IsS100.alloc | apply IsS100.drewN | apply IsS100.drew | apply IsS100.set_1 | apply IsS100.set_2) | exact HI0.out)) (Kd.R_up HO398.out) (by decide)) hk (fun _ h => h.2)) (fun _ h => h.1));have n1_ := Aside0.mk (KeepBut.trans (by repeat (first | (with_reducible first | exact HK.out | apply KeepBut.set_ | apply keep_drewN | apply keep_drew | apply keep_alloc) | exact HK.out)) hk (.inl rfl));have n2_ := Aside0.mk (hb);have n3_ := Aside0.mk (hi);clear HO398;clear HK;clear HB;clear HI0;have HO398 := n0_;have HK := n1_;have HB := n2_;have HI0 := n3_;clear n0_ n1_ n2_ n3_;(try clear hb);(try clear hb2);(try clear hk);(try clear hi);obtain ⟨Ao34,co34,eo34⟩ := Kd.R_slice HO398.out;subst eo34) | ((with_reducible refine gate_callee (f := 80) rfl ?_);refine goesL_ (some 33) rfl rfl Try.func80 (by kernel_rfl) rfl #[.pointer (some ⟨g,0,none⟩),.int .i64 (wrap64 ((y396.length : Int) + 1))] rfl eq_up ?_;(with_reducible refine (spec_l1Below.calls g s0_0 t400 t401 (wrap64 ((y396.length : Int) + 1)) t409 t410 t411 w0 _ ?side1 ?side2 A27.out).mono ?_);(case side1 => repeat (first | (with_reducible first | exact HI0.out | apply IsS100.alloc | apply IsS100.drewN | apply IsS100.drew | apply IsS100.set_1 | apply IsS100.set_2) | exact HI0.out));(case side2 => repeat (first | (with_reducible first | exact HB.out | apply below_alloc | apply pw_below_drewN | apply below_drew1 | refine below_set ?_ (IsS100.ge HI0.out)) | exact HB.out));rintro e w35 ⟨rfl,hi,hb,hk⟩;refine ⟨_,rfl,?_⟩;have n0_ := Aside0.mk (Kd.R_mono (Kd.R_keep (IsS100.apart (show IsS100 w0 _ g s0_0 t400 t401 from by repeat (first | (with_reducible first | exact HI0.out | apply IsS100.alloc | apply IsS100.drewN | apply IsS100.drew | apply IsS100.set_1 | apply IsS100.set_2) | exact HI0.out)) (Kd.R_up HO398.out) (by decide)) hk (fun _ h => h.2)) (fun _ h => h.1));have n1_ := Aside0.mk (KeepBut.trans (by repeat (first | (with_reducible first | exact HK.out | apply KeepBut.set_ | apply keep_drewN | apply keep_drew | apply keep_alloc) | exact HK.out)) hk (.inl rfl));have n2_ := Aside0.mk (hb);have n3_ := Aside0.mk (hi);clear HO398;clear HK;clear HB;clear HI0;have HO398 := n0_;have HK := n1_;have HB := n2_;have HI0 := n3_;clear n0_ n1_ n2_ n3_;(try clear hb);(try clear hb2);(try clear hk);(try clear hi);have q36 : (t409 : Int) ≤ ((y396.length : Int) : Int) := of_decide_eq_true (by first | (with_reducible assumption) | assumption);obtain ⟨i036,hi036,_,hsz36,_⟩ := info_parts info5;have hcut36 := cut_to (P := Try.prog) 22 5 .i64 Try.underlying22 hi036 Ao34 y396.length co34 t409 (of_decide_eq_true (by first | (with_reducible assumption) | assumption)) q36 (Kd.R_reads' HO398.out).2.1;have hr36 := Kd.R_take (m := (t409 : Int).toNat) HO398.out (by omega);have hy36 : y412.length = (t409 : Int).toNat := (by rw [Ny412.out,List.length_take];omega);rw [← Ny412.out] at hr36;rw [← hy36] at hr36 hcut36;clear hy36 hi036 hsz36 HO398;have HO414 := Aside0.mk hr36;clear hr36;replace q36 := eq_true q36))
      go_ret
      exact ⟨_,by first | rfl | (simp [errW_none,errW_some] <;> rfl) | (simp [*,errW_none,errW_some] <;> rfl),by (with_reducible repeat (first | apply Kd.R_alloc | apply Kd.R_drewN | apply Kd.R_drew));exact HO414.out,by repeat (first | (with_reducible first | exact HI0.out | apply IsS100.alloc | apply IsS100.drewN | apply IsS100.drew | apply IsS100.set_1 | apply IsS100.set_2) | exact HI0.out),by repeat (first | (with_reducible first | exact HB.out | apply below_alloc | apply pw_below_drewN | apply below_drew1 | refine below_set ?_ (IsS100.ge HI0.out)) | exact HB.out),by repeat (first | (with_reducible first | exact HK.out | apply KeepBut.set_ | apply keep_drewN | apply keep_drew | apply keep_alloc) | exact HK.out)⟩
     ·rw [if_neg c29] at H
      exact absurd H (by simp)
    ·rw [if_neg c28] at H
     exact absurd H (by simp)
   ·rw [if_neg c26] at H
    have c26b0 : (t399 == 1) = false := beq_eq_false_iff_ne.mpr c26
    have c26b1 : (t399 != 1) = true := bne_iff_ne.mpr c26
    by_cases c37 : t399 = 2
    ·rw [if_pos c37] at H
     have c37b0 : (t399 == 2) = true := beq_iff_eq.mpr c37
     have c37b1 : (t399 != 2) = false := bne_eq_false_iff_eq.mpr c37
     clear c37
     obtain ⟨y415,hy415⟩ : ∃ y_ : List Int,y_ = (([0,1,128,255] : List Int)) := ⟨_,rfl⟩
     replace H : ((spec_l1Int.f s0_0 t400 t401 y415).bind fun bt418 => (if y396.length < 140737488355328 then (some ((y396 ++ [(bt418.1) % 256]),bt418.2.1,bt418.2.2)) else (none))) = some (r1,r2,r3) := by first | (rw [hy415];with_reducible exact H) | (have H2_ := (Option.bind_some _ _).symm.trans H;rw [hy415];with_reducible exact H2_) | (have H2_ := (Option.bind_some _ _).symm.trans H;with_reducible exact H2_) | with_reducible exact H | (rw [hy415];exact H) | exact H
     have Ny415 := Aside0.mk hy415
     clear hy415
     replace H := Option.bind_eq_some_iff.mp H
     obtain ⟨⟨t418,t419,t420⟩,A380,H⟩ := H
     (try dsimp only at H)
     have A38 := Aside0.mk A380
     clear A380
     by_cases c39 : y396.length < 140737488355328
     ·rw [if_pos c39] at H
      have LMc39 := Aside0.mk c39
      clear c39
      obtain ⟨y421,hy421⟩ : ∃ y_ : List Int,y_ = (y396 ++ [(t418) % 256]) := ⟨_,rfl⟩
      replace H : (some (y421,t419,t420)) = some (r1,r2,r3) := by first | (rw [hy421];with_reducible exact H) | (have H2_ := (Option.bind_some _ _).symm.trans H;rw [hy421];with_reducible exact H2_) | (have H2_ := (Option.bind_some _ _).symm.trans H;with_reducible exact H2_) | with_reducible exact H | (rw [hy421];exact H) | exact H
      have Ny421 := Aside0.mk hy421
      clear hy421
      simp only [Option.some.injEq,Prod.mk.injEq] at H
      obtain ⟨rfl,rfl,rfl⟩ := H
      go_enter Try.func87,Try.ntmps87
      go_wp2_with (first | ((with_reducible refine gate_dst (N := 7) rfl ?_);refine Kd.R_lit (Kd.int .u8) _ 5 ?hg (N := 7) ?hd (xs := ([] : List Int)) (inner := []) (ok := fun _ => True) (okp := fun _ => True) ?hr ?hp (fun _ hk => hk) trivial (Below.refl _ _) (Nat.le_refl _) (by simp) ?_;(case hd => rfl);(case hg => rfl);(case hr => first | (go_simp;done) | (go_simp;rfl));(case hp => exact (Reps.none _ _));intro v394 w40 ho41 hb hg_ hnew_;clear hg_ hnew_;(first | rw [← Ny393.out] at ho41 | (simp only [Int.reduceToNat] at ho41;rw [← Ny393.out] at ho41));have n0_ := Aside0.mk (Kd.R_lower ho41 (keep_size (w := w) (g := g) (row := none) (by repeat (first | (with_reducible first | exact HK.out | apply KeepBut.set_ | apply keep_drewN | apply keep_drew | apply keep_alloc) | exact HK.out))));have n1_ := Aside0.mk (IsS100.below (by repeat (first | (with_reducible first | exact HI0.out | apply IsS100.alloc | apply IsS100.drewN | apply IsS100.drew | apply IsS100.set_1 | apply IsS100.set_2) | exact HI0.out)) hb);have n2_ := Aside0.mk (KeepBut.trans (by repeat (first | (with_reducible first | exact HK.out | apply KeepBut.set_ | apply keep_drewN | apply keep_drew | apply keep_alloc) | exact HK.out)) (KeepBut.of_below hb g none) (.inl rfl));have n3_ := Aside0.mk (below_step (by repeat (first | (with_reducible first | exact HB.out | apply below_alloc | apply pw_below_drewN | apply below_drew1 | refine below_set ?_ (IsS100.ge HI0.out)) | exact HB.out)) hb);clear HI0;clear HK;clear HB;have HO395 := n0_;have HI0 := n1_;have HK := n2_;have HB := n3_;clear n0_ n1_ n2_ n3_;clear hb ho41) | ((with_reducible refine gate_builtin (b := .append) (xs := #[.tmp 7,.tmp 8]) rfl ?_);at_builtin;refine Kd.R_append_rows (Kd.int .u8) w.heap.size rfl (.tmp 7) (.tmp 8) 22 5 (.int .u8 0) 1 rfl Try.underlying22 info5 rfl (by decide) (by omega) v394 y393 l1 _ _ _ (fun _ => True) (fun _ => False) rfl rfl ?aO ?aR (fun _ _ h => h) (fun _ h => h.elim) ?aF (Below.refl _ _) ?aS ?aL ?_;(case aR => exact Kd.C_keep 0 HR1.out (by repeat (first | (with_reducible first | exact HK.out | apply KeepBut.set_ | apply keep_drewN | apply keep_drew | apply keep_alloc) | exact HK.out)) hf1);(case aF => exact (fun _ _ => trivial));(case aO => exact (Kd.R_up HO395.out));(case aS => exact (keep_size (w := w) (g := g) (row := none) (by repeat (first | (with_reducible first | exact HK.out | apply KeepBut.set_ | apply keep_drewN | apply keep_drew | apply keep_alloc) | exact HK.out))));(case aL => have := LMc3.out;omega);intro v397 w42 ho hb hg hat;rw [← Ny396.out] at ho;have n0_ := Aside0.mk (IsS100.grown (by repeat (first | (with_reducible first | exact HI0.out | apply IsS100.alloc | apply IsS100.drewN | apply IsS100.drew | apply IsS100.set_1 | apply IsS100.set_2) | exact HI0.out)) hg (IsS100.own_ne HI0.out HO395.out (by decide)));have n1_ := Aside0.mk (below_weaken (by repeat (first | (with_reducible first | exact HB.out | apply below_alloc | apply pw_below_drewN | apply below_drew1 | refine below_set ?_ (IsS100.ge HI0.out)) | exact HB.out)) HL.out hb);have n2_ := Aside0.mk (KeepBut.trans (by repeat (first | (with_reducible first | exact HK.out | apply KeepBut.set_ | apply keep_drewN | apply keep_drew | apply keep_alloc) | exact HK.out)) (KeepBut.of_grown hg g) (Kd.R_base2 HO395.out));have n3_ := Aside0.mk (ho);clear HI0;clear HB;clear HK;clear HO395;have HI0 := n0_;have HB := n1_;have HK := n2_;have HO398 := n3_;clear n0_ n1_ n2_ n3_;clear ho hb hg hat) | ((with_reducible refine gate_callee (f := 80) rfl ?_);refine goesL_ (some 11) rfl rfl Try.func80 (by kernel_rfl) rfl #[.pointer (some ⟨g,0,none⟩),.int .i64 6] rfl eq_up ?_;(with_reducible refine (spec_l1Below.calls g s0_0 s0_1 s0_2 6 t399 t400 t401 w0 _ ?side1 ?side2 A4.out).mono ?_);(case side1 => repeat (first | (with_reducible first | exact HI0.out | apply IsS100.alloc | apply IsS100.drewN | apply IsS100.drew | apply IsS100.set_1 | apply IsS100.set_2) | exact HI0.out));(case side2 => repeat (first | (with_reducible first | exact HB.out | apply below_alloc | apply pw_below_drewN | apply below_drew1 | refine below_set ?_ (IsS100.ge HI0.out)) | exact HB.out));rintro e w43 ⟨rfl,hi,hb,hk⟩;refine ⟨_,rfl,?_⟩;have n0_ := Aside0.mk (Kd.R_mono (Kd.R_keep (IsS100.apart (show IsS100 w0 _ g s0_0 s0_1 s0_2 from by repeat (first | (with_reducible first | exact HI0.out | apply IsS100.alloc | apply IsS100.drewN | apply IsS100.drew | apply IsS100.set_1 | apply IsS100.set_2) | exact HI0.out)) (Kd.R_up HO398.out) (by decide)) hk (fun _ h => h.2)) (fun _ h => h.1));have n1_ := Aside0.mk (KeepBut.trans (by repeat (first | (with_reducible first | exact HK.out | apply KeepBut.set_ | apply keep_drewN | apply keep_drew | apply keep_alloc) | exact HK.out)) hk (.inl rfl));have n2_ := Aside0.mk (hb);have n3_ := Aside0.mk (hi);clear HO398;clear HK;clear HB;clear HI0;have HO398 := n0_;have HK := n1_;have HB := n2_;have HI0 := n3_;clear n0_ n1_ n2_ n3_;(try clear hb);(try clear hb2);(try clear hk);(try clear hi)) | ((with_reducible refine gate_dst (N := 39) rfl ?_);refine Kd.R_lit (Kd.int .i64) _ 3 ?hg (N := 39) ?hd (xs := ([0,1,128,255] : List Int)) (inner := [.int .i64 0,.int .i64 1,.int .i64 128,.int .i64 255]) (ok := fun _ => True) (okp := fun _ => True) ?hr ?hp (fun _ hk => hk) trivial (Below.refl _ _) (Nat.le_refl _) (by simp) ?_;(case hd => rfl);(case hg => rfl);(case hr => first | (go_simp;done) | (go_simp;rfl));(case hp => exact (Reps.one (show Kd.M (Kd.int .i64) _ _ _ 0 [.int .i64 0] from rfl) (Reps.one (show Kd.M (Kd.int .i64) _ _ _ 1 [.int .i64 1] from rfl) (Reps.one (show Kd.M (Kd.int .i64) _ _ _ 128 [.int .i64 128] from rfl) (Reps.one (show Kd.M (Kd.int .i64) _ _ _ 255 [.int .i64 255] from rfl) (Reps.none _ _))))));intro v416 w44 ho45 hb hg_ hnew_;clear hg_ hnew_;(first | rw [← Ny415.out] at ho45 | (simp only [Int.reduceToNat] at ho45;rw [← Ny415.out] at ho45));have n0_ := Aside0.mk (Kd.R_below (Kd.R_up HO398.out) hb);have n1_ := Aside0.mk (Kd.R_lower ho45 (keep_size (w := w) (g := g) (row := none) (by repeat (first | (with_reducible first | exact HK.out | apply KeepBut.set_ | apply keep_drewN | apply keep_drew | apply keep_alloc) | exact HK.out))));have n2_ := Aside0.mk (IsS100.below (by repeat (first | (with_reducible first | exact HI0.out | apply IsS100.alloc | apply IsS100.drewN | apply IsS100.drew | apply IsS100.set_1 | apply IsS100.set_2) | exact HI0.out)) hb);have n3_ := Aside0.mk (KeepBut.trans (by repeat (first | (with_reducible first | exact HK.out | apply KeepBut.set_ | apply keep_drewN | apply keep_drew | apply keep_alloc) | exact HK.out)) (KeepBut.of_below hb g none) (.inl rfl));have n4_ := Aside0.mk (below_step (by repeat (first | (with_reducible first | exact HB.out | apply below_alloc | apply pw_below_drewN | apply below_drew1 | refine below_set ?_ (IsS100.ge HI0.out)) | exact HB.out)) hb);clear HO398;clear HI0;clear HK;clear HB;have HO398 := n0_;have HO417 := n1_;have HI0 := n2_;have HK := n3_;have HB := n4_;clear n0_ n1_ n2_ n3_ n4_;clear hb ho45;obtain ⟨Ao46,co46,eo46⟩ := Kd.R_slice HO417.out;subst eo46) | ((with_reducible refine gate_callee (f := 83) rfl ?_);refine goesL_ (some 40) rfl rfl Try.func83 (by kernel_rfl) rfl #[.pointer (some ⟨g,0,none⟩),.slice Ao46 y415.length co46] rfl eq_up ?_;(with_reducible refine (spec_l1Int.calls g s0_0 t400 t401 _ _ y415 t418 t419 t420 w0 _ ?side1 ?side2 ?side3 ?side4 ?side5 A38.out).mono ?_);(case side1 => repeat (first | (with_reducible first | exact HI0.out | apply IsS100.alloc | apply IsS100.drewN | apply IsS100.drew | apply IsS100.set_1 | apply IsS100.set_2) | exact HI0.out));(case side2 => repeat (first | (with_reducible first | exact HB.out | apply below_alloc | apply pw_below_drewN | apply below_drew1 | refine below_set ?_ (IsS100.ge HI0.out)) | exact HB.out));(case side3 => exact Kd.C_up (Kd.R_reads' HO417.out).2.2);(case side4 => exact (Kd.R_reads' HO417.out).2.1);(case side5 => exact far_slice (IsS100.own_ne HI0.out HO417.out (by decide)));rintro e w47 ⟨rfl,hi,hb,hk⟩;refine ⟨_,rfl,?_⟩;have n0_ := Aside0.mk (Kd.R_mono (Kd.R_keep (IsS100.apart (show IsS100 w0 _ g s0_0 t400 t401 from by repeat (first | (with_reducible first | exact HI0.out | apply IsS100.alloc | apply IsS100.drewN | apply IsS100.drew | apply IsS100.set_1 | apply IsS100.set_2) | exact HI0.out)) (Kd.R_up HO398.out) (by decide)) hk (fun _ h => h.2)) (fun _ h => h.1));have n1_ := Aside0.mk (Kd.R_mono (Kd.R_keep (IsS100.apart (show IsS100 w0 _ g s0_0 t400 t401 from by repeat (first | (with_reducible first | exact HI0.out | apply IsS100.alloc | apply IsS100.drewN | apply IsS100.drew | apply IsS100.set_1 | apply IsS100.set_2) | exact HI0.out)) (Kd.R_up HO417.out) (by decide)) hk (fun _ h => h.2)) (fun _ h => h.1));have n2_ := Aside0.mk (KeepBut.trans (by repeat (first | (with_reducible first | exact HK.out | apply KeepBut.set_ | apply keep_drewN | apply keep_drew | apply keep_alloc) | exact HK.out)) hk (.inl rfl));have n3_ := Aside0.mk (hb);have n4_ := Aside0.mk (hi);clear HO398;clear HO417;clear HK;clear HB;clear HI0;have HO398 := n0_;have HO417 := n1_;have HK := n2_;have HB := n3_;have HI0 := n4_;clear n0_ n1_ n2_ n3_ n4_;(try clear hb);(try clear hb2);(try clear hk);(try clear hi)) | ((with_reducible refine gate_builtin (b := .append) (xs := #[.tmp 37,.tmp 42]) rfl ?_);at_builtin;refine Kd.R_append (Kd.int .u8) w.heap.size rfl (.tmp 37) (.tmp 42) 22 5 (.int .u8 0) 1 rfl Try.underlying22 info5 rfl (by decide) (by omega) v397 y396 ((t418) % 256) [.int .u8 ((t418) % 256)] (fun _ => True) (fun _ => False) rfl rfl ?aP (fun _ hk => hk.elim) ?aF ?aO (Below.refl _ _) ?aS ?aL ?_;(case aP => exact rfl);(case aF => exact (fun _ _ => trivial));(case aO => exact (Kd.R_up HO398.out));(case aS => exact (keep_size (w := w) (g := g) (row := none) (by repeat (first | (with_reducible first | exact HK.out | apply KeepBut.set_ | apply keep_drewN | apply keep_drew | apply keep_alloc) | exact HK.out))));(case aL => have := LMc39.out;omega);intro v422 w48 ho hb hg hat;rw [← Ny421.out] at ho;have n0_ := Aside0.mk (IsS100.grown (by repeat (first | (with_reducible first | exact HI0.out | apply IsS100.alloc | apply IsS100.drewN | apply IsS100.drew | apply IsS100.set_1 | apply IsS100.set_2) | exact HI0.out)) hg (IsS100.own_ne HI0.out HO398.out (by decide)));have n1_ := Aside0.mk (Kd.R_over' (Kd.R_up HO417.out) (Kd.R_typed (Kd.R_up HO398.out)) (by decide) hg);have n2_ := Aside0.mk (below_weaken (by repeat (first | (with_reducible first | exact HB.out | apply below_alloc | apply pw_below_drewN | apply below_drew1 | refine below_set ?_ (IsS100.ge HI0.out)) | exact HB.out)) HL.out hb);have n3_ := Aside0.mk (KeepBut.trans (by repeat (first | (with_reducible first | exact HK.out | apply KeepBut.set_ | apply keep_drewN | apply keep_drew | apply keep_alloc) | exact HK.out)) (KeepBut.of_grown hg g) (Kd.R_base2 HO398.out));have n4_ := Aside0.mk (ho);clear HI0;clear HO417;clear HB;clear HK;clear HO398;have HI0 := n0_;have HO417 := n1_;have HB := n2_;have HK := n3_;have HO423 := n4_;clear n0_ n1_ n2_ n3_ n4_;clear ho hb hg hat))
      go_ret
      exact ⟨_,by first | rfl | (simp [errW_none,errW_some] <;> rfl) | (simp [*,errW_none,errW_some] <;> rfl),by (with_reducible repeat (first | apply Kd.R_alloc | apply Kd.R_drewN | apply Kd.R_drew));exact HO423.out,by repeat (first | (with_reducible first | exact HI0.out | apply IsS100.alloc | apply IsS100.drewN | apply IsS100.drew | apply IsS100.set_1 | apply IsS100.set_2) | exact HI0.out),by repeat (first | (with_reducible first | exact HB.out | apply below_alloc | apply pw_below_drewN | apply below_drew1 | refine below_set ?_ (IsS100.ge HI0.out)) | exact HB.out),by repeat (first | (with_reducible first | exact HK.out | apply KeepBut.set_ | apply keep_drewN | apply keep_drew | apply keep_alloc) | exact HK.out)⟩
     ·rw [if_neg c39] at H
      exact absurd H (by simp)
    ·rw [if_neg c37] at H
     have c37b0 : (t399 == 2) = false := beq_eq_false_iff_ne.mpr c37
     have c37b1 : (t399 != 2) = true := bne_iff_ne.mpr c37
     by_cases c49 : t399 = 3
     ·rw [if_pos c49] at H
      have c49b0 : (t399 == 3) = true := beq_iff_eq.mpr c49
      have c49b1 : (t399 != 3) = false := bne_eq_false_iff_eq.mpr c49
      clear c49
      by_cases c50 : (y396.length : Int) > 0
      ·rw [if_pos c50] at H
       have c50b0 : decide (0 < (y396.length : Int)) = true := decide_eq_true c50
       have c50b1 : decide (0 < y396.length) = true := decide_eq_true (by omega)
       clear c50
       replace H := Option.bind_eq_some_iff.mp H
       obtain ⟨⟨t424,t425,t426⟩,A510,H⟩ := H
       (try dsimp only at H)
       have A51 := Aside0.mk A510
       clear A510
       by_cases c52 : 0 ≤ t424
       ·rw [if_pos c52] at H
        have c52b0 : decide (0 ≤ t424) = true := decide_eq_true c52
        clear c52
        by_cases c53 : t424 < (y396.length : Int)
        ·rw [if_pos c53] at H
         have c53b0 : decide (t424 < (y396.length : Int)) = true := decide_eq_true c53
         clear c53
         replace H := Option.bind_eq_some_iff.mp H
         obtain ⟨⟨t428,t429,t430⟩,A540,H⟩ := H
         (try dsimp only at H)
         have A54 := Aside0.mk A540
         clear A540
         by_cases c55 : 0 ≤ t428
         ·rw [if_pos c55] at H
          have c55b0 := eq_true c55
          have c55b1 : decide (0 ≤ t428) = true := decide_eq_true c55
          clear c55
          obtain ⟨ji56,hji56⟩ : ∃ j_ : Int,(shl .u8 1 t428) = j_ := ⟨_,rfl⟩
          replace H : (some ((y396.set (t424 : Int).toNat (Go.bits .xor .u8 (rd y396 t424) (ji56))),t429,t430)) = some (r1,r2,r3) := by first | (rw [hji56] at H;exact H) | (simp only [hji56] at H ⊢;exact H)
          (try rw [hji56] at A4)
          (try rw [hji56] at A51)
          (try rw [hji56] at A54)
          have hji56_ : (IntKind.u8.wrap (1 * 2 ^ min t428.toNat 8)) = ji56 := hji56
          have hji56z : t428 ≤ 8 → (IntKind.u8.wrap (1 * 2 ^ t428.toNat)) = ji56 := shl_small hji56
          have hji56u : (IntKind.u8.wrap (2 ^ min t428.toNat 8)) = ji56 := by have h_ := hji56_;rw [Int.one_mul] at h_;exact h_
          have hji56v : t428 ≤ 8 → (IntKind.u8.wrap (2 ^ t428.toNat)) = ji56 := fun hle_ => by have h_ := hji56z hle_;rw [Int.one_mul] at h_;exact h_
          obtain ⟨y431,hy431⟩ : ∃ y_ : List Int,y_ = (y396.set (t424 : Int).toNat (Go.bits .xor .u8 (rd y396 t424) (ji56))) := ⟨_,rfl⟩
          replace H : (some (y431,t429,t430)) = some (r1,r2,r3) := by first | (rw [hy431];with_reducible exact H) | (have H2_ := (Option.bind_some _ _).symm.trans H;rw [hy431];with_reducible exact H2_) | (have H2_ := (Option.bind_some _ _).symm.trans H;with_reducible exact H2_) | with_reducible exact H | (rw [hy431];exact H) | exact H
          have Ny431 := Aside0.mk hy431
          clear hy431
          simp only [Option.some.injEq,Prod.mk.injEq] at H
          obtain ⟨rfl,rfl,rfl⟩ := H
          go_enter Try.func87,Try.ntmps87
          try go_wp2_with (first | ((with_reducible refine gate_dst (N := 7) rfl ?_);refine Kd.R_lit (Kd.int .u8) _ 5 ?hg (N := 7) ?hd (xs := ([] : List Int)) (inner := []) (ok := fun _ => True) (okp := fun _ => True) ?hr ?hp (fun _ hk => hk) trivial (Below.refl _ _) (Nat.le_refl _) (by simp) ?_;(case hd => rfl);(case hg => rfl);(case hr => first | (go_simp;done) | (go_simp;rfl));(case hp => exact (Reps.none _ _));intro v394 w58 ho59 hb hg_ hnew_;clear hg_ hnew_;(first | rw [← Ny393.out] at ho59 | (simp only [Int.reduceToNat] at ho59;rw [← Ny393.out] at ho59));have n0_ := Aside0.mk (Kd.R_lower ho59 (keep_size (w := w) (g := g) (row := none) (by repeat (first | (with_reducible first | exact HK.out | apply KeepBut.set_ | apply keep_drewN | apply keep_drew | apply keep_alloc) | exact HK.out))));have n1_ := Aside0.mk (IsS100.below (by repeat (first | (with_reducible first | exact HI0.out | apply IsS100.alloc | apply IsS100.drewN | apply IsS100.drew | apply IsS100.set_1 | apply IsS100.set_2) | exact HI0.out)) hb);have n2_ := Aside0.mk (KeepBut.trans (by repeat (first | (with_reducible first | exact HK.out | apply KeepBut.set_ | apply keep_drewN | apply keep_drew | apply keep_alloc) | exact HK.out)) (KeepBut.of_below hb g none) (.inl rfl));have n3_ := Aside0.mk (below_step (by repeat (first | (with_reducible first | exact HB.out | apply below_alloc | apply pw_below_drewN | apply below_drew1 | refine below_set ?_ (IsS100.ge HI0.out)) | exact HB.out)) hb);clear HI0;clear HK;clear HB;have HO395 := n0_;have HI0 := n1_;have HK := n2_;have HB := n3_;clear n0_ n1_ n2_ n3_;clear hb ho59) | ((with_reducible refine gate_builtin (b := .append) (xs := #[.tmp 7,.tmp 8]) rfl ?_);at_builtin;refine Kd.R_append_rows (Kd.int .u8) w.heap.size rfl (.tmp 7) (.tmp 8) 22 5 (.int .u8 0) 1 rfl Try.underlying22 info5 rfl (by decide) (by omega) v394 y393 l1 _ _ _ (fun _ => True) (fun _ => False) rfl rfl ?aO ?aR (fun _ _ h => h) (fun _ h => h.elim) ?aF (Below.refl _ _) ?aS ?aL ?_;(case aR => exact Kd.C_keep 0 HR1.out (by repeat (first | (with_reducible first | exact HK.out | apply KeepBut.set_ | apply keep_drewN | apply keep_drew | apply keep_alloc) | exact HK.out)) hf1);(case aF => exact (fun _ _ => trivial));(case aO => exact (Kd.R_up HO395.out));(case aS => exact (keep_size (w := w) (g := g) (row := none) (by repeat (first | (with_reducible first | exact HK.out | apply KeepBut.set_ | apply keep_drewN | apply keep_drew | apply keep_alloc) | exact HK.out))));(case aL => have := LMc3.out;omega);intro v397 w60 ho hb hg hat;rw [← Ny396.out] at ho;have n0_ := Aside0.mk (IsS100.grown (by repeat (first | (with_reducible first | exact HI0.out | apply IsS100.alloc | apply IsS100.drewN | apply IsS100.drew | apply IsS100.set_1 | apply IsS100.set_2) | exact HI0.out)) hg (IsS100.own_ne HI0.out HO395.out (by decide)));have n1_ := Aside0.mk (below_weaken (by repeat (first | (with_reducible first | exact HB.out | apply below_alloc | apply pw_below_drewN | apply below_drew1 | refine below_set ?_ (IsS100.ge HI0.out)) | exact HB.out)) HL.out hb);have n2_ := Aside0.mk (KeepBut.trans (by repeat (first | (with_reducible first | exact HK.out | apply KeepBut.set_ | apply keep_drewN | apply keep_drew | apply keep_alloc) | exact HK.out)) (KeepBut.of_grown hg g) (Kd.R_base2 HO395.out));have n3_ := Aside0.mk (ho);clear HI0;clear HB;clear HK;clear HO395;have HI0 := n0_;have HB := n1_;have HK := n2_;have HO398 := n3_;clear n0_ n1_ n2_ n3_;clear ho hb hg hat) | ((with_reducible refine gate_callee (f := 80) rfl ?_);refine goesL_ (some 11) rfl rfl Try.func80 (by kernel_rfl) rfl #[.pointer (some ⟨g,0,none⟩),.int .i64 6] rfl eq_up ?_;(with_reducible refine (spec_l1Below.calls g s0_0 s0_1 s0_2 6 t399 t400 t401 w0 _ ?side1 ?side2 A4.out).mono ?_);(case side1 => repeat (first | (with_reducible first | exact HI0.out | apply IsS100.alloc | apply IsS100.drewN | apply IsS100.drew | apply IsS100.set_1 | apply IsS100.set_2) | exact HI0.out));(case side2 => repeat (first | (with_reducible first | exact HB.out | apply below_alloc | apply pw_below_drewN | apply below_drew1 | refine below_set ?_ (IsS100.ge HI0.out)) | exact HB.out));rintro e w61 ⟨rfl,hi,hb,hk⟩;refine ⟨_,rfl,?_⟩;have n0_ := Aside0.mk (Kd.R_mono (Kd.R_keep (IsS100.apart (show IsS100 w0 _ g s0_0 s0_1 s0_2 from by repeat (first | (with_reducible first | exact HI0.out | apply IsS100.alloc | apply IsS100.drewN | apply IsS100.drew | apply IsS100.set_1 | apply IsS100.set_2) | exact HI0.out)) (Kd.R_up HO398.out) (by decide)) hk (fun _ h => h.2)) (fun _ h => h.1));have n1_ := Aside0.mk (KeepBut.trans (by repeat (first | (with_reducible first | exact HK.out | apply KeepBut.set_ | apply keep_drewN | apply keep_drew | apply keep_alloc) | exact HK.out)) hk (.inl rfl));have n2_ := Aside0.mk (hb);have n3_ := Aside0.mk (hi);clear HO398;clear HK;clear HB;clear HI0;have HO398 := n0_;have HK := n1_;have HB := n2_;have HI0 := n3_;clear n0_ n1_ n2_ n3_;(try clear hb);(try clear hb2);(try clear hk);(try clear hi);obtain ⟨Ao62,co62,eo62⟩ := Kd.R_slice HO398.out;subst eo62) | ((with_reducible refine gate_callee (f := 80) rfl ?_);refine goesL_ (some 52) rfl rfl Try.func80 (by kernel_rfl) rfl #[.pointer (some ⟨g,0,none⟩),.int .i64 (y396.length : Int)] rfl eq_up ?_;(with_reducible refine (spec_l1Below.calls g s0_0 t400 t401 (y396.length : Int) t424 t425 t426 w0 _ ?side1 ?side2 A51.out).mono ?_);(case side1 => repeat (first | (with_reducible first | exact HI0.out | apply IsS100.alloc | apply IsS100.drewN | apply IsS100.drew | apply IsS100.set_1 | apply IsS100.set_2) | exact HI0.out));(case side2 => repeat (first | (with_reducible first | exact HB.out | apply below_alloc | apply pw_below_drewN | apply below_drew1 | refine below_set ?_ (IsS100.ge HI0.out)) | exact HB.out));rintro e w63 ⟨rfl,hi,hb,hk⟩;refine ⟨_,rfl,?_⟩;have n0_ := Aside0.mk (Kd.R_mono (Kd.R_keep (IsS100.apart (show IsS100 w0 _ g s0_0 t400 t401 from by repeat (first | (with_reducible first | exact HI0.out | apply IsS100.alloc | apply IsS100.drewN | apply IsS100.drew | apply IsS100.set_1 | apply IsS100.set_2) | exact HI0.out)) (Kd.R_up HO398.out) (by decide)) hk (fun _ h => h.2)) (fun _ h => h.1));have n1_ := Aside0.mk (KeepBut.trans (by repeat (first | (with_reducible first | exact HK.out | apply KeepBut.set_ | apply keep_drewN | apply keep_drew | apply keep_alloc) | exact HK.out)) hk (.inl rfl));have n2_ := Aside0.mk (hb);have n3_ := Aside0.mk (hi);clear HO398;clear HK;clear HB;clear HI0;have HO398 := n0_;have HK := n1_;have HB := n2_;have HI0 := n3_;clear n0_ n1_ n2_ n3_;(try clear hb);(try clear hb2);(try clear hk);(try clear hi)))
          have n0_ := Aside0.mk (Kd.R_drew HO398.out)
          have n1_ := Aside0.mk (IsS100.drew HI0.out)
          have n2_ := Aside0.mk (keep_drew HK.out)
          have n3_ := Aside0.mk (below_drew1 HB.out)
          clear HO398
          clear HI0
          clear HK
          clear HB
          have HO398 := n0_
          have HI0 := n1_
          have HK := n2_
          have HB := n3_
          clear n0_ n1_ n2_ n3_
          have p427 : 0 ≤ (t424 : Int) := of_decide_eq_true (by first | (with_reducible assumption) | assumption)
          have q427 : t424 < (y396.length : Int) := of_decide_eq_true (by first | (with_reducible assumption) | assumption)
          obtain ⟨ad427,e427,hx427_0⟩ := Kd.at_int (Kd.R_reads' HO398.out).2.2 t424 p427 q427
          cases e427
          replace p427 := eq_true p427
          replace q427 := eq_true q427
          refine start_ (n := 12) (S := fun w' => w'.cell? (ad427.add (t424).toNat) = some (.int .u8 (rd y396 t424))) (ds := [11]) #[false,false,false,false,false,false,false,false,false,false,false,false] (by kernel_rfl) rfl rfl (hx427_0) (fun hHeld => ?_);refine with_tabW spec_l1Bent.tab13 spec_l1Bent.bits13 (fun HT_ HW_ => ?_)
          generalize w63.drew = w64 at HO398 HI0 HK HB hx427_0 hHeld ⊢
          refine pure_ (i := 0) (N := some 53) (v := ?_) (a' := ?_) #[true,false,false,false,false,false,false,false,false,false,false,false] rfl rfl (any_of HT_.out (by kernel_rfl)) (fun _ _ _ h => h) (Or.inl ⟨by rfl,?_⟩) ?_ ?_
          rotate_left
          ·intro w'
           go_simp
           with_reducible rfl
          rotate_left
          ·simp only [Act.put,List.setIfInBounds_toArray,List.set_cons_zero,List.set_cons_succ,i64_w,i32_w]
           rfl
          refine pure_ (i := 1) (N := some 54) (v := ?_) (a' := ?_) #[true,true,false,false,false,false,false,false,false,false,false,false] rfl rfl (any_of HT_.out (by kernel_rfl)) (fun _ _ _ h => h) (Or.inl ⟨by rfl,?_⟩) ?_ ?_
          rotate_left
          ·intro w'
           go_simp
           with_reducible rfl
          rotate_left
          ·simp only [Act.put,List.setIfInBounds_toArray,List.set_cons_zero,List.set_cons_succ,i64_w,i32_w]
           rfl
          refine pure_ (i := 2) (N := some 55) (v := ?_) (a' := ?_) #[true,true,true,false,false,false,false,false,false,false,false,false] rfl rfl (any_of HT_.out (by kernel_rfl)) (fun _ _ _ h => h) (Or.inl ⟨by rfl,?_⟩) ?_ ?_
          rotate_left
          ·intro w'
           go_simp
           with_reducible rfl
          rotate_left
          ·simp only [Act.put,List.setIfInBounds_toArray,List.set_cons_zero,List.set_cons_succ,i64_w,i32_w]
           rfl
          refine pure_ (i := 3) (N := some 56) (v := ?_) (a' := ?_) #[true,true,true,true,false,false,false,false,false,false,false,false] rfl rfl (any_of HT_.out (by kernel_rfl)) (fun _ _ _ h => h) (Or.inl ⟨by rfl,?_⟩) ?_ ?_
          rotate_left
          ·intro w'
           go_simp
           with_reducible rfl
          rotate_left
          ·simp only [Act.put,List.setIfInBounds_toArray,List.set_cons_zero,List.set_cons_succ,i64_w,i32_w]
           rfl
          refine pure_ (i := 4) (N := some 57) (v := ?_) (a' := ?_) #[true,true,true,true,true,false,false,false,false,false,false,false] rfl rfl (any_of HT_.out (by kernel_rfl)) (fun _ _ _ h => h) (Or.inl ⟨by rfl,?_⟩) ?_ ?_
          rotate_left
          ·intro w'
           go_simp
           with_reducible rfl
          rotate_left
          ·simp only [Act.put,List.setIfInBounds_toArray,List.set_cons_zero,List.set_cons_succ,i64_w,i32_w]
           rfl
          refine pure_ (i := 6) (N := some 59) (v := ?_) (a' := ?_) #[true,true,true,true,true,false,true,false,false,false,false,false] rfl rfl (any_of HT_.out (by kernel_rfl)) (fun _ _ _ h => h) (Or.inl ⟨by rfl,?_⟩) ?_ ?_
          rotate_left
          ·intro w'
           go_simp
           with_reducible rfl
          rotate_left
          ·simp only [Act.put,List.setIfInBounds_toArray,List.set_cons_zero,List.set_cons_succ,i64_w,i32_w]
           rfl
          refine take_ (i := 5) (N := some 58) (v := ?_) (a' := ?_) #[true,true,true,true,true,true,true,false,false,false,false,false] rfl rfl (take_ofW HT_.out HW_.out (by kernel_rfl)) (fun _ _ _ h => h) (Or.inl ⟨by rfl,?_⟩) hHeld ?_ ?_
          rotate_left
          ·intro w' s0
           go_simp
           with_reducible rfl
          rotate_left
          ·simp only [Act.put,List.setIfInBounds_toArray,List.set_cons_zero,List.set_cons_succ,i64_w,i32_w]
           rfl
          refine one_ (i := 7) (N := some 60) #[true,true,true,true,true,true,true,true,false,false,false,false] rfl rfl (one_of HT_.out (by kernel_rfl)) (by decide) (fun K hK => ?_)
          refine goes_ Try.func80 (by kernel_rfl) rfl #[.pointer (some ⟨g,0,none⟩),.int .i64 8] (by rfl) rfl rfl eq_up ?_
          with_reducible refine (spec_l1Below.calls g s0_0 t425 t426 8 t428 t429 t430 w0 _ ?side1 ?side2 A54.out).mono ?_
          (case side1 => repeat (first | (with_reducible first | exact HI0.out | apply IsS100.alloc | apply IsS100.drewN | apply IsS100.drew | apply IsS100.set_1 | apply IsS100.set_2) | exact HI0.out))
          (case side2 => repeat (first | (with_reducible first | exact HB.out | apply below_alloc | apply pw_below_drewN | apply below_drew1 | refine below_set ?_ (IsS100.ge HI0.out)) | exact HB.out))
          rintro e w65 ⟨rfl,hi,hb,hk⟩
          have HS0_ := keep_cell hk (hHeld) (by first | (rw [add_block];exact Kd.own_blk (IsS100.own_ne HI0.out HO398.out (by decide))) | (show (Addr.add _ _).block ≠ _;rw [add_block];exact Kd.own_blk (IsS100.own_ne HI0.out HO398.out (by decide))) | exact Kd.own_blk (IsS100.own_ne HI0.out HO398.out (by decide)))
          refine ⟨_,rfl,?_⟩
          have n0_ := Aside0.mk (Kd.R_mono (Kd.R_keep (IsS100.apart (show IsS100 w0 _ g s0_0 t425 t426 from by repeat (first | (with_reducible first | exact HI0.out | apply IsS100.alloc | apply IsS100.drewN | apply IsS100.drew | apply IsS100.set_1 | apply IsS100.set_2) | exact HI0.out)) (Kd.R_up HO398.out) (by decide)) hk (fun _ h => h.2)) (fun _ h => h.1))
          have n1_ := Aside0.mk (KeepBut.trans (by repeat (first | (with_reducible first | exact HK.out | apply KeepBut.set_ | apply keep_drewN | apply keep_drew | apply keep_alloc) | exact HK.out)) hk (.inl rfl))
          have n2_ := Aside0.mk (hb)
          have n3_ := Aside0.mk (hi)
          clear HO398
          clear HK
          clear HB
          clear HI0
          have HO398 := n0_
          have HK := n1_
          have HB := n2_
          have HI0 := n3_
          clear n0_ n1_ n2_ n3_
          (try clear hb)
          (try clear hb2)
          (try clear hk)
          (try clear hi)
          have p57 : 0 ≤ (t424 : Int) := of_decide_eq_true (by first | (with_reducible assumption) | assumption)
          have q57 : (t424 : Int) < ((y396.length : Int) : Int) := of_decide_eq_true (by first | (with_reducible assumption) | assumption)
          obtain ⟨go57,co57,eo57,gb57,gl57,cl57,HG57⟩ := Kd.R_form HO398.out (by omega)
          (first | cases eo57 | (injection eo57 with ea_ en_ ec_;(first | subst ea_ | (injection ea_ with ea_;subst ea_));subst ec_;clear en_))
          have GB57 := Aside0.mk gb57
          have GG57 := Aside0.mk HG57
          clear gb57 gl57 HG57
          (first | simp only [add_plain] at hx427_0 | skip)
          obtain ⟨hx57_0,hf57_0⟩ := Kd.R_celln 0 HO398.out (t424 : Int) p57 q57
          replace p57 := eq_true p57
          replace q57 := eq_true q57
          have HN0_go57 := Aside0.mk (show g ≠ go57 from by have h_ := IsS100.own_ne HI0.out HO398.out (by decide);intro e_;exact h_ (by rw [e_];rfl))
          have HP66 := Kd.R_putn HO398.out (t424 : Int) (Go.bits .xor .u8 (rd y396 t424) (ji56))
          rw [← Ny431.out] at HP66
          have HQ66 := Aside0.mk HP66
          clear HP66
          refine hK.out _ _ (HS0_) (fun hHeld => ?_)
          clear hK K
          refine norm_ (a' := ?_) ?_ ?_
          rotate_left
          ·show Act.put _ (some 60) _ = _
           simp only [Act.put,List.setIfInBounds_toArray,List.set_cons_zero,List.set_cons_succ,i64_w,i32_w]
           rfl
          refine pure_ (i := 8) (N := some 61) (v := ?_) (a' := ?_) #[true,true,true,true,true,true,true,true,true,false,false,false] rfl rfl (any_of HT_.out (by kernel_rfl)) (fun _ _ _ h => h) (Or.inl ⟨by rfl,?_⟩) ?_ ?_
          rotate_left
          ·intro w'
           go_simp
           with_reducible rfl
          rotate_left
          ·simp only [Act.put,List.setIfInBounds_toArray,List.set_cons_zero,List.set_cons_succ,i64_w,i32_w]
           rfl
          refine pure_ (i := 9) (N := some 62) (v := ?_) (a' := ?_) #[true,true,true,true,true,true,true,true,true,true,false,false] rfl rfl (any_of HT_.out (by kernel_rfl)) (fun _ _ _ h => h) (Or.inl ⟨by rfl,?_⟩) ?_ ?_
          rotate_left
          ·intro w'
           go_simp
           with_reducible rfl
          rotate_left
          ·simp only [Act.put,List.setIfInBounds_toArray,List.set_cons_zero,List.set_cons_succ,i64_w,i32_w]
           rfl
          refine pure_ (i := 10) (N := some 63) (v := ?_) (a' := ?_) #[true,true,true,true,true,true,true,true,true,true,true,false] rfl rfl (any_of HT_.out (by kernel_rfl)) (fun _ _ _ h => h) (Or.inl ⟨by rfl,?_⟩) ?_ ?_
          rotate_left
          ·intro w'
           go_simp
           with_reducible rfl
          rotate_left
          ·simp only [Act.put,List.setIfInBounds_toArray,List.set_cons_zero,List.set_cons_succ,i64_w,i32_w]
           rfl
          refine last_ (i := 11) (N := none) #[true,true,true,true,true,true,true,true,true,true,true,true] rfl rfl (one_of HT_.out (by kernel_rfl)) (by decide) (fun K hK => ?_)
          refine skip_ (w1 := ?_) (by rfl) rfl ?_ ?_
          rotate_left
          ·go_simp
           rfl
          refine hK.out _ _ ?_
          clear hK K
          refine done_ (done_of HT_.out (by kernel_rfl)) ?_
          try go_wp2
          go_ret
          exact ⟨_,by first | rfl | (simp [errW_none,errW_some] <;> rfl) | (simp only [← hji56];first | rfl | (simp [errW_none,errW_some] <;> rfl)) | (simp [*,errW_none,errW_some] <;> rfl),by (with_reducible repeat (first | apply Kd.R_alloc | apply Kd.R_drewN | apply Kd.R_drew));exact HQ66.out,by repeat (first | (with_reducible first | exact HI0.out | apply IsS100.alloc | apply IsS100.drewN | apply IsS100.drew | apply IsS100.set_1 | apply IsS100.set_2 | refine IsS100.far ?_ HN0_go57.out _) | exact HI0.out),by repeat (first | (with_reducible first | exact HB.out | apply below_alloc | apply pw_below_drewN | apply below_drew1 | refine below_set ?_ (Nat.le_trans HL.out GB57.out) | refine below_set ?_ (IsS100.ge HI0.out)) | exact HB.out),by repeat (first | (with_reducible first | exact HK.out | apply KeepBut.set_ | apply keep_drewN | apply keep_drew | apply keep_alloc | refine keep_far ?_ GB57.out _) | exact HK.out)⟩
         ·rw [if_neg c55] at H
          exact absurd H (by simp)
        ·rw [if_neg c53] at H
         exact absurd H (by simp)
       ·rw [if_neg c52] at H
        exact absurd H (by simp)
      ·rw [if_neg c50] at H
       have c50b0 : decide (0 < (y396.length : Int)) = false := decide_eq_false c50
       have c50b1 : decide (0 < y396.length) = false := decide_eq_false (by omega)
       clear c50
       simp only [Option.some.injEq,Prod.mk.injEq] at H
       obtain ⟨rfl,rfl,rfl⟩ := H
       go_enter Try.func87,Try.ntmps87
       go_wp2_with (first | ((with_reducible refine gate_dst (N := 7) rfl ?_);refine Kd.R_lit (Kd.int .u8) _ 5 ?hg (N := 7) ?hd (xs := ([] : List Int)) (inner := []) (ok := fun _ => True) (okp := fun _ => True) ?hr ?hp (fun _ hk => hk) trivial (Below.refl _ _) (Nat.le_refl _) (by simp) ?_;(case hd => rfl);(case hg => rfl);(case hr => first | (go_simp;done) | (go_simp;rfl));(case hp => exact (Reps.none _ _));intro v394 w67 ho68 hb hg_ hnew_;clear hg_ hnew_;(first | rw [← Ny393.out] at ho68 | (simp only [Int.reduceToNat] at ho68;rw [← Ny393.out] at ho68));have n0_ := Aside0.mk (Kd.R_lower ho68 (keep_size (w := w) (g := g) (row := none) (by repeat (first | (with_reducible first | exact HK.out | apply KeepBut.set_ | apply keep_drewN | apply keep_drew | apply keep_alloc) | exact HK.out))));have n1_ := Aside0.mk (IsS100.below (by repeat (first | (with_reducible first | exact HI0.out | apply IsS100.alloc | apply IsS100.drewN | apply IsS100.drew | apply IsS100.set_1 | apply IsS100.set_2) | exact HI0.out)) hb);have n2_ := Aside0.mk (KeepBut.trans (by repeat (first | (with_reducible first | exact HK.out | apply KeepBut.set_ | apply keep_drewN | apply keep_drew | apply keep_alloc) | exact HK.out)) (KeepBut.of_below hb g none) (.inl rfl));have n3_ := Aside0.mk (below_step (by repeat (first | (with_reducible first | exact HB.out | apply below_alloc | apply pw_below_drewN | apply below_drew1 | refine below_set ?_ (IsS100.ge HI0.out)) | exact HB.out)) hb);clear HI0;clear HK;clear HB;have HO395 := n0_;have HI0 := n1_;have HK := n2_;have HB := n3_;clear n0_ n1_ n2_ n3_;clear hb ho68) | ((with_reducible refine gate_builtin (b := .append) (xs := #[.tmp 7,.tmp 8]) rfl ?_);at_builtin;refine Kd.R_append_rows (Kd.int .u8) w.heap.size rfl (.tmp 7) (.tmp 8) 22 5 (.int .u8 0) 1 rfl Try.underlying22 info5 rfl (by decide) (by omega) v394 y393 l1 _ _ _ (fun _ => True) (fun _ => False) rfl rfl ?aO ?aR (fun _ _ h => h) (fun _ h => h.elim) ?aF (Below.refl _ _) ?aS ?aL ?_;(case aR => exact Kd.C_keep 0 HR1.out (by repeat (first | (with_reducible first | exact HK.out | apply KeepBut.set_ | apply keep_drewN | apply keep_drew | apply keep_alloc) | exact HK.out)) hf1);(case aF => exact (fun _ _ => trivial));(case aO => exact (Kd.R_up HO395.out));(case aS => exact (keep_size (w := w) (g := g) (row := none) (by repeat (first | (with_reducible first | exact HK.out | apply KeepBut.set_ | apply keep_drewN | apply keep_drew | apply keep_alloc) | exact HK.out))));(case aL => have := LMc3.out;omega);intro v397 w69 ho hb hg hat;rw [← Ny396.out] at ho;have n0_ := Aside0.mk (IsS100.grown (by repeat (first | (with_reducible first | exact HI0.out | apply IsS100.alloc | apply IsS100.drewN | apply IsS100.drew | apply IsS100.set_1 | apply IsS100.set_2) | exact HI0.out)) hg (IsS100.own_ne HI0.out HO395.out (by decide)));have n1_ := Aside0.mk (below_weaken (by repeat (first | (with_reducible first | exact HB.out | apply below_alloc | apply pw_below_drewN | apply below_drew1 | refine below_set ?_ (IsS100.ge HI0.out)) | exact HB.out)) HL.out hb);have n2_ := Aside0.mk (KeepBut.trans (by repeat (first | (with_reducible first | exact HK.out | apply KeepBut.set_ | apply keep_drewN | apply keep_drew | apply keep_alloc) | exact HK.out)) (KeepBut.of_grown hg g) (Kd.R_base2 HO395.out));have n3_ := Aside0.mk (ho);clear HI0;clear HB;clear HK;clear HO395;have HI0 := n0_;have HB := n1_;have HK := n2_;have HO398 := n3_;clear n0_ n1_ n2_ n3_;clear ho hb hg hat) | ((with_reducible refine gate_callee (f := 80) rfl ?_);refine goesL_ (some 11) rfl rfl Try.func80 (by kernel_rfl) rfl #[.pointer (some ⟨g,0,none⟩),.int .i64 6] rfl eq_up ?_;(with_reducible refine (spec_l1Below.calls g s0_0 s0_1 s0_2 6 t399 t400 t401 w0 _ ?side1 ?side2 A4.out).mono ?_);(case side1 => repeat (first | (with_reducible first | exact HI0.out | apply IsS100.alloc | apply IsS100.drewN | apply IsS100.drew | apply IsS100.set_1 | apply IsS100.set_2) | exact HI0.out));(case side2 => repeat (first | (with_reducible first | exact HB.out | apply below_alloc | apply pw_below_drewN | apply below_drew1 | refine below_set ?_ (IsS100.ge HI0.out)) | exact HB.out));rintro e w70 ⟨rfl,hi,hb,hk⟩;refine ⟨_,rfl,?_⟩;have n0_ := Aside0.mk (Kd.R_mono (Kd.R_keep (IsS100.apart (show IsS100 w0 _ g s0_0 s0_1 s0_2 from by repeat (first | (with_reducible first | exact HI0.out | apply IsS100.alloc | apply IsS100.drewN | apply IsS100.drew | apply IsS100.set_1 | apply IsS100.set_2) | exact HI0.out)) (Kd.R_up HO398.out) (by decide)) hk (fun _ h => h.2)) (fun _ h => h.1));have n1_ := Aside0.mk (KeepBut.trans (by repeat (first | (with_reducible first | exact HK.out | apply KeepBut.set_ | apply keep_drewN | apply keep_drew | apply keep_alloc) | exact HK.out)) hk (.inl rfl));have n2_ := Aside0.mk (hb);have n3_ := Aside0.mk (hi);clear HO398;clear HK;clear HB;clear HI0;have HO398 := n0_;have HK := n1_;have HB := n2_;have HI0 := n3_;clear n0_ n1_ n2_ n3_;(try clear hb);(try clear hb2);(try clear hk);(try clear hi);obtain ⟨Ao71,co71,eo71⟩ := Kd.R_slice HO398.out;subst eo71))
       go_ret
       exact ⟨_,by first | rfl | (simp [errW_none,errW_some] <;> rfl) | (simp [*,errW_none,errW_some] <;> rfl),by (with_reducible repeat (first | apply Kd.R_alloc | apply Kd.R_drewN | apply Kd.R_drew));exact HO398.out,by repeat (first | (with_reducible first | exact HI0.out | apply IsS100.alloc | apply IsS100.drewN | apply IsS100.drew | apply IsS100.set_1 | apply IsS100.set_2) | exact HI0.out),by repeat (first | (with_reducible first | exact HB.out | apply below_alloc | apply pw_below_drewN | apply below_drew1 | refine below_set ?_ (IsS100.ge HI0.out)) | exact HB.out),by repeat (first | (with_reducible first | exact HK.out | apply KeepBut.set_ | apply keep_drewN | apply keep_drew | apply keep_alloc) | exact HK.out)⟩
     ·rw [if_neg c49] at H
      have c49b0 : (t399 == 3) = false := beq_eq_false_iff_ne.mpr c49
      have c49b1 : (t399 != 3) = true := bne_iff_ne.mpr c49
      simp only [Option.some.injEq,Prod.mk.injEq] at H
      obtain ⟨rfl,rfl,rfl⟩ := H
      go_enter Try.func87,Try.ntmps87
      go_wp2_with (first | ((with_reducible refine gate_dst (N := 7) rfl ?_);refine Kd.R_lit (Kd.int .u8) _ 5 ?hg (N := 7) ?hd (xs := ([] : List Int)) (inner := []) (ok := fun _ => True) (okp := fun _ => True) ?hr ?hp (fun _ hk => hk) trivial (Below.refl _ _) (Nat.le_refl _) (by simp) ?_;(case hd => rfl);(case hg => rfl);(case hr => first | (go_simp;done) | (go_simp;rfl));(case hp => exact (Reps.none _ _));intro v394 w72 ho73 hb hg_ hnew_;clear hg_ hnew_;(first | rw [← Ny393.out] at ho73 | (simp only [Int.reduceToNat] at ho73;rw [← Ny393.out] at ho73));have n0_ := Aside0.mk (Kd.R_lower ho73 (keep_size (w := w) (g := g) (row := none) (by repeat (first | (with_reducible first | exact HK.out | apply KeepBut.set_ | apply keep_drewN | apply keep_drew | apply keep_alloc) | exact HK.out))));have n1_ := Aside0.mk (IsS100.below (by repeat (first | (with_reducible first | exact HI0.out | apply IsS100.alloc | apply IsS100.drewN | apply IsS100.drew | apply IsS100.set_1 | apply IsS100.set_2) | exact HI0.out)) hb);have n2_ := Aside0.mk (KeepBut.trans (by repeat (first | (with_reducible first | exact HK.out | apply KeepBut.set_ | apply keep_drewN | apply keep_drew | apply keep_alloc) | exact HK.out)) (KeepBut.of_below hb g none) (.inl rfl));have n3_ := Aside0.mk (below_step (by repeat (first | (with_reducible first | exact HB.out | apply below_alloc | apply pw_below_drewN | apply below_drew1 | refine below_set ?_ (IsS100.ge HI0.out)) | exact HB.out)) hb);clear HI0;clear HK;clear HB;have HO395 := n0_;have HI0 := n1_;have HK := n2_;have HB := n3_;clear n0_ n1_ n2_ n3_;clear hb ho73) | ((with_reducible refine gate_builtin (b := .append) (xs := #[.tmp 7,.tmp 8]) rfl ?_);at_builtin;refine Kd.R_append_rows (Kd.int .u8) w.heap.size rfl (.tmp 7) (.tmp 8) 22 5 (.int .u8 0) 1 rfl Try.underlying22 info5 rfl (by decide) (by omega) v394 y393 l1 _ _ _ (fun _ => True) (fun _ => False) rfl rfl ?aO ?aR (fun _ _ h => h) (fun _ h => h.elim) ?aF (Below.refl _ _) ?aS ?aL ?_;(case aR => exact Kd.C_keep 0 HR1.out (by repeat (first | (with_reducible first | exact HK.out | apply KeepBut.set_ | apply keep_drewN | apply keep_drew | apply keep_alloc) | exact HK.out)) hf1);(case aF => exact (fun _ _ => trivial));(case aO => exact (Kd.R_up HO395.out));(case aS => exact (keep_size (w := w) (g := g) (row := none) (by repeat (first | (with_reducible first | exact HK.out | apply KeepBut.set_ | apply keep_drewN | apply keep_drew | apply keep_alloc) | exact HK.out))));(case aL => have := LMc3.out;omega);intro v397 w74 ho hb hg hat;rw [← Ny396.out] at ho;have n0_ := Aside0.mk (IsS100.grown (by repeat (first | (with_reducible first | exact HI0.out | apply IsS100.alloc | apply IsS100.drewN | apply IsS100.drew | apply IsS100.set_1 | apply IsS100.set_2) | exact HI0.out)) hg (IsS100.own_ne HI0.out HO395.out (by decide)));have n1_ := Aside0.mk (below_weaken (by repeat (first | (with_reducible first | exact HB.out | apply below_alloc | apply pw_below_drewN | apply below_drew1 | refine below_set ?_ (IsS100.ge HI0.out)) | exact HB.out)) HL.out hb);have n2_ := Aside0.mk (KeepBut.trans (by repeat (first | (with_reducible first | exact HK.out | apply KeepBut.set_ | apply keep_drewN | apply keep_drew | apply keep_alloc) | exact HK.out)) (KeepBut.of_grown hg g) (Kd.R_base2 HO395.out));have n3_ := Aside0.mk (ho);clear HI0;clear HB;clear HK;clear HO395;have HI0 := n0_;have HB := n1_;have HK := n2_;have HO398 := n3_;clear n0_ n1_ n2_ n3_;clear ho hb hg hat) | ((with_reducible refine gate_callee (f := 80) rfl ?_);refine goesL_ (some 11) rfl rfl Try.func80 (by kernel_rfl) rfl #[.pointer (some ⟨g,0,none⟩),.int .i64 6] rfl eq_up ?_;(with_reducible refine (spec_l1Below.calls g s0_0 s0_1 s0_2 6 t399 t400 t401 w0 _ ?side1 ?side2 A4.out).mono ?_);(case side1 => repeat (first | (with_reducible first | exact HI0.out | apply IsS100.alloc | apply IsS100.drewN | apply IsS100.drew | apply IsS100.set_1 | apply IsS100.set_2) | exact HI0.out));(case side2 => repeat (first | (with_reducible first | exact HB.out | apply below_alloc | apply pw_below_drewN | apply below_drew1 | refine below_set ?_ (IsS100.ge HI0.out)) | exact HB.out));rintro e w75 ⟨rfl,hi,hb,hk⟩;refine ⟨_,rfl,?_⟩;have n0_ := Aside0.mk (Kd.R_mono (Kd.R_keep (IsS100.apart (show IsS100 w0 _ g s0_0 s0_1 s0_2 from by repeat (first | (with_reducible first | exact HI0.out | apply IsS100.alloc | apply IsS100.drewN | apply IsS100.drew | apply IsS100.set_1 | apply IsS100.set_2) | exact HI0.out)) (Kd.R_up HO398.out) (by decide)) hk (fun _ h => h.2)) (fun _ h => h.1));have n1_ := Aside0.mk (KeepBut.trans (by repeat (first | (with_reducible first | exact HK.out | apply KeepBut.set_ | apply keep_drewN | apply keep_drew | apply keep_alloc) | exact HK.out)) hk (.inl rfl));have n2_ := Aside0.mk (hb);have n3_ := Aside0.mk (hi);clear HO398;clear HK;clear HB;clear HI0;have HO398 := n0_;have HK := n1_;have HB := n2_;have HI0 := n3_;clear n0_ n1_ n2_ n3_;(try clear hb);(try clear hb2);(try clear hk);(try clear hi)))
      go_ret
      exact ⟨_,by first | rfl | (simp [errW_none,errW_some] <;> rfl) | (simp [*,errW_none,errW_some] <;> rfl),by (with_reducible repeat (first | apply Kd.R_alloc | apply Kd.R_drewN | apply Kd.R_drew));exact HO398.out,by repeat (first | (with_reducible first | exact HI0.out | apply IsS100.alloc | apply IsS100.drewN | apply IsS100.drew | apply IsS100.set_1 | apply IsS100.set_2) | exact HI0.out),by repeat (first | (with_reducible first | exact HB.out | apply below_alloc | apply pw_below_drewN | apply below_drew1 | refine below_set ?_ (IsS100.ge HI0.out)) | exact HB.out),by repeat (first | (with_reducible first | exact HK.out | apply KeepBut.set_ | apply keep_drewN | apply keep_drew | apply keep_alloc) | exact HK.out)⟩
 ·rw [if_neg c3] at H
  exact absurd H (by simp)

/-! ### spec_DrawTells: function 38 -/
def spec_DrawTells.f (k : Nat) (l0 : List Int) : Option (Int × Int × Int × (List (S66)) × List Int) := (spec_l1New.f k l0).bind fun bt433 => ((spec_l6Draw.f k bt433.1 bt433.2.1 bt433.2.2).bind fun bt437 => ((spec_l1Once.f bt433.1 bt437.2.2.2.2.2.1 bt437.2.2.2.2.2.2 2).bind fun bt449 => (if bt449.1 = true then (some (bt437.1,bt437.2.1,bt437.2.2.1,bt437.2.2.2.1,bt437.2.2.2.2.1)) else ((spec_l1Bent.f bt433.1 bt449.2.1 bt449.2.2 bt437.2.2.2.2.1).bind fun bt452 => (some (bt437.1,bt437.2.1,bt437.2.2.1,bt437.2.2.2.1,bt452.1))))))
theorem spec_DrawTells.mono : ∀ a0 k,LeO (spec_DrawTells.f k a0) (spec_DrawTells.f (k + 1) a0) := by
 intro a0 k
 unfold spec_DrawTells.f
 repeat' first
   | (with_reducible exact spec_l1New.mono _ _)
   | (with_reducible exact spec_l6Draw.mono _ _ _ _)
   | (with_reducible exact LeO.refl _)
   | (with_reducible exact LeO.none _)
   | (with_reducible refine LeO.ite ?_ ?_)
   | (with_reducible refine LeO.bind ?_ (fun _ => ?_))
   | exact spec_l1New.mono _ _
   | exact spec_l6Draw.mono _ _ _ _
   | exact LeO.none _
   | refine LeO.ite ?_ ?_
   | refine LeO.bind ?_ (fun _ => ?_)
set_option maxHeartbeats 8000000 in
set_option maxRecDepth 100000 in
theorem spec_DrawTells.calls (k : Nat) (A0 : Option Addr) (c0 : Nat) (l0 : List Int) (r1 : Int) (r2 : Int) (r3 : Int) (r4 : List (S66)) (r5 : List Int) (w : World) (hr0 : Kd.C (Kd.int .u8) w A0 l0.length l0) (hc0 : l0.length ≤ c0) (h : spec_DrawTells.f k l0 = some (r1,r2,r3,r4,r5)) :
  Calls Try.prog 38 #[.slice A0 l0.length c0] w fun e w' => ∃ v3_ v4_ : Value,e = .returned (.tuple #[.agg #[.int .i64 r1,.int .i64 r2,.int .i64 r3,v3_],v4_]) ∧ Kd.R k66 66 w' w.heap.size (fun _ => True) v3_ r4 ∧ Kd.R (Kd.int .u8) 5 w' w.heap.size (fun _ => True) v4_ r5 ∧ Below w.heap.size w w' := by
 have hu31 := Try.underlying31
 have HR0 := Aside0.mk hr0
 have HC0 := Aside0.mk hc0
 clear hr0 hc0
 have HB := Aside0.mk (Below.refl w.heap.size w)
 have H : ((spec_l1New.f k l0).bind fun bt433 => ((spec_l6Draw.f k bt433.1 bt433.2.1 bt433.2.2).bind fun bt437 => ((spec_l1Once.f bt433.1 bt437.2.2.2.2.2.1 bt437.2.2.2.2.2.2 2).bind fun bt449 => (if bt449.1 = true then (some (bt437.1,bt437.2.1,bt437.2.2.1,bt437.2.2.2.1,bt437.2.2.2.2.1)) else ((spec_l1Bent.f bt433.1 bt449.2.1 bt449.2.2 bt437.2.2.2.2.1).bind fun bt452 => (some (bt437.1,bt437.2.1,bt437.2.2.1,bt437.2.2.2.1,bt452.1))))))) = some (r1,r2,r3,r4,r5) := h
 clear h
 replace H := Option.bind_eq_some_iff.mp H
 obtain ⟨⟨t433,t434,t435⟩,A20,H⟩ := H
 (try dsimp only at H)
 have A2 := Aside0.mk A20
 clear A20
 replace H := Option.bind_eq_some_iff.mp H
 obtain ⟨⟨t437,t438,t439,t440,t443,t446,t447⟩,A30,H⟩ := H
 (try dsimp only at H)
 have A3 := Aside0.mk A30
 clear A30
 replace H := Option.bind_eq_some_iff.mp H
 obtain ⟨⟨t449,t450,t451⟩,A40,H⟩ := H
 (try dsimp only at H)
 have A4 := Aside0.mk A40
 clear A40
 by_cases c5 : t449 = true
 ·subst c5
  rw [if_pos rfl] at H
  simp only [Option.some.injEq,Prod.mk.injEq] at H
  obtain ⟨rfl,rfl,rfl,rfl,rfl⟩ := H
  go_enter Try.func38,Try.ntmps38
  go_wp2_with (first | ((with_reducible refine gate_dst (N := 2) rfl ?_);refine box_event ?hg (N := 2) ?hd (cs := #[.int .i64 0,.int .i64 0,.int .i64 0,.slice none 0 0]) (t := 31) ?hr ?_;(case hd => rfl);(case hg => rfl);(case hr => first | (go_simp;done) | (go_simp;rfl));intro gb432 hg w6 hbox hb;have n0_ := Aside0.mk (below_step (B_up HB.out) hb);have n1_ := Aside0.mk (hbox);have n2_ := Aside0.mk ((by rw [hg];exact (below_size (B_up HB.out)) : w.heap.size ≤ gb432));have n3_ := Aside0.mk ((by rw [hg];exact (below_size (B_up HB.out)) : w.heap.size ≤ gb432));clear HB;have HB := n0_;have BK432 := n1_;have GW432 := n2_;have GE432 := n3_;clear n0_ n1_ n2_ n3_;clear hb hbox hg) | ((with_reducible refine gate_callee (f := 78) rfl ?_);refine goesL_ (some 8) rfl rfl Try.func78 (by kernel_rfl) rfl #[.slice A0 l0.length c0] rfl eq_up ?_;(with_reducible refine (spec_l1New.calls k _ _ l0 t433 t434 t435 w _ ?side1 ?side2 ?side3 A2.out).mono ?_);(case side1 => repeat (first | (with_reducible first | exact HB.out | apply below_alloc | apply pw_below_drewN | apply below_drew1 | refine below_set ?_ GE432.out) | exact HB.out));(case side2 => exact HR0.out);(case side3 => exact HC0.out);rintro e w7 ⟨g436,rfl,hi,hb,hb2⟩;refine ⟨_,rfl,?_⟩;have n0_ := Aside0.mk (blk_below (g := gb432) (o := .cells #[.int .i64 0,.int .i64 0,.int .i64 0,.slice none 0 0] 31 (0,0)) (blk_up BK432.out) hb2);have n1_ := Aside0.mk (hb);have n2_ := Aside0.mk (hi);have n3_ := Aside0.mk (IsS100.ne_blk hi (blk_below (g := gb432) (o := .cells #[.int .i64 0,.int .i64 0,.int .i64 0,.slice none 0 0] 31 (0,0)) (blk_up BK432.out) hb2) (by decide));have n4_ := Aside0.mk (Ne.symm (IsS100.ne_blk hi (blk_below (g := gb432) (o := .cells #[.int .i64 0,.int .i64 0,.int .i64 0,.slice none 0 0] 31 (0,0)) (blk_up BK432.out) hb2) (by decide)));clear BK432;clear HB;have BK432 := n0_;have HB := n1_;have HI436 := n2_;have NB436_432 := n3_;have NB432_436 := n4_;clear n0_ n1_ n2_ n3_ n4_;(try clear hb);(try clear hb2);(try clear hk);(try clear hi)) | ((with_reducible refine gate_callee (f := 85) rfl ?_);refine goesL_ (some 11) rfl rfl Try.func85 (by kernel_rfl) rfl #[.pointer (some ⟨g436,0,none⟩)] rfl eq_up ?_;(with_reducible refine (spec_l6Draw.calls k g436 t433 t434 t435 t437 t438 t439 t440 t443 t446 t447 w _ ?side1 ?side2 A3.out).mono ?_);(case side1 => repeat (first | (with_reducible first | exact HI436.out | apply IsS100.alloc | apply IsS100.drewN | apply IsS100.drew | apply IsS100.set_1 | apply IsS100.set_2 | refine IsS100.far ?_ NB436_432.out _) | exact HI436.out));(case side2 => repeat (first | (with_reducible first | exact HB.out | apply below_alloc | apply pw_below_drewN | apply below_drew1 | refine below_set ?_ (IsS100.ge HI436.out) | refine below_set ?_ GE432.out) | exact HB.out));rintro e w8 ⟨v441,v444,rfl,ho0,ho1,hi,hb,hk⟩;refine ⟨_,rfl,?_⟩;have n0_ := Aside0.mk (KeepBut.blk hk (g' := gb432) (o := .cells #[.int .i64 0,.int .i64 0,.int .i64 0,.slice none 0 0] 31 (0,0)) (blk_up BK432.out) NB432_436.out (by simp));have n1_ := Aside0.mk (Kd.R_lower ho0 (below_size (by repeat (first | (with_reducible first | exact HB.out | apply below_alloc | apply pw_below_drewN | apply below_drew1 | refine below_set ?_ (IsS100.ge HI436.out) | refine below_set ?_ GE432.out) | exact HB.out))));have n2_ := Aside0.mk (Kd.R_lower ho1 (below_size (by repeat (first | (with_reducible first | exact HB.out | apply below_alloc | apply pw_below_drewN | apply below_drew1 | refine below_set ?_ (IsS100.ge HI436.out) | refine below_set ?_ GE432.out) | exact HB.out))));have n3_ := Aside0.mk (hb);have n4_ := Aside0.mk (hi);clear BK432;clear HB;clear HI436;have BK432 := n0_;have HO442 := n1_;have HO445 := n2_;have HB := n3_;have HI436 := n4_;clear n0_ n1_ n2_ n3_ n4_;(try clear hb);(try clear hb2);(try clear hk);(try clear hi);(try clear ho0);(try clear ho1)) | ((with_reducible refine gate_dst (N := 5) rfl ?_);refine box_event ?hg (N := 5) ?hd (cs := #[.int .i64 0,.int .i64 0,.int .i64 0,.slice none 0 0]) (t := 31) ?hr ?_;(case hd => rfl);(case hg => rfl);(case hr => first | (go_simp;done) | (go_simp;rfl));intro gb448 hg w9 hbox hb;have n0_ := Aside0.mk (Kd.R_below (Kd.R_up HO442.out) hb);have n1_ := Aside0.mk (Kd.R_below (Kd.R_up HO445.out) hb);have n2_ := Aside0.mk (blk_below (g := gb432) (o := .cells #[.int .i64 0,.int .i64 0,.int .i64 0,.slice none 0 0] 31 (0,0)) (blk_up BK432.out) hb);have n3_ := Aside0.mk (IsS100.below (by repeat (first | (with_reducible first | exact HI436.out | apply IsS100.alloc | apply IsS100.drewN | apply IsS100.drew | apply IsS100.set_1 | apply IsS100.set_2 | refine IsS100.far ?_ NB436_432.out _) | exact HI436.out)) hb);have n4_ := Aside0.mk (below_step (by repeat (first | (with_reducible first | exact HB.out | apply below_alloc | apply pw_below_drewN | apply below_drew1 | refine below_set ?_ (IsS100.ge HI436.out) | refine below_set ?_ GE432.out) | exact HB.out)) hb);have n5_ := Aside0.mk (hbox);have n6_ := Aside0.mk ((by rw [hg];exact (below_size (by repeat (first | (with_reducible first | exact HB.out | apply below_alloc | apply pw_below_drewN | apply below_drew1 | refine below_set ?_ (IsS100.ge HI436.out) | refine below_set ?_ GE432.out) | exact HB.out))) : w.heap.size ≤ gb448));have n7_ := Aside0.mk ((by rw [hg];exact (below_size (by repeat (first | (with_reducible first | exact HB.out | apply below_alloc | apply pw_below_drewN | apply below_drew1 | refine below_set ?_ (IsS100.ge HI436.out) | refine below_set ?_ GE432.out) | exact HB.out))) : w.heap.size ≤ gb448));have n8_ := Aside0.mk ((by rw [hg];exact Nat.ne_of_lt (blk_lt (g := gb432) (o := .cells #[.int .i64 0,.int .i64 0,.int .i64 0,.slice none 0 0] 31 (0,0)) (blk_up BK432.out)) : gb432 ≠ gb448));have n9_ := Aside0.mk ((by rw [hg];exact Nat.ne_of_gt (blk_lt (g := gb432) (o := .cells #[.int .i64 0,.int .i64 0,.int .i64 0,.slice none 0 0] 31 (0,0)) (blk_up BK432.out)) : gb448 ≠ gb432));have n10_ := Aside0.mk ((by rw [hg];exact Nat.ne_of_lt (IsS100.lt (show IsS100 w _ g436 t433 t446 t447 from by repeat (first | (with_reducible first | exact HI436.out | apply IsS100.alloc | apply IsS100.drewN | apply IsS100.drew | apply IsS100.set_1 | apply IsS100.set_2 | refine IsS100.far ?_ NB436_432.out _) | exact HI436.out))) : g436 ≠ gb448));have n11_ := Aside0.mk ((by rw [hg];exact Nat.ne_of_gt (IsS100.lt (show IsS100 w _ g436 t433 t446 t447 from by repeat (first | (with_reducible first | exact HI436.out | apply IsS100.alloc | apply IsS100.drewN | apply IsS100.drew | apply IsS100.set_1 | apply IsS100.set_2 | refine IsS100.far ?_ NB436_432.out _) | exact HI436.out))) : gb448 ≠ g436));clear HO442;clear HO445;clear BK432;clear HI436;clear HB;have HO442 := n0_;have HO445 := n1_;have BK432 := n2_;have HI436 := n3_;have HB := n4_;have BK448 := n5_;have GW448 := n6_;have GE448 := n7_;have NB432_448 := n8_;have NB448_432 := n9_;have NB436_448 := n10_;have NB448_436 := n11_;clear n0_ n1_ n2_ n3_ n4_ n5_ n6_ n7_ n8_ n9_ n10_ n11_;clear hb hbox hg;have hnb10 := NB448_432.out;have hnc10 := NB432_448.out;have hnb11 := NB448_436.out;have hnc11 := NB436_448.out;have hcz12_0 : w9.cell? ⟨gb448,0,none⟩ = some (.int .i64 0) := (blk_cell BK448.out 0).trans rfl;have hcz12_1 : w9.cell? ⟨gb448,1,none⟩ = some (.int .i64 0) := (blk_cell BK448.out 1).trans rfl;have hcz12_2 : w9.cell? ⟨gb448,2,none⟩ = some (.int .i64 0) := (blk_cell BK448.out 2).trans rfl;have hcz12_3 : w9.cell? ⟨gb448,3,none⟩ = some (.slice none 0 0) := (blk_cell BK448.out 3).trans rfl;have hfz12_0 := blk_frozen BK448.out 0;have hfz12_1 := blk_frozen BK448.out 1;have hfz12_2 := blk_frozen BK448.out 2;have hfz12_3 := blk_frozen BK448.out 3;obtain ⟨Ao13,co13,eo13⟩ := Kd.R_slice HO442.out;subst eo13) | ((with_reducible refine gate_callee (f := 86) rfl ?_);refine goesL_ (some 15) rfl rfl Try.func86 (by kernel_rfl) rfl #[.pointer (some ⟨g436,0,none⟩),.int .i64 2] rfl eq_up ?_;(with_reducible refine (spec_l1Once.calls g436 t433 t446 t447 2 true t450 t451 w _ ?side1 ?side2 A4.out).mono ?_);(case side1 => repeat (first | (with_reducible first | exact HI436.out | apply IsS100.alloc | apply IsS100.drewN | apply IsS100.drew | apply IsS100.set_1 | apply IsS100.set_2 | refine IsS100.far ?_ NB436_432.out _ | refine IsS100.far ?_ NB436_448.out _) | exact HI436.out));(case side2 => repeat (first | (with_reducible first | exact HB.out | apply below_alloc | apply pw_below_drewN | apply below_drew1 | refine below_set ?_ (IsS100.ge HI436.out) | refine below_set ?_ GE432.out | refine below_set ?_ GE448.out) | exact HB.out));rintro e w14 ⟨rfl,hi,hb,hk⟩;refine ⟨_,rfl,?_⟩;have n0_ := Aside0.mk (KeepBut.blk hk (g' := gb432) (o := .cells #[.int .i64 0,.int .i64 0,.int .i64 0,.slice none 0 0] 31 (0,0)) (by (with_reducible repeat (first | refine blk_drewN ?_ _ | refine blk_drew ?_ | refine blk_alloc ?_ _));refine blk_far ?_ NB432_448.out _;(with_reducible repeat (first | refine blk_drewN ?_ _ | refine blk_drew ?_ | refine blk_alloc ?_ _));refine blk_far ?_ NB432_448.out _;(with_reducible repeat (first | refine blk_drewN ?_ _ | refine blk_drew ?_ | refine blk_alloc ?_ _));refine blk_far ?_ NB432_448.out _;(with_reducible repeat (first | refine blk_drewN ?_ _ | refine blk_drew ?_ | refine blk_alloc ?_ _));refine blk_far ?_ NB432_448.out _;(with_reducible repeat (first | refine blk_drewN ?_ _ | refine blk_drew ?_ | refine blk_alloc ?_ _));exact BK432.out) NB432_436.out (by simp));have n1_ := Aside0.mk (Kd.R_mono (Kd.R_keep (IsS100.apart (show IsS100 w _ g436 t433 t446 t447 from by repeat (first | (with_reducible first | exact HI436.out | apply IsS100.alloc | apply IsS100.drewN | apply IsS100.drew | apply IsS100.set_1 | apply IsS100.set_2 | refine IsS100.far ?_ NB436_432.out _ | refine IsS100.far ?_ NB436_448.out _) | exact HI436.out)) (by (with_reducible repeat (first | apply Kd.R_alloc | apply Kd.R_drewN | apply Kd.R_drew));exact (Kd.R_mono (Kd.R_far (p := ⟨gb448,3,none⟩) (Kd.R_far (p := ⟨gb448,2,none⟩) (Kd.R_far (p := ⟨gb448,1,none⟩) (Kd.R_far (p := ⟨gb448,0,none⟩) (Kd.R_types HO442.out BK448.out (by decide)) (fun _ hk => hk.2) (.int .i64 t437)) (fun _ hk => hk.2) (.int .i64 t438)) (fun _ hk => hk.2) (.int .i64 t439)) (fun _ hk => hk.2) (.slice Ao13 t440.length co13)) (fun _ h_ => h_.1))) (by decide)) hk (fun _ h => h.2)) (fun _ h => h.1));have n2_ := Aside0.mk (Kd.R_mono (Kd.R_keep (IsS100.apart (show IsS100 w _ g436 t433 t446 t447 from by repeat (first | (with_reducible first | exact HI436.out | apply IsS100.alloc | apply IsS100.drewN | apply IsS100.drew | apply IsS100.set_1 | apply IsS100.set_2 | refine IsS100.far ?_ NB436_432.out _ | refine IsS100.far ?_ NB436_448.out _) | exact HI436.out)) (by (with_reducible repeat (first | apply Kd.R_alloc | apply Kd.R_drewN | apply Kd.R_drew));exact (Kd.R_mono (Kd.R_far (p := ⟨gb448,3,none⟩) (Kd.R_far (p := ⟨gb448,2,none⟩) (Kd.R_far (p := ⟨gb448,1,none⟩) (Kd.R_far (p := ⟨gb448,0,none⟩) (Kd.R_types HO445.out BK448.out (by decide)) (fun _ hk => hk.2) (.int .i64 t437)) (fun _ hk => hk.2) (.int .i64 t438)) (fun _ hk => hk.2) (.int .i64 t439)) (fun _ hk => hk.2) (.slice Ao13 t440.length co13)) (fun _ h_ => h_.1))) (by decide)) hk (fun _ h => h.2)) (fun _ h => h.1));have n3_ := Aside0.mk (KeepBut.blk hk (g' := gb448) (o := .cells #[.int .i64 t437,.int .i64 t438,.int .i64 t439,.slice Ao13 t440.length co13] 31 (0,0)) (by (with_reducible repeat (first | refine blk_drewN ?_ _ | refine blk_drew ?_ | refine blk_alloc ?_ _));refine blk_put (cs := #[.int .i64 t437,.int .i64 t438,.int .i64 t439,.slice none 0 0]) ?_ 3 _ rfl;(with_reducible repeat (first | refine blk_drewN ?_ _ | refine blk_drew ?_ | refine blk_alloc ?_ _));refine blk_put (cs := #[.int .i64 t437,.int .i64 t438,.int .i64 0,.slice none 0 0]) ?_ 2 _ rfl;(with_reducible repeat (first | refine blk_drewN ?_ _ | refine blk_drew ?_ | refine blk_alloc ?_ _));refine blk_put (cs := #[.int .i64 t437,.int .i64 0,.int .i64 0,.slice none 0 0]) ?_ 1 _ rfl;(with_reducible repeat (first | refine blk_drewN ?_ _ | refine blk_drew ?_ | refine blk_alloc ?_ _));refine blk_put (cs := #[.int .i64 0,.int .i64 0,.int .i64 0,.slice none 0 0]) ?_ 0 _ rfl;(with_reducible repeat (first | refine blk_drewN ?_ _ | refine blk_drew ?_ | refine blk_alloc ?_ _));exact BK448.out) NB448_436.out (by simp));have n4_ := Aside0.mk (hb);have n5_ := Aside0.mk (hi);clear BK432;clear HO442;clear HO445;clear BK448;clear HB;clear HI436;have BK432 := n0_;have HO442 := n1_;have HO445 := n2_;have BK448 := n3_;have HB := n4_;have HI436 := n5_;clear n0_ n1_ n2_ n3_ n4_ n5_;(try clear hb);(try clear hb2);(try clear hk);(try clear hi);have hcz15_0 : w14.cell? ⟨gb448,0,none⟩ = some (.int .i64 t437) := (blk_cell BK448.out 0).trans rfl;have hcz15_1 : w14.cell? ⟨gb448,1,none⟩ = some (.int .i64 t438) := (blk_cell BK448.out 1).trans rfl;have hcz15_2 : w14.cell? ⟨gb448,2,none⟩ = some (.int .i64 t439) := (blk_cell BK448.out 2).trans rfl;have hcz15_3 : w14.cell? ⟨gb448,3,none⟩ = some (.slice Ao13 t440.length co13) := (blk_cell BK448.out 3).trans rfl;have hfz15_0 := blk_frozen BK448.out 0;have hfz15_1 := blk_frozen BK448.out 1;have hfz15_2 := blk_frozen BK448.out 2;have hfz15_3 := blk_frozen BK448.out 3;have hnb16 := NB432_436.out;have hnc16 := NB436_432.out;have hcz17_0 : w14.cell? ⟨gb432,0,none⟩ = some (.int .i64 0) := (blk_cell BK432.out 0).trans rfl;have hcz17_1 : w14.cell? ⟨gb432,1,none⟩ = some (.int .i64 0) := (blk_cell BK432.out 1).trans rfl;have hcz17_2 : w14.cell? ⟨gb432,2,none⟩ = some (.int .i64 0) := (blk_cell BK432.out 2).trans rfl;have hcz17_3 : w14.cell? ⟨gb432,3,none⟩ = some (.slice none 0 0) := (blk_cell BK432.out 3).trans rfl;have hfz17_0 := blk_frozen BK432.out 0;have hfz17_1 := blk_frozen BK432.out 1;have hfz17_2 := blk_frozen BK432.out 2;have hfz17_3 := blk_frozen BK432.out 3))
  refine bodyPost_ret (results_ct rfl _ _ gb432 31 #[.int .i64 t437,.int .i64 t438,.int .i64 t439,.slice Ao13 t440.length co13] (0,0) _ rfl (by (with_reducible repeat (first | refine blk_drewN ?_ _ | refine blk_drew ?_ | refine blk_alloc ?_ _));refine blk_put (cs := #[.int .i64 t437,.int .i64 t438,.int .i64 t439,.slice none 0 0]) ?_ 3 _ rfl;(with_reducible repeat (first | refine blk_drewN ?_ _ | refine blk_drew ?_ | refine blk_alloc ?_ _));refine blk_put (cs := #[.int .i64 t437,.int .i64 t438,.int .i64 0,.slice none 0 0]) ?_ 2 _ rfl;(with_reducible repeat (first | refine blk_drewN ?_ _ | refine blk_drew ?_ | refine blk_alloc ?_ _));refine blk_put (cs := #[.int .i64 t437,.int .i64 0,.int .i64 0,.slice none 0 0]) ?_ 1 _ rfl;(with_reducible repeat (first | refine blk_drewN ?_ _ | refine blk_drew ?_ | refine blk_alloc ?_ _));refine blk_put (cs := #[.int .i64 0,.int .i64 0,.int .i64 0,.slice none 0 0]) ?_ 0 _ rfl;(with_reducible repeat (first | refine blk_drewN ?_ _ | refine blk_drew ?_ | refine blk_alloc ?_ _));exact BK432.out) Try.underlying31 rfl (by kernel_rfl)) rfl ?_
  exact ⟨_,_,by first | rfl | (simp [errW_none,errW_some] <;> rfl) | (simp [*,errW_none,errW_some] <;> rfl),by (with_reducible repeat (first | apply Kd.R_alloc | apply Kd.R_drewN | apply Kd.R_drew));exact Kd.R_mono (Kd.R_far (p := ⟨gb432,3,none⟩) (Kd.R_far (p := ⟨gb432,2,none⟩) (Kd.R_far (p := ⟨gb432,1,none⟩) (Kd.R_far (p := ⟨gb432,0,none⟩) (Kd.R_types HO442.out BK432.out (by decide)) (fun _ hk => hk.2) (.int .i64 t437)) (fun _ hk => hk.2) (.int .i64 t438)) (fun _ hk => hk.2) (.int .i64 t439)) (fun _ hk => hk.2) (.slice Ao13 t440.length co13)) (fun _ hk => trivial),by (with_reducible repeat (first | apply Kd.R_alloc | apply Kd.R_drewN | apply Kd.R_drew));exact Kd.R_mono (Kd.R_far (p := ⟨gb432,3,none⟩) (Kd.R_far (p := ⟨gb432,2,none⟩) (Kd.R_far (p := ⟨gb432,1,none⟩) (Kd.R_far (p := ⟨gb432,0,none⟩) (Kd.R_types HO445.out BK432.out (by decide)) (fun _ hk => hk.2) (.int .i64 t437)) (fun _ hk => hk.2) (.int .i64 t438)) (fun _ hk => hk.2) (.int .i64 t439)) (fun _ hk => hk.2) (.slice Ao13 t440.length co13)) (fun _ hk => trivial),by repeat (first | (with_reducible first | exact HB.out | apply below_alloc | apply pw_below_drewN | apply below_drew1 | refine below_set ?_ (IsS100.ge HI436.out) | refine below_set ?_ GE432.out | refine below_set ?_ GE448.out) | exact HB.out)⟩
 ·replace c5 := Bool.eq_false_iff.mpr c5
  subst c5
  have H1 : ((spec_l1Bent.f t433 t450 t451 t443).bind fun bt452 => (some (t437,t438,t439,t440,bt452.1))) = some (r1,r2,r3,r4,r5) := by rw [if_neg (show ¬ (false = true) by decide)] at H;exact H
  clear H
  have H := H1
  clear H1
  replace H := Option.bind_eq_some_iff.mp H
  obtain ⟨⟨t452,t455,t456⟩,A180,H⟩ := H
  replace H : (some (t437,t438,t439,t440,t452)) = some (r1,r2,r3,r4,r5) := H
  have A18 := Aside0.mk A180
  clear A180
  simp only [Option.some.injEq,Prod.mk.injEq] at H
  obtain ⟨rfl,rfl,rfl,rfl,rfl⟩ := H
  go_enter Try.func38,Try.ntmps38
  try go_wp2_with (first | ((with_reducible refine gate_dst (N := 2) rfl ?_);refine box_event ?hg (N := 2) ?hd (cs := #[.int .i64 0,.int .i64 0,.int .i64 0,.slice none 0 0]) (t := 31) ?hr ?_;(case hd => rfl);(case hg => rfl);(case hr => first | (go_simp;done) | (go_simp;rfl));intro gb432 hg w19 hbox hb;have n0_ := Aside0.mk (below_step (B_up HB.out) hb);have n1_ := Aside0.mk (hbox);have n2_ := Aside0.mk ((by rw [hg];exact (below_size (B_up HB.out)) : w.heap.size ≤ gb432));have n3_ := Aside0.mk ((by rw [hg];exact (below_size (B_up HB.out)) : w.heap.size ≤ gb432));clear HB;have HB := n0_;have BK432 := n1_;have GW432 := n2_;have GE432 := n3_;clear n0_ n1_ n2_ n3_;clear hb hbox hg) | ((with_reducible refine gate_callee (f := 78) rfl ?_);refine goesL_ (some 8) rfl rfl Try.func78 (by kernel_rfl) rfl #[.slice A0 l0.length c0] rfl eq_up ?_;(with_reducible refine (spec_l1New.calls k _ _ l0 t433 t434 t435 w _ ?side1 ?side2 ?side3 A2.out).mono ?_);(case side1 => repeat (first | (with_reducible first | exact HB.out | apply below_alloc | apply pw_below_drewN | apply below_drew1 | refine below_set ?_ GE432.out) | exact HB.out));(case side2 => exact HR0.out);(case side3 => exact HC0.out);rintro e w20 ⟨g436,rfl,hi,hb,hb2⟩;refine ⟨_,rfl,?_⟩;have n0_ := Aside0.mk (blk_below (g := gb432) (o := .cells #[.int .i64 0,.int .i64 0,.int .i64 0,.slice none 0 0] 31 (0,0)) (blk_up BK432.out) hb2);have n1_ := Aside0.mk (hb);have n2_ := Aside0.mk (hi);have n3_ := Aside0.mk (IsS100.ne_blk hi (blk_below (g := gb432) (o := .cells #[.int .i64 0,.int .i64 0,.int .i64 0,.slice none 0 0] 31 (0,0)) (blk_up BK432.out) hb2) (by decide));have n4_ := Aside0.mk (Ne.symm (IsS100.ne_blk hi (blk_below (g := gb432) (o := .cells #[.int .i64 0,.int .i64 0,.int .i64 0,.slice none 0 0] 31 (0,0)) (blk_up BK432.out) hb2) (by decide)));clear BK432;clear HB;have BK432 := n0_;have HB := n1_;have HI436 := n2_;have NB436_432 := n3_;have NB432_436 := n4_;clear n0_ n1_ n2_ n3_ n4_;(try clear hb);(try clear hb2);(try clear hk);(try clear hi)) | ((with_reducible refine gate_callee (f := 85) rfl ?_);refine goesL_ (some 11) rfl rfl Try.func85 (by kernel_rfl) rfl #[.pointer (some ⟨g436,0,none⟩)] rfl eq_up ?_;(with_reducible refine (spec_l6Draw.calls k g436 t433 t434 t435 t437 t438 t439 t440 t443 t446 t447 w _ ?side1 ?side2 A3.out).mono ?_);(case side1 => repeat (first | (with_reducible first | exact HI436.out | apply IsS100.alloc | apply IsS100.drewN | apply IsS100.drew | apply IsS100.set_1 | apply IsS100.set_2 | refine IsS100.far ?_ NB436_432.out _) | exact HI436.out));(case side2 => repeat (first | (with_reducible first | exact HB.out | apply below_alloc | apply pw_below_drewN | apply below_drew1 | refine below_set ?_ (IsS100.ge HI436.out) | refine below_set ?_ GE432.out) | exact HB.out));rintro e w21 ⟨v441,v444,rfl,ho0,ho1,hi,hb,hk⟩;refine ⟨_,rfl,?_⟩;have n0_ := Aside0.mk (KeepBut.blk hk (g' := gb432) (o := .cells #[.int .i64 0,.int .i64 0,.int .i64 0,.slice none 0 0] 31 (0,0)) (blk_up BK432.out) NB432_436.out (by simp));have n1_ := Aside0.mk (Kd.R_lower ho0 (below_size (by repeat (first | (with_reducible first | exact HB.out | apply below_alloc | apply pw_below_drewN | apply below_drew1 | refine below_set ?_ (IsS100.ge HI436.out) | refine below_set ?_ GE432.out) | exact HB.out))));have n2_ := Aside0.mk (Kd.R_lower ho1 (below_size (by repeat (first | (with_reducible first | exact HB.out | apply below_alloc | apply pw_below_drewN | apply below_drew1 | refine below_set ?_ (IsS100.ge HI436.out) | refine below_set ?_ GE432.out) | exact HB.out))));have n3_ := Aside0.mk (hb);have n4_ := Aside0.mk (hi);clear BK432;clear HB;clear HI436;have BK432 := n0_;have HO442 := n1_;have HO445 := n2_;have HB := n3_;have HI436 := n4_;clear n0_ n1_ n2_ n3_ n4_;(try clear hb);(try clear hb2);(try clear hk);(try clear hi);(try clear ho0);(try clear ho1)) | ((with_reducible refine gate_dst (N := 5) rfl ?_);refine box_event ?hg (N := 5) ?hd (cs := #[.int .i64 0,.int .i64 0,.int .i64 0,.slice none 0 0]) (t := 31) ?hr ?_;(case hd => rfl);(case hg => rfl);(case hr => first | (go_simp;done) | (go_simp;rfl));intro gb448 hg w22 hbox hb;have n0_ := Aside0.mk (Kd.R_below (Kd.R_up HO442.out) hb);have n1_ := Aside0.mk (Kd.R_below (Kd.R_up HO445.out) hb);have n2_ := Aside0.mk (blk_below (g := gb432) (o := .cells #[.int .i64 0,.int .i64 0,.int .i64 0,.slice none 0 0] 31 (0,0)) (blk_up BK432.out) hb);have n3_ := Aside0.mk (IsS100.below (by repeat (first | (with_reducible first | exact HI436.out | apply IsS100.alloc | apply IsS100.drewN | apply IsS100.drew | apply IsS100.set_1 | apply IsS100.set_2 | refine IsS100.far ?_ NB436_432.out _) | exact HI436.out)) hb);have n4_ := Aside0.mk (below_step (by repeat (first | (with_reducible first | exact HB.out | apply below_alloc | apply pw_below_drewN | apply below_drew1 | refine below_set ?_ (IsS100.ge HI436.out) | refine below_set ?_ GE432.out) | exact HB.out)) hb);have n5_ := Aside0.mk (hbox);have n6_ := Aside0.mk ((by rw [hg];exact (below_size (by repeat (first | (with_reducible first | exact HB.out | apply below_alloc | apply pw_below_drewN | apply below_drew1 | refine below_set ?_ (IsS100.ge HI436.out) | refine below_set ?_ GE432.out) | exact HB.out))) : w.heap.size ≤ gb448));have n7_ := Aside0.mk ((by rw [hg];exact (below_size (by repeat (first | (with_reducible first | exact HB.out | apply below_alloc | apply pw_below_drewN | apply below_drew1 | refine below_set ?_ (IsS100.ge HI436.out) | refine below_set ?_ GE432.out) | exact HB.out))) : w.heap.size ≤ gb448));have n8_ := Aside0.mk ((by rw [hg];exact Nat.ne_of_lt (blk_lt (g := gb432) (o := .cells #[.int .i64 0,.int .i64 0,.int .i64 0,.slice none 0 0] 31 (0,0)) (blk_up BK432.out)) : gb432 ≠ gb448));have n9_ := Aside0.mk ((by rw [hg];exact Nat.ne_of_gt (blk_lt (g := gb432) (o := .cells #[.int .i64 0,.int .i64 0,.int .i64 0,.slice none 0 0] 31 (0,0)) (blk_up BK432.out)) : gb448 ≠ gb432));have n10_ := Aside0.mk ((by rw [hg];exact Nat.ne_of_lt (IsS100.lt (show IsS100 w _ g436 t433 t446 t447 from by repeat (first | (with_reducible first | exact HI436.out | apply IsS100.alloc | apply IsS100.drewN | apply IsS100.drew | apply IsS100.set_1 | apply IsS100.set_2 | refine IsS100.far ?_ NB436_432.out _) | exact HI436.out))) : g436 ≠ gb448));have n11_ := Aside0.mk ((by rw [hg];exact Nat.ne_of_gt (IsS100.lt (show IsS100 w _ g436 t433 t446 t447 from by repeat (first | (with_reducible first | exact HI436.out | apply IsS100.alloc | apply IsS100.drewN | apply IsS100.drew | apply IsS100.set_1 | apply IsS100.set_2 | refine IsS100.far ?_ NB436_432.out _) | exact HI436.out))) : gb448 ≠ g436));clear HO442;clear HO445;clear BK432;clear HI436;clear HB;have HO442 := n0_;have HO445 := n1_;have BK432 := n2_;have HI436 := n3_;have HB := n4_;have BK448 := n5_;have GW448 := n6_;have GE448 := n7_;have NB432_448 := n8_;have NB448_432 := n9_;have NB436_448 := n10_;have NB448_436 := n11_;clear n0_ n1_ n2_ n3_ n4_ n5_ n6_ n7_ n8_ n9_ n10_ n11_;clear hb hbox hg;have hnb23 := NB448_432.out;have hnc23 := NB432_448.out;have hnb24 := NB448_436.out;have hnc24 := NB436_448.out;have hcz25_0 : w22.cell? ⟨gb448,0,none⟩ = some (.int .i64 0) := (blk_cell BK448.out 0).trans rfl;have hcz25_1 : w22.cell? ⟨gb448,1,none⟩ = some (.int .i64 0) := (blk_cell BK448.out 1).trans rfl;have hcz25_2 : w22.cell? ⟨gb448,2,none⟩ = some (.int .i64 0) := (blk_cell BK448.out 2).trans rfl;have hcz25_3 : w22.cell? ⟨gb448,3,none⟩ = some (.slice none 0 0) := (blk_cell BK448.out 3).trans rfl;have hfz25_0 := blk_frozen BK448.out 0;have hfz25_1 := blk_frozen BK448.out 1;have hfz25_2 := blk_frozen BK448.out 2;have hfz25_3 := blk_frozen BK448.out 3;obtain ⟨Ao26,co26,eo26⟩ := Kd.R_slice HO442.out;subst eo26) | ((with_reducible refine gate_callee (f := 86) rfl ?_);refine goesL_ (some 15) rfl rfl Try.func86 (by kernel_rfl) rfl #[.pointer (some ⟨g436,0,none⟩),.int .i64 2] rfl eq_up ?_;(with_reducible refine (spec_l1Once.calls g436 t433 t446 t447 2 false t450 t451 w _ ?side1 ?side2 A4.out).mono ?_);(case side1 => repeat (first | (with_reducible first | exact HI436.out | apply IsS100.alloc | apply IsS100.drewN | apply IsS100.drew | apply IsS100.set_1 | apply IsS100.set_2 | refine IsS100.far ?_ NB436_432.out _ | refine IsS100.far ?_ NB436_448.out _) | exact HI436.out));(case side2 => repeat (first | (with_reducible first | exact HB.out | apply below_alloc | apply pw_below_drewN | apply below_drew1 | refine below_set ?_ (IsS100.ge HI436.out) | refine below_set ?_ GE432.out | refine below_set ?_ GE448.out) | exact HB.out));rintro e w27 ⟨rfl,hi,hb,hk⟩;refine ⟨_,rfl,?_⟩;have n0_ := Aside0.mk (KeepBut.blk hk (g' := gb432) (o := .cells #[.int .i64 0,.int .i64 0,.int .i64 0,.slice none 0 0] 31 (0,0)) (by (with_reducible repeat (first | refine blk_drewN ?_ _ | refine blk_drew ?_ | refine blk_alloc ?_ _));refine blk_far ?_ NB432_448.out _;(with_reducible repeat (first | refine blk_drewN ?_ _ | refine blk_drew ?_ | refine blk_alloc ?_ _));refine blk_far ?_ NB432_448.out _;(with_reducible repeat (first | refine blk_drewN ?_ _ | refine blk_drew ?_ | refine blk_alloc ?_ _));refine blk_far ?_ NB432_448.out _;(with_reducible repeat (first | refine blk_drewN ?_ _ | refine blk_drew ?_ | refine blk_alloc ?_ _));refine blk_far ?_ NB432_448.out _;(with_reducible repeat (first | refine blk_drewN ?_ _ | refine blk_drew ?_ | refine blk_alloc ?_ _));exact BK432.out) NB432_436.out (by simp));have n1_ := Aside0.mk (Kd.R_mono (Kd.R_keep (IsS100.apart (show IsS100 w _ g436 t433 t446 t447 from by repeat (first | (with_reducible first | exact HI436.out | apply IsS100.alloc | apply IsS100.drewN | apply IsS100.drew | apply IsS100.set_1 | apply IsS100.set_2 | refine IsS100.far ?_ NB436_432.out _ | refine IsS100.far ?_ NB436_448.out _) | exact HI436.out)) (by (with_reducible repeat (first | apply Kd.R_alloc | apply Kd.R_drewN | apply Kd.R_drew));exact (Kd.R_mono (Kd.R_far (p := ⟨gb448,3,none⟩) (Kd.R_far (p := ⟨gb448,2,none⟩) (Kd.R_far (p := ⟨gb448,1,none⟩) (Kd.R_far (p := ⟨gb448,0,none⟩) (Kd.R_types HO442.out BK448.out (by decide)) (fun _ hk => hk.2) (.int .i64 t437)) (fun _ hk => hk.2) (.int .i64 t438)) (fun _ hk => hk.2) (.int .i64 t439)) (fun _ hk => hk.2) (.slice Ao26 t440.length co26)) (fun _ h_ => h_.1))) (by decide)) hk (fun _ h => h.2)) (fun _ h => h.1));have n2_ := Aside0.mk (Kd.R_mono (Kd.R_keep (IsS100.apart (show IsS100 w _ g436 t433 t446 t447 from by repeat (first | (with_reducible first | exact HI436.out | apply IsS100.alloc | apply IsS100.drewN | apply IsS100.drew | apply IsS100.set_1 | apply IsS100.set_2 | refine IsS100.far ?_ NB436_432.out _ | refine IsS100.far ?_ NB436_448.out _) | exact HI436.out)) (by (with_reducible repeat (first | apply Kd.R_alloc | apply Kd.R_drewN | apply Kd.R_drew));exact (Kd.R_mono (Kd.R_far (p := ⟨gb448,3,none⟩) (Kd.R_far (p := ⟨gb448,2,none⟩) (Kd.R_far (p := ⟨gb448,1,none⟩) (Kd.R_far (p := ⟨gb448,0,none⟩) (Kd.R_types HO445.out BK448.out (by decide)) (fun _ hk => hk.2) (.int .i64 t437)) (fun _ hk => hk.2) (.int .i64 t438)) (fun _ hk => hk.2) (.int .i64 t439)) (fun _ hk => hk.2) (.slice Ao26 t440.length co26)) (fun _ h_ => h_.1))) (by decide)) hk (fun _ h => h.2)) (fun _ h => h.1));have n3_ := Aside0.mk (KeepBut.blk hk (g' := gb448) (o := .cells #[.int .i64 t437,.int .i64 t438,.int .i64 t439,.slice Ao26 t440.length co26] 31 (0,0)) (by (with_reducible repeat (first | refine blk_drewN ?_ _ | refine blk_drew ?_ | refine blk_alloc ?_ _));refine blk_put (cs := #[.int .i64 t437,.int .i64 t438,.int .i64 t439,.slice none 0 0]) ?_ 3 _ rfl;(with_reducible repeat (first | refine blk_drewN ?_ _ | refine blk_drew ?_ | refine blk_alloc ?_ _));refine blk_put (cs := #[.int .i64 t437,.int .i64 t438,.int .i64 0,.slice none 0 0]) ?_ 2 _ rfl;(with_reducible repeat (first | refine blk_drewN ?_ _ | refine blk_drew ?_ | refine blk_alloc ?_ _));refine blk_put (cs := #[.int .i64 t437,.int .i64 0,.int .i64 0,.slice none 0 0]) ?_ 1 _ rfl;(with_reducible repeat (first | refine blk_drewN ?_ _ | refine blk_drew ?_ | refine blk_alloc ?_ _));refine blk_put (cs := #[.int .i64 0,.int .i64 0,.int .i64 0,.slice none 0 0]) ?_ 0 _ rfl;(with_reducible repeat (first | refine blk_drewN ?_ _ | refine blk_drew ?_ | refine blk_alloc ?_ _));exact BK448.out) NB448_436.out (by simp));have n4_ := Aside0.mk (hb);have n5_ := Aside0.mk (hi);clear BK432;clear HO442;clear HO445;clear BK448;clear HB;clear HI436;have BK432 := n0_;have HO442 := n1_;have HO445 := n2_;have BK448 := n3_;have HB := n4_;have HI436 := n5_;clear n0_ n1_ n2_ n3_ n4_ n5_;(try clear hb);(try clear hb2);(try clear hk);(try clear hi)))
  have n0_ := Aside0.mk (Kd.R_drew HO442.out)
  have n1_ := Aside0.mk (Kd.R_drew HO445.out)
  have n2_ := Aside0.mk (blk_drew BK432.out)
  have n3_ := Aside0.mk (blk_drew BK448.out)
  have n4_ := Aside0.mk (IsS100.drew HI436.out)
  have n5_ := Aside0.mk (below_drew1 HB.out)
  clear HO442
  clear HO445
  clear BK432
  clear BK448
  clear HI436
  clear HB
  have HO442 := n0_
  have HO445 := n1_
  have BK432 := n2_
  have BK448 := n3_
  have HI436 := n4_
  have HB := n5_
  clear n0_ n1_ n2_ n3_ n4_ n5_
  obtain ⟨Ao29,co29,eo29⟩ := Kd.R_slice HO445.out
  (first | subst eo29 | (injection eo29 with f1_ f2_ f3_;have f4_ := f1_.symm;have f5_ := f3_.symm;clear f1_ f2_ f3_;subst f4_;subst f5_))
  refine start_ (n := 6) (S := fun w' => w'.cell? ⟨gb448,0,none⟩ = some (.int .i64 t437) ∧ w'.cell? ⟨gb448,1,none⟩ = some (.int .i64 t438) ∧ w'.cell? ⟨gb448,2,none⟩ = some (.int .i64 t439) ∧ w'.cell? ⟨gb448,3,none⟩ = some (.slice Ao26 t440.length co26)) (ds := []) #[false,false,false,false,false,false] (by kernel_rfl) rfl rfl ⟨(blk_cell BK448.out 0).trans rfl,(blk_cell BK448.out 1).trans rfl,(blk_cell BK448.out 2).trans rfl,(blk_cell BK448.out 3).trans rfl⟩ (fun hHeld => ?_)
  generalize w27.drew = w28 at HO442 HO445 BK432 BK448 HI436 HB hHeld ⊢
  refine pure_ (i := 1) (N := some 19) (v := ?_) (a' := ?_) #[false,true,false,false,false,false] rfl rfl (by kernel_rfl) (fun _ _ _ h => h) (Or.inl ⟨by rfl,?_⟩) ?_ ?_
  rotate_left
  ·intro w'
   go_simp
   with_reducible rfl
  rotate_left
  ·simp only [Act.put,List.setIfInBounds_toArray,List.set_cons_zero,List.set_cons_succ,i64_w,i32_w]
   rfl
  refine pure_ (i := 2) (N := some 20) (v := ?_) (a' := ?_) #[false,true,true,false,false,false] rfl rfl (by kernel_rfl) (fun _ _ _ h => h) (Or.inl ⟨by rfl,?_⟩) ?_ ?_
  rotate_left
  ·intro w'
   go_simp
   with_reducible rfl
  rotate_left
  ·simp only [Act.put,List.setIfInBounds_toArray,List.set_cons_zero,List.set_cons_succ,i64_w,i32_w]
   rfl
  refine take_ (i := 0) (N := some 18) (v := ?_) (a' := ?_) #[true,true,true,false,false,false] rfl rfl (by kernel_rfl) (fun _ _ _ h => h) (Or.inl ⟨by rfl,?_⟩) hHeld ?_ ?_
  rotate_left
  ·rintro w' ⟨s0,s1,s2,s3⟩
   go_simp
   with_reducible rfl
  rotate_left
  ·simp only [Act.put,List.setIfInBounds_toArray,List.set_cons_zero,List.set_cons_succ,i64_w,i32_w]
   rfl
  refine one_ (i := 3) (N := some 21) #[true,true,true,true,false,false] rfl rfl (by kernel_rfl) (by decide) (fun K hK => ?_)
  refine goes_ Try.func87 (by kernel_rfl) rfl #[.pointer (some ⟨g436,0,none⟩),.slice Ao29 t443.length co29] (by rfl) rfl rfl eq_up ?_
  with_reducible refine (spec_l1Bent.calls g436 t433 t450 t451 _ _ t443 t452 t455 t456 w _ ?side1 ?side2 ?side3 ?side4 ?side5 A18.out).mono ?_
  (case side1 => repeat (first | (with_reducible first | exact HI436.out | apply IsS100.alloc | apply IsS100.drewN | apply IsS100.drew | apply IsS100.set_1 | apply IsS100.set_2 | refine IsS100.far ?_ NB436_432.out _ | refine IsS100.far ?_ NB436_448.out _) | exact HI436.out))
  (case side2 => repeat (first | (with_reducible first | exact HB.out | apply below_alloc | apply pw_below_drewN | apply below_drew1 | refine below_set ?_ (IsS100.ge HI436.out) | refine below_set ?_ GE432.out | refine below_set ?_ GE448.out) | exact HB.out))
  (case side3 => exact Kd.C_up (Kd.R_reads' HO445.out).2.2)
  (case side4 => exact (Kd.R_reads' HO445.out).2.1)
  (case side5 => exact far_slice (IsS100.own_ne HI436.out HO445.out (by decide)))
  rintro e w30 ⟨v453,rfl,ho0,hi,hb,hk⟩
  refine ⟨_,rfl,?_⟩
  have n0_ := Aside0.mk (KeepBut.blk hk (g' := gb432) (o := .cells #[.int .i64 0,.int .i64 0,.int .i64 0,.slice none 0 0] 31 (0,0)) (blk_up BK432.out) NB432_436.out (by simp))
  have n1_ := Aside0.mk (Kd.R_mono (Kd.R_keep (IsS100.apart (show IsS100 w _ g436 t433 t450 t451 from by repeat (first | (with_reducible first | exact HI436.out | apply IsS100.alloc | apply IsS100.drewN | apply IsS100.drew | apply IsS100.set_1 | apply IsS100.set_2 | refine IsS100.far ?_ NB436_432.out _ | refine IsS100.far ?_ NB436_448.out _) | exact HI436.out)) (Kd.R_up HO442.out) (by decide)) hk (fun _ h => h.2)) (fun _ h => h.1))
  have n2_ := Aside0.mk (Kd.R_mono (Kd.R_told (Kd.R_oldK (IsS100.apart (show IsS100 w _ g436 t433 t450 t451 from by repeat (first | (with_reducible first | exact HI436.out | apply IsS100.alloc | apply IsS100.drewN | apply IsS100.drew | apply IsS100.set_1 | apply IsS100.set_2 | refine IsS100.far ?_ NB436_432.out _ | refine IsS100.far ?_ NB436_448.out _) | exact HI436.out)) (Kd.R_up HO445.out) (by decide)) hk) (Kd.R_base ho0)) (fun _ h_ => h_.1))
  have n3_ := Aside0.mk (KeepBut.blk hk (g' := gb448) (o := .cells #[.int .i64 t437,.int .i64 t438,.int .i64 t439,.slice Ao26 t440.length co26] 31 (0,0)) (blk_up BK448.out) NB448_436.out (by simp))
  have n4_ := Aside0.mk (Kd.R_lower (Kd.R_new' ho0 (Kd.R_lt (Kd.R_up HO445.out))) (below_size (by repeat (first | (with_reducible first | exact HB.out | apply below_alloc | apply pw_below_drewN | apply below_drew1 | refine below_set ?_ (IsS100.ge HI436.out) | refine below_set ?_ GE432.out | refine below_set ?_ GE448.out) | exact HB.out))))
  have n5_ := Aside0.mk (hb)
  have n6_ := Aside0.mk (hi)
  clear BK432
  clear HO442
  clear HO445
  clear BK448
  clear HB
  clear HI436
  have BK432 := n0_
  have HO442 := n1_
  have HO445 := n2_
  have BK448 := n3_
  have HO454 := n4_
  have HB := n5_
  have HI436 := n6_
  clear n0_ n1_ n2_ n3_ n4_ n5_ n6_
  (try clear hb)
  (try clear hb2)
  (try clear hk)
  (try clear hi)
  (try clear ho0)
  refine hK.out _ _ ⟨(blk_cell BK448.out 0).trans rfl,(blk_cell BK448.out 1).trans rfl,(blk_cell BK448.out 2).trans rfl,(blk_cell BK448.out 3).trans rfl⟩ (fun hHeld => ?_)
  clear hK K
  refine norm_ (a' := ?_) ?_ ?_
  rotate_left
  ·show Act.put _ (some 21) _ = _
   simp only [Act.put,List.setIfInBounds_toArray,List.set_cons_zero,List.set_cons_succ,i64_w,i32_w]
   rfl
  refine one_ (i := 4) (N := none) #[true,true,true,true,true,false] rfl rfl (by kernel_rfl) (by decide) (fun K hK => ?_)
  have hs31 : w30.cell? ⟨gb432,0,none⟩ = some (.int .i64 0) := (blk_cell BK432.out 0).trans rfl
  have hfs31 := blk_frozen BK432.out 0
  have hns31_1 := NB448_432.out
  have hms31_1 := NB432_448.out
  have hs32 : w30.cell? ⟨gb432,1,none⟩ = some (.int .i64 0) := (blk_cell BK432.out 1).trans rfl
  have hfs32 := blk_frozen BK432.out 1
  have hns32_1 := NB448_432.out
  have hms32_1 := NB432_448.out
  have hs33 : w30.cell? ⟨gb432,2,none⟩ = some (.int .i64 0) := (blk_cell BK432.out 2).trans rfl
  have hfs33 := blk_frozen BK432.out 2
  have hns33_1 := NB448_432.out
  have hms33_1 := NB432_448.out
  have hs34 : w30.cell? ⟨gb432,3,none⟩ = some (.slice none 0 0) := (blk_cell BK432.out 3).trans rfl
  have hfs34 := blk_frozen BK432.out 3
  have hns34_1 := NB448_432.out
  have hms34_1 := NB432_448.out
  refine skip_ (w1 := ?_) (by rfl) rfl ?_ ?_
  rotate_left
  ·go_simp
   rfl
  refine hK.out _ _ ⟨((cell_far (p := ⟨gb432,_,none⟩) NB448_432.out _).trans (((cell_far (p := ⟨gb432,_,none⟩) NB448_432.out _).trans (((cell_far (p := ⟨gb432,_,none⟩) NB448_432.out _).trans (((cell_far (p := ⟨gb432,_,none⟩) NB448_432.out _).trans (hHeld.1)))))))),((cell_far (p := ⟨gb432,_,none⟩) NB448_432.out _).trans (((cell_far (p := ⟨gb432,_,none⟩) NB448_432.out _).trans (((cell_far (p := ⟨gb432,_,none⟩) NB448_432.out _).trans (((cell_far (p := ⟨gb432,_,none⟩) NB448_432.out _).trans (hHeld.2.1)))))))),((cell_far (p := ⟨gb432,_,none⟩) NB448_432.out _).trans (((cell_far (p := ⟨gb432,_,none⟩) NB448_432.out _).trans (((cell_far (p := ⟨gb432,_,none⟩) NB448_432.out _).trans (((cell_far (p := ⟨gb432,_,none⟩) NB448_432.out _).trans (hHeld.2.2.1)))))))),((cell_far (p := ⟨gb432,_,none⟩) NB448_432.out _).trans (((cell_far (p := ⟨gb432,_,none⟩) NB448_432.out _).trans (((cell_far (p := ⟨gb432,_,none⟩) NB448_432.out _).trans (((cell_far (p := ⟨gb432,_,none⟩) NB448_432.out _).trans (hHeld.2.2.2))))))))⟩ (fun hHeld => ?_)
  clear hK K
  refine pure_ (i := 5) (N := some 3) (v := ?_) (a' := ?_) #[true,true,true,true,true,true] rfl rfl (by kernel_rfl) (fun _ _ _ h => h) (Or.inl ⟨by rfl,?_⟩) ?_ ?_
  rotate_left
  ·intro w'
   go_simp
   with_reducible rfl
  rotate_left
  ·simp only [Act.put,List.setIfInBounds_toArray,List.set_cons_zero,List.set_cons_succ,i64_w,i32_w]
   rfl
  refine done_ (by kernel_rfl) ?_
  try go_wp2
  refine bodyPost_ret (results_ct rfl _ _ gb432 31 #[.int .i64 t437,.int .i64 t438,.int .i64 t439,.slice Ao26 t440.length co26] (0,0) _ rfl (by (with_reducible repeat (first | refine blk_drewN ?_ _ | refine blk_drew ?_ | refine blk_alloc ?_ _));refine blk_put (cs := #[.int .i64 t437,.int .i64 t438,.int .i64 t439,.slice none 0 0]) ?_ 3 _ rfl;(with_reducible repeat (first | refine blk_drewN ?_ _ | refine blk_drew ?_ | refine blk_alloc ?_ _));refine blk_put (cs := #[.int .i64 t437,.int .i64 t438,.int .i64 0,.slice none 0 0]) ?_ 2 _ rfl;(with_reducible repeat (first | refine blk_drewN ?_ _ | refine blk_drew ?_ | refine blk_alloc ?_ _));refine blk_put (cs := #[.int .i64 t437,.int .i64 0,.int .i64 0,.slice none 0 0]) ?_ 1 _ rfl;(with_reducible repeat (first | refine blk_drewN ?_ _ | refine blk_drew ?_ | refine blk_alloc ?_ _));refine blk_put (cs := #[.int .i64 0,.int .i64 0,.int .i64 0,.slice none 0 0]) ?_ 0 _ rfl;(with_reducible repeat (first | refine blk_drewN ?_ _ | refine blk_drew ?_ | refine blk_alloc ?_ _));exact BK432.out) Try.underlying31 rfl (by kernel_rfl)) rfl ?_
  exact ⟨_,_,by first | rfl | (simp [errW_none,errW_some] <;> rfl) | (simp [*,errW_none,errW_some] <;> rfl),by (with_reducible repeat (first | apply Kd.R_alloc | apply Kd.R_drewN | apply Kd.R_drew));exact Kd.R_mono (Kd.R_far (p := ⟨gb432,3,none⟩) (Kd.R_far (p := ⟨gb432,2,none⟩) (Kd.R_far (p := ⟨gb432,1,none⟩) (Kd.R_far (p := ⟨gb432,0,none⟩) (Kd.R_types HO442.out BK432.out (by decide)) (fun _ hk => hk.2) (.int .i64 t437)) (fun _ hk => hk.2) (.int .i64 t438)) (fun _ hk => hk.2) (.int .i64 t439)) (fun _ hk => hk.2) (.slice Ao26 t440.length co26)) (fun _ hk => trivial),by (with_reducible repeat (first | apply Kd.R_alloc | apply Kd.R_drewN | apply Kd.R_drew));exact Kd.R_mono (Kd.R_far (p := ⟨gb432,3,none⟩) (Kd.R_far (p := ⟨gb432,2,none⟩) (Kd.R_far (p := ⟨gb432,1,none⟩) (Kd.R_far (p := ⟨gb432,0,none⟩) (Kd.R_types HO454.out BK432.out (by decide)) (fun _ hk => hk.2) (.int .i64 t437)) (fun _ hk => hk.2) (.int .i64 t438)) (fun _ hk => hk.2) (.int .i64 t439)) (fun _ hk => hk.2) (.slice Ao26 t440.length co26)) (fun _ hk => trivial),by repeat (first | (with_reducible first | exact HB.out | apply below_alloc | apply pw_below_drewN | apply below_drew1 | refine below_set ?_ (IsS100.ge HI436.out) | refine below_set ?_ GE432.out | refine below_set ?_ GE448.out) | exact HB.out)⟩

/-! ### laws_sameSums: function 88 -/
def laws_sameSums.l0 : Nat → List (S66) → List (S66) → Int → Option (Bool)
 | 0,_,_,_ => none
 | k + 1,x0,x1,x5 => if x5 < (x0.length : Int) then (if 0 ≤ x5 then (if x5 < (x1.length : Int) then (if (!(((rd_T66 x0 x5).f0) == ((rd_T66 x1 x5).f0)) || (!(((rd_T66 x0 x5).f1) == ((rd_T66 x1 x5).f1)))) = true then (some false) else (laws_sameSums.l0 k x0 x1 (wrap64 (x5 + 1)))) else (none)) else (none)) else (some true)
def laws_sameSums.f (k : Nat) (l0 : List (S66)) (l1 : List (S66)) : Option (Bool) := if (l0.length : Int) = (l1.length : Int) then (laws_sameSums.l0 k l0 l1 0) else (some false)
theorem laws_sameSums.mono_l : ∀ k,(∀ y0 y1 y2,LeO (laws_sameSums.l0 k y0 y1 y2) (laws_sameSums.l0 (k + 1) y0 y1 y2))
 | 0 => fun _ _ _ r h => by simp [laws_sameSums.l0] at h
 | k + 1 => by
  have ih0 := laws_sameSums.mono_l k
  ·intro y0 y1 y2
   unfold laws_sameSums.l0
   repeat' first
   | (with_reducible exact ih0 _ _ _)
   | (with_reducible exact LeO.refl _)
   | (with_reducible exact LeO.none _)
   | (with_reducible refine LeO.ite ?_ ?_)
   | (with_reducible refine LeO.bind ?_ (fun _ => ?_))
   | exact ih0 _ _ _
   | exact LeO.none _
   | refine LeO.ite ?_ ?_
   | refine LeO.bind ?_ (fun _ => ?_)
theorem laws_sameSums.mono : ∀ a0 a1 k,LeO (laws_sameSums.f k a0 a1) (laws_sameSums.f (k + 1) a0 a1) := by
 intro a0 a1 k
 have ih0 := laws_sameSums.mono_l k
 unfold laws_sameSums.f
 repeat' first
   | (with_reducible exact ih0 _ _ _)
   | (with_reducible exact LeO.refl _)
   | (with_reducible exact LeO.none _)
   | (with_reducible refine LeO.ite ?_ ?_)
   | (with_reducible refine LeO.bind ?_ (fun _ => ?_))
   | exact ih0 _ _ _
   | exact LeO.none _
   | refine LeO.ite ?_ ?_
   | refine LeO.bind ?_ (fun _ => ?_)
set_option maxHeartbeats 8000000 in
set_option maxRecDepth 100000 in
theorem laws_sameSums.calls (k : Nat) (A0 : Option Addr) (c0 : Nat) (l0 : List (S66)) (A1 : Option Addr) (c1 : Nat) (l1 : List (S66)) (r : Bool) (w : World) (hr0 : Kd.C k66 w A0 l0.length l0) (hc0 : l0.length ≤ c0) (hr1 : Kd.C k66 w A1 l1.length l1) (hc1 : l1.length ≤ c1) (h : laws_sameSums.f k l0 l1 = some r) :
  Calls Try.prog 88 #[.slice A0 l0.length c0,.slice A1 l1.length c1] w fun e w' => e = .returned (.bool r) ∧ Drawn0 w w' := by
 have hu66 := Try.underlying66
 have hf66_0 : ∀ (a_ b_ : Int) (W_ : World),(Instr.field 66 (.agg #[.int .i64 a_,.int .i64 b_]) 0).run Try.prog W_ = .ok (.int .i64 a_) W_ := fun _ _ _ => by kernel_rfl
 have hf66_1 : ∀ (a_ b_ : Int) (W_ : World),(Instr.field 66 (.agg #[.int .i64 a_,.int .i64 b_]) 1).run Try.prog W_ = .ok (.int .i64 b_) W_ := fun _ _ _ => by kernel_rfl
 have HR0 := Aside0.mk hr0
 have HC0 := Aside0.mk hc0
 clear hr0 hc0
 have HR1 := Aside0.mk hr1
 have HC1 := Aside0.mk hc1
 clear hr1 hc1
 have H : (if (l0.length : Int) = (l1.length : Int) then (laws_sameSums.l0 k l0 l1 0) else (some false)) = some r := h
 clear h
 by_cases c3 : (l0.length : Int) = (l1.length : Int)
 ·rw [if_pos c3] at H
  have c3b0 : ((l0.length : Int) == (l1.length : Int)) = true := beq_iff_eq.mpr c3
  have c3b1 : ((l0.length : Int) != (l1.length : Int)) = false := bne_eq_false_iff_eq.mpr c3
  have c3b2 : (l0.length == l1.length) = true := by first | simpa using c3 | (simp at c3 ⊢;omega)
  clear c3
  have H' := Aside0.mk H
  clear H
  go_enter Try.func88,Try.ntmps88
  go_wp2
  repeat (go_quiet (fail);try go_wp2)
  go_loopg [5] k (fun kq v5 w' => ∃ (x5_1 : Int),v5 = .int .i64 x5_1 ∧ Aside0 (laws_sameSums.l0 kq l0 l1 x5_1 = some r) ∧ Aside0 (kq ≤ k) ∧ Drawn0 w w')
  case atStart => exact ⟨(0),(by first | rfl | (simp;done) | (simp [*];done)),H',⟨Nat.le_refl _⟩,by repeat (first | exact Drawn0.refl _ | apply Drawn0.step)⟩
  case round =>
   clear H'
   try clear c1
   try clear p2
   try clear c3
   try clear c3b0
   try clear c3b1
   try clear c3b2
   obtain ⟨x5_1,rfl,HA,HK1,⟨m1,rfl⟩⟩ := hrel
   cases gk with
   | zero => exact absurd HA.out (by simp [laws_sameSums.l0])
   | succ k1 =>
    have H := HA.out
    clear HA
    simp only [laws_sameSums.l0] at H
    by_cases c4 : x5_1 < (l0.length : Int)
    ·rw [if_pos c4] at H
     have c4b0 : decide (x5_1 < (l0.length : Int)) = true := decide_eq_true c4
     clear c4
     by_cases c5 : 0 ≤ x5_1
     ·rw [if_pos c5] at H
      have c5b0 : decide (0 ≤ x5_1) = true := decide_eq_true c5
      clear c5
      by_cases c6 : x5_1 < (l1.length : Int)
      ·rw [if_pos c6] at H
       have c6b0 : decide (x5_1 < (l1.length : Int)) = true := decide_eq_true c6
       clear c6
       by_cases c7 : (!(((rd_T66 l0 x5_1).f0) == ((rd_T66 l1 x5_1).f0)) || (!(((rd_T66 l0 x5_1).f1) == ((rd_T66 l1 x5_1).f1)))) = true
       ·rw [if_pos c7] at H
        have c7b0 : (!(((rd_T66 l0 x5_1).f0) == ((rd_T66 l1 x5_1).f0)) || (!(((rd_T66 l0 x5_1).f1) == ((rd_T66 l1 x5_1).f1)))) = true := c7
        clear c7
        obtain rfl := Option.some.inj H
        have p457 : 0 ≤ (x5_1 : Int) := of_decide_eq_true (by first | (with_reducible assumption) | assumption)
        have q457 : x5_1 < (l0.length : Int) := of_decide_eq_true (by first | (with_reducible assumption) | assumption)
        obtain ⟨ad457,e457,hx457_0,hx457_1⟩ := at_T66 HR0.out x5_1 p457 q457
        cases e457
        replace p457 := eq_true p457
        replace q457 := eq_true q457
        have p458 : 0 ≤ (x5_1 : Int) := of_decide_eq_true (by first | (with_reducible assumption) | assumption)
        have q458 : x5_1 < (l1.length : Int) := of_decide_eq_true (by first | (with_reducible assumption) | assumption)
        obtain ⟨ad458,e458,hx458_0,hx458_1⟩ := at_T66 HR1.out x5_1 p458 q458
        cases e458
        replace p458 := eq_true p458
        replace q458 := eq_true q458
        go_wp2
        repeat (go_quiet (fail);try go_wp2)
        go_ret
        exact ⟨by first | rfl | (simp;done) | (simp [*];done),by repeat (first | exact Drawn0.refl _ | apply Drawn0.step)⟩
       ·rw [if_neg c7] at H
        have c7b0 : (!(((rd_T66 l0 x5_1).f0) == ((rd_T66 l1 x5_1).f0)) || (!(((rd_T66 l0 x5_1).f1) == ((rd_T66 l1 x5_1).f1)))) = false := by simpa using c7
        clear c7
        have H' := Aside0.mk H
        clear H
        have p457 : 0 ≤ (x5_1 : Int) := of_decide_eq_true (by first | (with_reducible assumption) | assumption)
        have q457 : x5_1 < (l0.length : Int) := of_decide_eq_true (by first | (with_reducible assumption) | assumption)
        obtain ⟨ad457,e457,hx457_0,hx457_1⟩ := at_T66 HR0.out x5_1 p457 q457
        cases e457
        replace p457 := eq_true p457
        replace q457 := eq_true q457
        have p458 : 0 ≤ (x5_1 : Int) := of_decide_eq_true (by first | (with_reducible assumption) | assumption)
        have q458 : x5_1 < (l1.length : Int) := of_decide_eq_true (by first | (with_reducible assumption) | assumption)
        obtain ⟨ad458,e458,hx458_0,hx458_1⟩ := at_T66 HR1.out x5_1 p458 q458
        cases e458
        replace p458 := eq_true p458
        replace q458 := eq_true q458
        go_wp2
        repeat (go_quiet (fail);try go_wp2)
        go_roundg k1
        case measure => have := HK1.out;omega
        case rel => exact ⟨(wrap64 (x5_1 + 1)),(by first | rfl | (simp;done) | (simp [*];done)),H',⟨by have := HK1.out;omega⟩,by repeat (first | exact Drawn0.refl _ | apply Drawn0.step)⟩
      ·rw [if_neg c6] at H
       exact absurd H (by simp)
     ·rw [if_neg c5] at H
      exact absurd H (by simp)
    ·rw [if_neg c4] at H
     have c4b0 : decide (x5_1 < (l0.length : Int)) = false := decide_eq_false c4
     clear c4
     obtain rfl := Option.some.inj H
     go_wp2
     repeat (go_quiet (fail);try go_wp2)
     go_ret
     exact ⟨by first | rfl | (simp;done) | (simp [*];done),by repeat (first | exact Drawn0.refl _ | apply Drawn0.step)⟩
 ·rw [if_neg c3] at H
  have c3b0 : ((l0.length : Int) == (l1.length : Int)) = false := beq_eq_false_iff_ne.mpr c3
  have c3b1 : ((l0.length : Int) != (l1.length : Int)) = true := bne_iff_ne.mpr c3
  have c3b2 : (l0.length == l1.length) = false := by first | simpa using c3 | (simp at c3 ⊢;omega)
  obtain rfl := Option.some.inj H
  go_enter Try.func88,Try.ntmps88
  go_wp2
  repeat (go_quiet (fail);try go_wp2)
  go_ret
  exact ⟨by first | rfl | (simp;done) | (simp [*];done),by repeat (first | exact Drawn0.refl _ | apply Drawn0.step)⟩

/-! ### laws_sameMan: function 39 -/
def laws_sameMan.f (k : Nat) (a0_0 : Int) (a0_1 : Int) (a0_2 : Int) (l0_3 : List (S66)) (a1_0 : Int) (a1_1 : Int) (a1_2 : Int) (l1_3 : List (S66)) : Option (Bool) := if a0_0 = a1_0 then (if a0_1 = a1_1 then (if a0_2 = a1_2 then ((laws_sameSums.f k l0_3 l1_3).bind fun t461 => (some t461)) else (some false)) else (some false)) else (some false)
theorem laws_sameMan.mono : ∀ a0 a1 a2 a3 a4 a5 a6 a7 k,LeO (laws_sameMan.f k a0 a1 a2 a3 a4 a5 a6 a7) (laws_sameMan.f (k + 1) a0 a1 a2 a3 a4 a5 a6 a7) := by
 intro a0 a1 a2 a3 a4 a5 a6 a7 k
 unfold laws_sameMan.f
 repeat' first
   | (with_reducible exact laws_sameSums.mono _ _ _)
   | (with_reducible exact LeO.refl _)
   | (with_reducible exact LeO.none _)
   | (with_reducible refine LeO.ite ?_ ?_)
   | (with_reducible refine LeO.bind ?_ (fun _ => ?_))
   | exact laws_sameSums.mono _ _ _
   | exact LeO.none _
   | refine LeO.ite ?_ ?_
   | refine LeO.bind ?_ (fun _ => ?_)
set_option maxHeartbeats 8000000 in
set_option maxRecDepth 100000 in
theorem laws_sameMan.calls (k : Nat) (a0_0 : Int) (a0_1 : Int) (a0_2 : Int) (A0_3 : Option Addr) (c0_3 : Nat) (l0_3 : List (S66)) (a1_0 : Int) (a1_1 : Int) (a1_2 : Int) (A1_3 : Option Addr) (c1_3 : Nat) (l1_3 : List (S66)) (r : Bool) (w : World) (hr0_3 : Kd.C k66 w A0_3 l0_3.length l0_3) (hc0_3 : l0_3.length ≤ c0_3) (hr1_3 : Kd.C k66 w A1_3 l1_3.length l1_3) (hc1_3 : l1_3.length ≤ c1_3) (h : laws_sameMan.f k a0_0 a0_1 a0_2 l0_3 a1_0 a1_1 a1_2 l1_3 = some r) :
  Calls Try.prog 39 #[.agg #[.int .i64 a0_0,.int .i64 a0_1,.int .i64 a0_2,.slice A0_3 l0_3.length c0_3],.agg #[.int .i64 a1_0,.int .i64 a1_1,.int .i64 a1_2,.slice A1_3 l1_3.length c1_3]] w fun e w' => e = .returned (.bool r) ∧ Below w.heap.size w w' := by
 have hu31 := Try.underlying31
 have HR0_3 := Aside0.mk hr0_3
 have HC0_3 := Aside0.mk hc0_3
 clear hr0_3 hc0_3
 have HR1_3 := Aside0.mk hr1_3
 have HC1_3 := Aside0.mk hc1_3
 clear hr1_3 hc1_3
 have HB := Aside0.mk (Below.refl w.heap.size w)
 have H : (if a0_0 = a1_0 then (if a0_1 = a1_1 then (if a0_2 = a1_2 then ((laws_sameSums.f k l0_3 l1_3).bind fun t461 => (some t461)) else (some false)) else (some false)) else (some false)) = some r := h
 clear h
 by_cases c3 : a0_0 = a1_0
 ·rw [if_pos c3] at H
  have c3b0 : (a0_0 == a1_0) = true := beq_iff_eq.mpr c3
  have c3b1 : (a0_0 != a1_0) = false := bne_eq_false_iff_eq.mpr c3
  clear c3
  by_cases c4 : a0_1 = a1_1
  ·rw [if_pos c4] at H
   have c4b0 : (a0_1 == a1_1) = true := beq_iff_eq.mpr c4
   have c4b1 : (a0_1 != a1_1) = false := bne_eq_false_iff_eq.mpr c4
   clear c4
   by_cases c5 : a0_2 = a1_2
   ·rw [if_pos c5] at H
    have c5b0 : (a0_2 == a1_2) = true := beq_iff_eq.mpr c5
    have c5b1 : (a0_2 != a1_2) = false := bne_eq_false_iff_eq.mpr c5
    clear c5
    replace H := Option.bind_eq_some_iff.mp H
    obtain ⟨t461,A60,H⟩ := H
    replace H : (some t461) = some r := H
    have A6 := Aside0.mk A60
    clear A60
    obtain rfl := Option.some.inj H
    go_enter Try.func39,Try.ntmps39
    go_wp2_with (first | ((with_reducible refine gate_dst (N := 2) rfl ?_);refine box_event ?hg (N := 2) ?hd (cs := #[.int .i64 a0_0,.int .i64 a0_1,.int .i64 a0_2,.slice A0_3 l0_3.length c0_3]) (t := 31) ?hr ?_;(case hd => rfl);(case hg => rfl);(case hr => first | (go_simp;done) | (go_simp;rfl));intro gb459 hg w7 hbox hb;have n0_ := Aside0.mk (below_step (B_up HB.out) hb);have n1_ := Aside0.mk (hbox);have n2_ := Aside0.mk ((by rw [hg];exact (below_size (B_up HB.out)) : w.heap.size ≤ gb459));have n3_ := Aside0.mk ((by rw [hg];exact (below_size (B_up HB.out)) : w.heap.size ≤ gb459));clear HB;have HB := n0_;have BK459 := n1_;have GW459 := n2_;have GE459 := n3_;clear n0_ n1_ n2_ n3_;clear hb hbox hg) | ((with_reducible refine gate_dst (N := 3) rfl ?_);refine box_event ?hg (N := 3) ?hd (cs := #[.int .i64 a1_0,.int .i64 a1_1,.int .i64 a1_2,.slice A1_3 l1_3.length c1_3]) (t := 31) ?hr ?_;(case hd => rfl);(case hg => rfl);(case hr => first | (go_simp;done) | (go_simp;rfl));intro gb460 hg w8 hbox hb;have n0_ := Aside0.mk (blk_below (g := gb459) (o := .cells #[.int .i64 a0_0,.int .i64 a0_1,.int .i64 a0_2,.slice A0_3 l0_3.length c0_3] 31 (0,0)) (blk_up BK459.out) hb);have n1_ := Aside0.mk (below_step (B_set HB.out) hb);have n2_ := Aside0.mk (hbox);have n3_ := Aside0.mk ((by rw [hg];exact (below_size (B_set HB.out)) : w.heap.size ≤ gb460));have n4_ := Aside0.mk ((by rw [hg];exact (below_size (B_set HB.out)) : w.heap.size ≤ gb460));have n5_ := Aside0.mk ((by rw [hg];exact Nat.ne_of_lt (blk_lt (g := gb459) (o := .cells #[.int .i64 a0_0,.int .i64 a0_1,.int .i64 a0_2,.slice A0_3 l0_3.length c0_3] 31 (0,0)) (blk_up BK459.out)) : gb459 ≠ gb460));have n6_ := Aside0.mk ((by rw [hg];exact Nat.ne_of_gt (blk_lt (g := gb459) (o := .cells #[.int .i64 a0_0,.int .i64 a0_1,.int .i64 a0_2,.slice A0_3 l0_3.length c0_3] 31 (0,0)) (blk_up BK459.out)) : gb460 ≠ gb459));clear BK459;clear HB;have BK459 := n0_;have HB := n1_;have BK460 := n2_;have GW460 := n3_;have GE460 := n4_;have NB459_460 := n5_;have NB460_459 := n6_;clear n0_ n1_ n2_ n3_ n4_ n5_ n6_;clear hb hbox hg;have hnb9 := NB459_460.out;have hnc9 := NB460_459.out;have hcz10_0 : w8.cell? ⟨gb459,0,none⟩ = some (.int .i64 a0_0) := (blk_cell BK459.out 0).trans rfl;have hcz10_1 : w8.cell? ⟨gb459,1,none⟩ = some (.int .i64 a0_1) := (blk_cell BK459.out 1).trans rfl;have hcz10_2 : w8.cell? ⟨gb459,2,none⟩ = some (.int .i64 a0_2) := (blk_cell BK459.out 2).trans rfl;have hcz10_3 : w8.cell? ⟨gb459,3,none⟩ = some (.slice A0_3 l0_3.length c0_3) := (blk_cell BK459.out 3).trans rfl;have hfz10_0 := blk_frozen BK459.out 0;have hfz10_1 := blk_frozen BK459.out 1;have hfz10_2 := blk_frozen BK459.out 2;have hfz10_3 := blk_frozen BK459.out 3;have hcz11_0 : w8.cell? ⟨gb460,0,none⟩ = some (.int .i64 a1_0) := (blk_cell BK460.out 0).trans rfl;have hcz11_1 : w8.cell? ⟨gb460,1,none⟩ = some (.int .i64 a1_1) := (blk_cell BK460.out 1).trans rfl;have hcz11_2 : w8.cell? ⟨gb460,2,none⟩ = some (.int .i64 a1_2) := (blk_cell BK460.out 2).trans rfl;have hcz11_3 : w8.cell? ⟨gb460,3,none⟩ = some (.slice A1_3 l1_3.length c1_3) := (blk_cell BK460.out 3).trans rfl;have hfz11_0 := blk_frozen BK460.out 0;have hfz11_1 := blk_frozen BK460.out 1;have hfz11_2 := blk_frozen BK460.out 2;have hfz11_3 := blk_frozen BK460.out 3) | (go_at_call 88;(with_reducible refine (laws_sameSums.calls k _ _ l0_3 _ _ l1_3 t461 _ ?side1 ?side2 ?side3 ?side4 A6.out).mono ?_);(case side1 => repeat (first | exact (Kd.C_below HR0_3.out HB.out) | (with_reducible refine Kd.C_alloc ?_ _) | (with_reducible refine Kd.C_drewN ?_ _) | (with_reducible refine Kd.C_drew ?_)));(case side2 => exact HC0_3.out);(case side3 => repeat (first | exact (Kd.C_below HR1_3.out HB.out) | (with_reducible refine Kd.C_alloc ?_ _) | (with_reducible refine Kd.C_drewN ?_ _) | (with_reducible refine Kd.C_drew ?_)));(case side4 => exact HC1_3.out);rintro e w' ⟨rfl,⟨nd,rfl⟩⟩))
    go_ret
    exact ⟨by first | rfl | (simp [errW_none,errW_some] <;> rfl) | (simp [*,errW_none,errW_some] <;> rfl),by repeat (first | (with_reducible first | exact HB.out | apply below_alloc | apply pw_below_drewN | apply below_drew1 | refine below_set ?_ GE459.out | refine below_set ?_ GE460.out) | exact HB.out)⟩
   ·rw [if_neg c5] at H
    have c5b0 : (a0_2 == a1_2) = false := beq_eq_false_iff_ne.mpr c5
    have c5b1 : (a0_2 != a1_2) = true := bne_iff_ne.mpr c5
    obtain rfl := Option.some.inj H
    go_enter Try.func39,Try.ntmps39
    go_wp2_with (first | ((with_reducible refine gate_dst (N := 2) rfl ?_);refine box_event ?hg (N := 2) ?hd (cs := #[.int .i64 a0_0,.int .i64 a0_1,.int .i64 a0_2,.slice A0_3 l0_3.length c0_3]) (t := 31) ?hr ?_;(case hd => rfl);(case hg => rfl);(case hr => first | (go_simp;done) | (go_simp;rfl));intro gb459 hg w12 hbox hb;have n0_ := Aside0.mk (below_step (B_up HB.out) hb);have n1_ := Aside0.mk (hbox);have n2_ := Aside0.mk ((by rw [hg];exact (below_size (B_up HB.out)) : w.heap.size ≤ gb459));have n3_ := Aside0.mk ((by rw [hg];exact (below_size (B_up HB.out)) : w.heap.size ≤ gb459));clear HB;have HB := n0_;have BK459 := n1_;have GW459 := n2_;have GE459 := n3_;clear n0_ n1_ n2_ n3_;clear hb hbox hg) | ((with_reducible refine gate_dst (N := 3) rfl ?_);refine box_event ?hg (N := 3) ?hd (cs := #[.int .i64 a1_0,.int .i64 a1_1,.int .i64 a1_2,.slice A1_3 l1_3.length c1_3]) (t := 31) ?hr ?_;(case hd => rfl);(case hg => rfl);(case hr => first | (go_simp;done) | (go_simp;rfl));intro gb460 hg w13 hbox hb;have n0_ := Aside0.mk (blk_below (g := gb459) (o := .cells #[.int .i64 a0_0,.int .i64 a0_1,.int .i64 a0_2,.slice A0_3 l0_3.length c0_3] 31 (0,0)) (blk_up BK459.out) hb);have n1_ := Aside0.mk (below_step (B_set HB.out) hb);have n2_ := Aside0.mk (hbox);have n3_ := Aside0.mk ((by rw [hg];exact (below_size (B_set HB.out)) : w.heap.size ≤ gb460));have n4_ := Aside0.mk ((by rw [hg];exact (below_size (B_set HB.out)) : w.heap.size ≤ gb460));have n5_ := Aside0.mk ((by rw [hg];exact Nat.ne_of_lt (blk_lt (g := gb459) (o := .cells #[.int .i64 a0_0,.int .i64 a0_1,.int .i64 a0_2,.slice A0_3 l0_3.length c0_3] 31 (0,0)) (blk_up BK459.out)) : gb459 ≠ gb460));have n6_ := Aside0.mk ((by rw [hg];exact Nat.ne_of_gt (blk_lt (g := gb459) (o := .cells #[.int .i64 a0_0,.int .i64 a0_1,.int .i64 a0_2,.slice A0_3 l0_3.length c0_3] 31 (0,0)) (blk_up BK459.out)) : gb460 ≠ gb459));clear BK459;clear HB;have BK459 := n0_;have HB := n1_;have BK460 := n2_;have GW460 := n3_;have GE460 := n4_;have NB459_460 := n5_;have NB460_459 := n6_;clear n0_ n1_ n2_ n3_ n4_ n5_ n6_;clear hb hbox hg;have hnb14 := NB459_460.out;have hnc14 := NB460_459.out;have hcz15_0 : w13.cell? ⟨gb459,0,none⟩ = some (.int .i64 a0_0) := (blk_cell BK459.out 0).trans rfl;have hcz15_1 : w13.cell? ⟨gb459,1,none⟩ = some (.int .i64 a0_1) := (blk_cell BK459.out 1).trans rfl;have hcz15_2 : w13.cell? ⟨gb459,2,none⟩ = some (.int .i64 a0_2) := (blk_cell BK459.out 2).trans rfl;have hcz15_3 : w13.cell? ⟨gb459,3,none⟩ = some (.slice A0_3 l0_3.length c0_3) := (blk_cell BK459.out 3).trans rfl;have hfz15_0 := blk_frozen BK459.out 0;have hfz15_1 := blk_frozen BK459.out 1;have hfz15_2 := blk_frozen BK459.out 2;have hfz15_3 := blk_frozen BK459.out 3;have hcz16_0 : w13.cell? ⟨gb460,0,none⟩ = some (.int .i64 a1_0) := (blk_cell BK460.out 0).trans rfl;have hcz16_1 : w13.cell? ⟨gb460,1,none⟩ = some (.int .i64 a1_1) := (blk_cell BK460.out 1).trans rfl;have hcz16_2 : w13.cell? ⟨gb460,2,none⟩ = some (.int .i64 a1_2) := (blk_cell BK460.out 2).trans rfl;have hcz16_3 : w13.cell? ⟨gb460,3,none⟩ = some (.slice A1_3 l1_3.length c1_3) := (blk_cell BK460.out 3).trans rfl;have hfz16_0 := blk_frozen BK460.out 0;have hfz16_1 := blk_frozen BK460.out 1;have hfz16_2 := blk_frozen BK460.out 2;have hfz16_3 := blk_frozen BK460.out 3))
    go_ret
    exact ⟨by first | rfl | (simp [errW_none,errW_some] <;> rfl) | (simp [*,errW_none,errW_some] <;> rfl),by repeat (first | (with_reducible first | exact HB.out | apply below_alloc | apply pw_below_drewN | apply below_drew1 | refine below_set ?_ GE459.out | refine below_set ?_ GE460.out) | exact HB.out)⟩
  ·rw [if_neg c4] at H
   have c4b0 : (a0_1 == a1_1) = false := beq_eq_false_iff_ne.mpr c4
   have c4b1 : (a0_1 != a1_1) = true := bne_iff_ne.mpr c4
   obtain rfl := Option.some.inj H
   go_enter Try.func39,Try.ntmps39
   go_wp2_with (first | ((with_reducible refine gate_dst (N := 2) rfl ?_);refine box_event ?hg (N := 2) ?hd (cs := #[.int .i64 a0_0,.int .i64 a0_1,.int .i64 a0_2,.slice A0_3 l0_3.length c0_3]) (t := 31) ?hr ?_;(case hd => rfl);(case hg => rfl);(case hr => first | (go_simp;done) | (go_simp;rfl));intro gb459 hg w17 hbox hb;have n0_ := Aside0.mk (below_step (B_up HB.out) hb);have n1_ := Aside0.mk (hbox);have n2_ := Aside0.mk ((by rw [hg];exact (below_size (B_up HB.out)) : w.heap.size ≤ gb459));have n3_ := Aside0.mk ((by rw [hg];exact (below_size (B_up HB.out)) : w.heap.size ≤ gb459));clear HB;have HB := n0_;have BK459 := n1_;have GW459 := n2_;have GE459 := n3_;clear n0_ n1_ n2_ n3_;clear hb hbox hg) | ((with_reducible refine gate_dst (N := 3) rfl ?_);refine box_event ?hg (N := 3) ?hd (cs := #[.int .i64 a1_0,.int .i64 a1_1,.int .i64 a1_2,.slice A1_3 l1_3.length c1_3]) (t := 31) ?hr ?_;(case hd => rfl);(case hg => rfl);(case hr => first | (go_simp;done) | (go_simp;rfl));intro gb460 hg w18 hbox hb;have n0_ := Aside0.mk (blk_below (g := gb459) (o := .cells #[.int .i64 a0_0,.int .i64 a0_1,.int .i64 a0_2,.slice A0_3 l0_3.length c0_3] 31 (0,0)) (blk_up BK459.out) hb);have n1_ := Aside0.mk (below_step (B_set HB.out) hb);have n2_ := Aside0.mk (hbox);have n3_ := Aside0.mk ((by rw [hg];exact (below_size (B_set HB.out)) : w.heap.size ≤ gb460));have n4_ := Aside0.mk ((by rw [hg];exact (below_size (B_set HB.out)) : w.heap.size ≤ gb460));have n5_ := Aside0.mk ((by rw [hg];exact Nat.ne_of_lt (blk_lt (g := gb459) (o := .cells #[.int .i64 a0_0,.int .i64 a0_1,.int .i64 a0_2,.slice A0_3 l0_3.length c0_3] 31 (0,0)) (blk_up BK459.out)) : gb459 ≠ gb460));have n6_ := Aside0.mk ((by rw [hg];exact Nat.ne_of_gt (blk_lt (g := gb459) (o := .cells #[.int .i64 a0_0,.int .i64 a0_1,.int .i64 a0_2,.slice A0_3 l0_3.length c0_3] 31 (0,0)) (blk_up BK459.out)) : gb460 ≠ gb459));clear BK459;clear HB;have BK459 := n0_;have HB := n1_;have BK460 := n2_;have GW460 := n3_;have GE460 := n4_;have NB459_460 := n5_;have NB460_459 := n6_;clear n0_ n1_ n2_ n3_ n4_ n5_ n6_;clear hb hbox hg;have hnb19 := NB459_460.out;have hnc19 := NB460_459.out;have hcz20_0 : w18.cell? ⟨gb459,0,none⟩ = some (.int .i64 a0_0) := (blk_cell BK459.out 0).trans rfl;have hcz20_1 : w18.cell? ⟨gb459,1,none⟩ = some (.int .i64 a0_1) := (blk_cell BK459.out 1).trans rfl;have hcz20_2 : w18.cell? ⟨gb459,2,none⟩ = some (.int .i64 a0_2) := (blk_cell BK459.out 2).trans rfl;have hcz20_3 : w18.cell? ⟨gb459,3,none⟩ = some (.slice A0_3 l0_3.length c0_3) := (blk_cell BK459.out 3).trans rfl;have hfz20_0 := blk_frozen BK459.out 0;have hfz20_1 := blk_frozen BK459.out 1;have hfz20_2 := blk_frozen BK459.out 2;have hfz20_3 := blk_frozen BK459.out 3;have hcz21_0 : w18.cell? ⟨gb460,0,none⟩ = some (.int .i64 a1_0) := (blk_cell BK460.out 0).trans rfl;have hcz21_1 : w18.cell? ⟨gb460,1,none⟩ = some (.int .i64 a1_1) := (blk_cell BK460.out 1).trans rfl;have hcz21_2 : w18.cell? ⟨gb460,2,none⟩ = some (.int .i64 a1_2) := (blk_cell BK460.out 2).trans rfl;have hcz21_3 : w18.cell? ⟨gb460,3,none⟩ = some (.slice A1_3 l1_3.length c1_3) := (blk_cell BK460.out 3).trans rfl;have hfz21_0 := blk_frozen BK460.out 0;have hfz21_1 := blk_frozen BK460.out 1;have hfz21_2 := blk_frozen BK460.out 2;have hfz21_3 := blk_frozen BK460.out 3))
   go_ret
   exact ⟨by first | rfl | (simp [errW_none,errW_some] <;> rfl) | (simp [*,errW_none,errW_some] <;> rfl),by repeat (first | (with_reducible first | exact HB.out | apply below_alloc | apply pw_below_drewN | apply below_drew1 | refine below_set ?_ GE459.out | refine below_set ?_ GE460.out) | exact HB.out)⟩
 ·rw [if_neg c3] at H
  have c3b0 : (a0_0 == a1_0) = false := beq_eq_false_iff_ne.mpr c3
  have c3b1 : (a0_0 != a1_0) = true := bne_iff_ne.mpr c3
  obtain rfl := Option.some.inj H
  go_enter Try.func39,Try.ntmps39
  go_wp2_with (first | ((with_reducible refine gate_dst (N := 2) rfl ?_);refine box_event ?hg (N := 2) ?hd (cs := #[.int .i64 a0_0,.int .i64 a0_1,.int .i64 a0_2,.slice A0_3 l0_3.length c0_3]) (t := 31) ?hr ?_;(case hd => rfl);(case hg => rfl);(case hr => first | (go_simp;done) | (go_simp;rfl));intro gb459 hg w22 hbox hb;have n0_ := Aside0.mk (below_step (B_up HB.out) hb);have n1_ := Aside0.mk (hbox);have n2_ := Aside0.mk ((by rw [hg];exact (below_size (B_up HB.out)) : w.heap.size ≤ gb459));have n3_ := Aside0.mk ((by rw [hg];exact (below_size (B_up HB.out)) : w.heap.size ≤ gb459));clear HB;have HB := n0_;have BK459 := n1_;have GW459 := n2_;have GE459 := n3_;clear n0_ n1_ n2_ n3_;clear hb hbox hg) | ((with_reducible refine gate_dst (N := 3) rfl ?_);refine box_event ?hg (N := 3) ?hd (cs := #[.int .i64 a1_0,.int .i64 a1_1,.int .i64 a1_2,.slice A1_3 l1_3.length c1_3]) (t := 31) ?hr ?_;(case hd => rfl);(case hg => rfl);(case hr => first | (go_simp;done) | (go_simp;rfl));intro gb460 hg w23 hbox hb;have n0_ := Aside0.mk (blk_below (g := gb459) (o := .cells #[.int .i64 a0_0,.int .i64 a0_1,.int .i64 a0_2,.slice A0_3 l0_3.length c0_3] 31 (0,0)) (blk_up BK459.out) hb);have n1_ := Aside0.mk (below_step (B_set HB.out) hb);have n2_ := Aside0.mk (hbox);have n3_ := Aside0.mk ((by rw [hg];exact (below_size (B_set HB.out)) : w.heap.size ≤ gb460));have n4_ := Aside0.mk ((by rw [hg];exact (below_size (B_set HB.out)) : w.heap.size ≤ gb460));have n5_ := Aside0.mk ((by rw [hg];exact Nat.ne_of_lt (blk_lt (g := gb459) (o := .cells #[.int .i64 a0_0,.int .i64 a0_1,.int .i64 a0_2,.slice A0_3 l0_3.length c0_3] 31 (0,0)) (blk_up BK459.out)) : gb459 ≠ gb460));have n6_ := Aside0.mk ((by rw [hg];exact Nat.ne_of_gt (blk_lt (g := gb459) (o := .cells #[.int .i64 a0_0,.int .i64 a0_1,.int .i64 a0_2,.slice A0_3 l0_3.length c0_3] 31 (0,0)) (blk_up BK459.out)) : gb460 ≠ gb459));clear BK459;clear HB;have BK459 := n0_;have HB := n1_;have BK460 := n2_;have GW460 := n3_;have GE460 := n4_;have NB459_460 := n5_;have NB460_459 := n6_;clear n0_ n1_ n2_ n3_ n4_ n5_ n6_;clear hb hbox hg;have hnb24 := NB459_460.out;have hnc24 := NB460_459.out;have hcz25_0 : w23.cell? ⟨gb459,0,none⟩ = some (.int .i64 a0_0) := (blk_cell BK459.out 0).trans rfl;have hcz25_1 : w23.cell? ⟨gb459,1,none⟩ = some (.int .i64 a0_1) := (blk_cell BK459.out 1).trans rfl;have hcz25_2 : w23.cell? ⟨gb459,2,none⟩ = some (.int .i64 a0_2) := (blk_cell BK459.out 2).trans rfl;have hcz25_3 : w23.cell? ⟨gb459,3,none⟩ = some (.slice A0_3 l0_3.length c0_3) := (blk_cell BK459.out 3).trans rfl;have hfz25_0 := blk_frozen BK459.out 0;have hfz25_1 := blk_frozen BK459.out 1;have hfz25_2 := blk_frozen BK459.out 2;have hfz25_3 := blk_frozen BK459.out 3;have hcz26_0 : w23.cell? ⟨gb460,0,none⟩ = some (.int .i64 a1_0) := (blk_cell BK460.out 0).trans rfl;have hcz26_1 : w23.cell? ⟨gb460,1,none⟩ = some (.int .i64 a1_1) := (blk_cell BK460.out 1).trans rfl;have hcz26_2 : w23.cell? ⟨gb460,2,none⟩ = some (.int .i64 a1_2) := (blk_cell BK460.out 2).trans rfl;have hcz26_3 : w23.cell? ⟨gb460,3,none⟩ = some (.slice A1_3 l1_3.length c1_3) := (blk_cell BK460.out 3).trans rfl;have hfz26_0 := blk_frozen BK460.out 0;have hfz26_1 := blk_frozen BK460.out 1;have hfz26_2 := blk_frozen BK460.out 2;have hfz26_3 := blk_frozen BK460.out 3))
  go_ret
  exact ⟨by first | rfl | (simp [errW_none,errW_some] <;> rfl) | (simp [*,errW_none,errW_some] <;> rfl),by repeat (first | (with_reducible first | exact HB.out | apply below_alloc | apply pw_below_drewN | apply below_drew1 | refine below_set ?_ GE459.out | refine below_set ?_ GE460.out) | exact HB.out)⟩

end Go.Proofs.Ytdkgcloempbgpaa.PFnMans
