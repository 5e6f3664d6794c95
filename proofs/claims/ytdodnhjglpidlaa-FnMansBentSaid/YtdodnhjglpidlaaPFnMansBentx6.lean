-- by a program of this session (a turned copy of the print: make with a capacity)
import Derived.Test.YtdodnhjglpidlaaVMade2
import Derived.Test.YtdodnhjglpidlaaPFnMansBentx0
import Derived.Test.YtdodnhjglpidlaaPFnMansBentx4
import Derived.Test.YtdodnhjglpidlaaPFnMansBentx5
namespace Go.Proofs.Ytdodnhjglpidlaa.PFnMansBent
open Go.RowKit Go.Proofs.YtdodnhjglpidlaaW.PrintWords Go.Proofs.YtdodnhjglpidlaaW.PrintLast Go.Proofs.YtdodnhjglpidlaaW.PrintMore
attribute [local go_sem] max2_int min2_int max_two min_two max_three min_three max_four min_four   -- for this text's walks alone
set_option linter.unusedVariables false
set_option linter.unusedSimpArgs false

/-! ### spec_l1Bent: function 22 -/
def spec_l1Bent.f (s0_0 : List Int) (s0_1 : Int) (s0_2 : Int) (l1 : List Int) : Option (List Int × Int × Int) := (some (([] : List Int) : List Int)).bind fun y273 => (if y273.length + l1.length < 140737488355328 then ((some (y273 ++ l1 : List Int)).bind fun y276 => ((spec_l1Below.f s0_0 s0_1 s0_2 6).bind fun bt279 => (if bt279.1 = 0 then (if (y276.length : Int) > 0 then ((spec_l1Below.f s0_0 bt279.2.1 bt279.2.2 (y276.length : Int)).bind fun bt282 => ((spec_l1Below.f s0_0 bt282.2.1 bt282.2.2 256).bind fun bt285 => (if 0 ≤ bt282.1 then (if bt282.1 < (y276.length : Int) then (some ((y276.set (bt282.1 : Int).toNat ((bt285.1) % 256)),bt285.2.1,bt285.2.2)) else (none)) else (none)))) else (some (y276,bt279.2.1,bt279.2.2))) else (if bt279.1 = 1 then ((spec_l1Below.f s0_0 bt279.2.1 bt279.2.2 (wrap64 ((y276.length : Int) + 1))).bind fun bt289 => (if 0 ≤ bt289.1 then (if bt289.1 ≤ (y276.length : Int) then (some ((y276.take (bt289.1 : Int).toNat),bt289.2.1,bt289.2.2)) else (none)) else (none))) else (if bt279.1 = 2 then ((spec_l1Int.f s0_0 bt279.2.1 bt279.2.2 (([0,1,128,255] : List Int))).bind fun bt298 => (if y276.length < 140737488355328 then (some ((y276 ++ [(bt298.1) % 256]),bt298.2.1,bt298.2.2)) else (none))) else (if bt279.1 = 3 then (if (y276.length : Int) > 0 then ((spec_l1Below.f s0_0 bt279.2.1 bt279.2.2 (y276.length : Int)).bind fun bt304 => (if 0 ≤ bt304.1 then (if bt304.1 < (y276.length : Int) then ((spec_l1Below.f s0_0 bt304.2.1 bt304.2.2 8).bind fun bt308 => (if 0 ≤ bt308.1 then (some ((y276.set (bt304.1 : Int).toNat (Go.bits .xor .u8 (rd y276 bt304.1) (shl .u8 1 bt308.1))),bt308.2.1,bt308.2.2)) else (none))) else (none)) else (none))) else (some (y276,bt279.2.1,bt279.2.2))) else (some (y276,bt279.2.1,bt279.2.2)))))))) else (none))
def spec_l1Bent.T13 : Bool × List (List Nat × List Nat) := (true,[([],[]),([],[]),([],[]),([],[]),([2,3],[2,3]),([4],[4]),([],[]),([6],[6]),([7],[7]),([5,8],[5,8]),([0,1,0,1,2,3,4,5,6,7,8,9],[0,1]),([10,9,7,0,1,2,3,4,5,6,7,8,9],[9,10])])
def spec_l1Bent.B13 : List Nat := [0,0,0,0,12,28,0,64,192,508,1023,2047]
theorem spec_l1Bent.tab13 : rtab .any (opsOf Try.f22 13) = spec_l1Bent.T13 := by kernel_rfl
theorem spec_l1Bent.bits13 : waitsOk spec_l1Bent.T13.2 spec_l1Bent.B13 = true := by kernel_rfl
set_option maxHeartbeats 8000000 in
set_option maxRecDepth 100000 in
theorem spec_l1Bent.calls (g : Nat) (s0_0 : List Int) (s0_1 : Int) (s0_2 : Int) (A1 : Option Addr) (c1 : Nat) (l1 : List Int) (r1 : List Int) (r2 : Int) (r3 : Int) (w0 w : World) (hI : IsS74 w0 w g s0_0 s0_1 s0_2) (hB : Below w0.heap.size w0 w) (hr1 : Kd.C (Kd.int .u8) w A1 l1.length l1) (hc1 : l1.length ≤ c1) (hf1 : ∀ ad,A1 = some ad → 0 < l1.length → ad.block ≠ g) (h : spec_l1Bent.f s0_0 s0_1 s0_2 l1 = some (r1,r2,r3)) :
  Calls Try.prog 22 #[.pointer (some ⟨g,0,none⟩),.slice A1 l1.length c1] w fun e w' => ∃ v0_ : Value,e = .returned (v0_) ∧ Kd.R (Kd.int .u8) 5 w' w.heap.size (fun _ => True) v0_ r1 ∧ IsS74 w0 w' g s0_0 r2 r3 ∧ Below w0.heap.size w0 w' ∧ KeepBut w w' g none := by
 have HR1 := Mk hr1
 have HC1 := Mk hc1
 clear hr1 hc1
 have HI0 := Mk hI
 have HK := Mk (KeepBut.refl w g none)
 have HL := Mk hB.size
 clear hI
 have HW0 := Mk hB.size
 have HB := Mk hB
 clear hB
 have H : ((some (([] : List Int) : List Int)).bind fun y273 => (if y273.length + l1.length < 140737488355328 then ((some (y273 ++ l1 : List Int)).bind fun y276 => ((spec_l1Below.f s0_0 s0_1 s0_2 6).bind fun bt279 => (if bt279.1 = 0 then (if (y276.length : Int) > 0 then ((spec_l1Below.f s0_0 bt279.2.1 bt279.2.2 (y276.length : Int)).bind fun bt282 => ((spec_l1Below.f s0_0 bt282.2.1 bt282.2.2 256).bind fun bt285 => (if 0 ≤ bt282.1 then (if bt282.1 < (y276.length : Int) then (some ((y276.set (bt282.1 : Int).toNat ((bt285.1) % 256)),bt285.2.1,bt285.2.2)) else (none)) else (none)))) else (some (y276,bt279.2.1,bt279.2.2))) else (if bt279.1 = 1 then ((spec_l1Below.f s0_0 bt279.2.1 bt279.2.2 (wrap64 ((y276.length : Int) + 1))).bind fun bt289 => (if 0 ≤ bt289.1 then (if bt289.1 ≤ (y276.length : Int) then (some ((y276.take (bt289.1 : Int).toNat),bt289.2.1,bt289.2.2)) else (none)) else (none))) else (if bt279.1 = 2 then ((spec_l1Int.f s0_0 bt279.2.1 bt279.2.2 (([0,1,128,255] : List Int))).bind fun bt298 => (if y276.length < 140737488355328 then (some ((y276 ++ [(bt298.1) % 256]),bt298.2.1,bt298.2.2)) else (none))) else (if bt279.1 = 3 then (if (y276.length : Int) > 0 then ((spec_l1Below.f s0_0 bt279.2.1 bt279.2.2 (y276.length : Int)).bind fun bt304 => (if 0 ≤ bt304.1 then (if bt304.1 < (y276.length : Int) then ((spec_l1Below.f s0_0 bt304.2.1 bt304.2.2 8).bind fun bt308 => (if 0 ≤ bt308.1 then (some ((y276.set (bt304.1 : Int).toNat (Go.bits .xor .u8 (rd y276 bt304.1) (shl .u8 1 bt308.1))),bt308.2.1,bt308.2.2)) else (none))) else (none)) else (none))) else (some (y276,bt279.2.1,bt279.2.2))) else (some (y276,bt279.2.1,bt279.2.2)))))))) else (none))) = some (r1,r2,r3) := h
 clear h
 obtain ⟨y273,hy273⟩ : ∃ y_ : List Int,y_ = (([] : List Int)) := ⟨_,rfl⟩
 replace H : (if y273.length + l1.length < 140737488355328 then ((some (y273 ++ l1 : List Int)).bind fun y276 => ((spec_l1Below.f s0_0 s0_1 s0_2 6).bind fun bt279 => (if bt279.1 = 0 then (if (y276.length : Int) > 0 then ((spec_l1Below.f s0_0 bt279.2.1 bt279.2.2 (y276.length : Int)).bind fun bt282 => ((spec_l1Below.f s0_0 bt282.2.1 bt282.2.2 256).bind fun bt285 => (if 0 ≤ bt282.1 then (if bt282.1 < (y276.length : Int) then (some ((y276.set (bt282.1 : Int).toNat ((bt285.1) % 256)),bt285.2.1,bt285.2.2)) else (none)) else (none)))) else (some (y276,bt279.2.1,bt279.2.2))) else (if bt279.1 = 1 then ((spec_l1Below.f s0_0 bt279.2.1 bt279.2.2 (wrap64 ((y276.length : Int) + 1))).bind fun bt289 => (if 0 ≤ bt289.1 then (if bt289.1 ≤ (y276.length : Int) then (some ((y276.take (bt289.1 : Int).toNat),bt289.2.1,bt289.2.2)) else (none)) else (none))) else (if bt279.1 = 2 then ((spec_l1Int.f s0_0 bt279.2.1 bt279.2.2 (([0,1,128,255] : List Int))).bind fun bt298 => (if y276.length < 140737488355328 then (some ((y276 ++ [(bt298.1) % 256]),bt298.2.1,bt298.2.2)) else (none))) else (if bt279.1 = 3 then (if (y276.length : Int) > 0 then ((spec_l1Below.f s0_0 bt279.2.1 bt279.2.2 (y276.length : Int)).bind fun bt304 => (if 0 ≤ bt304.1 then (if bt304.1 < (y276.length : Int) then ((spec_l1Below.f s0_0 bt304.2.1 bt304.2.2 8).bind fun bt308 => (if 0 ≤ bt308.1 then (some ((y276.set (bt304.1 : Int).toNat (Go.bits .xor .u8 (rd y276 bt304.1) (shl .u8 1 bt308.1))),bt308.2.1,bt308.2.2)) else (none))) else (none)) else (none))) else (some (y276,bt279.2.1,bt279.2.2))) else (some (y276,bt279.2.1,bt279.2.2)))))))) else (none)) = some (r1,r2,r3) := by first | (rw [hy273];with_reducible exact H) | (have H2_ := (Option.bind_some _ _).symm.trans H;rw [hy273];with_reducible exact H2_) | (have H2_ := (Option.bind_some _ _).symm.trans H;with_reducible exact H2_) | with_reducible exact H | (rw [hy273];exact H) | exact H
 have Ny273 := Mk hy273
 clear hy273
 by_cases c3 : y273.length + l1.length < 140737488355328
 ·rw [if_pos c3] at H
  have LMc3 := Mk c3
  clear c3
  obtain ⟨y276,hy276⟩ : ∃ y_ : List Int,y_ = (y273 ++ l1) := ⟨_,rfl⟩
  replace H : ((spec_l1Below.f s0_0 s0_1 s0_2 6).bind fun bt279 => (if bt279.1 = 0 then (if (y276.length : Int) > 0 then ((spec_l1Below.f s0_0 bt279.2.1 bt279.2.2 (y276.length : Int)).bind fun bt282 => ((spec_l1Below.f s0_0 bt282.2.1 bt282.2.2 256).bind fun bt285 => (if 0 ≤ bt282.1 then (if bt282.1 < (y276.length : Int) then (some ((y276.set (bt282.1 : Int).toNat ((bt285.1) % 256)),bt285.2.1,bt285.2.2)) else (none)) else (none)))) else (some (y276,bt279.2.1,bt279.2.2))) else (if bt279.1 = 1 then ((spec_l1Below.f s0_0 bt279.2.1 bt279.2.2 (wrap64 ((y276.length : Int) + 1))).bind fun bt289 => (if 0 ≤ bt289.1 then (if bt289.1 ≤ (y276.length : Int) then (some ((y276.take (bt289.1 : Int).toNat),bt289.2.1,bt289.2.2)) else (none)) else (none))) else (if bt279.1 = 2 then ((spec_l1Int.f s0_0 bt279.2.1 bt279.2.2 (([0,1,128,255] : List Int))).bind fun bt298 => (if y276.length < 140737488355328 then (some ((y276 ++ [(bt298.1) % 256]),bt298.2.1,bt298.2.2)) else (none))) else (if bt279.1 = 3 then (if (y276.length : Int) > 0 then ((spec_l1Below.f s0_0 bt279.2.1 bt279.2.2 (y276.length : Int)).bind fun bt304 => (if 0 ≤ bt304.1 then (if bt304.1 < (y276.length : Int) then ((spec_l1Below.f s0_0 bt304.2.1 bt304.2.2 8).bind fun bt308 => (if 0 ≤ bt308.1 then (some ((y276.set (bt304.1 : Int).toNat (Go.bits .xor .u8 (rd y276 bt304.1) (shl .u8 1 bt308.1))),bt308.2.1,bt308.2.2)) else (none))) else (none)) else (none))) else (some (y276,bt279.2.1,bt279.2.2))) else (some (y276,bt279.2.1,bt279.2.2))))))) = some (r1,r2,r3) := by first | (rw [hy276];with_reducible exact H) | (have H2_ := (Option.bind_some _ _).symm.trans H;rw [hy276];with_reducible exact H2_) | (have H2_ := (Option.bind_some _ _).symm.trans H;with_reducible exact H2_) | with_reducible exact H | (rw [hy276];exact H) | exact H
  have Ny276 := Mk hy276
  clear hy276
  replace H := bsm H
  obtain ⟨⟨t279,t280,t281⟩,A4,H⟩ := H
  (try dsimp only at H)
  by_cases c5 : t279 = 0
  ·rw [if_pos c5] at H
   have c5b0 : (t279 == 0) = true := beq_iff_eq.mpr c5
   have c5b1 : (t279 != 0) = false := bne_eq_false_iff_eq.mpr c5
   clear c5
   by_cases c6 : (y276.length : Int) > 0
   ·rw [if_pos c6] at H
    have c6b0 : decide (0 < (y276.length : Int)) = true := decide_eq_true c6
    have c6b1 : decide (0 < y276.length) = true := decide_eq_true (by omega)
    clear c6
    replace H := bsm H
    obtain ⟨⟨t282,t283,t284⟩,A7,H⟩ := H
    (try dsimp only at H)
    replace H := bsm H
    obtain ⟨⟨t285,t286,t287⟩,A8,H⟩ := H
    (try dsimp only at H)
    by_cases c9 : 0 ≤ t282
    ·rw [if_pos c9] at H
     have c9b0 : decide (0 ≤ t282) = true := decide_eq_true c9
     clear c9
     by_cases c10 : t282 < (y276.length : Int)
     ·rw [if_pos c10] at H
      have c10b0 : decide (t282 < (y276.length : Int)) = true := decide_eq_true c10
      clear c10
      obtain ⟨y288,hy288⟩ : ∃ y_ : List Int,y_ = (y276.set (t282 : Int).toNat ((t285) % 256)) := ⟨_,rfl⟩
      replace H : (some (y288,t286,t287)) = some (r1,r2,r3) := by first | (rw [hy288];with_reducible exact H) | (have H2_ := (Option.bind_some _ _).symm.trans H;rw [hy288];with_reducible exact H2_) | (have H2_ := (Option.bind_some _ _).symm.trans H;with_reducible exact H2_) | with_reducible exact H | (rw [hy288];exact H) | exact H
      have Ny288 := Mk hy288
      clear hy288
      simp only [Option.some.injEq,Prod.mk.injEq] at H
      obtain ⟨rfl,rfl,rfl⟩ := H
      go_enter Try.func22,Try.ntmps22
      go_wp2_with (first | ((with_reducible refine gate_dst (N := 7) rfl ?_);refine Kd.R_lit (Kd.int .u8) _ 5 ?hg (N := 7) ?hd (xs := ([] : List Int)) (inner := []) (ok := fun _ => True) (okp := fun _ => True) ?hr ?hp (fun _ hk => hk) trivial (Below.refl _ _) (Nat.le_refl _) (by simp) ?_;(case hd => rfl);(case hg => rfl);(case hr => first | (go_simp;done) | (go_simp;rfl));(case hp => exact (Reps.none _ _));intro v274 w12 ho13 hb hg_ hnew_;clear hg_ hnew_;(first | rw [← Ny273.out] at ho13 | (simp only [Int.reduceToNat] at ho13;rw [← Ny273.out] at ho13));have HO275 := Mk (Kd.R_lower ho13 (keep_size (w := w) (g := g) (row := none) (keep_up HK.out)));replace HI0 := Mk (IsS74.below (IsS74.up HI0.out) hb);replace HK := Mk (KeepBut.trans (keep_up HK.out) (KeepBut.of_below hb g none) (.inl rfl));replace HB := Mk (below_step (B_st HB.out) hb);clear hb ho13) | ((with_reducible refine gate_builtin (b := .append) (xs := #[.tmp 7,.tmp 8]) rfl ?_);at_builtin;refine Kd.R_append_rows (Kd.int .u8) w.heap.size rfl (.tmp 7) (.tmp 8) 22 5 (.int .u8 0) 1 rfl Try.underlying22 info5 rfl (by decide) (by omega) v274 y273 l1 _ _ _ (fun _ => True) (fun _ => False) rfl rfl ?aO ?aR (fun _ _ h => h) (fun _ h => h.elim) ?aF (Below.refl _ _) ?aS ?aL ?_;(case aR => exact Kd.C_keep 0 HR1.out (keep_up HK.out) hf1);(case aF => exact (fun _ _ => trivial));(case aO => exact (Kd.R_up HO275.out));(case aS => exact (keep_size (w := w) (g := g) (row := none) (keep_up HK.out)));(case aL => have := LMc3.out;omega);intro v277 w14 ho hb hg hat;rw [← Ny276.out] at ho;replace HI0 := Mk (IsS74.grown (IsS74.up HI0.out) hg (IsS74.own_ne HI0.out HO275.out (by decide)));replace HB := Mk (below_weaken (B_st HB.out) HL.out hb);replace HK := Mk (KeepBut.trans (keep_up HK.out) (KeepBut.of_grown hg g) (Kd.R_base2 HO275.out));have HO278 := Mk (ho);clear HO275;clear ho hb hg hat) | ((with_reducible refine gate_callee (f := 35) rfl ?_);refine goesL_ (some 11) rfl rfl Try.func35 (by kernel_rfl) rfl #[.pointer (some ⟨g,0,none⟩),.int .i64 6] rfl eq_up ?_;(with_reducible refine (spec_l1Below.calls g s0_0 s0_1 s0_2 6 t279 t280 t281 w0 _ ?side1 ?side2 A4.out).mono ?_);(case side1 => exact IsS74.up HI0.out);(case side2 => exact B_st HB.out);rintro e w15 ⟨rfl,hi,hb,hk⟩;refine ⟨_,rfl,?_⟩;replace HO278 := Mk (Kd.R_mono (Kd.R_keep (IsS74.apart (show IsS74 w0 _ g s0_0 s0_1 s0_2 from IsS74.up HI0.out) (Kd.R_up HO278.out) (by decide)) hk (fun _ h => h.2)) (fun _ h => h.1));replace HK := Mk (KeepBut.trans (keep_up HK.out) hk (.inl rfl));replace HB := Mk (hb);replace HI0 := Mk (hi);(try clear hb);(try clear hb2);(try clear hk);(try clear hi);obtain ⟨Ao16,co16,eo16⟩ := Kd.R_slice HO278.out;subst eo16) | ((with_reducible refine gate_callee (f := 35) rfl ?_);refine goesL_ (some 21) rfl rfl Try.func35 (by kernel_rfl) rfl #[.pointer (some ⟨g,0,none⟩),.int .i64 (y276.length : Int)] rfl eq_up ?_;(with_reducible refine (spec_l1Below.calls g s0_0 t280 t281 (y276.length : Int) t282 t283 t284 w0 _ ?side1 ?side2 A7.out).mono ?_);(case side1 => exact IsS74.up HI0.out);(case side2 => exact B_st HB.out);rintro e w17 ⟨rfl,hi,hb,hk⟩;refine ⟨_,rfl,?_⟩;replace HO278 := Mk (Kd.R_mono (Kd.R_keep (IsS74.apart (show IsS74 w0 _ g s0_0 t280 t281 from IsS74.up HI0.out) (Kd.R_up HO278.out) (by decide)) hk (fun _ h => h.2)) (fun _ h => h.1));replace HK := Mk (KeepBut.trans (keep_up HK.out) hk (.inl rfl));replace HB := Mk (hb);replace HI0 := Mk (hi);(try clear hb);(try clear hb2);(try clear hk);(try clear hi)) | ((with_reducible refine gate_callee (f := 35) rfl ?_);refine goesL_ (some 23) rfl rfl Try.func35 (by kernel_rfl) rfl #[.pointer (some ⟨g,0,none⟩),.int .i64 256] rfl eq_up ?_;(with_reducible refine (spec_l1Below.calls g s0_0 t283 t284 256 t285 t286 t287 w0 _ ?side1 ?side2 A8.out).mono ?_);(case side1 => exact IsS74.up HI0.out);(case side2 => exact B_st HB.out);rintro e w18 ⟨rfl,hi,hb,hk⟩;refine ⟨_,rfl,?_⟩;replace HO278 := Mk (Kd.R_mono (Kd.R_keep (IsS74.apart (show IsS74 w0 _ g s0_0 t283 t284 from IsS74.up HI0.out) (Kd.R_up HO278.out) (by decide)) hk (fun _ h => h.2)) (fun _ h => h.1));replace HK := Mk (KeepBut.trans (keep_up HK.out) hk (.inl rfl));replace HB := Mk (hb);replace HI0 := Mk (hi);(try clear hb);(try clear hb2);(try clear hk);(try clear hi);have p11 : 0 ≤ (t282 : Int) := ofd;have q11 : (t282 : Int) < ((y276.length : Int) : Int) := ofd;obtain ⟨go11,co11,eo11,gb11,gl11,cl11,HG11⟩ := Kd.R_form HO278.out (by omega);(first | cases eo11 | (injection eo11 with ea_ en_ ec_;(first | subst ea_ | (injection ea_ with ea_;subst ea_));subst ec_;clear en_));have GB11 := Mk gb11;have GG11 := Mk HG11;clear gb11 gl11 HG11;obtain ⟨hx11_0,hf11_0⟩ := Kd.R_celln 0 HO278.out (t282 : Int) p11 q11;replace p11 := eq_true p11;replace q11 := eq_true q11;obtain ⟨hy19_,hz19_⟩ := Kd.R_celln 0 HO278.out (t282 : Int) ofd ofd;have HP19 := Kd.R_putg HO278.out (t282 : Int) ((t285) % 256)) | ((with_reducible refine gate_store (t := 5) (p := 25) rfl ?_);refine store_event (t := 5) (p := 25) (v := ?vo_w20) (w1 := (w18.setCell ⟨go11,(t282 : Int).toNat,none⟩ (.int .u8 ((t285) % 256)))) ?hg ?ho ?hn ?hr ?_;(case ho => rfl);(case hg => rfl);(case hn => rfl);(case hr => first | (go_simp;done) | (go_simp;rfl));intro w20 hw;have hg : w18.grownBy w20 (some go11) := (by rw [hw];exact HP19.2);have hp_ : Kd.R (Kd.int .u8) 5 w20 w.heap.size (fun _ => True) (.slice (some ⟨go11,0,none⟩) y276.length co16) y288 := (by rw [hw,Ny288.out];exact HP19.1);clear HP19;replace HI0 := Mk (IsS74.grown (IsS74.up HI0.out) hg (IsS74.own_ne HI0.out HO278.out (by decide)));replace HB := Mk ((by rw [hw];exact below_set (HB.out) (Nat.le_trans HL.out GB11.out) : Below w0.heap.size w0 w20));replace HK := Mk (KeepBut.trans (keep_up HK.out) (KeepBut.of_grown hg g) (Kd.R_base2 HO278.out));replace HO278 := Mk (hp_);clear hg hw hp_))
      go_ret
      exact ⟨_,err_,Kd.R_up HO278.out,IsS74.up HI0.out,B_st HB.out,keep_up HK.out⟩
     ·rw [if_neg c10] at H
      exact absurd H (by simp)
    ·rw [if_neg c9] at H
     exact absurd H (by simp)
   ·rw [if_neg c6] at H
    have c6b0 : decide (0 < (y276.length : Int)) = false := decide_eq_false c6
    have c6b1 : decide (0 < y276.length) = false := decide_eq_false (by omega)
    clear c6
    simp only [Option.some.injEq,Prod.mk.injEq] at H
    obtain ⟨rfl,rfl,rfl⟩ := H
    go_enter Try.func22,Try.ntmps22
    go_wp2_with (first | ((with_reducible refine gate_dst (N := 7) rfl ?_);refine Kd.R_lit (Kd.int .u8) _ 5 ?hg (N := 7) ?hd (xs := ([] : List Int)) (inner := []) (ok := fun _ => True) (okp := fun _ => True) ?hr ?hp (fun _ hk => hk) trivial (Below.refl _ _) (Nat.le_refl _) (by simp) ?_;(case hd => rfl);(case hg => rfl);(case hr => first | (go_simp;done) | (go_simp;rfl));(case hp => exact (Reps.none _ _));intro v274 w21 ho22 hb hg_ hnew_;clear hg_ hnew_;(first | rw [← Ny273.out] at ho22 | (simp only [Int.reduceToNat] at ho22;rw [← Ny273.out] at ho22));have HO275 := Mk (Kd.R_lower ho22 (keep_size (w := w) (g := g) (row := none) (keep_up HK.out)));replace HI0 := Mk (IsS74.below (IsS74.up HI0.out) hb);replace HK := Mk (KeepBut.trans (keep_up HK.out) (KeepBut.of_below hb g none) (.inl rfl));replace HB := Mk (below_step (B_st HB.out) hb);clear hb ho22) | ((with_reducible refine gate_builtin (b := .append) (xs := #[.tmp 7,.tmp 8]) rfl ?_);at_builtin;refine Kd.R_append_rows (Kd.int .u8) w.heap.size rfl (.tmp 7) (.tmp 8) 22 5 (.int .u8 0) 1 rfl Try.underlying22 info5 rfl (by decide) (by omega) v274 y273 l1 _ _ _ (fun _ => True) (fun _ => False) rfl rfl ?aO ?aR (fun _ _ h => h) (fun _ h => h.elim) ?aF (Below.refl _ _) ?aS ?aL ?_;(case aR => exact Kd.C_keep 0 HR1.out (keep_up HK.out) hf1);(case aF => exact (fun _ _ => trivial));(case aO => exact (Kd.R_up HO275.out));(case aS => exact (keep_size (w := w) (g := g) (row := none) (keep_up HK.out)));(case aL => have := LMc3.out;omega);intro v277 w23 ho hb hg hat;rw [← Ny276.out] at ho;replace HI0 := Mk (IsS74.grown (IsS74.up HI0.out) hg (IsS74.own_ne HI0.out HO275.out (by decide)));replace HB := Mk (below_weaken (B_st HB.out) HL.out hb);replace HK := Mk (KeepBut.trans (keep_up HK.out) (KeepBut.of_grown hg g) (Kd.R_base2 HO275.out));have HO278 := Mk (ho);clear HO275;clear ho hb hg hat) | ((with_reducible refine gate_callee (f := 35) rfl ?_);refine goesL_ (some 11) rfl rfl Try.func35 (by kernel_rfl) rfl #[.pointer (some ⟨g,0,none⟩),.int .i64 6] rfl eq_up ?_;(with_reducible refine (spec_l1Below.calls g s0_0 s0_1 s0_2 6 t279 t280 t281 w0 _ ?side1 ?side2 A4.out).mono ?_);(case side1 => exact IsS74.up HI0.out);(case side2 => exact B_st HB.out);rintro e w24 ⟨rfl,hi,hb,hk⟩;refine ⟨_,rfl,?_⟩;replace HO278 := Mk (Kd.R_mono (Kd.R_keep (IsS74.apart (show IsS74 w0 _ g s0_0 s0_1 s0_2 from IsS74.up HI0.out) (Kd.R_up HO278.out) (by decide)) hk (fun _ h => h.2)) (fun _ h => h.1));replace HK := Mk (KeepBut.trans (keep_up HK.out) hk (.inl rfl));replace HB := Mk (hb);replace HI0 := Mk (hi);(try clear hb);(try clear hb2);(try clear hk);(try clear hi);obtain ⟨Ao25,co25,eo25⟩ := Kd.R_slice HO278.out;subst eo25))
    go_ret
    exact ⟨_,err_,Kd.R_up HO278.out,IsS74.up HI0.out,B_st HB.out,keep_up HK.out⟩
  ·rw [if_neg c5] at H
   have c5b0 : (t279 == 0) = false := beq_eq_false_iff_ne.mpr c5
   have c5b1 : (t279 != 0) = true := bne_iff_ne.mpr c5
   by_cases c26 : t279 = 1
   ·rw [if_pos c26] at H
    have c26b0 : (t279 == 1) = true := beq_iff_eq.mpr c26
    have c26b1 : (t279 != 1) = false := bne_eq_false_iff_eq.mpr c26
    clear c26
    replace H := bsm H
    obtain ⟨⟨t289,t290,t291⟩,A27,H⟩ := H
    (try dsimp only at H)
    by_cases c28 : 0 ≤ t289
    ·rw [if_pos c28] at H
     have c28b0 := eq_true c28
     have c28b1 : decide (0 ≤ t289) = true := decide_eq_true c28
     clear c28
     by_cases c29 : t289 ≤ (y276.length : Int)
     ·rw [if_pos c29] at H
      have c29b0 := eq_true c29
      have c29b1 : decide (t289 ≤ (y276.length : Int)) = true := decide_eq_true c29
      clear c29
      obtain ⟨y292,hy292⟩ : ∃ y_ : List Int,y_ = (y276.take (t289 : Int).toNat) := ⟨_,rfl⟩
      replace H : (some (y292,t290,t291)) = some (r1,r2,r3) := by first | (rw [hy292];with_reducible exact H) | (have H2_ := (Option.bind_some _ _).symm.trans H;rw [hy292];with_reducible exact H2_) | (have H2_ := (Option.bind_some _ _).symm.trans H;with_reducible exact H2_) | with_reducible exact H | (rw [hy292];exact H) | exact H
      have Ny292 := Mk hy292
      clear hy292
      simp only [Option.some.injEq,Prod.mk.injEq] at H
      obtain ⟨rfl,rfl,rfl⟩ := H
      go_enter Try.func22,Try.ntmps22
      go_wp2_with (first | ((with_reducible refine gate_dst (N := 7) rfl ?_);refine Kd.R_lit (Kd.int .u8) _ 5 ?hg (N := 7) ?hd (xs := ([] : List Int)) (inner := []) (ok := fun _ => True) (okp := fun _ => True) ?hr ?hp (fun _ hk => hk) trivial (Below.refl _ _) (Nat.le_refl _) (by simp) ?_;(case hd => rfl);(case hg => rfl);(case hr => first | (go_simp;done) | (go_simp;rfl));(case hp => exact (Reps.none _ _));intro v274 w30 ho31 hb hg_ hnew_;clear hg_ hnew_;(first | rw [← Ny273.out] at ho31 | (simp only [Int.reduceToNat] at ho31;rw [← Ny273.out] at ho31));have HO275 := Mk (Kd.R_lower ho31 (keep_size (w := w) (g := g) (row := none) (keep_up HK.out)));replace HI0 := Mk (IsS74.below (IsS74.up HI0.out) hb);replace HK := Mk (KeepBut.trans (keep_up HK.out) (KeepBut.of_below hb g none) (.inl rfl));replace HB := Mk (below_step (B_st HB.out) hb);clear hb ho31) | ((with_reducible refine gate_builtin (b := .append) (xs := #[.tmp 7,.tmp 8]) rfl ?_);at_builtin;refine Kd.R_append_rows (Kd.int .u8) w.heap.size rfl (.tmp 7) (.tmp 8) 22 5 (.int .u8 0) 1 rfl Try.underlying22 info5 rfl (by decide) (by omega) v274 y273 l1 _ _ _ (fun _ => True) (fun _ => False) rfl rfl ?aO ?aR (fun _ _ h => h) (fun _ h => h.elim) ?aF (Below.refl _ _) ?aS ?aL ?_;(case aR => exact Kd.C_keep 0 HR1.out (keep_up HK.out) hf1);(case aF => exact (fun _ _ => trivial));(case aO => exact (Kd.R_up HO275.out));(case aS => exact (keep_size (w := w) (g := g) (row := none) (keep_up HK.out)));(case aL => have := LMc3.out;omega);intro v277 w32 ho hb hg hat;rw [← Ny276.out] at ho;replace HI0 := Mk (IsS74.grown (IsS74.up HI0.out) hg (IsS74.own_ne HI0.out HO275.out (by decide)));replace HB := Mk (below_weaken (B_st HB.out) HL.out hb);replace HK := Mk (KeepBut.trans (keep_up HK.out) (KeepBut.of_grown hg g) (Kd.R_base2 HO275.out));have HO278 := Mk (ho);clear HO275;clear ho hb hg hat) | ((with_reducible refine gate_callee (f := 35) rfl ?_);refine goesL_ (some 11) rfl rfl Try.func35 (by kernel_rfl) rfl #[.pointer (some ⟨g,0,none⟩),.int .i64 6] rfl eq_up ?_;(with_reducible refine (spec_l1Below.calls g s0_0 s0_1 s0_2 6 t279 t280 t281 w0 _ ?side1 ?side2 A4.out).mono ?_);(case side1 => exact IsS74.up HI0.out);(case side2 => exact B_st HB.out);rintro e w33 ⟨rfl,hi,hb,hk⟩;refine ⟨_,rfl,?_⟩;replace HO278 := Mk (Kd.R_mono (Kd.R_keep (IsS74.apart (show IsS74 w0 _ g s0_0 s0_1 s0_2 from IsS74.up HI0.out) (Kd.R_up HO278.out) (by decide)) hk (fun _ h => h.2)) (fun _ h => h.1));replace HK := Mk (KeepBut.trans (keep_up HK.out) hk (.inl rfl));replace HB := Mk (hb);replace HI0 := Mk (hi);(try clear hb);(try clear hb2);(try clear hk);(try clear hi);obtain ⟨Ao34,co34,eo34⟩ := Kd.R_slice HO278.out;subst eo34) | ((with_reducible refine gate_callee (f := 35) rfl ?_);refine goesL_ (some 33) rfl rfl Try.func35 (by kernel_rfl) rfl #[.pointer (some ⟨g,0,none⟩),.int .i64 (wrap64 ((y276.length : Int) + 1))] rfl eq_up ?_;(with_reducible refine (spec_l1Below.calls g s0_0 t280 t281 (wrap64 ((y276.length : Int) + 1)) t289 t290 t291 w0 _ ?side1 ?side2 A27.out).mono ?_);(case side1 => exact IsS74.up HI0.out);(case side2 => exact B_st HB.out);rintro e w35 ⟨rfl,hi,hb,hk⟩;refine ⟨_,rfl,?_⟩;replace HO278 := Mk (Kd.R_mono (Kd.R_keep (IsS74.apart (show IsS74 w0 _ g s0_0 t280 t281 from IsS74.up HI0.out) (Kd.R_up HO278.out) (by decide)) hk (fun _ h => h.2)) (fun _ h => h.1));replace HK := Mk (KeepBut.trans (keep_up HK.out) hk (.inl rfl));replace HB := Mk (hb);replace HI0 := Mk (hi);(try clear hb);(try clear hb2);(try clear hk);(try clear hi);have q36 : (t289 : Int) ≤ ((y276.length : Int) : Int) := ofd;obtain ⟨i036,hi036,_,hsz36,_⟩ := info_parts info5;have hcut36 := cut_to (P := Try.prog) 22 5 .i64 Try.underlying22 hi036 Ao34 y276.length co34 t289 ofd q36 (Kd.R_reads' HO278.out).2.1;have hr36 := Kd.R_take (m := (t289 : Int).toNat) HO278.out (by omega);have hy36 : y292.length = (t289 : Int).toNat := (by rw [Ny292.out,List.length_take];omega);rw [← Ny292.out] at hr36;rw [← hy36] at hr36 hcut36;clear hy36 hi036 hsz36 HO278;have HO294 := Mk hr36;clear hr36;replace q36 := eq_true q36))
      go_ret
      exact ⟨_,err_,Kd.R_up HO294.out,IsS74.up HI0.out,B_st HB.out,keep_up HK.out⟩
     ·rw [if_neg c29] at H
      exact absurd H (by simp)
    ·rw [if_neg c28] at H
     exact absurd H (by simp)
   ·rw [if_neg c26] at H
    have c26b0 : (t279 == 1) = false := beq_eq_false_iff_ne.mpr c26
    have c26b1 : (t279 != 1) = true := bne_iff_ne.mpr c26
    by_cases c37 : t279 = 2
    ·rw [if_pos c37] at H
     have c37b0 : (t279 == 2) = true := beq_iff_eq.mpr c37
     have c37b1 : (t279 != 2) = false := bne_eq_false_iff_eq.mpr c37
     clear c37
     obtain ⟨y295,hy295⟩ : ∃ y_ : List Int,y_ = (([0,1,128,255] : List Int)) := ⟨_,rfl⟩
     replace H : ((spec_l1Int.f s0_0 t280 t281 y295).bind fun bt298 => (if y276.length < 140737488355328 then (some ((y276 ++ [(bt298.1) % 256]),bt298.2.1,bt298.2.2)) else (none))) = some (r1,r2,r3) := by first | (rw [hy295];with_reducible exact H) | (have H2_ := (Option.bind_some _ _).symm.trans H;rw [hy295];with_reducible exact H2_) | (have H2_ := (Option.bind_some _ _).symm.trans H;with_reducible exact H2_) | with_reducible exact H | (rw [hy295];exact H) | exact H
     have Ny295 := Mk hy295
     clear hy295
     replace H := bsm H
     obtain ⟨⟨t298,t299,t300⟩,A38,H⟩ := H
     (try dsimp only at H)
     by_cases c39 : y276.length < 140737488355328
     ·rw [if_pos c39] at H
      have LMc39 := Mk c39
      clear c39
      obtain ⟨y301,hy301⟩ : ∃ y_ : List Int,y_ = (y276 ++ [(t298) % 256]) := ⟨_,rfl⟩
      replace H : (some (y301,t299,t300)) = some (r1,r2,r3) := by first | (rw [hy301];with_reducible exact H) | (have H2_ := (Option.bind_some _ _).symm.trans H;rw [hy301];with_reducible exact H2_) | (have H2_ := (Option.bind_some _ _).symm.trans H;with_reducible exact H2_) | with_reducible exact H | (rw [hy301];exact H) | exact H
      have Ny301 := Mk hy301
      clear hy301
      simp only [Option.some.injEq,Prod.mk.injEq] at H
      obtain ⟨rfl,rfl,rfl⟩ := H
      go_enter Try.func22,Try.ntmps22
      go_wp2_with (first | ((with_reducible refine gate_dst (N := 7) rfl ?_);refine Kd.R_lit (Kd.int .u8) _ 5 ?hg (N := 7) ?hd (xs := ([] : List Int)) (inner := []) (ok := fun _ => True) (okp := fun _ => True) ?hr ?hp (fun _ hk => hk) trivial (Below.refl _ _) (Nat.le_refl _) (by simp) ?_;(case hd => rfl);(case hg => rfl);(case hr => first | (go_simp;done) | (go_simp;rfl));(case hp => exact (Reps.none _ _));intro v274 w40 ho41 hb hg_ hnew_;clear hg_ hnew_;(first | rw [← Ny273.out] at ho41 | (simp only [Int.reduceToNat] at ho41;rw [← Ny273.out] at ho41));have HO275 := Mk (Kd.R_lower ho41 (keep_size (w := w) (g := g) (row := none) (keep_up HK.out)));replace HI0 := Mk (IsS74.below (IsS74.up HI0.out) hb);replace HK := Mk (KeepBut.trans (keep_up HK.out) (KeepBut.of_below hb g none) (.inl rfl));replace HB := Mk (below_step (B_st HB.out) hb);clear hb ho41) | ((with_reducible refine gate_builtin (b := .append) (xs := #[.tmp 7,.tmp 8]) rfl ?_);at_builtin;refine Kd.R_append_rows (Kd.int .u8) w.heap.size rfl (.tmp 7) (.tmp 8) 22 5 (.int .u8 0) 1 rfl Try.underlying22 info5 rfl (by decide) (by omega) v274 y273 l1 _ _ _ (fun _ => True) (fun _ => False) rfl rfl ?aO ?aR (fun _ _ h => h) (fun _ h => h.elim) ?aF (Below.refl _ _) ?aS ?aL ?_;(case aR => exact Kd.C_keep 0 HR1.out (keep_up HK.out) hf1);(case aF => exact (fun _ _ => trivial));(case aO => exact (Kd.R_up HO275.out));(case aS => exact (keep_size (w := w) (g := g) (row := none) (keep_up HK.out)));(case aL => have := LMc3.out;omega);intro v277 w42 ho hb hg hat;rw [← Ny276.out] at ho;replace HI0 := Mk (IsS74.grown (IsS74.up HI0.out) hg (IsS74.own_ne HI0.out HO275.out (by decide)));replace HB := Mk (below_weaken (B_st HB.out) HL.out hb);replace HK := Mk (KeepBut.trans (keep_up HK.out) (KeepBut.of_grown hg g) (Kd.R_base2 HO275.out));have HO278 := Mk (ho);clear HO275;clear ho hb hg hat) | ((with_reducible refine gate_callee (f := 35) rfl ?_);refine goesL_ (some 11) rfl rfl Try.func35 (by kernel_rfl) rfl #[.pointer (some ⟨g,0,none⟩),.int .i64 6] rfl eq_up ?_;(with_reducible refine (spec_l1Below.calls g s0_0 s0_1 s0_2 6 t279 t280 t281 w0 _ ?side1 ?side2 A4.out).mono ?_);(case side1 => exact IsS74.up HI0.out);(case side2 => exact B_st HB.out);rintro e w43 ⟨rfl,hi,hb,hk⟩;refine ⟨_,rfl,?_⟩;replace HO278 := Mk (Kd.R_mono (Kd.R_keep (IsS74.apart (show IsS74 w0 _ g s0_0 s0_1 s0_2 from IsS74.up HI0.out) (Kd.R_up HO278.out) (by decide)) hk (fun _ h => h.2)) (fun _ h => h.1));replace HK := Mk (KeepBut.trans (keep_up HK.out) hk (.inl rfl));replace HB := Mk (hb);replace HI0 := Mk (hi);(try clear hb);(try clear hb2);(try clear hk);(try clear hi)) | ((with_reducible refine gate_dst (N := 39) rfl ?_);refine Kd.R_lit (Kd.int .i64) _ 3 ?hg (N := 39) ?hd (xs := ([0,1,128,255] : List Int)) (inner := [.int .i64 0,.int .i64 1,.int .i64 128,.int .i64 255]) (ok := fun _ => True) (okp := fun _ => True) ?hr ?hp (fun _ hk => hk) trivial (Below.refl _ _) (Nat.le_refl _) (by simp) ?_;(case hd => rfl);(case hg => rfl);(case hr => first | (go_simp;done) | (go_simp;rfl));(case hp => exact (Reps.one (show Kd.M (Kd.int .i64) _ _ _ 0 [.int .i64 0] from rfl) (Reps.one (show Kd.M (Kd.int .i64) _ _ _ 1 [.int .i64 1] from rfl) (Reps.one (show Kd.M (Kd.int .i64) _ _ _ 128 [.int .i64 128] from rfl) (Reps.one (show Kd.M (Kd.int .i64) _ _ _ 255 [.int .i64 255] from rfl) (Reps.none _ _))))));intro v296 w44 ho45 hb hg_ hnew_;clear hg_ hnew_;(first | rw [← Ny295.out] at ho45 | (simp only [Int.reduceToNat] at ho45;rw [← Ny295.out] at ho45));replace HO278 := Mk (Kd.R_below (Kd.R_up HO278.out) hb);have HO297 := Mk (Kd.R_lower ho45 (keep_size (w := w) (g := g) (row := none) (keep_up HK.out)));replace HI0 := Mk (IsS74.below (IsS74.up HI0.out) hb);replace HK := Mk (KeepBut.trans (keep_up HK.out) (KeepBut.of_below hb g none) (.inl rfl));replace HB := Mk (below_step (B_st HB.out) hb);clear hb ho45;obtain ⟨Ao46,co46,eo46⟩ := Kd.R_slice HO297.out;subst eo46) | ((with_reducible refine gate_callee (f := 23) rfl ?_);refine goesL_ (some 40) rfl rfl Try.func23 (by kernel_rfl) rfl #[.pointer (some ⟨g,0,none⟩),.slice Ao46 y295.length co46] rfl eq_up ?_;(with_reducible refine (spec_l1Int.calls g s0_0 t280 t281 _ _ y295 t298 t299 t300 w0 _ ?side1 ?side2 ?side3 ?side4 ?side5 A38.out).mono ?_);(case side1 => exact IsS74.up HI0.out);(case side2 => exact B_st HB.out);(case side3 => exact Kd.C_up (Kd.R_reads' HO297.out).2.2);(case side4 => exact (Kd.R_reads' HO297.out).2.1);(case side5 => exact far_slice (IsS74.own_ne HI0.out HO297.out (by decide)));rintro e w47 ⟨rfl,hi,hb,hk⟩;refine ⟨_,rfl,?_⟩;replace HO278 := Mk (Kd.R_mono (Kd.R_keep (IsS74.apart (show IsS74 w0 _ g s0_0 t280 t281 from IsS74.up HI0.out) (Kd.R_up HO278.out) (by decide)) hk (fun _ h => h.2)) (fun _ h => h.1));replace HO297 := Mk (Kd.R_mono (Kd.R_keep (IsS74.apart (show IsS74 w0 _ g s0_0 t280 t281 from IsS74.up HI0.out) (Kd.R_up HO297.out) (by decide)) hk (fun _ h => h.2)) (fun _ h => h.1));replace HK := Mk (KeepBut.trans (keep_up HK.out) hk (.inl rfl));replace HB := Mk (hb);replace HI0 := Mk (hi);(try clear hb);(try clear hb2);(try clear hk);(try clear hi)) | ((with_reducible refine gate_builtin (b := .append) (xs := #[.tmp 37,.tmp 42]) rfl ?_);at_builtin;refine Kd.R_append (Kd.int .u8) w.heap.size rfl (.tmp 37) (.tmp 42) 22 5 (.int .u8 0) 1 rfl Try.underlying22 info5 rfl (by decide) (by omega) v277 y276 ((t298) % 256) [.int .u8 ((t298) % 256)] (fun _ => True) (fun _ => False) rfl rfl ?aP (fun _ hk => hk.elim) ?aF ?aO (Below.refl _ _) ?aS ?aL ?_;(case aP => exact rfl);(case aF => exact (fun _ _ => trivial));(case aO => exact (Kd.R_up HO278.out));(case aS => exact (keep_size (w := w) (g := g) (row := none) (keep_up HK.out)));(case aL => have := LMc39.out;omega);intro v302 w48 ho hb hg hat;rw [← Ny301.out] at ho;replace HI0 := Mk (IsS74.grown (IsS74.up HI0.out) hg (IsS74.own_ne HI0.out HO278.out (by decide)));replace HO297 := Mk (Kd.R_over' (Kd.R_up HO297.out) (Kd.R_typed (Kd.R_up HO278.out)) (by decide) hg);replace HB := Mk (below_weaken (B_st HB.out) HL.out hb);replace HK := Mk (KeepBut.trans (keep_up HK.out) (KeepBut.of_grown hg g) (Kd.R_base2 HO278.out));have HO303 := Mk (ho);clear HO278;clear ho hb hg hat))
      go_ret
      exact ⟨_,err_,Kd.R_up HO303.out,IsS74.up HI0.out,B_st HB.out,keep_up HK.out⟩
     ·rw [if_neg c39] at H
      exact absurd H (by simp)
    ·rw [if_neg c37] at H
     have c37b0 : (t279 == 2) = false := beq_eq_false_iff_ne.mpr c37
     have c37b1 : (t279 != 2) = true := bne_iff_ne.mpr c37
     by_cases c49 : t279 = 3
     ·rw [if_pos c49] at H
      have c49b0 : (t279 == 3) = true := beq_iff_eq.mpr c49
      have c49b1 : (t279 != 3) = false := bne_eq_false_iff_eq.mpr c49
      clear c49
      by_cases c50 : (y276.length : Int) > 0
      ·rw [if_pos c50] at H
       have c50b0 : decide (0 < (y276.length : Int)) = true := decide_eq_true c50
       have c50b1 : decide (0 < y276.length) = true := decide_eq_true (by omega)
       clear c50
       replace H := bsm H
       obtain ⟨⟨t304,t305,t306⟩,A51,H⟩ := H
       (try dsimp only at H)
       by_cases c52 : 0 ≤ t304
       ·rw [if_pos c52] at H
        have c52b0 : decide (0 ≤ t304) = true := decide_eq_true c52
        clear c52
        by_cases c53 : t304 < (y276.length : Int)
        ·rw [if_pos c53] at H
         have c53b0 : decide (t304 < (y276.length : Int)) = true := decide_eq_true c53
         clear c53
         replace H := bsm H
         obtain ⟨⟨t308,t309,t310⟩,A54,H⟩ := H
         (try dsimp only at H)
         by_cases c55 : 0 ≤ t308
         ·rw [if_pos c55] at H
          have c55b0 := eq_true c55
          have c55b1 : decide (0 ≤ t308) = true := decide_eq_true c55
          clear c55
          obtain ⟨ji56,hji56⟩ : ∃ j_ : Int,(shl .u8 1 t308) = j_ := ⟨_,rfl⟩
          replace H : (some ((y276.set (t304 : Int).toNat (Go.bits .xor .u8 (rd y276 t304) (ji56))),t309,t310)) = some (r1,r2,r3) := by first | (rw [hji56] at H;exact H) | (simp only [hji56] at H ⊢;exact H)
          (try rw [hji56] at A4)
          (try rw [hji56] at A51)
          (try rw [hji56] at A54)
          have hji56_ : (IntKind.u8.wrap (1 * 2 ^ min t308.toNat 8)) = ji56 := hji56
          have hji56z : t308 ≤ 8 → (IntKind.u8.wrap (1 * 2 ^ t308.toNat)) = ji56 := shl_small hji56
          have hji56u : (IntKind.u8.wrap (2 ^ min t308.toNat 8)) = ji56 := by have h_ := hji56_;rw [Int.one_mul] at h_;exact h_
          have hji56v : t308 ≤ 8 → (IntKind.u8.wrap (2 ^ t308.toNat)) = ji56 := fun hle_ => by have h_ := hji56z hle_;rw [Int.one_mul] at h_;exact h_
          obtain ⟨y311,hy311⟩ : ∃ y_ : List Int,y_ = (y276.set (t304 : Int).toNat (Go.bits .xor .u8 (rd y276 t304) (ji56))) := ⟨_,rfl⟩
          replace H : (some (y311,t309,t310)) = some (r1,r2,r3) := by first | (rw [hy311];with_reducible exact H) | (have H2_ := (Option.bind_some _ _).symm.trans H;rw [hy311];with_reducible exact H2_) | (have H2_ := (Option.bind_some _ _).symm.trans H;with_reducible exact H2_) | with_reducible exact H | (rw [hy311];exact H) | exact H
          have Ny311 := Mk hy311
          clear hy311
          simp only [Option.some.injEq,Prod.mk.injEq] at H
          obtain ⟨rfl,rfl,rfl⟩ := H
          go_enter Try.func22,Try.ntmps22
          try go_wp2_with (first | ((with_reducible refine gate_dst (N := 7) rfl ?_);refine Kd.R_lit (Kd.int .u8) _ 5 ?hg (N := 7) ?hd (xs := ([] : List Int)) (inner := []) (ok := fun _ => True) (okp := fun _ => True) ?hr ?hp (fun _ hk => hk) trivial (Below.refl _ _) (Nat.le_refl _) (by simp) ?_;(case hd => rfl);(case hg => rfl);(case hr => first | (go_simp;done) | (go_simp;rfl));(case hp => exact (Reps.none _ _));intro v274 w58 ho59 hb hg_ hnew_;clear hg_ hnew_;(first | rw [← Ny273.out] at ho59 | (simp only [Int.reduceToNat] at ho59;rw [← Ny273.out] at ho59));have HO275 := Mk (Kd.R_lower ho59 (keep_size (w := w) (g := g) (row := none) (keep_up HK.out)));replace HI0 := Mk (IsS74.below (IsS74.up HI0.out) hb);replace HK := Mk (KeepBut.trans (keep_up HK.out) (KeepBut.of_below hb g none) (.inl rfl));replace HB := Mk (below_step (B_st HB.out) hb);clear hb ho59) | ((with_reducible refine gate_builtin (b := .append) (xs := #[.tmp 7,.tmp 8]) rfl ?_);at_builtin;refine Kd.R_append_rows (Kd.int .u8) w.heap.size rfl (.tmp 7) (.tmp 8) 22 5 (.int .u8 0) 1 rfl Try.underlying22 info5 rfl (by decide) (by omega) v274 y273 l1 _ _ _ (fun _ => True) (fun _ => False) rfl rfl ?aO ?aR (fun _ _ h => h) (fun _ h => h.elim) ?aF (Below.refl _ _) ?aS ?aL ?_;(case aR => exact Kd.C_keep 0 HR1.out (keep_up HK.out) hf1);(case aF => exact (fun _ _ => trivial));(case aO => exact (Kd.R_up HO275.out));(case aS => exact (keep_size (w := w) (g := g) (row := none) (keep_up HK.out)));(case aL => have := LMc3.out;omega);intro v277 w60 ho hb hg hat;rw [← Ny276.out] at ho;replace HI0 := Mk (IsS74.grown (IsS74.up HI0.out) hg (IsS74.own_ne HI0.out HO275.out (by decide)));replace HB := Mk (below_weaken (B_st HB.out) HL.out hb);replace HK := Mk (KeepBut.trans (keep_up HK.out) (KeepBut.of_grown hg g) (Kd.R_base2 HO275.out));have HO278 := Mk (ho);clear HO275;clear ho hb hg hat) | ((with_reducible refine gate_callee (f := 35) rfl ?_);refine goesL_ (some 11) rfl rfl Try.func35 (by kernel_rfl) rfl #[.pointer (some ⟨g,0,none⟩),.int .i64 6] rfl eq_up ?_;(with_reducible refine (spec_l1Below.calls g s0_0 s0_1 s0_2 6 t279 t280 t281 w0 _ ?side1 ?side2 A4.out).mono ?_);(case side1 => exact IsS74.up HI0.out);(case side2 => exact B_st HB.out);rintro e w61 ⟨rfl,hi,hb,hk⟩;refine ⟨_,rfl,?_⟩;replace HO278 := Mk (Kd.R_mono (Kd.R_keep (IsS74.apart (show IsS74 w0 _ g s0_0 s0_1 s0_2 from IsS74.up HI0.out) (Kd.R_up HO278.out) (by decide)) hk (fun _ h => h.2)) (fun _ h => h.1));replace HK := Mk (KeepBut.trans (keep_up HK.out) hk (.inl rfl));replace HB := Mk (hb);replace HI0 := Mk (hi);(try clear hb);(try clear hb2);(try clear hk);(try clear hi);obtain ⟨Ao62,co62,eo62⟩ := Kd.R_slice HO278.out;subst eo62) | ((with_reducible refine gate_callee (f := 35) rfl ?_);refine goesL_ (some 52) rfl rfl Try.func35 (by kernel_rfl) rfl #[.pointer (some ⟨g,0,none⟩),.int .i64 (y276.length : Int)] rfl eq_up ?_;(with_reducible refine (spec_l1Below.calls g s0_0 t280 t281 (y276.length : Int) t304 t305 t306 w0 _ ?side1 ?side2 A51.out).mono ?_);(case side1 => exact IsS74.up HI0.out);(case side2 => exact B_st HB.out);rintro e w63 ⟨rfl,hi,hb,hk⟩;refine ⟨_,rfl,?_⟩;replace HO278 := Mk (Kd.R_mono (Kd.R_keep (IsS74.apart (show IsS74 w0 _ g s0_0 t280 t281 from IsS74.up HI0.out) (Kd.R_up HO278.out) (by decide)) hk (fun _ h => h.2)) (fun _ h => h.1));replace HK := Mk (KeepBut.trans (keep_up HK.out) hk (.inl rfl));replace HB := Mk (hb);replace HI0 := Mk (hi);(try clear hb);(try clear hb2);(try clear hk);(try clear hi)))
          replace HO278 := Mk (Kd.R_drew HO278.out)
          replace HI0 := Mk (IsS74.drew HI0.out)
          replace HK := Mk (keep_drew HK.out)
          replace HB := Mk (below_drew1 HB.out)
          have p307 : 0 ≤ (t304 : Int) := ofd
          have q307 : t304 < (y276.length : Int) := ofd
          obtain ⟨ad307,e307,hx307_0⟩ := Kd.at_int (Kd.R_reads' HO278.out).2.2 t304 p307 q307
          cases e307
          replace p307 := eq_true p307
          replace q307 := eq_true q307
          refine start_ (n := 12) (S := fun w' => w'.cell? (ad307.add (t304).toNat) = some (.int .u8 (rd y276 t304))) (ds := [11]) #[false,false,false,false,false,false,false,false,false,false,false,false] (by kernel_rfl) rfl rfl (hx307_0) (fun hHeld => ?_);refine with_tabW spec_l1Bent.tab13 spec_l1Bent.bits13 (fun HT_ HW_ => ?_)
          generalize w63.drew = w64 at HO278 HI0 HK HB hx307_0 hHeld ⊢
          refine pure_ (i := 0) (N := some 53) (v := ?_) (a' := ?_) #[true,false,false,false,false,false,false,false,false,false,false,false] rfl rfl (any_of HT_.out (by kernel_rfl)) (fun _ _ _ h => h) (Or.inl ⟨by rfl,?_⟩) ?_ ?_
          rotate_left
          ·intro w'
           go_simp
           with_reducible rfl
          rotate_left
          ·simp only [Act.put,List.setIfInBounds_toArray,List.set_cons_zero,List.set_cons_succ,i64_w,i32_w]
           rfl
          refine pure_ (i := 1) (N := some 54) (v := ?_) (a' := ?_) #[true,true,false,false,false,false,false,false,false,false,false,false] rfl rfl (any_of HT_.out (by kernel_rfl)) (fun _ _ _ h => h) (Or.inl ⟨by rfl,?_⟩) ?_ ?_
          rotate_left
          ·intro w'
           go_simp
           with_reducible rfl
          rotate_left
          ·simp only [Act.put,List.setIfInBounds_toArray,List.set_cons_zero,List.set_cons_succ,i64_w,i32_w]
           rfl
          refine pure_ (i := 2) (N := some 55) (v := ?_) (a' := ?_) #[true,true,true,false,false,false,false,false,false,false,false,false] rfl rfl (any_of HT_.out (by kernel_rfl)) (fun _ _ _ h => h) (Or.inl ⟨by rfl,?_⟩) ?_ ?_
          rotate_left
          ·intro w'
           go_simp
           with_reducible rfl
          rotate_left
          ·simp only [Act.put,List.setIfInBounds_toArray,List.set_cons_zero,List.set_cons_succ,i64_w,i32_w]
           rfl
          refine pure_ (i := 3) (N := some 56) (v := ?_) (a' := ?_) #[true,true,true,true,false,false,false,false,false,false,false,false] rfl rfl (any_of HT_.out (by kernel_rfl)) (fun _ _ _ h => h) (Or.inl ⟨by rfl,?_⟩) ?_ ?_
          rotate_left
          ·intro w'
           go_simp
           with_reducible rfl
          rotate_left
          ·simp only [Act.put,List.setIfInBounds_toArray,List.set_cons_zero,List.set_cons_succ,i64_w,i32_w]
           rfl
          refine pure_ (i := 4) (N := some 57) (v := ?_) (a' := ?_) #[true,true,true,true,true,false,false,false,false,false,false,false] rfl rfl (any_of HT_.out (by kernel_rfl)) (fun _ _ _ h => h) (Or.inl ⟨by rfl,?_⟩) ?_ ?_
          rotate_left
          ·intro w'
           go_simp
           with_reducible rfl
          rotate_left
          ·simp only [Act.put,List.setIfInBounds_toArray,List.set_cons_zero,List.set_cons_succ,i64_w,i32_w]
           rfl
          refine pure_ (i := 6) (N := some 59) (v := ?_) (a' := ?_) #[true,true,true,true,true,false,true,false,false,false,false,false] rfl rfl (any_of HT_.out (by kernel_rfl)) (fun _ _ _ h => h) (Or.inl ⟨by rfl,?_⟩) ?_ ?_
          rotate_left
          ·intro w'
           go_simp
           with_reducible rfl
          rotate_left
          ·simp only [Act.put,List.setIfInBounds_toArray,List.set_cons_zero,List.set_cons_succ,i64_w,i32_w]
           rfl
          refine take_ (i := 5) (N := some 58) (v := ?_) (a' := ?_) #[true,true,true,true,true,true,true,false,false,false,false,false] rfl rfl (take_ofW HT_.out HW_.out (by kernel_rfl)) (fun _ _ _ h => h) (Or.inl ⟨by rfl,?_⟩) hHeld ?_ ?_
          rotate_left
          ·intro w' s0
           go_simp
           with_reducible rfl
          rotate_left
          ·simp only [Act.put,List.setIfInBounds_toArray,List.set_cons_zero,List.set_cons_succ,i64_w,i32_w]
           rfl
          refine one_ (i := 7) (N := some 60) #[true,true,true,true,true,true,true,true,false,false,false,false] rfl rfl (one_of HT_.out (by kernel_rfl)) (by decide) (fun K hK => ?_)
          refine goes_ Try.func35 (by kernel_rfl) rfl #[.pointer (some ⟨g,0,none⟩),.int .i64 8] (by rfl) rfl rfl eq_up ?_
          with_reducible refine (spec_l1Below.calls g s0_0 t305 t306 8 t308 t309 t310 w0 _ ?side1 ?side2 A54.out).mono ?_
          (case side1 => exact IsS74.up HI0.out)
          (case side2 => exact B_st HB.out)
          rintro e w65 ⟨rfl,hi,hb,hk⟩
          have HS0_ := keep_cell hk (hHeld) (by first | (rw [add_block];exact Kd.own_blk (IsS74.own_ne HI0.out HO278.out (by decide))) | (show (Addr.add _ _).block ≠ _;rw [add_block];exact Kd.own_blk (IsS74.own_ne HI0.out HO278.out (by decide))) | exact Kd.own_blk (IsS74.own_ne HI0.out HO278.out (by decide)))
          refine ⟨_,rfl,?_⟩
          replace HO278 := Mk (Kd.R_mono (Kd.R_keep (IsS74.apart (show IsS74 w0 _ g s0_0 t305 t306 from IsS74.up HI0.out) (Kd.R_up HO278.out) (by decide)) hk (fun _ h => h.2)) (fun _ h => h.1))
          replace HK := Mk (KeepBut.trans (keep_up HK.out) hk (.inl rfl))
          replace HB := Mk (hb)
          replace HI0 := Mk (hi)
          (try clear hb)
          (try clear hb2)
          (try clear hk)
          (try clear hi)
          have p57 : 0 ≤ (t304 : Int) := ofd
          have q57 : (t304 : Int) < ((y276.length : Int) : Int) := ofd
          obtain ⟨go57,co57,eo57,gb57,gl57,cl57,HG57⟩ := Kd.R_form HO278.out (by omega)
          (first | cases eo57 | (injection eo57 with ea_ en_ ec_;(first | subst ea_ | (injection ea_ with ea_;subst ea_));subst ec_;clear en_))
          have GB57 := Mk gb57
          have GG57 := Mk HG57
          clear gb57 gl57 HG57
          (first | simp only [add_plain] at hx307_0 | skip)
          obtain ⟨hx57_0,hf57_0⟩ := Kd.R_celln 0 HO278.out (t304 : Int) p57 q57
          replace p57 := eq_true p57
          replace q57 := eq_true q57
          have HN0_go57 := Mk (show g ≠ go57 from by have h_ := IsS74.own_ne HI0.out HO278.out (by decide);intro e_;exact h_ (by rw [e_];rfl))
          have HP66 := Kd.R_putn HO278.out (t304 : Int) (Go.bits .xor .u8 (rd y276 t304) (ji56))
          rw [← Ny311.out] at HP66
          have HQ66 := Mk HP66
          clear HP66
          refine hK.out _ _ (HS0_) (fun hHeld => ?_)
          clear hK K
          refine norm_ (a' := ?_) ?_ ?_
          rotate_left
          ·show Act.put _ (some 60) _ = _
           simp only [Act.put,List.setIfInBounds_toArray,List.set_cons_zero,List.set_cons_succ,i64_w,i32_w]
           rfl
          refine pure_ (i := 8) (N := some 61) (v := ?_) (a' := ?_) #[true,true,true,true,true,true,true,true,true,false,false,false] rfl rfl (any_of HT_.out (by kernel_rfl)) (fun _ _ _ h => h) (Or.inl ⟨by rfl,?_⟩) ?_ ?_
          rotate_left
          ·intro w'
           go_simp
           with_reducible rfl
          rotate_left
          ·simp only [Act.put,List.setIfInBounds_toArray,List.set_cons_zero,List.set_cons_succ,i64_w,i32_w]
           rfl
          refine pure_ (i := 9) (N := some 62) (v := ?_) (a' := ?_) #[true,true,true,true,true,true,true,true,true,true,false,false] rfl rfl (any_of HT_.out (by kernel_rfl)) (fun _ _ _ h => h) (Or.inl ⟨by rfl,?_⟩) ?_ ?_
          rotate_left
          ·intro w'
           go_simp
           with_reducible rfl
          rotate_left
          ·simp only [Act.put,List.setIfInBounds_toArray,List.set_cons_zero,List.set_cons_succ,i64_w,i32_w]
           rfl
          refine pure_ (i := 10) (N := some 63) (v := ?_) (a' := ?_) #[true,true,true,true,true,true,true,true,true,true,true,false] rfl rfl (any_of HT_.out (by kernel_rfl)) (fun _ _ _ h => h) (Or.inl ⟨by rfl,?_⟩) ?_ ?_
          rotate_left
          ·intro w'
           go_simp
           with_reducible rfl
          rotate_left
          ·simp only [Act.put,List.setIfInBounds_toArray,List.set_cons_zero,List.set_cons_succ,i64_w,i32_w]
           rfl
          refine last_ (i := 11) (N := none) #[true,true,true,true,true,true,true,true,true,true,true,true] rfl rfl (one_of HT_.out (by kernel_rfl)) (by decide) (fun K hK => ?_)
          refine skip_ (w1 := ?_) (by rfl) rfl ?_ ?_
          rotate_left
          ·go_simp
           rfl
          refine hK.out _ _ ?_
          clear hK K
          refine done_ (done_of HT_.out (by kernel_rfl)) ?_
          try go_wp2
          go_ret
          exact ⟨_,by first | rfl | (simp [errW_none,errW_some] <;> rfl) | (simp only [← hji56];first | rfl | (simp [errW_none,errW_some] <;> rfl)) | (simp [*,errW_none,errW_some] <;> rfl),Kd.R_up HQ66.out,IsS74.up HI0.out,by repeat (first | (with_reducible first | exact HB.out | apply below_alloc | apply pw_below_drewN | apply below_drew1 | refine below_set ?_ (Nat.le_trans HL.out GB57.out) | refine below_set ?_ (IsS74.ge HI0.out)) | exact HB.out),keep_up HK.out⟩
         ·rw [if_neg c55] at H
          exact absurd H (by simp)
        ·rw [if_neg c53] at H
         exact absurd H (by simp)
       ·rw [if_neg c52] at H
        exact absurd H (by simp)
      ·rw [if_neg c50] at H
       have c50b0 : decide (0 < (y276.length : Int)) = false := decide_eq_false c50
       have c50b1 : decide (0 < y276.length) = false := decide_eq_false (by omega)
       clear c50
       simp only [Option.some.injEq,Prod.mk.injEq] at H
       obtain ⟨rfl,rfl,rfl⟩ := H
       go_enter Try.func22,Try.ntmps22
       go_wp2_with (first | ((with_reducible refine gate_dst (N := 7) rfl ?_);refine Kd.R_lit (Kd.int .u8) _ 5 ?hg (N := 7) ?hd (xs := ([] : List Int)) (inner := []) (ok := fun _ => True) (okp := fun _ => True) ?hr ?hp (fun _ hk => hk) trivial (Below.refl _ _) (Nat.le_refl _) (by simp) ?_;(case hd => rfl);(case hg => rfl);(case hr => first | (go_simp;done) | (go_simp;rfl));(case hp => exact (Reps.none _ _));intro v274 w67 ho68 hb hg_ hnew_;clear hg_ hnew_;(first | rw [← Ny273.out] at ho68 | (simp only [Int.reduceToNat] at ho68;rw [← Ny273.out] at ho68));have HO275 := Mk (Kd.R_lower ho68 (keep_size (w := w) (g := g) (row := none) (keep_up HK.out)));replace HI0 := Mk (IsS74.below (IsS74.up HI0.out) hb);replace HK := Mk (KeepBut.trans (keep_up HK.out) (KeepBut.of_below hb g none) (.inl rfl));replace HB := Mk (below_step (B_st HB.out) hb);clear hb ho68) | ((with_reducible refine gate_builtin (b := .append) (xs := #[.tmp 7,.tmp 8]) rfl ?_);at_builtin;refine Kd.R_append_rows (Kd.int .u8) w.heap.size rfl (.tmp 7) (.tmp 8) 22 5 (.int .u8 0) 1 rfl Try.underlying22 info5 rfl (by decide) (by omega) v274 y273 l1 _ _ _ (fun _ => True) (fun _ => False) rfl rfl ?aO ?aR (fun _ _ h => h) (fun _ h => h.elim) ?aF (Below.refl _ _) ?aS ?aL ?_;(case aR => exact Kd.C_keep 0 HR1.out (keep_up HK.out) hf1);(case aF => exact (fun _ _ => trivial));(case aO => exact (Kd.R_up HO275.out));(case aS => exact (keep_size (w := w) (g := g) (row := none) (keep_up HK.out)));(case aL => have := LMc3.out;omega);intro v277 w69 ho hb hg hat;rw [← Ny276.out] at ho;replace HI0 := Mk (IsS74.grown (IsS74.up HI0.out) hg (IsS74.own_ne HI0.out HO275.out (by decide)));replace HB := Mk (below_weaken (B_st HB.out) HL.out hb);replace HK := Mk (KeepBut.trans (keep_up HK.out) (KeepBut.of_grown hg g) (Kd.R_base2 HO275.out));have HO278 := Mk (ho);clear HO275;clear ho hb hg hat) | ((with_reducible refine gate_callee (f := 35) rfl ?_);refine goesL_ (some 11) rfl rfl Try.func35 (by kernel_rfl) rfl #[.pointer (some ⟨g,0,none⟩),.int .i64 6] rfl eq_up ?_;(with_reducible refine (spec_l1Below.calls g s0_0 s0_1 s0_2 6 t279 t280 t281 w0 _ ?side1 ?side2 A4.out).mono ?_);(case side1 => exact IsS74.up HI0.out);(case side2 => exact B_st HB.out);rintro e w70 ⟨rfl,hi,hb,hk⟩;refine ⟨_,rfl,?_⟩;replace HO278 := Mk (Kd.R_mono (Kd.R_keep (IsS74.apart (show IsS74 w0 _ g s0_0 s0_1 s0_2 from IsS74.up HI0.out) (Kd.R_up HO278.out) (by decide)) hk (fun _ h => h.2)) (fun _ h => h.1));replace HK := Mk (KeepBut.trans (keep_up HK.out) hk (.inl rfl));replace HB := Mk (hb);replace HI0 := Mk (hi);(try clear hb);(try clear hb2);(try clear hk);(try clear hi);obtain ⟨Ao71,co71,eo71⟩ := Kd.R_slice HO278.out;subst eo71))
       go_ret
       exact ⟨_,err_,Kd.R_up HO278.out,IsS74.up HI0.out,B_st HB.out,keep_up HK.out⟩
     ·rw [if_neg c49] at H
      have c49b0 : (t279 == 3) = false := beq_eq_false_iff_ne.mpr c49
      have c49b1 : (t279 != 3) = true := bne_iff_ne.mpr c49
      simp only [Option.some.injEq,Prod.mk.injEq] at H
      obtain ⟨rfl,rfl,rfl⟩ := H
      go_enter Try.func22,Try.ntmps22
      go_wp2_with (first | ((with_reducible refine gate_dst (N := 7) rfl ?_);refine Kd.R_lit (Kd.int .u8) _ 5 ?hg (N := 7) ?hd (xs := ([] : List Int)) (inner := []) (ok := fun _ => True) (okp := fun _ => True) ?hr ?hp (fun _ hk => hk) trivial (Below.refl _ _) (Nat.le_refl _) (by simp) ?_;(case hd => rfl);(case hg => rfl);(case hr => first | (go_simp;done) | (go_simp;rfl));(case hp => exact (Reps.none _ _));intro v274 w72 ho73 hb hg_ hnew_;clear hg_ hnew_;(first | rw [← Ny273.out] at ho73 | (simp only [Int.reduceToNat] at ho73;rw [← Ny273.out] at ho73));have HO275 := Mk (Kd.R_lower ho73 (keep_size (w := w) (g := g) (row := none) (keep_up HK.out)));replace HI0 := Mk (IsS74.below (IsS74.up HI0.out) hb);replace HK := Mk (KeepBut.trans (keep_up HK.out) (KeepBut.of_below hb g none) (.inl rfl));replace HB := Mk (below_step (B_st HB.out) hb);clear hb ho73) | ((with_reducible refine gate_builtin (b := .append) (xs := #[.tmp 7,.tmp 8]) rfl ?_);at_builtin;refine Kd.R_append_rows (Kd.int .u8) w.heap.size rfl (.tmp 7) (.tmp 8) 22 5 (.int .u8 0) 1 rfl Try.underlying22 info5 rfl (by decide) (by omega) v274 y273 l1 _ _ _ (fun _ => True) (fun _ => False) rfl rfl ?aO ?aR (fun _ _ h => h) (fun _ h => h.elim) ?aF (Below.refl _ _) ?aS ?aL ?_;(case aR => exact Kd.C_keep 0 HR1.out (keep_up HK.out) hf1);(case aF => exact (fun _ _ => trivial));(case aO => exact (Kd.R_up HO275.out));(case aS => exact (keep_size (w := w) (g := g) (row := none) (keep_up HK.out)));(case aL => have := LMc3.out;omega);intro v277 w74 ho hb hg hat;rw [← Ny276.out] at ho;replace HI0 := Mk (IsS74.grown (IsS74.up HI0.out) hg (IsS74.own_ne HI0.out HO275.out (by decide)));replace HB := Mk (below_weaken (B_st HB.out) HL.out hb);replace HK := Mk (KeepBut.trans (keep_up HK.out) (KeepBut.of_grown hg g) (Kd.R_base2 HO275.out));have HO278 := Mk (ho);clear HO275;clear ho hb hg hat) | ((with_reducible refine gate_callee (f := 35) rfl ?_);refine goesL_ (some 11) rfl rfl Try.func35 (by kernel_rfl) rfl #[.pointer (some ⟨g,0,none⟩),.int .i64 6] rfl eq_up ?_;(with_reducible refine (spec_l1Below.calls g s0_0 s0_1 s0_2 6 t279 t280 t281 w0 _ ?side1 ?side2 A4.out).mono ?_);(case side1 => exact IsS74.up HI0.out);(case side2 => exact B_st HB.out);rintro e w75 ⟨rfl,hi,hb,hk⟩;refine ⟨_,rfl,?_⟩;replace HO278 := Mk (Kd.R_mono (Kd.R_keep (IsS74.apart (show IsS74 w0 _ g s0_0 s0_1 s0_2 from IsS74.up HI0.out) (Kd.R_up HO278.out) (by decide)) hk (fun _ h => h.2)) (fun _ h => h.1));replace HK := Mk (KeepBut.trans (keep_up HK.out) hk (.inl rfl));replace HB := Mk (hb);replace HI0 := Mk (hi);(try clear hb);(try clear hb2);(try clear hk);(try clear hi)))
      go_ret
      exact ⟨_,err_,Kd.R_up HO278.out,IsS74.up HI0.out,B_st HB.out,keep_up HK.out⟩
 ·rw [if_neg c3] at H
  exact absurd H (by simp)

/-! ### spec_DrawGetMan: function 5 -/
def spec_DrawGetMan.f (k : Nat) (l0 : List Int) : Option (List Int × Int) := (spec_l1New.f k l0).bind fun bt312 => ((spec_l6Draw.f k bt312.1 bt312.2.1 bt312.2.2).bind fun bt316 => ((spec_PutMan.f k (([9] : List Int)) bt316.1 bt316.2.1 bt316.2.2.1 bt316.2.2.2.1).bind fun t331 => ((spec_l1Bent.f bt312.1 bt316.2.2.2.2.2.1 bt316.2.2.2.2.2.2 t331).bind fun bt334 => ((spec_l1Int.f bt312.1 bt334.2.1 bt334.2.2 (([1,1,1,1,0,(-1),99] : List Int))).bind fun bt342 => (some (bt334.1,bt342.1))))))
theorem spec_DrawGetMan.mono : ∀ a0 k,LeO (spec_DrawGetMan.f k a0) (spec_DrawGetMan.f (k + 1) a0) := by
 intro a0 k
 unfold spec_DrawGetMan.f
 repeat' first
   | (with_reducible exact spec_PutMan.mono _ _ _ _ _ _)
   | (with_reducible exact spec_l1New.mono _ _)
   | (with_reducible exact spec_l6Draw.mono _ _ _ _)
   | (with_reducible exact LeO.refl _)
   | (with_reducible exact LeO.none _)
   | (with_reducible refine LeO.ite ?_ ?_)
   | (with_reducible refine LeO.bind ?_ (fun _ => ?_))
   | exact spec_PutMan.mono _ _ _ _ _ _
   | exact spec_l1New.mono _ _
   | exact spec_l6Draw.mono _ _ _ _
   | exact LeO.none _
   | refine LeO.ite ?_ ?_
   | refine LeO.bind ?_ (fun _ => ?_)
set_option maxHeartbeats 8000000 in
set_option maxRecDepth 100000 in
theorem spec_DrawGetMan.calls (k : Nat) (A0 : Option Addr) (c0 : Nat) (l0 : List Int) (r1 : List Int) (r2 : Int) (w : World) (hr0 : Kd.C (Kd.int .u8) w A0 l0.length l0) (hc0 : l0.length ≤ c0) (h : spec_DrawGetMan.f k l0 = some (r1,r2)) :
  Calls Try.prog 5 #[.slice A0 l0.length c0] w fun e w' => ∃ v0_ : Value,e = .returned (.tuple #[v0_,.int .i64 r2]) ∧ Kd.R (Kd.int .u8) 5 w' w.heap.size (fun _ => True) v0_ r1 ∧ Below w.heap.size w w' := by
 have hu28 := Try.underlying28
 have HR0 := Mk hr0
 have HC0 := Mk hc0
 clear hr0 hc0
 have HB := Mk (Below.refl w.heap.size w)
 have H : ((spec_l1New.f k l0).bind fun bt312 => ((spec_l6Draw.f k bt312.1 bt312.2.1 bt312.2.2).bind fun bt316 => ((spec_PutMan.f k (([9] : List Int)) bt316.1 bt316.2.1 bt316.2.2.1 bt316.2.2.2.1).bind fun t331 => ((spec_l1Bent.f bt312.1 bt316.2.2.2.2.2.1 bt316.2.2.2.2.2.2 t331).bind fun bt334 => ((spec_l1Int.f bt312.1 bt334.2.1 bt334.2.2 (([1,1,1,1,0,(-1),99] : List Int))).bind fun bt342 => (some (bt334.1,bt342.1))))))) = some (r1,r2) := h
 clear h
 replace H := bsm H
 obtain ⟨⟨t312,t313,t314⟩,A2,H⟩ := H
 (try dsimp only at H)
 replace H := bsm H
 obtain ⟨⟨t316,t317,t318,t319,t322,t325,t326⟩,A3,H⟩ := H
 (try dsimp only at H)
 obtain ⟨y328,hy328⟩ : ∃ y_ : List Int,y_ = (([9] : List Int)) := ⟨_,rfl⟩
 replace H : ((spec_PutMan.f k y328 t316 t317 t318 t319).bind fun t331 => ((spec_l1Bent.f t312 t325 t326 t331).bind fun bt334 => ((spec_l1Int.f t312 bt334.2.1 bt334.2.2 (([1,1,1,1,0,(-1),99] : List Int))).bind fun bt342 => (some (bt334.1,bt342.1))))) = some (r1,r2) := by first | (rw [hy328];with_reducible exact H) | (have H2_ := (Option.bind_some _ _).symm.trans H;rw [hy328];with_reducible exact H2_) | (have H2_ := (Option.bind_some _ _).symm.trans H;with_reducible exact H2_) | with_reducible exact H | (rw [hy328];exact H) | exact H
 have Ny328 := Mk hy328
 clear hy328
 replace H := bsm H
 obtain ⟨t331,A4,H⟩ := H
 (try dsimp only at H)
 replace H := bsm H
 obtain ⟨⟨t334,t337,t338⟩,A5,H⟩ := H
 (try dsimp only at H)
 obtain ⟨y339,hy339⟩ : ∃ y_ : List Int,y_ = (([1,1,1,1,0,(-1),99] : List Int)) := ⟨_,rfl⟩
 replace H : ((spec_l1Int.f t312 t337 t338 y339).bind fun bt342 => (some (t334,bt342.1))) = some (r1,r2) := by first | (rw [hy339];with_reducible exact H) | (have H2_ := (Option.bind_some _ _).symm.trans H;rw [hy339];with_reducible exact H2_) | (have H2_ := (Option.bind_some _ _).symm.trans H;with_reducible exact H2_) | with_reducible exact H | (rw [hy339];exact H) | exact H
 have Ny339 := Mk hy339
 clear hy339
 replace H := Option.bind_eq_some_iff.mp H
 obtain ⟨⟨t342,t343,t344⟩,A60,H⟩ := H
 replace H : (some (t334,t342)) = some (r1,r2) := H
 have A6 := Mk A60
 clear A60
 simp only [Option.some.injEq,Prod.mk.injEq] at H
 obtain ⟨rfl,rfl⟩ := H
 go_enter Try.func5,Try.ntmps5
 go_wp2_with (first | ((with_reducible refine gate_callee (f := 20) rfl ?_);refine goesL_ (some 9) rfl rfl Try.func20 (by kernel_rfl) rfl #[.slice A0 l0.length c0] rfl eq_up ?_;(with_reducible refine (spec_l1New.calls k _ _ l0 t312 t313 t314 w _ ?side1 ?side2 ?side3 A2.out).mono ?_);(case side1 => exact B_set HB.out);(case side2 => exact HR0.out);(case side3 => exact HC0.out);rintro e w7 ⟨g315,rfl,hi,hb,hb2⟩;refine ⟨_,rfl,?_⟩;replace HB := Mk (hb);have HI315 := Mk (hi);(try clear hb);(try clear hb2);(try clear hk);(try clear hi)) | ((with_reducible refine gate_callee (f := 21) rfl ?_);refine goesL_ (some 12) rfl rfl Try.func21 (by kernel_rfl) rfl #[.pointer (some ⟨g315,0,none⟩)] rfl eq_up ?_;(with_reducible refine (spec_l6Draw.calls k g315 t312 t313 t314 t316 t317 t318 t319 t322 t325 t326 w _ ?side1 ?side2 A3.out).mono ?_);(case side1 => exact IsS74.up HI315.out);(case side2 => exact B_st HB.out);rintro e w8 ⟨v320,v323,rfl,ho0,ho1,hi,hb,hk⟩;refine ⟨_,rfl,?_⟩;have HO321 := Mk (Kd.R_lower ho0 (below_size (B_st HB.out)));have HO324 := Mk (Kd.R_lower ho1 (below_size (B_st HB.out)));replace HB := Mk (hb);replace HI315 := Mk (hi);(try clear hb);(try clear hb2);(try clear hk);(try clear hi);(try clear ho0);(try clear ho1)) | ((with_reducible refine gate_dst (N := 5) rfl ?_);refine box_event ?hg (N := 5) ?hd (cs := #[.int .i64 0,.int .i64 0,.int .i64 0,.slice none 0 0]) (t := 28) ?hr ?_;(case hd => rfl);(case hg => rfl);(case hr => first | (go_simp;done) | (go_simp;rfl));intro gb327 hg w9 hbox hb;replace HO321 := Mk (Kd.R_below (Kd.R_up HO321.out) hb);replace HO324 := Mk (Kd.R_below (Kd.R_up HO324.out) hb);have BK327 := Mk (hbox);have GW327 := Mk ((by rw [hg];exact (below_size (B_st HB.out)) : w.heap.size ≤ gb327));have GE327 := Mk ((by rw [hg];exact (below_size (B_st HB.out)) : w.heap.size ≤ gb327));replace HB := Mk (below_step (B_st HB.out) hb);have NB315_327 := Mk ((by rw [hg];exact Nat.ne_of_lt (IsS74.lt (show IsS74 w _ g315 t312 t325 t326 from IsS74.up HI315.out)) : g315 ≠ gb327));have NB327_315 := Mk ((by rw [hg];exact Nat.ne_of_gt (IsS74.lt (show IsS74 w _ g315 t312 t325 t326 from IsS74.up HI315.out)) : gb327 ≠ g315));replace HI315 := Mk (IsS74.below (IsS74.up HI315.out) hb);clear hb hbox hg;have hnb10 := NB327_315.out;have hnc10 := NB315_327.out;obtain ⟨hcz11_0,hcz11_1,hcz11_2,hcz11_3⟩ := cz4 BK327.out;obtain ⟨hfz11_0,hfz11_1,hfz11_2,hfz11_3⟩ := fz4 BK327.out;obtain ⟨Ao12,co12,eo12⟩ := Kd.R_slice HO321.out;subst eo12) | ((with_reducible refine gate_dst (N := 16) rfl ?_);refine Kd.R_lit (Kd.int .u8) _ 5 ?hg (N := 16) ?hd (xs := ([9] : List Int)) (inner := [.int .u8 9]) (ok := fun _ => True) (okp := fun _ => True) ?hr ?hp (fun _ hk => hk) trivial (Below.refl _ _) (Nat.le_refl _) (by simp) ?_;(case hd => rfl);(case hg => rfl);(case hr => first | (go_simp;done) | (go_simp;rfl));(case hp => exact (Reps.one (show Kd.M (Kd.int .u8) _ _ _ 9 [.int .u8 9] from rfl) (Reps.none _ _)));intro v329 w13 ho14 hb hg_ hnew_;clear hg_ hnew_;(first | rw [← Ny328.out] at ho14 | (simp only [Int.reduceToNat] at ho14;rw [← Ny328.out] at ho14));replace HO321 := Mk (Kd.R_below (Kd.R_up (Kd.R_mono (Kd.R_far (p := ⟨gb327,3,none⟩) (Kd.R_far (p := ⟨gb327,2,none⟩) (Kd.R_far (p := ⟨gb327,1,none⟩) (Kd.R_far (p := ⟨gb327,0,none⟩) (Kd.R_types HO321.out BK327.out (by decide)) (fun _ hk => hk.2) (.int .i64 t316)) (fun _ hk => hk.2) (.int .i64 t317)) (fun _ hk => hk.2) (.int .i64 t318)) (fun _ hk => hk.2) (.slice Ao12 t319.length co12)) (fun _ h_ => h_.1))) hb);have HO330 := Mk (Kd.R_lower (Kd.R_new' ho14 (Kd.R_lt (Kd.R_up (Kd.R_mono (Kd.R_far (p := ⟨gb327,3,none⟩) (Kd.R_far (p := ⟨gb327,2,none⟩) (Kd.R_far (p := ⟨gb327,1,none⟩) (Kd.R_far (p := ⟨gb327,0,none⟩) (Kd.R_types HO324.out BK327.out (by decide)) (fun _ hk => hk.2) (.int .i64 t316)) (fun _ hk => hk.2) (.int .i64 t317)) (fun _ hk => hk.2) (.int .i64 t318)) (fun _ hk => hk.2) (.slice Ao12 t319.length co12)) (fun _ h_ => h_.1))))) (below_size (B_st HB.out)));replace HO324 := Mk (Kd.R_elder' (Kd.R_up (Kd.R_mono (Kd.R_far (p := ⟨gb327,3,none⟩) (Kd.R_far (p := ⟨gb327,2,none⟩) (Kd.R_far (p := ⟨gb327,1,none⟩) (Kd.R_far (p := ⟨gb327,0,none⟩) (Kd.R_types HO324.out BK327.out (by decide)) (fun _ hk => hk.2) (.int .i64 t316)) (fun _ hk => hk.2) (.int .i64 t317)) (fun _ hk => hk.2) (.int .i64 t318)) (fun _ hk => hk.2) (.slice Ao12 t319.length co12)) (fun _ h_ => h_.1))) (Kd.R_base ho14) hb);replace HI315 := Mk (IsS74.below (show IsS74 w ((((w9.setCell ⟨gb327,0,none⟩ (.int .i64 t316)).setCell ⟨gb327,1,none⟩ (.int .i64 t317)).setCell ⟨gb327,2,none⟩ (.int .i64 t318)).setCell ⟨gb327,3,none⟩ (.slice Ao12 t319.length co12)) g315 t312 t325 t326 from IsS74.up HI315.out) hb);replace BK327 := Mk (blk_below (g := gb327) (o := .cells #[.int .i64 t316,.int .i64 t317,.int .i64 t318,.slice Ao12 t319.length co12] 28 (0,0)) (by (with_reducible repeat (first | refine blk_drewN ?_ _ | refine blk_drew ?_ | refine blk_alloc ?_ _));refine blk_put (cs := #[.int .i64 t316,.int .i64 t317,.int .i64 t318,.slice none 0 0]) ?_ 3 _ rfl;(with_reducible repeat (first | refine blk_drewN ?_ _ | refine blk_drew ?_ | refine blk_alloc ?_ _));refine blk_put (cs := #[.int .i64 t316,.int .i64 t317,.int .i64 0,.slice none 0 0]) ?_ 2 _ rfl;(with_reducible repeat (first | refine blk_drewN ?_ _ | refine blk_drew ?_ | refine blk_alloc ?_ _));refine blk_put (cs := #[.int .i64 t316,.int .i64 0,.int .i64 0,.slice none 0 0]) ?_ 1 _ rfl;(with_reducible repeat (first | refine blk_drewN ?_ _ | refine blk_drew ?_ | refine blk_alloc ?_ _));refine blk_put (cs := #[.int .i64 0,.int .i64 0,.int .i64 0,.slice none 0 0]) ?_ 0 _ rfl;(with_reducible repeat (first | refine blk_drewN ?_ _ | refine blk_drew ?_ | refine blk_alloc ?_ _));exact BK327.out) hb);replace HB := Mk (below_step (B_st HB.out) hb);clear hb ho14;obtain ⟨hcz15_0,hcz15_1,hcz15_2,hcz15_3⟩ := cz4 BK327.out;obtain ⟨hfz15_0,hfz15_1,hfz15_2,hfz15_3⟩ := fz4 BK327.out;obtain ⟨Ao16,co16,eo16⟩ := Kd.R_slice HO330.out;subst eo16) | ((with_reducible refine gate_callee (f := 14) rfl ?_);refine goesL_ (some 18) rfl rfl Try.func14 (by kernel_rfl) rfl #[.slice Ao16 y328.length co16,.agg #[.int .i64 t316,.int .i64 t317,.int .i64 t318,.slice Ao12 t319.length co12]] rfl eq_up ?_;(with_reducible refine (spec_PutMan.calls k _ _ y328 t316 t317 t318 _ _ t319 t331 _ ?side1 ?side2 ?side3 ?side4 A4.out).mono ?_);(case side1 => exact Kd.C_up (Kd.R_reads' HO330.out).2.2);(case side2 => exact (Kd.R_reads' HO330.out).2.1);(case side3 => exact Kd.C_up (Kd.R_reads' HO321.out).2.2);(case side4 => exact (Kd.R_reads' HO321.out).2.1);rintro e w17 ⟨v332,rfl,ho0,hb⟩;refine ⟨_,rfl,?_⟩;replace HO321 := Mk (Kd.R_below (Kd.R_up HO321.out) hb);have HO333 := Mk (Kd.R_lower (Kd.R_new' (Kd.R_new' ho0 (Kd.R_lt (Kd.R_up HO324.out))) (Kd.R_lt (Kd.R_up HO330.out))) (below_size (B_st HB.out)));replace HO324 := Mk (Kd.R_elder' (Kd.R_up HO324.out) (Kd.R_base ho0) hb);replace HO330 := Mk (Kd.R_elder' (Kd.R_up HO330.out) (Kd.R_base ho0) hb);replace HI315 := Mk (IsS74.below (IsS74.up HI315.out) hb);replace BK327 := Mk (blk_below (blk_up BK327.out) hb);replace HB := Mk (below_step (B_st HB.out) hb);(try clear hb);(try clear hb2);(try clear hk);(try clear hi);(try clear ho0);obtain ⟨Ao18,co18,eo18⟩ := Kd.R_slice HO333.out;subst eo18) | ((with_reducible refine gate_callee (f := 22) rfl ?_);refine goesL_ (some 19) rfl rfl Try.func22 (by kernel_rfl) rfl #[.pointer (some ⟨g315,0,none⟩),.slice Ao18 t331.length co18] rfl eq_up ?_;(with_reducible refine (spec_l1Bent.calls g315 t312 t325 t326 _ _ t331 t334 t337 t338 w _ ?side1 ?side2 ?side3 ?side4 ?side5 A5.out).mono ?_);(case side1 => exact IsS74.up HI315.out);(case side2 => exact B_st HB.out);(case side3 => exact Kd.C_up (Kd.R_reads' HO333.out).2.2);(case side4 => exact (Kd.R_reads' HO333.out).2.1);(case side5 => exact far_slice (IsS74.own_ne HI315.out HO333.out (by decide)));rintro e w19 ⟨v335,rfl,ho0,hi,hb,hk⟩;refine ⟨_,rfl,?_⟩;replace HO321 := Mk (Kd.R_mono (Kd.R_keep (IsS74.apart (show IsS74 w _ g315 t312 t325 t326 from IsS74.up HI315.out) (Kd.R_up HO321.out) (by decide)) hk (fun _ h => h.2)) (fun _ h => h.1));replace BK327 := Mk (KeepBut.blk hk (g' := gb327) (o := .cells #[.int .i64 t316,.int .i64 t317,.int .i64 t318,.slice Ao12 t319.length co12] 28 (0,0)) (blk_up BK327.out) NB327_315.out (by simp));have HO336 := Mk (Kd.R_lower (Kd.R_new' (Kd.R_new' (Kd.R_new' ho0 (Kd.R_lt (Kd.R_up HO324.out))) (Kd.R_lt (Kd.R_up HO330.out))) (Kd.R_lt (Kd.R_up HO333.out))) (below_size (B_st HB.out)));replace HO324 := Mk (Kd.R_mono (Kd.R_told (Kd.R_oldK (IsS74.apart (show IsS74 w _ g315 t312 t325 t326 from IsS74.up HI315.out) (Kd.R_up HO324.out) (by decide)) hk) (Kd.R_base ho0)) (fun _ h_ => h_.1));replace HO330 := Mk (Kd.R_mono (Kd.R_told (Kd.R_oldK (IsS74.apart (show IsS74 w _ g315 t312 t325 t326 from IsS74.up HI315.out) (Kd.R_up HO330.out) (by decide)) hk) (Kd.R_base ho0)) (fun _ h_ => h_.1));replace HO333 := Mk (Kd.R_mono (Kd.R_told (Kd.R_oldK (IsS74.apart (show IsS74 w _ g315 t312 t325 t326 from IsS74.up HI315.out) (Kd.R_up HO333.out) (by decide)) hk) (Kd.R_base ho0)) (fun _ h_ => h_.1));replace HB := Mk (hb);replace HI315 := Mk (hi);(try clear hb);(try clear hb2);(try clear hk);(try clear hi);(try clear ho0)) | ((with_reducible refine gate_dst (N := 22) rfl ?_);refine Kd.R_lit (Kd.int .i64) _ 3 ?hg (N := 22) ?hd (xs := ([1,1,1,1,0,(-1),99] : List Int)) (inner := [.int .i64 1,.int .i64 1,.int .i64 1,.int .i64 1,.int .i64 0,.int .i64 (-1),.int .i64 99]) (ok := fun _ => True) (okp := fun _ => True) ?hr ?hp (fun _ hk => hk) trivial (Below.refl _ _) (Nat.le_refl _) (by simp) ?_;(case hd => rfl);(case hg => rfl);(case hr => first | (go_simp;done) | (go_simp;rfl));(case hp => exact (Reps.one (show Kd.M (Kd.int .i64) _ _ _ 1 [.int .i64 1] from rfl) (Reps.one (show Kd.M (Kd.int .i64) _ _ _ 1 [.int .i64 1] from rfl) (Reps.one (show Kd.M (Kd.int .i64) _ _ _ 1 [.int .i64 1] from rfl) (Reps.one (show Kd.M (Kd.int .i64) _ _ _ 1 [.int .i64 1] from rfl) (Reps.one (show Kd.M (Kd.int .i64) _ _ _ 0 [.int .i64 0] from rfl) (Reps.one (show Kd.M (Kd.int .i64) _ _ _ (-1) [.int .i64 (-1)] from rfl) (Reps.one (show Kd.M (Kd.int .i64) _ _ _ 99 [.int .i64 99] from rfl) (Reps.none _ _)))))))));intro v340 w20 ho21 hb hg_ hnew_;clear hg_ hnew_;(first | rw [← Ny339.out] at ho21 | (simp only [Int.reduceToNat] at ho21;rw [← Ny339.out] at ho21));replace HO321 := Mk (Kd.R_below (Kd.R_up HO321.out) hb);replace HO324 := Mk (Kd.R_below (Kd.R_up HO324.out) hb);replace HO330 := Mk (Kd.R_below (Kd.R_up HO330.out) hb);replace HO333 := Mk (Kd.R_below (Kd.R_up HO333.out) hb);replace HO336 := Mk (Kd.R_below (Kd.R_up HO336.out) hb);have HO341 := Mk (Kd.R_lower ho21 (below_size (B_st HB.out)));replace HI315 := Mk (IsS74.below (IsS74.up HI315.out) hb);replace BK327 := Mk (blk_below (blk_up BK327.out) hb);replace HB := Mk (below_step (B_st HB.out) hb);clear hb ho21;obtain ⟨Ao22,co22,eo22⟩ := Kd.R_slice HO341.out;subst eo22) | ((with_reducible refine gate_callee (f := 23) rfl ?_);refine goesL_ (some 23) rfl rfl Try.func23 (by kernel_rfl) rfl #[.pointer (some ⟨g315,0,none⟩),.slice Ao22 y339.length co22] rfl eq_up ?_;(with_reducible refine (spec_l1Int.calls g315 t312 t337 t338 _ _ y339 t342 t343 t344 w _ ?side1 ?side2 ?side3 ?side4 ?side5 A6.out).mono ?_);(case side1 => exact IsS74.up HI315.out);(case side2 => exact B_st HB.out);(case side3 => exact Kd.C_up (Kd.R_reads' HO341.out).2.2);(case side4 => exact (Kd.R_reads' HO341.out).2.1);(case side5 => exact far_slice (IsS74.own_ne HI315.out HO341.out (by decide)));rintro e w23 ⟨rfl,hi,hb,hk⟩;refine ⟨_,rfl,?_⟩;replace HO321 := Mk (Kd.R_mono (Kd.R_keep (IsS74.apart (show IsS74 w _ g315 t312 t337 t338 from IsS74.up HI315.out) (Kd.R_up HO321.out) (by decide)) hk (fun _ h => h.2)) (fun _ h => h.1));replace HO324 := Mk (Kd.R_mono (Kd.R_keep (IsS74.apart (show IsS74 w _ g315 t312 t337 t338 from IsS74.up HI315.out) (Kd.R_up HO324.out) (by decide)) hk (fun _ h => h.2)) (fun _ h => h.1));replace BK327 := Mk (KeepBut.blk hk (g' := gb327) (o := .cells #[.int .i64 t316,.int .i64 t317,.int .i64 t318,.slice Ao12 t319.length co12] 28 (0,0)) (blk_up BK327.out) NB327_315.out (by simp));replace HO330 := Mk (Kd.R_mono (Kd.R_keep (IsS74.apart (show IsS74 w _ g315 t312 t337 t338 from IsS74.up HI315.out) (Kd.R_up HO330.out) (by decide)) hk (fun _ h => h.2)) (fun _ h => h.1));replace HO333 := Mk (Kd.R_mono (Kd.R_keep (IsS74.apart (show IsS74 w _ g315 t312 t337 t338 from IsS74.up HI315.out) (Kd.R_up HO333.out) (by decide)) hk (fun _ h => h.2)) (fun _ h => h.1));replace HO336 := Mk (Kd.R_mono (Kd.R_keep (IsS74.apart (show IsS74 w _ g315 t312 t337 t338 from IsS74.up HI315.out) (Kd.R_up HO336.out) (by decide)) hk (fun _ h => h.2)) (fun _ h => h.1));replace HO341 := Mk (Kd.R_mono (Kd.R_keep (IsS74.apart (show IsS74 w _ g315 t312 t337 t338 from IsS74.up HI315.out) (Kd.R_up HO341.out) (by decide)) hk (fun _ h => h.2)) (fun _ h => h.1));replace HB := Mk (hb);replace HI315 := Mk (hi);(try clear hb);(try clear hb2);(try clear hk);(try clear hi)))
 go_ret2
 exact ⟨_,err_,Kd.R_up (Kd.R_mono HO336.out (fun _ hk => trivial)),B_st HB.out⟩

/-! ### impl_within: function 47 -/
def impl_within.f (a0 : Int) (a1 : Int) (a2 : Int) : Option (Bool) := if a0 ≥ a1 then (some (decide (a0 ≤ a2))) else (some false)
set_option maxHeartbeats 8000000 in
set_option maxRecDepth 100000 in
theorem impl_within.calls (a0 : Int) (a1 : Int) (a2 : Int) (r : Bool) (w : World) (h : impl_within.f a0 a1 a2 = some r) :
  Calls Try.prog 47 #[.int .i64 a0,.int .i64 a1,.int .i64 a2] w fun e w' => e = .returned (.bool r) ∧ Drawn0 w w' := by
 have H : (if a0 ≥ a1 then (some (decide (a0 ≤ a2))) else (some false)) = some r := h
 clear h
 by_cases c4 : a0 ≥ a1
 ·rw [if_pos c4] at H
  have c4b0 : decide (a1 ≤ a0) = true := decide_eq_true c4
  clear c4
  obtain rfl := Option.some.inj H
  go_enter Try.func47,Try.ntmps47
  go_wp2
  go_ret
  exact ⟨by first | rfl | (simp;done) | (simp [*];done),by repeat (first | exact Drawn0.refl _ | apply Drawn0.step)⟩
 ·rw [if_neg c4] at H
  have c4b0 : decide (a1 ≤ a0) = false := decide_eq_false c4
  clear c4
  obtain rfl := Option.some.inj H
  go_enter Try.func47,Try.ntmps47
  go_wp2
  go_ret
  exact ⟨by first | rfl | (simp;done) | (simp [*];done),by repeat (first | exact Drawn0.refl _ | apply Drawn0.step)⟩

/-! ### impl_SizeOk: function 48 -/
def impl_SizeOk.f (a0 : Int) (a1 : Int) : Option (Bool) := (impl_within.f a0 2 6).bind fun t345 => (if t345 = true then ((impl_within.f a1 0 (wrap64 (40 * a0))).bind fun t346 => (some t346)) else (some false))
set_option maxHeartbeats 8000000 in
set_option maxRecDepth 100000 in
theorem impl_SizeOk.calls (a0 : Int) (a1 : Int) (r : Bool) (w : World) (h : impl_SizeOk.f a0 a1 = some r) :
  Calls Try.prog 48 #[.int .i64 a0,.int .i64 a1] w fun e w' => e = .returned (.bool r) ∧ Drawn0 w w' := by
 have H : ((impl_within.f a0 2 6).bind fun t345 => (if t345 = true then ((impl_within.f a1 0 (wrap64 (40 * a0))).bind fun t346 => (some t346)) else (some false))) = some r := h
 clear h
 replace H := bsm H
 obtain ⟨t345,A3,H⟩ := H
 (try dsimp only at H)
 by_cases c4 : t345 = true
 ·subst c4
  rw [if_pos rfl] at H
  replace H := Option.bind_eq_some_iff.mp H
  obtain ⟨t346,A50,H⟩ := H
  replace H : (some t346) = some r := H
  have A5 := Mk A50
  clear A50
  obtain rfl := Option.some.inj H
  go_enter Try.func48,Try.ntmps48
  go_wp2_with (first | ((with_reducible refine gate_callee (f := 47) rfl ?_);refine goesL_ (some 6) rfl rfl Try.func47 (by kernel_rfl) rfl #[.int .i64 a0,.int .i64 2,.int .i64 6] rfl eq_up ?_;(with_reducible refine (impl_within.calls a0 2 6 true _ A3.out).mono ?_);rintro e w' ⟨rfl,⟨nd,rfl⟩⟩;refine ⟨_,rfl,?_⟩) | (go_at_call 47;(with_reducible refine (impl_within.calls a1 0 (wrap64 (40 * a0)) t346 _ A5.out).mono ?_);rintro e w' ⟨rfl,⟨nd,rfl⟩⟩))
  go_ret
  exact ⟨by first | rfl | (simp;done) | (simp [*];done),by repeat (first | exact Drawn0.refl _ | apply Drawn0.step)⟩
 ·replace c4 := Bool.eq_false_iff.mpr c4
  subst c4
  have H1 : (some false) = some r := by rw [if_neg (show ¬ (false = true) by decide)] at H;exact H
  clear H
  have H := H1
  clear H1
  obtain rfl := Option.some.inj H
  go_enter Try.func48,Try.ntmps48
  go_wp2_with (first | ((with_reducible refine gate_callee (f := 47) rfl ?_);refine goesL_ (some 6) rfl rfl Try.func47 (by kernel_rfl) rfl #[.int .i64 a0,.int .i64 2,.int .i64 6] rfl eq_up ?_;(with_reducible refine (impl_within.calls a0 2 6 false _ A3.out).mono ?_);rintro e w' ⟨rfl,⟨nd,rfl⟩⟩;refine ⟨_,rfl,?_⟩))
  go_ret
  exact ⟨by first | rfl | (simp;done) | (simp [*];done),by repeat (first | exact Drawn0.refl _ | apply Drawn0.step)⟩

/-! ### impl_CeilDiv: function 59 -/
def impl_CeilDiv.f (a0 : Int) (a1 : Int) : Option (Int) := (impl_within.f a0 0 1000000000000).bind fun t347 => (if t347 = true then ((impl_within.f a1 1 1000000000000).bind fun t348 => (if t348 = true then (if a1 = 0 then (none) else (some (wrap64 (Int.tdiv (wrap64 ((wrap64 (a0 + a1)) - 1)) a1)))) else (some 0))) else (some 0))
set_option maxHeartbeats 8000000 in
set_option maxRecDepth 100000 in
theorem impl_CeilDiv.calls (a0 : Int) (a1 : Int) (r : Int) (w : World) (h : impl_CeilDiv.f a0 a1 = some r) :
  Calls Try.prog 59 #[.int .i64 a0,.int .i64 a1] w fun e w' => e = .returned (.int .i64 r) ∧ Drawn0 w w' := by
 have H : ((impl_within.f a0 0 1000000000000).bind fun t347 => (if t347 = true then ((impl_within.f a1 1 1000000000000).bind fun t348 => (if t348 = true then (if a1 = 0 then (none) else (some (wrap64 (Int.tdiv (wrap64 ((wrap64 (a0 + a1)) - 1)) a1)))) else (some 0))) else (some 0))) = some r := h
 clear h
 replace H := bsm H
 obtain ⟨t347,A3,H⟩ := H
 (try dsimp only at H)
 by_cases c4 : t347 = true
 ·subst c4
  rw [if_pos rfl] at H
  replace H := bsm H
  obtain ⟨t348,A5,H⟩ := H
  (try dsimp only at H)
  by_cases c6 : t348 = true
  ·subst c6
   rw [if_pos rfl] at H
   by_cases c7 : a1 = 0
   ·rw [if_pos c7] at H
    exact absurd H (by simp)
   ·rw [if_neg c7] at H
    have c7b0 : (a1 == 0) = false := beq_eq_false_iff_ne.mpr c7
    have c7b1 : (a1 != 0) = true := bne_iff_ne.mpr c7
    obtain rfl := Option.some.inj H
    go_enter Try.func59,Try.ntmps59
    go_wp2_with (first | ((with_reducible refine gate_callee (f := 47) rfl ?_);refine goesL_ (some 6) rfl rfl Try.func47 (by kernel_rfl) rfl #[.int .i64 a0,.int .i64 0,.int .i64 1000000000000] rfl eq_up ?_;(with_reducible refine (impl_within.calls a0 0 1000000000000 true _ A3.out).mono ?_);rintro e w' ⟨rfl,⟨nd,rfl⟩⟩;refine ⟨_,rfl,?_⟩) | (go_at_call 47;(with_reducible refine (impl_within.calls a1 1 1000000000000 true _ A5.out).mono ?_);rintro e w' ⟨rfl,⟨nd,rfl⟩⟩))
    go_ret
    exact ⟨by first | rfl | (simp;done) | (simp [*];done),by repeat (first | exact Drawn0.refl _ | apply Drawn0.step)⟩
  ·replace c6 := Bool.eq_false_iff.mpr c6
   subst c6
   have H1 : (some 0) = some r := by rw [if_neg (show ¬ (false = true) by decide)] at H;exact H
   clear H
   have H := H1
   clear H1
   obtain rfl := Option.some.inj H
   go_enter Try.func59,Try.ntmps59
   go_wp2_with (first | ((with_reducible refine gate_callee (f := 47) rfl ?_);refine goesL_ (some 6) rfl rfl Try.func47 (by kernel_rfl) rfl #[.int .i64 a0,.int .i64 0,.int .i64 1000000000000] rfl eq_up ?_;(with_reducible refine (impl_within.calls a0 0 1000000000000 true _ A3.out).mono ?_);rintro e w' ⟨rfl,⟨nd,rfl⟩⟩;refine ⟨_,rfl,?_⟩) | (go_at_call 47;(with_reducible refine (impl_within.calls a1 1 1000000000000 false _ A5.out).mono ?_);rintro e w' ⟨rfl,⟨nd,rfl⟩⟩))
   go_ret
   exact ⟨by first | rfl | (simp;done) | (simp [*];done),by repeat (first | exact Drawn0.refl _ | apply Drawn0.step)⟩
 ·replace c4 := Bool.eq_false_iff.mpr c4
  subst c4
  have H1 : (some 0) = some r := by rw [if_neg (show ¬ (false = true) by decide)] at H;exact H
  clear H
  have H := H1
  clear H1
  obtain rfl := Option.some.inj H
  go_enter Try.func59,Try.ntmps59
  go_wp2_with (first | ((with_reducible refine gate_callee (f := 47) rfl ?_);refine goesL_ (some 6) rfl rfl Try.func47 (by kernel_rfl) rfl #[.int .i64 a0,.int .i64 0,.int .i64 1000000000000] rfl eq_up ?_;(with_reducible refine (impl_within.calls a0 0 1000000000000 false _ A3.out).mono ?_);rintro e w' ⟨rfl,⟨nd,rfl⟩⟩;refine ⟨_,rfl,?_⟩))
  go_ret
  exact ⟨by first | rfl | (simp;done) | (simp [*];done),by repeat (first | exact Drawn0.refl _ | apply Drawn0.step)⟩

/-! ### impl_Blocks: function 25 -/
def impl_Blocks.f (a0 : Int) (a1 : Int) : Option (Int) := (impl_SizeOk.f a0 a1).bind fun t349 => (if t349 = true then ((impl_CeilDiv.f a1 a0).bind fun t350 => (some t350)) else (some 0))
set_option maxHeartbeats 8000000 in
set_option maxRecDepth 100000 in
theorem impl_Blocks.calls (a0 : Int) (a1 : Int) (r : Int) (w : World) (h : impl_Blocks.f a0 a1 = some r) :
  Calls Try.prog 25 #[.int .i64 a0,.int .i64 a1] w fun e w' => e = .returned (.int .i64 r) ∧ Drawn0 w w' := by
 have H : ((impl_SizeOk.f a0 a1).bind fun t349 => (if t349 = true then ((impl_CeilDiv.f a1 a0).bind fun t350 => (some t350)) else (some 0))) = some r := h
 clear h
 replace H := Option.bind_eq_some_iff.mp H
 obtain ⟨t349,A30,H⟩ := H
 replace H : (if t349 = true then ((impl_CeilDiv.f a1 a0).bind fun t350 => (some t350)) else (some 0)) = some r := H
 have A3 := Mk A30
 clear A30
 by_cases c4 : t349 = true
 ·subst c4
  rw [if_pos rfl] at H
  replace H := Option.bind_eq_some_iff.mp H
  obtain ⟨t350,A50,H⟩ := H
  replace H : (some t350) = some r := H
  have A5 := Mk A50
  clear A50
  obtain rfl := Option.some.inj H
  go_enter Try.func25,Try.ntmps25
  go_wp2_with (first | ((with_reducible refine gate_callee (f := 48) rfl ?_);refine goesL_ (some 7) rfl rfl Try.func48 (by kernel_rfl) rfl #[.int .i64 a0,.int .i64 a1] rfl eq_up ?_;(with_reducible refine (impl_SizeOk.calls a0 a1 true _ A3.out).mono ?_);rintro e w' ⟨rfl,⟨nd,rfl⟩⟩;refine ⟨_,rfl,?_⟩) | ((with_reducible refine gate_callee (f := 59) rfl ?_);refine goesL_ (some 11) rfl rfl Try.func59 (by kernel_rfl) rfl #[.int .i64 a1,.int .i64 a0] rfl eq_up ?_;(with_reducible refine (impl_CeilDiv.calls a1 a0 t350 _ A5.out).mono ?_);rintro e w' ⟨rfl,⟨nd,rfl⟩⟩;refine ⟨_,rfl,?_⟩))
  go_ret
  exact ⟨by first | rfl | (simp;done) | (simp [*];done),by repeat (first | exact Drawn0.refl _ | apply Drawn0.step)⟩
 ·replace c4 := Bool.eq_false_iff.mpr c4
  subst c4
  have H1 : (some 0) = some r := by rw [if_neg (show ¬ (false = true) by decide)] at H;exact H
  clear H
  have H := H1
  clear H1
  obtain rfl := Option.some.inj H
  go_enter Try.func25,Try.ntmps25
  go_wp2_with (first | ((with_reducible refine gate_callee (f := 48) rfl ?_);refine goesL_ (some 7) rfl rfl Try.func48 (by kernel_rfl) rfl #[.int .i64 a0,.int .i64 a1] rfl eq_up ?_;(with_reducible refine (impl_SizeOk.calls a0 a1 false _ A3.out).mono ?_);rintro e w' ⟨rfl,⟨nd,rfl⟩⟩;refine ⟨_,rfl,?_⟩))
  go_ret
  exact ⟨by first | rfl | (simp;done) | (simp [*];done),by repeat (first | exact Drawn0.refl _ | apply Drawn0.step)⟩

end Go.Proofs.Ytdodnhjglpidlaa.PFnMansBent
