-- by a program of this session (a turned copy of the print: make with a capacity)
import Derived.Test.YtdodnhjglpidlaaVMade2
import Derived.Test.YtdodnhjglpidlaaPFnMansBentx0
import Derived.Test.YtdodnhjglpidlaaPFnMansBentx2
import Derived.Test.YtdodnhjglpidlaaPFnMansBentx4
namespace Go.Proofs.Ytdodnhjglpidlaa.PFnMansBent
open Go.RowKit Go.Proofs.YtdodnhjglpidlaaW.PrintWords Go.Proofs.YtdodnhjglpidlaaW.PrintLast Go.Proofs.YtdodnhjglpidlaaW.PrintMore
attribute [local go_sem] max2_int min2_int max_two min_two max_three min_three max_four min_four   -- for this text's walks alone
set_option linter.unusedVariables false
set_option linter.unusedSimpArgs false

/-! ### spec_l1Below: function 35 -/
def spec_l1Below.f (s0_0 : List Int) (s0_1 : Int) (s0_2 : Int) (a1 : Int) : Option (Int × Int × Int) := if a1 ≤ 0 then (some (0,s0_1,s0_2)) else (if a1 ≤ 256 then ((spec_l1Byte.f s0_0 s0_1 s0_2).bind fun bt188 => (if a1 = 0 then (none) else (some (Int.tmod bt188.1 a1,bt188.2.1,bt188.2.2)))) else ((spec_l1Byte.f s0_0 s0_1 s0_2).bind fun bt191 => ((spec_l1Byte.f s0_0 bt191.2.1 bt191.2.2).bind fun bt194 => ((spec_l1Byte.f s0_0 bt194.2.1 bt194.2.2).bind fun bt197 => (if a1 = 0 then (none) else (some (Int.tmod (wrap64 ((wrap64 ((wrap64 (bt191.1 * 65536)) + (wrap64 (bt194.1 * 256)))) + bt197.1)) a1,bt197.2.1,bt197.2.2)))))))
set_option maxHeartbeats 8000000 in
set_option maxRecDepth 100000 in
theorem spec_l1Below.calls (g : Nat) (s0_0 : List Int) (s0_1 : Int) (s0_2 : Int) (a1 : Int) (r1 : Int) (r2 : Int) (r3 : Int) (w0 w : World) (hI : IsS74 w0 w g s0_0 s0_1 s0_2) (hB : Below w0.heap.size w0 w) (h : spec_l1Below.f s0_0 s0_1 s0_2 a1 = some (r1,r2,r3)) :
  Calls Try.prog 35 #[.pointer (some ⟨g,0,none⟩),.int .i64 a1] w fun e w' => e = .returned (.int .i64 r1) ∧ IsS74 w0 w' g s0_0 r2 r3 ∧ Below w0.heap.size w0 w' ∧ KeepBut w w' g none := by
 have HI0 := Mk hI
 have HK := Mk (KeepBut.refl w g none)
 have HL := Mk hB.size
 clear hI
 have HW0 := Mk hB.size
 have HB := Mk hB
 clear hB
 have H : (if a1 ≤ 0 then (some (0,s0_1,s0_2)) else (if a1 ≤ 256 then ((spec_l1Byte.f s0_0 s0_1 s0_2).bind fun bt188 => (if a1 = 0 then (none) else (some (Int.tmod bt188.1 a1,bt188.2.1,bt188.2.2)))) else ((spec_l1Byte.f s0_0 s0_1 s0_2).bind fun bt191 => ((spec_l1Byte.f s0_0 bt191.2.1 bt191.2.2).bind fun bt194 => ((spec_l1Byte.f s0_0 bt194.2.1 bt194.2.2).bind fun bt197 => (if a1 = 0 then (none) else (some (Int.tmod (wrap64 ((wrap64 ((wrap64 (bt191.1 * 65536)) + (wrap64 (bt194.1 * 256)))) + bt197.1)) a1,bt197.2.1,bt197.2.2)))))))) = some (r1,r2,r3) := h
 clear h
 by_cases c3 : a1 ≤ 0
 ·rw [if_pos c3] at H
  have c3b0 : decide (a1 ≤ 0) = true := decide_eq_true c3
  clear c3
  simp only [Option.some.injEq,Prod.mk.injEq] at H
  obtain ⟨rfl,rfl,rfl⟩ := H
  go_enter Try.func35,Try.ntmps35
  go_wp2
  go_ret
  exact ⟨err_,IsS74.up HI0.out,B_st HB.out,keep_up HK.out⟩
 ·rw [if_neg c3] at H
  have c3b0 : decide (a1 ≤ 0) = false := decide_eq_false c3
  clear c3
  by_cases c4 : a1 ≤ 256
  ·rw [if_pos c4] at H
   have c4b0 : decide (a1 ≤ 256) = true := decide_eq_true c4
   clear c4
   replace H := Option.bind_eq_some_iff.mp H
   obtain ⟨⟨t188,t189,t190⟩,A50,H⟩ := H
   replace H : (if a1 = 0 then (none) else (some (Int.tmod t188 a1,t189,t190))) = some (r1,r2,r3) := H
   have A5 := Mk A50
   clear A50
   by_cases c6 : a1 = 0
   ·rw [if_pos c6] at H
    exact absurd H (by simp)
   ·rw [if_neg c6] at H
    have c6b0 : (a1 == 0) = false := beq_eq_false_iff_ne.mpr c6
    have c6b1 : (a1 != 0) = true := bne_iff_ne.mpr c6
    simp only [Option.some.injEq,Prod.mk.injEq] at H
    obtain ⟨rfl,rfl,rfl⟩ := H
    go_enter Try.func35,Try.ntmps35
    go_wp2_with (first | ((with_reducible refine gate_callee (f := 62) rfl ?_);refine goesL_ (some 13) rfl rfl Try.func62 (by kernel_rfl) rfl #[.pointer (some ⟨g,0,none⟩)] rfl eq_up ?_;(with_reducible refine (spec_l1Byte.calls g s0_0 s0_1 s0_2 t188 t189 t190 w0 _ ?side1 ?side2 A5.out).mono ?_);(case side1 => exact IsS74.up HI0.out);(case side2 => exact B_st HB.out);rintro e w7 ⟨rfl,hi,hb,hk⟩;refine ⟨_,rfl,?_⟩;replace HK := Mk (KeepBut.trans (keep_up HK.out) hk (.inl rfl));replace HB := Mk (hb);replace HI0 := Mk (hi);(try clear hb);(try clear hb2);(try clear hk);(try clear hi)))
    go_ret
    exact ⟨err_,IsS74.up HI0.out,B_st HB.out,keep_up HK.out⟩
  ·rw [if_neg c4] at H
   have c4b0 : decide (a1 ≤ 256) = false := decide_eq_false c4
   clear c4
   replace H := bsm H
   obtain ⟨⟨t191,t192,t193⟩,A8,H⟩ := H
   (try dsimp only at H)
   replace H := bsm H
   obtain ⟨⟨t194,t195,t196⟩,A9,H⟩ := H
   (try dsimp only at H)
   replace H := bsm H
   obtain ⟨⟨t197,t198,t199⟩,A10,H⟩ := H
   (try dsimp only at H)
   by_cases c11 : a1 = 0
   ·rw [if_pos c11] at H
    exact absurd H (by simp)
   ·rw [if_neg c11] at H
    have c11b0 : (a1 == 0) = false := beq_eq_false_iff_ne.mpr c11
    have c11b1 : (a1 != 0) = true := bne_iff_ne.mpr c11
    simp only [Option.some.injEq,Prod.mk.injEq] at H
    obtain ⟨rfl,rfl,rfl⟩ := H
    go_enter Try.func35,Try.ntmps35
    go_wp2_with (first | ((with_reducible refine gate_callee (f := 62) rfl ?_);refine goesL_ (some 17) rfl rfl Try.func62 (by kernel_rfl) rfl #[.pointer (some ⟨g,0,none⟩)] rfl eq_up ?_;(with_reducible refine (spec_l1Byte.calls g s0_0 s0_1 s0_2 t191 t192 t193 w0 _ ?side1 ?side2 A8.out).mono ?_);(case side1 => exact IsS74.up HI0.out);(case side2 => exact B_st HB.out);rintro e w12 ⟨rfl,hi,hb,hk⟩;refine ⟨_,rfl,?_⟩;replace HK := Mk (KeepBut.trans (keep_up HK.out) hk (.inl rfl));replace HB := Mk (hb);replace HI0 := Mk (hi);(try clear hb);(try clear hb2);(try clear hk);(try clear hi)) | ((with_reducible refine gate_callee (f := 62) rfl ?_);refine goesL_ (some 19) rfl rfl Try.func62 (by kernel_rfl) rfl #[.pointer (some ⟨g,0,none⟩)] rfl eq_up ?_;(with_reducible refine (spec_l1Byte.calls g s0_0 t192 t193 t194 t195 t196 w0 _ ?side1 ?side2 A9.out).mono ?_);(case side1 => exact IsS74.up HI0.out);(case side2 => exact B_st HB.out);rintro e w13 ⟨rfl,hi,hb,hk⟩;refine ⟨_,rfl,?_⟩;replace HK := Mk (KeepBut.trans (keep_up HK.out) hk (.inl rfl));replace HB := Mk (hb);replace HI0 := Mk (hi);(try clear hb);(try clear hb2);(try clear hk);(try clear hi)) | ((with_reducible refine gate_callee (f := 62) rfl ?_);refine goesL_ (some 21) rfl rfl Try.func62 (by kernel_rfl) rfl #[.pointer (some ⟨g,0,none⟩)] rfl eq_up ?_;(with_reducible refine (spec_l1Byte.calls g s0_0 t195 t196 t197 t198 t199 w0 _ ?side1 ?side2 A10.out).mono ?_);(case side1 => exact IsS74.up HI0.out);(case side2 => exact B_st HB.out);rintro e w14 ⟨rfl,hi,hb,hk⟩;refine ⟨_,rfl,?_⟩;replace HK := Mk (KeepBut.trans (keep_up HK.out) hk (.inl rfl));replace HB := Mk (hb);replace HI0 := Mk (hi);(try clear hb);(try clear hb2);(try clear hk);(try clear hi)))
    go_ret
    exact ⟨err_,IsS74.up HI0.out,B_st HB.out,keep_up HK.out⟩

/-! ### spec_l1Int: function 23 -/
def spec_l1Int.f (s0_0 : List Int) (s0_1 : Int) (s0_2 : Int) (l1 : List Int) : Option (Int × Int × Int) := (spec_l1Below.f s0_0 s0_1 s0_2 (l1.length : Int)).bind fun bt200 => (if 0 ≤ bt200.1 then (if bt200.1 < (l1.length : Int) then (some (rd l1 bt200.1,bt200.2.1,bt200.2.2)) else (none)) else (none))
set_option maxHeartbeats 8000000 in
set_option maxRecDepth 100000 in
theorem spec_l1Int.calls (g : Nat) (s0_0 : List Int) (s0_1 : Int) (s0_2 : Int) (A1 : Option Addr) (c1 : Nat) (l1 : List Int) (r1 : Int) (r2 : Int) (r3 : Int) (w0 w : World) (hI : IsS74 w0 w g s0_0 s0_1 s0_2) (hB : Below w0.heap.size w0 w) (hr1 : Kd.C (Kd.int .i64) w A1 l1.length l1) (hc1 : l1.length ≤ c1) (hf1 : ∀ ad,A1 = some ad → 0 < l1.length → ad.block ≠ g) (h : spec_l1Int.f s0_0 s0_1 s0_2 l1 = some (r1,r2,r3)) :
  Calls Try.prog 23 #[.pointer (some ⟨g,0,none⟩),.slice A1 l1.length c1] w fun e w' => e = .returned (.int .i64 r1) ∧ IsS74 w0 w' g s0_0 r2 r3 ∧ Below w0.heap.size w0 w' ∧ KeepBut w w' g none := by
 have HR1 := Mk hr1
 have HC1 := Mk hc1
 clear hr1 hc1
 have HI0 := Mk hI
 have HK := Mk (KeepBut.refl w g none)
 have HL := Mk hB.size
 clear hI
 have HW0 := Mk hB.size
 have HB := Mk hB
 clear hB
 have H : ((spec_l1Below.f s0_0 s0_1 s0_2 (l1.length : Int)).bind fun bt200 => (if 0 ≤ bt200.1 then (if bt200.1 < (l1.length : Int) then (some (rd l1 bt200.1,bt200.2.1,bt200.2.2)) else (none)) else (none))) = some (r1,r2,r3) := h
 clear h
 replace H := bsm H
 obtain ⟨⟨t200,t201,t202⟩,A3,H⟩ := H
 (try dsimp only at H)
 by_cases c4 : 0 ≤ t200
 ·rw [if_pos c4] at H
  have c4b0 : decide (0 ≤ t200) = true := decide_eq_true c4
  clear c4
  by_cases c5 : t200 < (l1.length : Int)
  ·rw [if_pos c5] at H
   have c5b0 : decide (t200 < (l1.length : Int)) = true := decide_eq_true c5
   clear c5
   simp only [Option.some.injEq,Prod.mk.injEq] at H
   obtain ⟨rfl,rfl,rfl⟩ := H
   go_enter Try.func23,Try.ntmps23
   go_wp2_with (first | ((with_reducible refine gate_callee (f := 35) rfl ?_);refine goesL_ (some 9) rfl rfl Try.func35 (by kernel_rfl) rfl #[.pointer (some ⟨g,0,none⟩),.int .i64 (l1.length : Int)] rfl eq_up ?_;(with_reducible refine (spec_l1Below.calls g s0_0 s0_1 s0_2 (l1.length : Int) t200 t201 t202 w0 _ ?side1 ?side2 A3.out).mono ?_);(case side1 => exact IsS74.up HI0.out);(case side2 => exact B_st HB.out);rintro e w6 ⟨rfl,hi,hb,hk⟩;refine ⟨_,rfl,?_⟩;replace HK := Mk (KeepBut.trans (keep_up HK.out) hk (.inl rfl));replace HB := Mk (hb);replace HI0 := Mk (hi);(try clear hb);(try clear hb2);(try clear hk);(try clear hi);have p203 : 0 ≤ (t200 : Int) := ofd;have q203 : t200 < (l1.length : Int) := ofd;obtain ⟨ad203,e203,hx203_0⟩ := Kd.at_int HR1.out t200 p203 q203;cases e203;replace hx203_0 := keep_cell HK.out hx203_0 (by first | (rw [add_block];exact hf1 _ rfl (by omega)) | exact hf1 _ rfl (by omega) | exact hf1 ad203 rfl (by omega));replace p203 := eq_true p203;replace q203 := eq_true q203))
   go_ret
   exact ⟨err_,IsS74.up HI0.out,B_st HB.out,keep_up HK.out⟩
  ·rw [if_neg c5] at H
   exact absurd H (by simp)
 ·rw [if_neg c4] at H
  exact absurd H (by simp)

/-! ### spec_l3Bytes: function 65 -/
def spec_l3Bytes.l0 : Nat → List Int → Int → List Int → Int → Int → Option (List Int × Int × Int)
 | 0,_,_,_,_,_ => none
 | k + 1,x5,x6,x1000,x1001,x1002 => if x6 > 0 then ((spec_l1Int.f x1000 x1001 x1002 (([97,98,99,0,255] : List Int))).bind fun bt213 => (if x5.length < 140737488355328 then (spec_l3Bytes.l0 k (x5 ++ [(bt213.1) % 256]) (wrap64 (x6 - 1)) x1000 bt213.2.1 bt213.2.2) else (none))) else (some (x5,x1001,x1002))
def spec_l3Bytes.f (k : Nat) (s0_0 : List Int) (s0_1 : Int) (s0_2 : Int) (a1 : Int) : Option (List Int × Int × Int) := (spec_l1Below.f s0_0 s0_1 s0_2 (wrap64 (a1 + 1))).bind fun bt207 => (spec_l3Bytes.l0 k (([] : List Int)) bt207.1 s0_0 bt207.2.1 bt207.2.2)
theorem spec_l3Bytes.mono_l : ∀ k,(∀ y0 y1 y2 y3 y4,LeO (spec_l3Bytes.l0 k y0 y1 y2 y3 y4) (spec_l3Bytes.l0 (k + 1) y0 y1 y2 y3 y4))
 | 0 => fun _ _ _ _ _ r h => by simp [spec_l3Bytes.l0] at h
 | k + 1 => by
  have ih0 := spec_l3Bytes.mono_l k
  ·intro y0 y1 y2 y3 y4
   unfold spec_l3Bytes.l0
   repeat' first
   | (with_reducible exact ih0 _ _ _ _ _)
   | (with_reducible exact LeO.refl _)
   | (with_reducible exact LeO.none _)
   | (with_reducible refine LeO.ite ?_ ?_)
   | (with_reducible refine LeO.bind ?_ (fun _ => ?_))
   | exact ih0 _ _ _ _ _
   | exact LeO.none _
   | refine LeO.ite ?_ ?_
   | refine LeO.bind ?_ (fun _ => ?_)
theorem spec_l3Bytes.mono : ∀ a0 a1 a2 a3 k,LeO (spec_l3Bytes.f k a0 a1 a2 a3) (spec_l3Bytes.f (k + 1) a0 a1 a2 a3) := by
 intro a0 a1 a2 a3 k
 have ih0 := spec_l3Bytes.mono_l k
 unfold spec_l3Bytes.f
 repeat' first
   | (with_reducible exact ih0 _ _ _ _ _)
   | (with_reducible exact LeO.refl _)
   | (with_reducible exact LeO.none _)
   | (with_reducible refine LeO.ite ?_ ?_)
   | (with_reducible refine LeO.bind ?_ (fun _ => ?_))
   | exact ih0 _ _ _ _ _
   | exact LeO.none _
   | refine LeO.ite ?_ ?_
   | refine LeO.bind ?_ (fun _ => ?_)
set_option maxHeartbeats 8000000 in
set_option maxRecDepth 100000 in
theorem spec_l3Bytes.calls (k : Nat) (g : Nat) (s0_0 : List Int) (s0_1 : Int) (s0_2 : Int) (a1 : Int) (r1 : List Int) (r2 : Int) (r3 : Int) (w0 w : World) (hI : IsS74 w0 w g s0_0 s0_1 s0_2) (hB : Below w0.heap.size w0 w) (h : spec_l3Bytes.f k s0_0 s0_1 s0_2 a1 = some (r1,r2,r3)) :
  Calls Try.prog 65 #[.pointer (some ⟨g,0,none⟩),.int .i64 a1] w fun e w' => ∃ v0_ : Value,e = .returned (v0_) ∧ Kd.R (Kd.int .u8) 5 w' w.heap.size (fun _ => True) v0_ r1 ∧ IsS74 w0 w' g s0_0 r2 r3 ∧ Below w0.heap.size w0 w' ∧ KeepBut w w' g none := by
 have HI0 := Mk hI
 have HK := Mk (KeepBut.refl w g none)
 have HL := Mk hB.size
 clear hI
 have HW0 := Mk hB.size
 have HB := Mk hB
 clear hB
 have H : ((spec_l1Below.f s0_0 s0_1 s0_2 (wrap64 (a1 + 1))).bind fun bt207 => (spec_l3Bytes.l0 k (([] : List Int)) bt207.1 s0_0 bt207.2.1 bt207.2.2)) = some (r1,r2,r3) := h
 clear h
 obtain ⟨y204,hy204⟩ : ∃ y_ : List Int,y_ = (([] : List Int)) := ⟨_,rfl⟩
 replace H : ((spec_l1Below.f s0_0 s0_1 s0_2 (wrap64 (a1 + 1))).bind fun bt207 => (spec_l3Bytes.l0 k y204 bt207.1 s0_0 bt207.2.1 bt207.2.2)) = some (r1,r2,r3) := by first | (rw [hy204];with_reducible exact H) | (have H2_ := (Option.bind_some _ _).symm.trans H;rw [hy204];with_reducible exact H2_) | (have H2_ := (Option.bind_some _ _).symm.trans H;with_reducible exact H2_) | with_reducible exact H | (rw [hy204];exact H) | exact H
 have Ny204 := Mk hy204
 clear hy204
 replace H := Option.bind_eq_some_iff.mp H
 obtain ⟨⟨t207,t208,t209⟩,A30,H⟩ := H
 replace H : (spec_l3Bytes.l0 k y204 t207 s0_0 t208 t209) = some (r1,r2,r3) := H
 have A3 := Mk A30
 clear A30
 have H' := Mk H
 clear H
 go_enter Try.func65,Try.ntmps65
 go_wp2_with (first | ((with_reducible refine gate_dst (N := 7) rfl ?_);refine Kd.R_lit (Kd.int .u8) _ 5 ?hg (N := 7) ?hd (xs := ([] : List Int)) (inner := []) (ok := fun _ => True) (okp := fun _ => True) ?hr ?hp (fun _ hk => hk) trivial (Below.refl _ _) (Nat.le_refl _) (by simp) ?_;(case hd => rfl);(case hg => rfl);(case hr => first | (go_simp;done) | (go_simp;rfl));(case hp => exact (Reps.none _ _));intro v205 w4 ho5 hb hg_ hnew_;clear hg_ hnew_;(first | rw [← Ny204.out] at ho5 | (simp only [Int.reduceToNat] at ho5;rw [← Ny204.out] at ho5));have HO206 := Mk (Kd.R_lower ho5 (keep_size (w := w) (g := g) (row := none) (keep_up HK.out)));replace HI0 := Mk (IsS74.below (IsS74.up HI0.out) hb);replace HK := Mk (KeepBut.trans (keep_up HK.out) (KeepBut.of_below hb g none) (.inl rfl));replace HB := Mk (below_step (B_st HB.out) hb);clear hb ho5) | ((with_reducible refine gate_callee (f := 35) rfl ?_);refine goesL_ (some 11) rfl rfl Try.func35 (by kernel_rfl) rfl #[.pointer (some ⟨g,0,none⟩),.int .i64 (wrap64 (a1 + 1))] rfl eq_up ?_;(with_reducible refine (spec_l1Below.calls g s0_0 s0_1 s0_2 (wrap64 (a1 + 1)) t207 t208 t209 w0 _ ?side1 ?side2 A3.out).mono ?_);(case side1 => exact IsS74.up HI0.out);(case side2 => exact B_st HB.out);rintro e w6 ⟨rfl,hi,hb,hk⟩;refine ⟨_,rfl,?_⟩;replace HO206 := Mk (Kd.R_mono (Kd.R_keep (IsS74.apart (show IsS74 w0 _ g s0_0 s0_1 s0_2 from IsS74.up HI0.out) (Kd.R_up HO206.out) (by decide)) hk (fun _ h => h.2)) (fun _ h => h.1));replace HK := Mk (KeepBut.trans (keep_up HK.out) hk (.inl rfl));replace HB := Mk (hb);replace HI0 := Mk (hi);(try clear hb);(try clear hb2);(try clear hk);(try clear hi)))
 go_loopg [5,6] k (fun kq v5 v6 w' => ∃ (x5_1 : List Int) (x6_1 : Int) (x1001_1 : Int) (x1002_1 : Int),v6 = .int .i64 x6_1 ∧ Aside0 (spec_l3Bytes.l0 kq x5_1 x6_1 s0_0 x1001_1 x1002_1 = some (r1,r2,r3)) ∧ Aside0 (kq ≤ k) ∧ Aside0 (Kd.R (Kd.int .u8) 5 w' w.heap.size (fun _ => True) v5 x5_1) ∧ Aside0 (IsS74 w0 w' g s0_0 x1001_1 x1002_1) ∧ Aside0 (KeepBut w w' g none) ∧ Aside0 (Below w0.heap.size w0 w'))
 case atStart => exact ⟨(y204),(t207),(t208),(t209),eqs_,H',⟨Nat.le_refl _⟩,⟨Kd.R_up HO206.out⟩,⟨IsS74.up HI0.out⟩,⟨keep_up HK.out⟩,⟨B_st HB.out⟩⟩
 case round =>
  clear H'
  try clear p2
  try clear c3
  try clear c6
  try clear p6
  obtain ⟨x5_1,x6_1,x1001_1,x1002_1,rfl,HA,HK1,HO_5,HI0,HK,HB⟩ := hrel
  cases gk with
  | zero => exact absurd HA.out (by simp [spec_l3Bytes.l0])
  | succ k1 =>
   have H := HA.out
   clear HA
   simp only [spec_l3Bytes.l0] at H
   by_cases c7 : x6_1 > 0
   ·rw [if_pos c7] at H
    have c7b0 : decide (0 < x6_1) = true := decide_eq_true c7
    clear c7
    obtain ⟨y210,hy210⟩ : ∃ y_ : List Int,y_ = (([97,98,99,0,255] : List Int)) := ⟨_,rfl⟩
    replace H : ((spec_l1Int.f s0_0 x1001_1 x1002_1 y210).bind fun bt213 => (if x5_1.length < 140737488355328 then (spec_l3Bytes.l0 k1 (x5_1 ++ [(bt213.1) % 256]) (wrap64 (x6_1 - 1)) s0_0 bt213.2.1 bt213.2.2) else (none))) = some (r1,r2,r3) := by first | (rw [hy210];with_reducible exact H) | (have H2_ := (Option.bind_some _ _).symm.trans H;rw [hy210];with_reducible exact H2_) | (have H2_ := (Option.bind_some _ _).symm.trans H;with_reducible exact H2_) | with_reducible exact H | (rw [hy210];exact H) | exact H
    have Ny210 := Mk hy210
    clear hy210
    replace H := bsm H
    obtain ⟨⟨t213,t214,t215⟩,A8,H⟩ := H
    (try dsimp only at H)
    by_cases c9 : x5_1.length < 140737488355328
    ·rw [if_pos c9] at H
     have LMc9 := Mk c9
     clear c9
     obtain ⟨y216,hy216⟩ : ∃ y_ : List Int,y_ = (x5_1 ++ [(t213) % 256]) := ⟨_,rfl⟩
     replace H : (spec_l3Bytes.l0 k1 y216 (wrap64 (x6_1 - 1)) s0_0 t214 t215) = some (r1,r2,r3) := by first | (rw [hy216];with_reducible exact H) | (have H2_ := (Option.bind_some _ _).symm.trans H;rw [hy216];with_reducible exact H2_) | (have H2_ := (Option.bind_some _ _).symm.trans H;with_reducible exact H2_) | with_reducible exact H | (rw [hy216];exact H) | exact H
     have Ny216 := Mk hy216
     clear hy216
     have H' := Mk H
     clear H
     go_wp2_with (first | ((with_reducible refine gate_dst (N := 18) rfl ?_);refine Kd.R_lit (Kd.int .i64) _ 3 ?hg (N := 18) ?hd (xs := ([97,98,99,0,255] : List Int)) (inner := [.int .i64 97,.int .i64 98,.int .i64 99,.int .i64 0,.int .i64 255]) (ok := fun _ => True) (okp := fun _ => True) ?hr ?hp (fun _ hk => hk) trivial (Below.refl _ _) (Nat.le_refl _) (by simp) ?_;(case hd => rfl);(case hg => rfl);(case hr => first | (go_simp;done) | (go_simp;rfl));(case hp => exact (Reps.one (show Kd.M (Kd.int .i64) _ _ _ 97 [.int .i64 97] from rfl) (Reps.one (show Kd.M (Kd.int .i64) _ _ _ 98 [.int .i64 98] from rfl) (Reps.one (show Kd.M (Kd.int .i64) _ _ _ 99 [.int .i64 99] from rfl) (Reps.one (show Kd.M (Kd.int .i64) _ _ _ 0 [.int .i64 0] from rfl) (Reps.one (show Kd.M (Kd.int .i64) _ _ _ 255 [.int .i64 255] from rfl) (Reps.none _ _)))))));intro v211 w10 ho11 hb hg_ hnew_;clear hg_ hnew_;(first | rw [← Ny210.out] at ho11 | (simp only [Int.reduceToNat] at ho11;rw [← Ny210.out] at ho11));replace HO_5 := Mk (Kd.R_below (Kd.R_up HO_5.out) hb);have HO212 := Mk (Kd.R_lower ho11 (keep_size (w := w) (g := g) (row := none) (keep_up HK.out)));replace HI0 := Mk (IsS74.below (IsS74.up HI0.out) hb);replace HK := Mk (KeepBut.trans (keep_up HK.out) (KeepBut.of_below hb g none) (.inl rfl));replace HB := Mk (below_step (B_st HB.out) hb);clear hb ho11;obtain ⟨Ao12,co12,eo12⟩ := Kd.R_slice HO212.out;subst eo12) | ((with_reducible refine gate_callee (f := 23) rfl ?_);refine goesL_ (some 19) rfl rfl Try.func23 (by kernel_rfl) rfl #[.pointer (some ⟨g,0,none⟩),.slice Ao12 y210.length co12] rfl eq_up ?_;(with_reducible refine (spec_l1Int.calls g s0_0 x1001_1 x1002_1 _ _ y210 t213 t214 t215 w0 _ ?side1 ?side2 ?side3 ?side4 ?side5 A8.out).mono ?_);(case side1 => exact IsS74.up HI0.out);(case side2 => exact B_st HB.out);(case side3 => exact Kd.C_up (Kd.R_reads' HO212.out).2.2);(case side4 => exact (Kd.R_reads' HO212.out).2.1);(case side5 => exact far_slice (IsS74.own_ne HI0.out HO212.out (by decide)));rintro e w13 ⟨rfl,hi,hb,hk⟩;refine ⟨_,rfl,?_⟩;replace HO_5 := Mk (Kd.R_mono (Kd.R_keep (IsS74.apart (show IsS74 w0 _ g s0_0 x1001_1 x1002_1 from IsS74.up HI0.out) (Kd.R_up HO_5.out) (by decide)) hk (fun _ h => h.2)) (fun _ h => h.1));replace HO212 := Mk (Kd.R_mono (Kd.R_keep (IsS74.apart (show IsS74 w0 _ g s0_0 x1001_1 x1002_1 from IsS74.up HI0.out) (Kd.R_up HO212.out) (by decide)) hk (fun _ h => h.2)) (fun _ h => h.1));replace HK := Mk (KeepBut.trans (keep_up HK.out) hk (.inl rfl));replace HB := Mk (hb);replace HI0 := Mk (hi);(try clear hb);(try clear hb2);(try clear hk);(try clear hi)) | ((with_reducible refine gate_builtin (b := .append) (xs := #[.tmp 16,.tmp 21]) rfl ?_);at_builtin;refine Kd.R_append (Kd.int .u8) w.heap.size rfl (.tmp 16) (.tmp 21) 22 5 (.int .u8 0) 1 rfl Try.underlying22 info5 rfl (by decide) (by omega) u5 x5_1 ((t213) % 256) [.int .u8 ((t213) % 256)] (fun _ => True) (fun _ => False) rfl rfl ?aP (fun _ hk => hk.elim) ?aF ?aO (Below.refl _ _) ?aS ?aL ?_;(case aP => exact rfl);(case aF => exact (fun _ _ => trivial));(case aO => exact (Kd.R_up HO_5.out));(case aS => exact (keep_size (w := w) (g := g) (row := none) (keep_up HK.out)));(case aL => have := LMc9.out;omega);intro v217 w14 ho hb hg hat;rw [← Ny216.out] at ho;replace HI0 := Mk (IsS74.grown (IsS74.up HI0.out) hg (IsS74.own_ne HI0.out HO_5.out (by decide)));replace HO212 := Mk (Kd.R_over' (Kd.R_up HO212.out) (Kd.R_typed (Kd.R_up HO_5.out)) (by decide) hg);replace HB := Mk (below_weaken (B_st HB.out) HL.out hb);replace HK := Mk (KeepBut.trans (keep_up HK.out) (KeepBut.of_grown hg g) (Kd.R_base2 HO_5.out));have HO218 := Mk (ho);clear HO_5;clear ho hb hg hat))
     go_roundg k1
     case measure => have := HK1.out;omega
     case rel => exact ⟨(y216),(wrap64 (x6_1 - 1)),(t214),(t215),eqs_,H',⟨by have := HK1.out;omega⟩,⟨Kd.R_up HO218.out⟩,⟨IsS74.up HI0.out⟩,⟨keep_up HK.out⟩,⟨B_st HB.out⟩⟩
    ·rw [if_neg c9] at H
     exact absurd H (by simp)
   ·rw [if_neg c7] at H
    have c7b0 : decide (0 < x6_1) = false := decide_eq_false c7
    clear c7
    simp only [Option.some.injEq,Prod.mk.injEq] at H
    obtain ⟨rfl,rfl,rfl⟩ := H
    go_wp2
    go_ret
    exact ⟨_,err_,Kd.R_up HO_5.out,IsS74.up HI0.out,B_st HB.out,keep_up HK.out⟩

/-! ### spec_l6Image: function 56 -/
def spec_l6Image.f (k : Nat) (s0_0 : List Int) (s0_1 : Int) (s0_2 : Int) : Option (List Int × Int × Int) := (spec_l3Bytes.f k s0_0 s0_1 s0_2 16).bind fun bt219 => (some (bt219.1,bt219.2.1,bt219.2.2))
theorem spec_l6Image.mono : ∀ a0 a1 a2 k,LeO (spec_l6Image.f k a0 a1 a2) (spec_l6Image.f (k + 1) a0 a1 a2) := by
 intro a0 a1 a2 k
 unfold spec_l6Image.f
 repeat' first
   | (with_reducible exact spec_l3Bytes.mono _ _ _ _ _)
   | (with_reducible exact LeO.refl _)
   | (with_reducible exact LeO.none _)
   | (with_reducible refine LeO.ite ?_ ?_)
   | (with_reducible refine LeO.bind ?_ (fun _ => ?_))
   | exact spec_l3Bytes.mono _ _ _ _ _
   | exact LeO.none _
   | refine LeO.ite ?_ ?_
   | refine LeO.bind ?_ (fun _ => ?_)
set_option maxHeartbeats 8000000 in
set_option maxRecDepth 100000 in
theorem spec_l6Image.calls (k : Nat) (g : Nat) (s0_0 : List Int) (s0_1 : Int) (s0_2 : Int) (r1 : List Int) (r2 : Int) (r3 : Int) (w0 w : World) (hI : IsS74 w0 w g s0_0 s0_1 s0_2) (hB : Below w0.heap.size w0 w) (h : spec_l6Image.f k s0_0 s0_1 s0_2 = some (r1,r2,r3)) :
  Calls Try.prog 56 #[.pointer (some ⟨g,0,none⟩)] w fun e w' => ∃ v0_ : Value,e = .returned (v0_) ∧ Kd.R (Kd.int .u8) 5 w' w.heap.size (fun _ => True) v0_ r1 ∧ IsS74 w0 w' g s0_0 r2 r3 ∧ Below w0.heap.size w0 w' ∧ KeepBut w w' g none := by
 have HI0 := Mk hI
 have HK := Mk (KeepBut.refl w g none)
 have HL := Mk hB.size
 clear hI
 have HW0 := Mk hB.size
 have HB := Mk hB
 clear hB
 have H : ((spec_l3Bytes.f k s0_0 s0_1 s0_2 16).bind fun bt219 => (some (bt219.1,bt219.2.1,bt219.2.2))) = some (r1,r2,r3) := h
 clear h
 replace H := Option.bind_eq_some_iff.mp H
 obtain ⟨⟨t219,t222,t223⟩,A20,H⟩ := H
 replace H : (some (t219,t222,t223)) = some (r1,r2,r3) := H
 have A2 := Mk A20
 clear A20
 simp only [Option.some.injEq,Prod.mk.injEq] at H
 obtain ⟨rfl,rfl,rfl⟩ := H
 go_enter Try.func56,Try.ntmps56
 go_wp2_with (first | ((with_reducible refine gate_callee (f := 65) rfl ?_);refine goesL_ (some 4) rfl rfl Try.func65 (by kernel_rfl) rfl #[.pointer (some ⟨g,0,none⟩),.int .i64 16] rfl eq_up ?_;(with_reducible refine (spec_l3Bytes.calls k g s0_0 s0_1 s0_2 16 t219 t222 t223 w0 _ ?side1 ?side2 A2.out).mono ?_);(case side1 => exact IsS74.up HI0.out);(case side2 => exact B_st HB.out);rintro e w3 ⟨v220,rfl,ho0,hi,hb,hk⟩;refine ⟨_,rfl,?_⟩;have HO221 := Mk (Kd.R_lower ho0 (keep_size (w := w) (g := g) (row := none) (keep_up HK.out)));replace HK := Mk (KeepBut.trans (keep_up HK.out) hk (.inl rfl));replace HB := Mk (hb);replace HI0 := Mk (hi);(try clear hb);(try clear hb2);(try clear hk);(try clear hi);(try clear ho0)))
 go_ret
 exact ⟨_,err_,Kd.R_up HO221.out,IsS74.up HI0.out,B_st HB.out,keep_up HK.out⟩

/-! ### spec_BlockAt: function 68 -/
def spec_BlockAt.f (l0 : List Int) (a1 : Int) (a2 : Int) : Option (List Int × Bool) := (spec_SpanOf.f a1 (l0.length : Int) a2).bind fun bt224 => (if bt224.2 = 0 then (some ((([] : List Int)),false)) else ((some (([] : List Int) : List Int)).bind fun y229 => (if 0 ≤ bt224.1 then (if bt224.1 ≤ (wrap64 (bt224.1 + bt224.2)) then (if (wrap64 (bt224.1 + bt224.2)) ≤ (l0.length : Int) then (if y229.length + ((l0.take ((wrap64 (bt224.1 + bt224.2)) : Int).toNat).drop (bt224.1 : Int).toNat).length < 140737488355328 then (some ((y229 ++ ((l0.take ((wrap64 (bt224.1 + bt224.2)) : Int).toNat).drop (bt224.1 : Int).toNat)),true)) else (none)) else (none)) else (none)) else (none))))
set_option maxHeartbeats 8000000 in
set_option maxRecDepth 100000 in
theorem spec_BlockAt.calls (A0 : Option Addr) (c0 : Nat) (l0 : List Int) (a1 : Int) (a2 : Int) (r1 : List Int) (r2 : Bool) (w : World) (hr0 : Kd.C (Kd.int .u8) w A0 l0.length l0) (hc0 : l0.length ≤ c0) (h : spec_BlockAt.f l0 a1 a2 = some (r1,r2)) :
  Calls Try.prog 68 #[.slice A0 l0.length c0,.int .i64 a1,.int .i64 a2] w fun e w' => ∃ v0_ : Value,e = .returned (.tuple #[v0_,.bool r2]) ∧ Kd.R (Kd.int .u8) 5 w' w.heap.size (fun _ => True) v0_ r1 ∧ Below w.heap.size w w' := by
 have HR0 := Mk hr0
 have HC0 := Mk hc0
 clear hr0 hc0
 have HB := Mk (Below.refl w.heap.size w)
 have H : ((spec_SpanOf.f a1 (l0.length : Int) a2).bind fun bt224 => (if bt224.2 = 0 then (some ((([] : List Int)),false)) else ((some (([] : List Int) : List Int)).bind fun y229 => (if 0 ≤ bt224.1 then (if bt224.1 ≤ (wrap64 (bt224.1 + bt224.2)) then (if (wrap64 (bt224.1 + bt224.2)) ≤ (l0.length : Int) then (if y229.length + ((l0.take ((wrap64 (bt224.1 + bt224.2)) : Int).toNat).drop (bt224.1 : Int).toNat).length < 140737488355328 then (some ((y229 ++ ((l0.take ((wrap64 (bt224.1 + bt224.2)) : Int).toNat).drop (bt224.1 : Int).toNat)),true)) else (none)) else (none)) else (none)) else (none))))) = some (r1,r2) := h
 clear h
 replace H := bsm H
 obtain ⟨⟨t224,t225⟩,A4,H⟩ := H
 (try dsimp only at H)
 by_cases c5 : t225 = 0
 ·rw [if_pos c5] at H
  have c5b0 : (t225 == 0) = true := beq_iff_eq.mpr c5
  have c5b1 : (t225 != 0) = false := bne_eq_false_iff_eq.mpr c5
  clear c5
  obtain ⟨y226,hy226⟩ : ∃ y_ : List Int,y_ = (([] : List Int)) := ⟨_,rfl⟩
  replace H : (some (y226,false)) = some (r1,r2) := by first | (rw [hy226];with_reducible exact H) | (have H2_ := (Option.bind_some _ _).symm.trans H;rw [hy226];with_reducible exact H2_) | (have H2_ := (Option.bind_some _ _).symm.trans H;with_reducible exact H2_) | with_reducible exact H | (rw [hy226];exact H) | exact H
  have Ny226 := Mk hy226
  clear hy226
  simp only [Option.some.injEq,Prod.mk.injEq] at H
  obtain ⟨rfl,rfl⟩ := H
  go_enter Try.func68,Try.ntmps68
  go_wp2_with (first | ((with_reducible refine gate_callee (f := 53) rfl ?_);refine goesL_ (some 15) rfl rfl Try.func53 (by kernel_rfl) rfl #[.int .i64 a1,.int .i64 (l0.length : Int),.int .i64 a2] rfl eq_up ?_;(with_reducible refine (spec_SpanOf.calls a1 (l0.length : Int) a2 t224 t225 _ A4.out).mono ?_);rintro e w' ⟨rfl,⟨nd,rfl⟩⟩;refine ⟨_,rfl,?_⟩) | ((with_reducible refine gate_dst (N := 20) rfl ?_);refine Kd.R_lit (Kd.int .u8) _ 5 ?hg (N := 20) ?hd (xs := ([] : List Int)) (inner := []) (ok := fun _ => True) (okp := fun _ => True) ?hr ?hp (fun _ hk => hk) trivial (Below.refl _ _) (Nat.le_refl _) (by simp) ?_;(case hd => rfl);(case hg => rfl);(case hr => first | (go_simp;done) | (go_simp;rfl));(case hp => exact (Reps.none _ _));intro v227 w6 ho7 hb hg_ hnew_;clear hg_ hnew_;(first | rw [← Ny226.out] at ho7 | (simp only [Int.reduceToNat] at ho7;rw [← Ny226.out] at ho7));have HO228 := Mk (Kd.R_lower ho7 (below_size (B_up HB.out)));replace HB := Mk (below_step (B_up HB.out) hb);clear hb ho7))
  go_ret2
  exact ⟨_,err_,Kd.R_up HO228.out,B_set HB.out⟩
 ·rw [if_neg c5] at H
  have c5b0 : (t225 == 0) = false := beq_eq_false_iff_ne.mpr c5
  have c5b1 : (t225 != 0) = true := bne_iff_ne.mpr c5
  obtain ⟨y229,hy229⟩ : ∃ y_ : List Int,y_ = (([] : List Int)) := ⟨_,rfl⟩
  replace H : (if 0 ≤ t224 then (if t224 ≤ (wrap64 (t224 + t225)) then (if (wrap64 (t224 + t225)) ≤ (l0.length : Int) then (if y229.length + ((l0.take ((wrap64 (t224 + t225)) : Int).toNat).drop (t224 : Int).toNat).length < 140737488355328 then (some ((y229 ++ ((l0.take ((wrap64 (t224 + t225)) : Int).toNat).drop (t224 : Int).toNat)),true)) else (none)) else (none)) else (none)) else (none)) = some (r1,r2) := by first | (rw [hy229];with_reducible exact H) | (have H2_ := (Option.bind_some _ _).symm.trans H;rw [hy229];with_reducible exact H2_) | (have H2_ := (Option.bind_some _ _).symm.trans H;with_reducible exact H2_) | with_reducible exact H | (rw [hy229];exact H) | exact H
  have Ny229 := Mk hy229
  clear hy229
  by_cases c8 : 0 ≤ t224
  ·rw [if_pos c8] at H
   have c8b0 := eq_true c8
   have c8b1 : decide (0 ≤ t224) = true := decide_eq_true c8
   clear c8
   by_cases c9 : t224 ≤ (wrap64 (t224 + t225))
   ·rw [if_pos c9] at H
    have c9b0 := eq_true c9
    have c9b1 : decide (t224 ≤ (wrap64 (t224 + t225))) = true := decide_eq_true c9
    by_cases c10 : (wrap64 (t224 + t225)) ≤ (l0.length : Int)
    ·rw [if_pos c10] at H
     have c10b0 := eq_true c10
     have c10b1 : decide ((wrap64 (t224 + t225)) ≤ (l0.length : Int)) = true := decide_eq_true c10
     by_cases c11 : y229.length + ((l0.take ((wrap64 (t224 + t225)) : Int).toNat).drop (t224 : Int).toNat).length < 140737488355328
     ·rw [if_pos c11] at H
      have LMc11 := Mk c11
      clear c11
      obtain ⟨y233,hy233⟩ : ∃ y_ : List Int,y_ = (y229 ++ ((l0.take ((wrap64 (t224 + t225)) : Int).toNat).drop (t224 : Int).toNat)) := ⟨_,rfl⟩
      replace H : (some (y233,true)) = some (r1,r2) := by first | (rw [hy233];with_reducible exact H) | (have H2_ := (Option.bind_some _ _).symm.trans H;rw [hy233];with_reducible exact H2_) | (have H2_ := (Option.bind_some _ _).symm.trans H;with_reducible exact H2_) | with_reducible exact H | (rw [hy233];exact H) | exact H
      have Ny233 := Mk hy233
      clear hy233
      simp only [Option.some.injEq,Prod.mk.injEq] at H
      obtain ⟨rfl,rfl⟩ := H
      go_enter Try.func68,Try.ntmps68
      go_wp2_with (first | ((with_reducible refine gate_callee (f := 53) rfl ?_);refine goesL_ (some 15) rfl rfl Try.func53 (by kernel_rfl) rfl #[.int .i64 a1,.int .i64 (l0.length : Int),.int .i64 a2] rfl eq_up ?_;(with_reducible refine (spec_SpanOf.calls a1 (l0.length : Int) a2 t224 t225 _ A4.out).mono ?_);rintro e w' ⟨rfl,⟨nd,rfl⟩⟩;refine ⟨_,rfl,?_⟩) | ((with_reducible refine gate_dst (N := 21) rfl ?_);refine Kd.R_lit (Kd.int .u8) _ 5 ?hg (N := 21) ?hd (xs := ([] : List Int)) (inner := []) (ok := fun _ => True) (okp := fun _ => True) ?hr ?hp (fun _ hk => hk) trivial (Below.refl _ _) (Nat.le_refl _) (by simp) ?_;(case hd => rfl);(case hg => rfl);(case hr => first | (go_simp;done) | (go_simp;rfl));(case hp => exact (Reps.none _ _));intro v230 w12 ho13 hb hg_ hnew_;clear hg_ hnew_;(first | rw [← Ny229.out] at ho13 | (simp only [Int.reduceToNat] at ho13;rw [← Ny229.out] at ho13));have HO231 := Mk (Kd.R_lower ho13 (below_size (B_up HB.out)));replace HB := Mk (below_step (B_up HB.out) hb);clear hb ho13;obtain ⟨i014,hi014,_,hsz14,_⟩ := info_parts info5;obtain ⟨A14,hcut14,hA14,hC14⟩ := print_mid_of (P := Try.prog) (Value.int .u8) 0 22 5 .i64 .i64 Try.underlying22 hi014 hsz14 A0 c0 l0 t224 (wrap64 (t224 + t225)) ofd (by first | omega | exact ofd) ofd HC0.out;have HR232 := Mk (Kd.C_of_reads (h1 := fun _ => rfl) (hA14 _ (Kd.reads_of_C HR0.out)));have HC232 := Mk hC14;clear hA14 hC14 hi014 hsz14) | ((with_reducible refine gate_builtin (b := .append) (xs := #[.tmp 21,.tmp 27]) rfl ?_);at_builtin;refine Kd.R_append_rows (Kd.int .u8) (w0 := w) w.heap.size rfl (.tmp 21) (.tmp 27) 22 5 (.int .u8 0) 1 rfl Try.underlying22 info5 rfl (by decide) (by omega) v230 y229 ((l0.take ((wrap64 (t224 + t225)) : Int).toNat).drop (t224 : Int).toNat) _ _ _ (fun _ => True) (fun _ => False) rfl rfl ?aO ?aR (fun _ _ h => h) (fun _ h => h.elim) ?aF ?aB ?aS ?aL ?_;(case aR => first | (rw [← show ((l0.take ((wrap64 (t224 + t225)) : Int).toNat).drop (t224 : Int).toNat).length = ((wrap64 (t224 + t225)).toNat - t224.toNat) from (by rw [List.length_drop,List.length_take];have h_ : ((wrap64 (t224 + t225)) : Int) ≤ (l0.length : Int) := ofd;omega)];repeat (first | exact (Kd.C_below HR232.out HB.out) | (with_reducible refine Kd.C_alloc ?_ _) | (with_reducible refine Kd.C_drewN ?_ _) | (with_reducible refine Kd.C_drew ?_))) | (repeat (first | exact (Kd.C_below HR232.out HB.out) | (with_reducible refine Kd.C_alloc ?_ _) | (with_reducible refine Kd.C_drewN ?_ _) | (with_reducible refine Kd.C_drew ?_))));(case aB => exact (B_up HB.out));(case aF => exact (fun _ _ => trivial));(case aO => exact (Kd.R_up HO231.out));(case aS => exact (below_size (B_up HB.out)));(case aL => have := LMc11.out;have hlx_ := (show ((l0.take ((wrap64 (t224 + t225)) : Int).toNat).drop (t224 : Int).toNat).length = ((wrap64 (t224 + t225)).toNat - t224.toNat) from (by rw [List.length_drop,List.length_take];have h_ : ((wrap64 (t224 + t225)) : Int) ≤ (l0.length : Int) := ofd;omega));omega);intro v234 w15 ho hb hg hat;rw [← Ny233.out] at ho;replace HB := Mk (hb);have HO235 := Mk (ho);clear HO231;clear ho hb hg hat))
      go_ret2
      exact ⟨_,err_,Kd.R_up HO235.out,B_set HB.out⟩
     ·rw [if_neg c11] at H
      exact absurd H (by simp)
    ·rw [if_neg c10] at H
     exact absurd H (by simp)
   ·rw [if_neg c9] at H
    exact absurd H (by simp)
  ·rw [if_neg c8] at H
   exact absurd H (by simp)

/-! ### spec_SumsOf: function 66 -/
def spec_SumsOf.l0 : Nat → List Int → Int → List (S56) → Int → Option ((List (S56)))
 | 0,_,_,_,_ => none
 | k + 1,x0,x1,x5,x6 => (spec_Blocks.f x1 (x0.length : Int)).bind fun t239 => (if x6 < t239 then ((spec_BlockAt.f x0 x1 x6).bind fun bt240 => ((spec_SumOf.f k bt240.1).bind fun bt244 => (if x5.length < 8796093022208 then (spec_SumsOf.l0 k x0 x1 (x5 ++ [(⟨bt244.1,bt244.2⟩ : S56)]) (wrap64 (x6 + 1))) else (none)))) else (some x5))
def spec_SumsOf.f (k : Nat) (l0 : List Int) (a1 : Int) : Option ((List (S56))) := spec_SumsOf.l0 k l0 a1 (([] : List (S56))) 0
theorem spec_SumsOf.mono_l : ∀ k,(∀ y0 y1 y2 y3,LeO (spec_SumsOf.l0 k y0 y1 y2 y3) (spec_SumsOf.l0 (k + 1) y0 y1 y2 y3))
 | 0 => fun _ _ _ _ r h => by simp [spec_SumsOf.l0] at h
 | k + 1 => by
  have ih0 := spec_SumsOf.mono_l k
  ·intro y0 y1 y2 y3
   unfold spec_SumsOf.l0
   repeat' first
   | (with_reducible exact ih0 _ _ _ _)
   | (with_reducible exact spec_SumOf.mono _ _)
   | (with_reducible exact LeO.refl _)
   | (with_reducible exact LeO.none _)
   | (with_reducible refine LeO.ite ?_ ?_)
   | (with_reducible refine LeO.bind ?_ (fun _ => ?_))
   | exact ih0 _ _ _ _
   | exact spec_SumOf.mono _ _
   | exact LeO.none _
   | refine LeO.ite ?_ ?_
   | refine LeO.bind ?_ (fun _ => ?_)
theorem spec_SumsOf.mono : ∀ a0 a1 k,LeO (spec_SumsOf.f k a0 a1) (spec_SumsOf.f (k + 1) a0 a1) := by
 intro a0 a1 k
 have ih0 := spec_SumsOf.mono_l k
 unfold spec_SumsOf.f
 repeat' first
   | (with_reducible exact ih0 _ _ _ _)
   | (with_reducible exact spec_SumOf.mono _ _)
   | (with_reducible exact LeO.refl _)
   | (with_reducible exact LeO.none _)
   | (with_reducible refine LeO.ite ?_ ?_)
   | (with_reducible refine LeO.bind ?_ (fun _ => ?_))
   | exact ih0 _ _ _ _
   | exact spec_SumOf.mono _ _
   | exact LeO.none _
   | refine LeO.ite ?_ ?_
   | refine LeO.bind ?_ (fun _ => ?_)
set_option maxHeartbeats 8000000 in
set_option maxRecDepth 100000 in
theorem spec_SumsOf.calls (k : Nat) (A0 : Option Addr) (c0 : Nat) (l0 : List Int) (a1 : Int) (r : List (S56)) (w : World) (hr0 : Kd.C (Kd.int .u8) w A0 l0.length l0) (hc0 : l0.length ≤ c0) (h : spec_SumsOf.f k l0 a1 = some r) :
  Calls Try.prog 66 #[.slice A0 l0.length c0,.int .i64 a1] w fun e w' => ∃ v0_ : Value,e = .returned (v0_) ∧ Kd.R k56 56 w' w.heap.size (fun _ => True) v0_ r ∧ Below w.heap.size w w' := by
 have HR0 := Mk hr0
 have HC0 := Mk hc0
 clear hr0 hc0
 have HB := Mk (Below.refl w.heap.size w)
 have H : (spec_SumsOf.l0 k l0 a1 (([] : List (S56))) 0) = some r := h
 clear h
 obtain ⟨y236,hy236⟩ : ∃ y_ : List (S56),y_ = (([] : List (S56))) := ⟨_,rfl⟩
 replace H : (spec_SumsOf.l0 k l0 a1 y236 0) = some r := by first | (rw [hy236];with_reducible exact H) | (have H2_ := (Option.bind_some _ _).symm.trans H;rw [hy236];with_reducible exact H2_) | (have H2_ := (Option.bind_some _ _).symm.trans H;with_reducible exact H2_) | with_reducible exact H | (rw [hy236];exact H) | exact H
 have Ny236 := Mk hy236
 clear hy236
 have H' := Mk H
 clear H
 go_enter Try.func66,Try.ntmps66
 go_wp2_with (first | ((with_reducible refine gate_dst (N := 9) rfl ?_);refine Kd.R_lit k56 _ 56 ?hg (N := 9) ?hd (xs := ([] : List (S56))) (inner := []) (ok := fun _ => True) (okp := fun _ => True) ?hr ?hp (fun _ hk => hk) trivial (Below.refl _ _) (Nat.le_refl _) (by simp) ?_;(case hd => rfl);(case hg => rfl);(case hr => first | (go_simp;done) | (go_simp;rfl));(case hp => exact (Reps.none _ _));intro v237 w3 ho4 hb hg_ hnew_;clear hg_ hnew_;(first | rw [← Ny236.out] at ho4 | (simp only [Int.reduceToNat] at ho4;rw [← Ny236.out] at ho4));have HO238 := Mk (Kd.R_lower ho4 (below_size (B_up HB.out)));replace HB := Mk (below_step (B_up HB.out) hb);clear hb ho4))
 go_loopg [5,6] k (fun kq v5 v6 w' => ∃ (x5_1 : List (S56)) (x6_1 : Int),v6 = .int .i64 x6_1 ∧ Aside0 (spec_SumsOf.l0 kq l0 a1 x5_1 x6_1 = some r) ∧ Aside0 (kq ≤ k) ∧ Aside0 (Kd.R k56 56 w' w.heap.size (fun _ => True) v5 x5_1) ∧ Aside0 (Below w.heap.size w w'))
 case atStart => exact ⟨(y236),(0),eqs_,H',⟨Nat.le_refl _⟩,⟨Kd.R_up HO238.out⟩,⟨B_set HB.out⟩⟩
 case round =>
  clear H'
  try clear p2
  obtain ⟨x5_1,x6_1,rfl,HA,HK1,HO_5,HB⟩ := hrel
  cases gk with
  | zero => exact absurd HA.out (by simp [spec_SumsOf.l0])
  | succ k1 =>
   have H := HA.out
   clear HA
   simp only [spec_SumsOf.l0] at H
   replace H := bsm H
   obtain ⟨t239,A5,H⟩ := H
   (try dsimp only at H)
   by_cases c6 : x6_1 < t239
   ·rw [if_pos c6] at H
    have c6b0 : decide (x6_1 < t239) = true := decide_eq_true c6
    clear c6
    replace H := bsm H
    obtain ⟨⟨t240,t241⟩,A7,H⟩ := H
    (try dsimp only at H)
    replace H := bsm H
    obtain ⟨⟨t244,t245⟩,A8,H⟩ := H
    (try dsimp only at H)
    by_cases c9 : x5_1.length < 8796093022208
    ·rw [if_pos c9] at H
     have LMc9 := Mk c9
     clear c9
     obtain ⟨y246,hy246⟩ : ∃ y_ : List (S56),y_ = (x5_1 ++ [(⟨t244,t245⟩ : S56)]) := ⟨_,rfl⟩
     replace H : (spec_SumsOf.l0 k1 l0 a1 y246 (wrap64 (x6_1 + 1))) = some r := by first | (rw [hy246];with_reducible exact H) | (have H2_ := (Option.bind_some _ _).symm.trans H;rw [hy246];with_reducible exact H2_) | (have H2_ := (Option.bind_some _ _).symm.trans H;with_reducible exact H2_) | with_reducible exact H | (rw [hy246];exact H) | exact H
     have Ny246 := Mk hy246
     clear hy246
     have H' := Mk H
     clear H
     go_wp2_with (first | ((with_reducible refine gate_callee (f := 30) rfl ?_);refine goesL_ (some 14) rfl rfl Try.func30 (by kernel_rfl) rfl #[.int .i64 a1,.int .i64 (l0.length : Int)] rfl eq_up ?_;(with_reducible refine (spec_Blocks.calls a1 (l0.length : Int) t239 _ A5.out).mono ?_);rintro e w' ⟨rfl,⟨nd,rfl⟩⟩;refine ⟨_,rfl,?_⟩) | ((with_reducible refine gate_callee (f := 68) rfl ?_);refine goesL_ (some 22) rfl rfl Try.func68 (by kernel_rfl) rfl #[.slice A0 l0.length c0,.int .i64 a1,.int .i64 x6_1] rfl eq_up ?_;(with_reducible refine (spec_BlockAt.calls _ _ l0 a1 x6_1 t240 t241 _ ?side1 ?side2 A7.out).mono ?_);(case side1 => repeat (first | exact (Kd.C_below HR0.out (B_up HB.out)) | (with_reducible refine Kd.C_alloc ?_ _) | (with_reducible refine Kd.C_drewN ?_ _) | (with_reducible refine Kd.C_drew ?_)));(case side2 => exact HC0.out);rintro e w10 ⟨v242,rfl,ho0,hb⟩;refine ⟨_,rfl,?_⟩;replace HO_5 := Mk (Kd.R_below (Kd.R_up HO_5.out) hb);have HO243 := Mk (Kd.R_lower ho0 (below_size (B_up HB.out)));replace HB := Mk (below_step (B_up HB.out) hb);(try clear hb);(try clear hb2);(try clear hk);(try clear hi);(try clear ho0);obtain ⟨Ao11,co11,eo11⟩ := Kd.R_slice HO243.out;subst eo11) | ((with_reducible refine gate_callee (f := 33) rfl ?_);refine goesL_ (some 27) rfl rfl Try.func33 (by kernel_rfl) rfl #[.slice Ao11 t240.length co11] rfl eq_up ?_;(with_reducible refine (spec_SumOf.calls k1 _ _ t240 t244 t245 _ ?side1 ?side2 A8.out).mono ?_);(case side1 => exact Kd.C_up (Kd.R_reads' HO243.out).2.2);(case side2 => exact (Kd.R_reads' HO243.out).2.1);rintro e w12 ⟨rfl,hb⟩;refine ⟨_,rfl,?_⟩;replace HO_5 := Mk (Kd.R_below (Kd.R_up HO_5.out) hb);replace HO243 := Mk (Kd.R_below (Kd.R_up HO243.out) hb);replace HB := Mk (below_step (B_up HB.out) hb);(try clear hb);(try clear hb2);(try clear hk);(try clear hi)) | ((with_reducible refine gate_builtin (b := .append) (xs := #[.tmp 25,.tmp 28]) rfl ?_);at_builtin;refine Kd.R_append k56 (w0 := w) w.heap.size rfl (.tmp 25) (.tmp 28) 26 56 (.agg #[(.int .i64 0),(.int .i64 0)]) 16 rfl Try.underlying26 info56 rfl (by decide) (by omega) u5 x5_1 (⟨t244,t245⟩ : S56) [.int .i64 t244,.int .i64 t245] (fun _ => True) (fun _ => False) rfl rfl ?aP (fun _ hk => hk.elim) ?aF ?aO ?aB ?aS ?aL ?_;(case aP => exact k56_mkM _ _ _ (⟨t244,t245⟩ : S56));(case aB => exact (B_up HB.out));(case aF => exact (fun _ _ => trivial));(case aO => exact (Kd.R_up HO_5.out));(case aS => exact (below_size (B_up HB.out)));(case aL => have := LMc9.out;omega);intro v247 w13 ho hb hg hat;rw [← Ny246.out] at ho;replace HO243 := Mk (Kd.R_over' (Kd.R_up HO243.out) (Kd.R_typed (Kd.R_up HO_5.out)) (by decide) hg);replace HB := Mk (hb);have HO248 := Mk (ho);clear HO_5;clear ho hb hg hat))
     go_roundg k1
     case measure => have := HK1.out;omega
     case rel => exact ⟨(y246),(wrap64 (x6_1 + 1)),eqs_,H',⟨by have := HK1.out;omega⟩,⟨Kd.R_up HO248.out⟩,⟨B_set HB.out⟩⟩
    ·rw [if_neg c9] at H
     exact absurd H (by simp)
   ·rw [if_neg c6] at H
    have c6b0 : decide (x6_1 < t239) = false := decide_eq_false c6
    clear c6
    obtain rfl := Option.some.inj H
    go_wp2_with (first | ((with_reducible refine gate_callee (f := 30) rfl ?_);refine goesL_ (some 14) rfl rfl Try.func30 (by kernel_rfl) rfl #[.int .i64 a1,.int .i64 (l0.length : Int)] rfl eq_up ?_;(with_reducible refine (spec_Blocks.calls a1 (l0.length : Int) t239 _ A5.out).mono ?_);rintro e w' ⟨rfl,⟨nd,rfl⟩⟩;refine ⟨_,rfl,?_⟩))
    go_ret
    exact ⟨_,err_,Kd.R_up HO_5.out,B_set HB.out⟩

/-! ### spec_ManOf: function 57 -/
def spec_ManOf.f (k : Nat) (a0 : Int) (l1 : List Int) (a2 : Int) : Option (Int × Int × Int × (List (S56))) := (spec_l1In.f a0 1 1000000).bind fun t250 => (if t250 = true then ((spec_SizeOk.f a2 (l1.length : Int)).bind fun t251 => (if t251 = true then ((spec_SumsOf.f k l1 a2).bind fun t252 => (some (a0,a2,(l1.length : Int),t252))) else (some (0,0,0,([] : List (S56)))))) else (some (0,0,0,([] : List (S56)))))
theorem spec_ManOf.mono : ∀ a0 a1 a2 k,LeO (spec_ManOf.f k a0 a1 a2) (spec_ManOf.f (k + 1) a0 a1 a2) := by
 intro a0 a1 a2 k
 unfold spec_ManOf.f
 repeat' first
   | (with_reducible exact spec_SumsOf.mono _ _ _)
   | (with_reducible exact LeO.refl _)
   | (with_reducible exact LeO.none _)
   | (with_reducible refine LeO.ite ?_ ?_)
   | (with_reducible refine LeO.bind ?_ (fun _ => ?_))
   | exact spec_SumsOf.mono _ _ _
   | exact LeO.none _
   | refine LeO.ite ?_ ?_
   | refine LeO.bind ?_ (fun _ => ?_)
set_option maxHeartbeats 8000000 in
set_option maxRecDepth 100000 in
theorem spec_ManOf.calls (k : Nat) (a0 : Int) (A1 : Option Addr) (c1 : Nat) (l1 : List Int) (a2 : Int) (r1 : Int) (r2 : Int) (r3 : Int) (r4 : List (S56)) (w : World) (hr1 : Kd.C (Kd.int .u8) w A1 l1.length l1) (hc1 : l1.length ≤ c1) (h : spec_ManOf.f k a0 l1 a2 = some (r1,r2,r3,r4)) :
  Calls Try.prog 57 #[.int .i64 a0,.slice A1 l1.length c1,.int .i64 a2] w fun e w' => ∃ v3_ : Value,e = .returned (.agg #[.int .i64 r1,.int .i64 r2,.int .i64 r3,v3_]) ∧ Kd.R k56 56 w' w.heap.size (fun _ => True) v3_ r4 ∧ Below w.heap.size w w' := by
 have hu28 := Try.underlying28
 have HR1 := Mk hr1
 have HC1 := Mk hc1
 clear hr1 hc1
 have HB := Mk (Below.refl w.heap.size w)
 have H : ((spec_l1In.f a0 1 1000000).bind fun t250 => (if t250 = true then ((spec_SizeOk.f a2 (l1.length : Int)).bind fun t251 => (if t251 = true then ((spec_SumsOf.f k l1 a2).bind fun t252 => (some (a0,a2,(l1.length : Int),t252))) else (some (0,0,0,([] : List (S56)))))) else (some (0,0,0,([] : List (S56)))))) = some (r1,r2,r3,r4) := h
 clear h
 replace H := bsm H
 obtain ⟨t250,A4,H⟩ := H
 (try dsimp only at H)
 by_cases c5 : t250 = true
 ·subst c5
  rw [if_pos rfl] at H
  replace H := bsm H
  obtain ⟨t251,A6,H⟩ := H
  (try dsimp only at H)
  by_cases c7 : t251 = true
  ·subst c7
   rw [if_pos rfl] at H
   replace H := Option.bind_eq_some_iff.mp H
   obtain ⟨t252,A80,H⟩ := H
   replace H : (some (a0,a2,(l1.length : Int),t252)) = some (r1,r2,r3,r4) := H
   have A8 := Mk A80
   clear A80
   simp only [Option.some.injEq,Prod.mk.injEq] at H
   obtain ⟨rfl,rfl,rfl,rfl⟩ := H
   go_enter Try.func57,Try.ntmps57
   go_wp2_with (first | ((with_reducible refine gate_dst (N := 6) rfl ?_);(try (refine gate_guard (by rfl) ?_;dsimp only));refine box_event ?hg (N := 6) ?hd (cs := #[.int .i64 0,.int .i64 0,.int .i64 0,.slice none 0 0]) (t := 28) ?hr ?_;(case hd => rfl);(case hg => rfl);(case hr => first | (go_simp;done) | (go_simp;rfl));intro gb249 hg w9 hbox hb;have BK249 := Mk (hbox);have GW249 := Mk ((by rw [hg];exact (below_size (B_up HB.out)) : w.heap.size ≤ gb249));have GE249 := Mk ((by rw [hg];exact (below_size (B_up HB.out)) : w.heap.size ≤ gb249));replace HB := Mk (below_step (B_up HB.out) hb);clear hb hbox hg) | ((with_reducible refine gate_callee (f := 51) rfl ?_);refine goesL_ (some 8) rfl rfl Try.func51 (by kernel_rfl) rfl #[.int .i64 a0,.int .i64 1,.int .i64 1000000] rfl eq_up ?_;(with_reducible refine (spec_l1In.calls a0 1 1000000 true _ A4.out).mono ?_);rintro e w' ⟨rfl,⟨nd,rfl⟩⟩;refine ⟨_,rfl,?_⟩;(try (rw [drewN_self w9];generalize hq_ : World.drewN w9 _ = w9;have n0_ : Aside0 (w9.heap[gb249]? = some (.cells #[.int .i64 0,.int .i64 0,.int .i64 0,.slice none 0 0] 28 (0,0))) := ⟨by rw [← hq_];exact (blk_up BK249.out)⟩;have n1_ : Aside0 (Below w.heap.size w w9) := ⟨by rw [← hq_];exact (B_set HB.out)⟩;clear BK249 HB hq_;have BK249 := n0_;have HB := n1_;clear n0_ n1_))) | (go_at_call 52;(with_reducible refine (spec_SizeOk.calls a2 (l1.length : Int) true _ A6.out).mono ?_);rintro e w' ⟨rfl,⟨nd,rfl⟩⟩;(try (rw [drewN_self w9];generalize hq_ : World.drewN w9 _ = w9;have n0_ : Aside0 (w9.heap[gb249]? = some (.cells #[.int .i64 0,.int .i64 0,.int .i64 0,.slice none 0 0] 28 (0,0))) := ⟨by rw [← hq_];exact (blk_up BK249.out)⟩;have n1_ : Aside0 (Below w.heap.size w w9) := ⟨by rw [← hq_];exact (B_set HB.out)⟩;clear BK249 HB hq_;have BK249 := n0_;have HB := n1_;clear n0_ n1_))) | ((with_reducible refine gate_callee (f := 66) rfl ?_);refine goesL_ (some 24) rfl rfl Try.func66 (by kernel_rfl) rfl #[.slice A1 l1.length c1,.int .i64 a2] rfl eq_up ?_;(with_reducible refine (spec_SumsOf.calls k _ _ l1 a2 t252 _ ?side1 ?side2 A8.out).mono ?_);(case side1 => repeat (first | exact (Kd.C_below HR1.out HB.out) | (with_reducible refine Kd.C_alloc ?_ _) | (with_reducible refine Kd.C_drewN ?_ _) | (with_reducible refine Kd.C_drew ?_)));(case side2 => exact HC1.out);rintro e w10 ⟨v253,rfl,ho0,hb⟩;refine ⟨_,rfl,?_⟩;have HO254 := Mk (Kd.R_lower ho0 (below_size (B_set HB.out)));replace BK249 := Mk (blk_below (blk_up BK249.out) hb);replace HB := Mk (below_step (B_set HB.out) hb);(try clear hb);(try clear hb2);(try clear hk);(try clear hi);(try clear ho0);obtain ⟨Ao11,co11,eo11⟩ := Kd.R_slice HO254.out;subst eo11;obtain ⟨hcz12_0,hcz12_1,hcz12_2,hcz12_3⟩ := cz4 BK249.out;obtain ⟨hfz12_0,hfz12_1,hfz12_2,hfz12_3⟩ := fz4 BK249.out))
   refine bodyPost_ret (results_cell_row rfl _ _ gb249 28 #[.int .i64 a0,.int .i64 a2,.int .i64 (l1.length : Int),.slice Ao11 t252.length co11] (0,0) _ rfl (by (with_reducible repeat (first | refine blk_drewN ?_ _ | refine blk_drew ?_ | refine blk_alloc ?_ _));refine blk_put (cs := #[.int .i64 a0,.int .i64 a2,.int .i64 (l1.length : Int),.slice none 0 0]) ?_ 3 _ rfl;(with_reducible repeat (first | refine blk_drewN ?_ _ | refine blk_drew ?_ | refine blk_alloc ?_ _));refine blk_put (cs := #[.int .i64 a0,.int .i64 a2,.int .i64 0,.slice none 0 0]) ?_ 2 _ rfl;(with_reducible repeat (first | refine blk_drewN ?_ _ | refine blk_drew ?_ | refine blk_alloc ?_ _));refine blk_put (cs := #[.int .i64 a0,.int .i64 0,.int .i64 0,.slice none 0 0]) ?_ 1 _ rfl;(with_reducible repeat (first | refine blk_drewN ?_ _ | refine blk_drew ?_ | refine blk_alloc ?_ _));refine blk_put (cs := #[.int .i64 0,.int .i64 0,.int .i64 0,.slice none 0 0]) ?_ 0 _ rfl;(with_reducible repeat (first | refine blk_drewN ?_ _ | refine blk_drew ?_ | refine blk_alloc ?_ _));exact BK249.out) Try.underlying28 rfl (by kernel_rfl)) rfl ?_
   exact ⟨_,err_,Kd.R_up (Kd.R_mono (Kd.R_far (p := ⟨gb249,3,none⟩) (Kd.R_far (p := ⟨gb249,2,none⟩) (Kd.R_far (p := ⟨gb249,1,none⟩) (Kd.R_far (p := ⟨gb249,0,none⟩) (Kd.R_types HO254.out BK249.out (by decide)) (fun _ hk => hk.2) (.int .i64 a0)) (fun _ hk => hk.2) (.int .i64 a2)) (fun _ hk => hk.2) (.int .i64 (l1.length : Int))) (fun _ hk => hk.2) (.slice Ao11 t252.length co11)) (fun _ hk => trivial)),B_set HB.out⟩
  ·replace c7 := Bool.eq_false_iff.mpr c7
   subst c7
   have H1 : (some (0,0,0,([] : List (S56)))) = some (r1,r2,r3,r4) := by rw [if_neg (show ¬ (false = true) by decide)] at H;exact H
   clear H
   have H := H1
   clear H1
   simp only [Option.some.injEq,Prod.mk.injEq] at H
   obtain ⟨rfl,rfl,rfl,rfl⟩ := H
   go_enter Try.func57,Try.ntmps57
   go_wp2_with (first | ((with_reducible refine gate_dst (N := 6) rfl ?_);(try (refine gate_guard (by rfl) ?_;dsimp only));refine box_event ?hg (N := 6) ?hd (cs := #[.int .i64 0,.int .i64 0,.int .i64 0,.slice none 0 0]) (t := 28) ?hr ?_;(case hd => rfl);(case hg => rfl);(case hr => first | (go_simp;done) | (go_simp;rfl));intro gb249 hg w13 hbox hb;have BK249 := Mk (hbox);have GW249 := Mk ((by rw [hg];exact (below_size (B_up HB.out)) : w.heap.size ≤ gb249));have GE249 := Mk ((by rw [hg];exact (below_size (B_up HB.out)) : w.heap.size ≤ gb249));replace HB := Mk (below_step (B_up HB.out) hb);clear hb hbox hg) | ((with_reducible refine gate_callee (f := 51) rfl ?_);refine goesL_ (some 8) rfl rfl Try.func51 (by kernel_rfl) rfl #[.int .i64 a0,.int .i64 1,.int .i64 1000000] rfl eq_up ?_;(with_reducible refine (spec_l1In.calls a0 1 1000000 true _ A4.out).mono ?_);rintro e w' ⟨rfl,⟨nd,rfl⟩⟩;refine ⟨_,rfl,?_⟩;(try (rw [drewN_self w13];generalize hq_ : World.drewN w13 _ = w13;have n0_ : Aside0 (w13.heap[gb249]? = some (.cells #[.int .i64 0,.int .i64 0,.int .i64 0,.slice none 0 0] 28 (0,0))) := ⟨by rw [← hq_];exact (blk_up BK249.out)⟩;have n1_ : Aside0 (Below w.heap.size w w13) := ⟨by rw [← hq_];exact (B_set HB.out)⟩;clear BK249 HB hq_;have BK249 := n0_;have HB := n1_;clear n0_ n1_))) | (go_at_call 52;(with_reducible refine (spec_SizeOk.calls a2 (l1.length : Int) false _ A6.out).mono ?_);rintro e w' ⟨rfl,⟨nd,rfl⟩⟩;(try (rw [drewN_self w13];generalize hq_ : World.drewN w13 _ = w13;have n0_ : Aside0 (w13.heap[gb249]? = some (.cells #[.int .i64 0,.int .i64 0,.int .i64 0,.slice none 0 0] 28 (0,0))) := ⟨by rw [← hq_];exact (blk_up BK249.out)⟩;have n1_ : Aside0 (Below w.heap.size w w13) := ⟨by rw [← hq_];exact (B_set HB.out)⟩;clear BK249 HB hq_;have BK249 := n0_;have HB := n1_;clear n0_ n1_));obtain ⟨hcz14_0,hcz14_1,hcz14_2,hcz14_3⟩ := cz4 BK249.out;obtain ⟨hfz14_0,hfz14_1,hfz14_2,hfz14_3⟩ := fz4 BK249.out))
   refine bodyPost_ret (results_cell_row rfl _ _ gb249 28 #[.int .i64 0,.int .i64 0,.int .i64 0,.slice none 0 0] (0,0) _ rfl (by (with_reducible repeat (first | refine blk_drewN ?_ _ | refine blk_drew ?_ | refine blk_alloc ?_ _));refine blk_put (cs := #[.int .i64 0,.int .i64 0,.int .i64 0,.slice none 0 0]) ?_ 3 _ rfl;(with_reducible repeat (first | refine blk_drewN ?_ _ | refine blk_drew ?_ | refine blk_alloc ?_ _));refine blk_put (cs := #[.int .i64 0,.int .i64 0,.int .i64 0,.slice none 0 0]) ?_ 2 _ rfl;(with_reducible repeat (first | refine blk_drewN ?_ _ | refine blk_drew ?_ | refine blk_alloc ?_ _));refine blk_put (cs := #[.int .i64 0,.int .i64 0,.int .i64 0,.slice none 0 0]) ?_ 1 _ rfl;(with_reducible repeat (first | refine blk_drewN ?_ _ | refine blk_drew ?_ | refine blk_alloc ?_ _));refine blk_put (cs := #[.int .i64 0,.int .i64 0,.int .i64 0,.slice none 0 0]) ?_ 0 _ rfl;(with_reducible repeat (first | refine blk_drewN ?_ _ | refine blk_drew ?_ | refine blk_alloc ?_ _));exact BK249.out) Try.underlying28 rfl (by kernel_rfl)) rfl ?_
   exact ⟨_,err_,by first | exact Kd.R_nil _ _ _ _ _ | exact Kd.N_nil _ _ _ _ _ | exact Kd.V_nil _ _ _ _ _ | exact Kd.Q_nil _ _ _ _ _ | exact Kd.S_nil _ _ _ _ _,B_set HB.out⟩
 ·replace c5 := Bool.eq_false_iff.mpr c5
  subst c5
  have H1 : (some (0,0,0,([] : List (S56)))) = some (r1,r2,r3,r4) := by rw [if_neg (show ¬ (false = true) by decide)] at H;exact H
  clear H
  have H := H1
  clear H1
  simp only [Option.some.injEq,Prod.mk.injEq] at H
  obtain ⟨rfl,rfl,rfl,rfl⟩ := H
  go_enter Try.func57,Try.ntmps57
  go_wp2_with (first | ((with_reducible refine gate_dst (N := 6) rfl ?_);(try (refine gate_guard (by rfl) ?_;dsimp only));refine box_event ?hg (N := 6) ?hd (cs := #[.int .i64 0,.int .i64 0,.int .i64 0,.slice none 0 0]) (t := 28) ?hr ?_;(case hd => rfl);(case hg => rfl);(case hr => first | (go_simp;done) | (go_simp;rfl));intro gb249 hg w15 hbox hb;have BK249 := Mk (hbox);have GW249 := Mk ((by rw [hg];exact (below_size (B_up HB.out)) : w.heap.size ≤ gb249));have GE249 := Mk ((by rw [hg];exact (below_size (B_up HB.out)) : w.heap.size ≤ gb249));replace HB := Mk (below_step (B_up HB.out) hb);clear hb hbox hg) | ((with_reducible refine gate_callee (f := 51) rfl ?_);refine goesL_ (some 8) rfl rfl Try.func51 (by kernel_rfl) rfl #[.int .i64 a0,.int .i64 1,.int .i64 1000000] rfl eq_up ?_;(with_reducible refine (spec_l1In.calls a0 1 1000000 false _ A4.out).mono ?_);rintro e w' ⟨rfl,⟨nd,rfl⟩⟩;refine ⟨_,rfl,?_⟩;(try (rw [drewN_self w15];generalize hq_ : World.drewN w15 _ = w15;have n0_ : Aside0 (w15.heap[gb249]? = some (.cells #[.int .i64 0,.int .i64 0,.int .i64 0,.slice none 0 0] 28 (0,0))) := ⟨by rw [← hq_];exact (blk_up BK249.out)⟩;have n1_ : Aside0 (Below w.heap.size w w15) := ⟨by rw [← hq_];exact (B_set HB.out)⟩;clear BK249 HB hq_;have BK249 := n0_;have HB := n1_;clear n0_ n1_));obtain ⟨hcz16_0,hcz16_1,hcz16_2,hcz16_3⟩ := cz4 BK249.out;obtain ⟨hfz16_0,hfz16_1,hfz16_2,hfz16_3⟩ := fz4 BK249.out))
  refine bodyPost_ret (results_cell_row rfl _ _ gb249 28 #[.int .i64 0,.int .i64 0,.int .i64 0,.slice none 0 0] (0,0) _ rfl (by (with_reducible repeat (first | refine blk_drewN ?_ _ | refine blk_drew ?_ | refine blk_alloc ?_ _));refine blk_put (cs := #[.int .i64 0,.int .i64 0,.int .i64 0,.slice none 0 0]) ?_ 3 _ rfl;(with_reducible repeat (first | refine blk_drewN ?_ _ | refine blk_drew ?_ | refine blk_alloc ?_ _));refine blk_put (cs := #[.int .i64 0,.int .i64 0,.int .i64 0,.slice none 0 0]) ?_ 2 _ rfl;(with_reducible repeat (first | refine blk_drewN ?_ _ | refine blk_drew ?_ | refine blk_alloc ?_ _));refine blk_put (cs := #[.int .i64 0,.int .i64 0,.int .i64 0,.slice none 0 0]) ?_ 1 _ rfl;(with_reducible repeat (first | refine blk_drewN ?_ _ | refine blk_drew ?_ | refine blk_alloc ?_ _));refine blk_put (cs := #[.int .i64 0,.int .i64 0,.int .i64 0,.slice none 0 0]) ?_ 0 _ rfl;(with_reducible repeat (first | refine blk_drewN ?_ _ | refine blk_drew ?_ | refine blk_alloc ?_ _));exact BK249.out) Try.underlying28 rfl (by kernel_rfl)) rfl ?_
  exact ⟨_,err_,by first | exact Kd.R_nil _ _ _ _ _ | exact Kd.N_nil _ _ _ _ _ | exact Kd.V_nil _ _ _ _ _ | exact Kd.Q_nil _ _ _ _ _ | exact Kd.S_nil _ _ _ _ _,B_set HB.out⟩

/-! ### spec_l6Draw: function 21 -/
def spec_l6Draw.f (k : Nat) (s0_0 : List Int) (s0_1 : Int) (s0_2 : Int) : Option (Int × Int × Int × (List (S56)) × List Int × Int × Int) := (spec_l6Image.f k s0_0 s0_1 s0_2).bind fun bt256 => ((spec_l1Below.f s0_0 bt256.2.1 bt256.2.2 5).bind fun bt261 => ((spec_l1Below.f s0_0 bt261.2.1 bt261.2.2 5).bind fun bt264 => ((spec_ManOf.f k (wrap64 (1 + bt261.1)) bt256.1 (wrap64 (2 + bt264.1))).bind fun bt267 => (some (bt267.1,bt267.2.1,bt267.2.2.1,bt267.2.2.2,bt256.1,bt264.2.1,bt264.2.2)))))
theorem spec_l6Draw.mono : ∀ a0 a1 a2 k,LeO (spec_l6Draw.f k a0 a1 a2) (spec_l6Draw.f (k + 1) a0 a1 a2) := by
 intro a0 a1 a2 k
 unfold spec_l6Draw.f
 repeat' first
   | (with_reducible exact spec_ManOf.mono _ _ _ _)
   | (with_reducible exact spec_l6Image.mono _ _ _ _)
   | (with_reducible exact LeO.refl _)
   | (with_reducible exact LeO.none _)
   | (with_reducible refine LeO.ite ?_ ?_)
   | (with_reducible refine LeO.bind ?_ (fun _ => ?_))
   | exact spec_ManOf.mono _ _ _ _
   | exact spec_l6Image.mono _ _ _ _
   | exact LeO.none _
   | refine LeO.ite ?_ ?_
   | refine LeO.bind ?_ (fun _ => ?_)
set_option maxHeartbeats 8000000 in
set_option maxRecDepth 100000 in
theorem spec_l6Draw.calls (k : Nat) (g : Nat) (s0_0 : List Int) (s0_1 : Int) (s0_2 : Int) (r1 : Int) (r2 : Int) (r3 : Int) (r4 : List (S56)) (r5 : List Int) (r6 : Int) (r7 : Int) (w0 w : World) (hI : IsS74 w0 w g s0_0 s0_1 s0_2) (hB : Below w0.heap.size w0 w) (h : spec_l6Draw.f k s0_0 s0_1 s0_2 = some (r1,r2,r3,r4,r5,r6,r7)) :
  Calls Try.prog 21 #[.pointer (some ⟨g,0,none⟩)] w fun e w' => ∃ v3_ v4_ : Value,e = .returned (.tuple #[.agg #[.int .i64 r1,.int .i64 r2,.int .i64 r3,v3_],v4_]) ∧ Kd.R k56 56 w' w.heap.size (fun _ => True) v3_ r4 ∧ Kd.R (Kd.int .u8) 5 w' w.heap.size (fun _ => True) v4_ r5 ∧ IsS74 w0 w' g s0_0 r6 r7 ∧ Below w0.heap.size w0 w' ∧ KeepBut w w' g none := by
 have hu28 := Try.underlying28
 have HI0 := Mk hI
 have HK := Mk (KeepBut.refl w g none)
 have HL := Mk hB.size
 clear hI
 have HW0 := Mk hB.size
 have HB := Mk hB
 clear hB
 have H : ((spec_l6Image.f k s0_0 s0_1 s0_2).bind fun bt256 => ((spec_l1Below.f s0_0 bt256.2.1 bt256.2.2 5).bind fun bt261 => ((spec_l1Below.f s0_0 bt261.2.1 bt261.2.2 5).bind fun bt264 => ((spec_ManOf.f k (wrap64 (1 + bt261.1)) bt256.1 (wrap64 (2 + bt264.1))).bind fun bt267 => (some (bt267.1,bt267.2.1,bt267.2.2.1,bt267.2.2.2,bt256.1,bt264.2.1,bt264.2.2)))))) = some (r1,r2,r3,r4,r5,r6,r7) := h
 clear h
 replace H := bsm H
 obtain ⟨⟨t256,t259,t260⟩,A2,H⟩ := H
 (try dsimp only at H)
 replace H := bsm H
 obtain ⟨⟨t261,t262,t263⟩,A3,H⟩ := H
 (try dsimp only at H)
 replace H := bsm H
 obtain ⟨⟨t264,t265,t266⟩,A4,H⟩ := H
 (try dsimp only at H)
 replace H := Option.bind_eq_some_iff.mp H
 obtain ⟨⟨t267,t268,t269,t270⟩,A50,H⟩ := H
 replace H : (some (t267,t268,t269,t270,t256,t265,t266)) = some (r1,r2,r3,r4,r5,r6,r7) := H
 have A5 := Mk A50
 clear A50
 simp only [Option.some.injEq,Prod.mk.injEq] at H
 obtain ⟨rfl,rfl,rfl,rfl,rfl,rfl,rfl⟩ := H
 go_enter Try.func21,Try.ntmps21
 go_wp2_with (first | ((with_reducible refine gate_dst (N := 2) rfl ?_);refine box_event ?hg (N := 2) ?hd (cs := #[.int .i64 0,.int .i64 0,.int .i64 0,.slice none 0 0]) (t := 28) ?hr ?_;(case hd => rfl);(case hg => rfl);(case hr => first | (go_simp;done) | (go_simp;rfl));intro gb255 hg w6 hbox hb;replace HB := Mk (below_step (B_st HB.out) hb);have BK255 := Mk (hbox);have GW255 := Mk ((by rw [hg];exact (keep_size (w := w) (g := g) (row := none) (keep_up HK.out)) : w.heap.size ≤ gb255));have GE255 := Mk ((Nat.le_trans HW0.out (by rw [hg];exact (keep_size (w := w) (g := g) (row := none) (keep_up HK.out)) : w.heap.size ≤ gb255) : w0.heap.size ≤ gb255));replace HK := Mk (KeepBut.trans (keep_up HK.out) (KeepBut.of_below hb g none) (.inl rfl));have NB0_255 := Mk ((by rw [hg];exact Nat.ne_of_lt (IsS74.lt (show IsS74 w0 _ g s0_0 s0_1 s0_2 from IsS74.up HI0.out)) : g ≠ gb255));have NB255_0 := Mk ((by rw [hg];exact Nat.ne_of_gt (IsS74.lt (show IsS74 w0 _ g s0_0 s0_1 s0_2 from IsS74.up HI0.out)) : gb255 ≠ g));replace HI0 := Mk (IsS74.below (IsS74.up HI0.out) hb);clear hb hbox hg) | ((with_reducible refine gate_callee (f := 56) rfl ?_);refine goesL_ (some 6) rfl rfl Try.func56 (by kernel_rfl) rfl #[.pointer (some ⟨g,0,none⟩)] rfl eq_up ?_;(with_reducible refine (spec_l6Image.calls k g s0_0 s0_1 s0_2 t256 t259 t260 w0 _ ?side1 ?side2 A2.out).mono ?_);(case side1 => exact IsS74.up HI0.out);(case side2 => exact B_st HB.out);rintro e w7 ⟨v257,rfl,ho0,hi,hb,hk⟩;refine ⟨_,rfl,?_⟩;replace BK255 := Mk (KeepBut.blk hk (g' := gb255) (o := .cells #[.int .i64 0,.int .i64 0,.int .i64 0,.slice none 0 0] 28 (0,0)) (blk_up BK255.out) NB255_0.out (by simp));have HO258 := Mk (Kd.R_lower ho0 (keep_size (w := w) (g := g) (row := none) (keep_up HK.out)));replace HK := Mk (KeepBut.trans (keep_up HK.out) hk (.inl rfl));replace HB := Mk (hb);replace HI0 := Mk (hi);(try clear hb);(try clear hb2);(try clear hk);(try clear hi);(try clear ho0)) | ((with_reducible refine gate_callee (f := 35) rfl ?_);refine goesL_ (some 8) rfl rfl Try.func35 (by kernel_rfl) rfl #[.pointer (some ⟨g,0,none⟩),.int .i64 5] rfl eq_up ?_;(with_reducible refine (spec_l1Below.calls g s0_0 t259 t260 5 t261 t262 t263 w0 _ ?side1 ?side2 A3.out).mono ?_);(case side1 => exact IsS74.up HI0.out);(case side2 => exact B_st HB.out);rintro e w8 ⟨rfl,hi,hb,hk⟩;refine ⟨_,rfl,?_⟩;replace BK255 := Mk (KeepBut.blk hk (g' := gb255) (o := .cells #[.int .i64 0,.int .i64 0,.int .i64 0,.slice none 0 0] 28 (0,0)) (blk_up BK255.out) NB255_0.out (by simp));replace HO258 := Mk (Kd.R_mono (Kd.R_keep (IsS74.apart (show IsS74 w0 _ g s0_0 t259 t260 from IsS74.up HI0.out) (Kd.R_up HO258.out) (by decide)) hk (fun _ h => h.2)) (fun _ h => h.1));replace HK := Mk (KeepBut.trans (keep_up HK.out) hk (.inl rfl));replace HB := Mk (hb);replace HI0 := Mk (hi);(try clear hb);(try clear hb2);(try clear hk);(try clear hi)) | ((with_reducible refine gate_callee (f := 35) rfl ?_);refine goesL_ (some 12) rfl rfl Try.func35 (by kernel_rfl) rfl #[.pointer (some ⟨g,0,none⟩),.int .i64 5] rfl eq_up ?_;(with_reducible refine (spec_l1Below.calls g s0_0 t262 t263 5 t264 t265 t266 w0 _ ?side1 ?side2 A4.out).mono ?_);(case side1 => exact IsS74.up HI0.out);(case side2 => exact B_st HB.out);rintro e w9 ⟨rfl,hi,hb,hk⟩;refine ⟨_,rfl,?_⟩;replace BK255 := Mk (KeepBut.blk hk (g' := gb255) (o := .cells #[.int .i64 0,.int .i64 0,.int .i64 0,.slice none 0 0] 28 (0,0)) (blk_up BK255.out) NB255_0.out (by simp));replace HO258 := Mk (Kd.R_mono (Kd.R_keep (IsS74.apart (show IsS74 w0 _ g s0_0 t262 t263 from IsS74.up HI0.out) (Kd.R_up HO258.out) (by decide)) hk (fun _ h => h.2)) (fun _ h => h.1));replace HK := Mk (KeepBut.trans (keep_up HK.out) hk (.inl rfl));replace HB := Mk (hb);replace HI0 := Mk (hi);(try clear hb);(try clear hb2);(try clear hk);(try clear hi);obtain ⟨Ao10,co10,eo10⟩ := Kd.R_slice HO258.out;subst eo10) | ((with_reducible refine gate_callee (f := 57) rfl ?_);refine goesL_ (some 14) rfl rfl Try.func57 (by kernel_rfl) rfl #[.int .i64 (wrap64 (1 + t261)),.slice Ao10 t256.length co10,.int .i64 (wrap64 (2 + t264))] rfl eq_up ?_;(with_reducible refine (spec_ManOf.calls k (wrap64 (1 + t261)) _ _ t256 (wrap64 (2 + t264)) t267 t268 t269 t270 _ ?side1 ?side2 A5.out).mono ?_);(case side1 => exact Kd.C_up (Kd.R_reads' HO258.out).2.2);(case side2 => exact (Kd.R_reads' HO258.out).2.1);rintro e w11 ⟨v271,rfl,ho0,hb⟩;refine ⟨_,rfl,?_⟩;replace HO258 := Mk (Kd.R_below (Kd.R_up HO258.out) hb);have HO272 := Mk (Kd.R_lower ho0 (keep_size (w := w) (g := g) (row := none) (keep_up HK.out)));replace HI0 := Mk (IsS74.below (IsS74.up HI0.out) hb);replace BK255 := Mk (blk_below (blk_up BK255.out) hb);replace HK := Mk (KeepBut.trans (keep_up HK.out) (KeepBut.of_below hb g none) (.inl rfl));replace HB := Mk (below_step (B_st HB.out) hb);(try clear hb);(try clear hb2);(try clear hk);(try clear hi);(try clear ho0);have hnb12 := NB255_0.out;have hnc12 := NB0_255.out;obtain ⟨hcz13_0,hcz13_1,hcz13_2,hcz13_3⟩ := cz4 BK255.out;obtain ⟨hfz13_0,hfz13_1,hfz13_2,hfz13_3⟩ := fz4 BK255.out;obtain ⟨Ao14,co14,eo14⟩ := Kd.R_slice HO272.out;subst eo14))
 refine bodyPost_ret (results_ct rfl _ _ gb255 28 #[.int .i64 t267,.int .i64 t268,.int .i64 t269,.slice Ao14 t270.length co14] (0,0) _ rfl (by (with_reducible repeat (first | refine blk_drewN ?_ _ | refine blk_drew ?_ | refine blk_alloc ?_ _));refine blk_put (cs := #[.int .i64 t267,.int .i64 t268,.int .i64 t269,.slice none 0 0]) ?_ 3 _ rfl;(with_reducible repeat (first | refine blk_drewN ?_ _ | refine blk_drew ?_ | refine blk_alloc ?_ _));refine blk_put (cs := #[.int .i64 t267,.int .i64 t268,.int .i64 0,.slice none 0 0]) ?_ 2 _ rfl;(with_reducible repeat (first | refine blk_drewN ?_ _ | refine blk_drew ?_ | refine blk_alloc ?_ _));refine blk_put (cs := #[.int .i64 t267,.int .i64 0,.int .i64 0,.slice none 0 0]) ?_ 1 _ rfl;(with_reducible repeat (first | refine blk_drewN ?_ _ | refine blk_drew ?_ | refine blk_alloc ?_ _));refine blk_put (cs := #[.int .i64 0,.int .i64 0,.int .i64 0,.slice none 0 0]) ?_ 0 _ rfl;(with_reducible repeat (first | refine blk_drewN ?_ _ | refine blk_drew ?_ | refine blk_alloc ?_ _));exact BK255.out) Try.underlying28 rfl (by kernel_rfl)) rfl ?_
 exact ⟨_,_,err_,Kd.R_up (Kd.R_mono (Kd.R_far (p := ⟨gb255,3,none⟩) (Kd.R_far (p := ⟨gb255,2,none⟩) (Kd.R_far (p := ⟨gb255,1,none⟩) (Kd.R_far (p := ⟨gb255,0,none⟩) (Kd.R_types HO272.out BK255.out (by decide)) (fun _ hk => hk.2) (.int .i64 t267)) (fun _ hk => hk.2) (.int .i64 t268)) (fun _ hk => hk.2) (.int .i64 t269)) (fun _ hk => hk.2) (.slice Ao14 t270.length co14)) (fun _ hk => trivial)),Kd.R_up (Kd.R_mono (Kd.R_far (p := ⟨gb255,3,none⟩) (Kd.R_far (p := ⟨gb255,2,none⟩) (Kd.R_far (p := ⟨gb255,1,none⟩) (Kd.R_far (p := ⟨gb255,0,none⟩) (Kd.R_types HO258.out BK255.out (by decide)) (fun _ hk => hk.2) (.int .i64 t267)) (fun _ hk => hk.2) (.int .i64 t268)) (fun _ hk => hk.2) (.int .i64 t269)) (fun _ hk => hk.2) (.slice Ao14 t270.length co14)) (fun _ hk => trivial)),IsS74.up HI0.out,B_st HB.out,keep_up HK.out⟩

end Go.Proofs.Ytdodnhjglpidlaa.PFnMansBent
