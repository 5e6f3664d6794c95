-- by a program of this session (a turned copy of the print: make with a capacity)
import Derived.Test.YtdkgcloempbgpaaMade1
import Derived.Test.YtdkgcloempbgpaaPFnExactGetManx0
import Derived.Test.YtdkgcloempbgpaaPFnExactGetManx3
import Derived.Test.YtdkgcloempbgpaaPFnExactGetManx4
import Derived.Test.YtdkgcloempbgpaaPFnExactGetManx5
namespace Go.Proofs.Ytdkgcloempbgpaa.PFnExactGetMan
open Go.RowKit Go.Proofs.YtdkgcloempbgpaaW.PrintWords Go.Proofs.YtdkgcloempbgpaaW.PrintLast Go.Proofs.YtdkgcloempbgpaaW.PrintMore
attribute [local go_sem] max2_int min2_int max_two min_two max_three min_three max_four min_four   -- for this text's walks alone
set_option linter.unusedVariables false
set_option linter.unusedSimpArgs false

/-! ### spec_GetMan: function 31 -/
mutual
def spec_GetMan.j0 : Nat → List Int → Int → Int → Int → Int → Bool → Int → Int → Int → Option (Int × Int × Int × (List (S66)) × Int × Bool)
 | 0,_,_,_,_,_,_,_,_,_ => none
 | k + 1,x0,x8,x11,x14,x15,x56,x169000,x169001,x169002 => if x56 = true then (some (x169000,x169001,x169002,([] : List (S66)),0,false)) else (spec_GetMan.l0 k x0 x8 x11 x14 x15 0 x169000 x169001 x169002 x8 x11 x14 ([] : List (S66)))
def spec_GetMan.l0 : Nat → List Int → Int → Int → Int → Int → Int → Int → Int → Int → Int → Int → Int → List (S66) → Option (Int × Int × Int × (List (S66)) × Int × Bool)
 | 0,_,_,_,_,_,_,_,_,_,_,_,_,_ => none
 | k + 1,x0,x8,x11,x14,x15,x18,x169000,x169001,x169002,x179000,x179001,x179002,x179003 => (spec_Blocks.f x11 x14).bind fun t179 => (if x18 < t179 then (spec_GetMan.j2 k x0 x8 x11 x14 x15 x18 (decide (x8 > 0)) x169000 x169001 x169002 x179000 x179001 x179002 x179003) else (spec_GetMan.j2 k x0 x8 x11 x14 x15 x18 false x169000 x169001 x169002 x179000 x179001 x179002 x179003))
def spec_GetMan.j2 : Nat → List Int → Int → Int → Int → Int → Int → Bool → Int → Int → Int → Int → Int → Int → List (S66) → Option (Int × Int × Int × (List (S66)) × Int × Bool)
 | 0,_,_,_,_,_,_,_,_,_,_,_,_,_,_ => none
 | k + 1,x0,x8,x11,x14,x15,x18,x70,x169000,x169001,x169002,x179000,x179001,x179002,x179003 => if x70 = true then ((spec_l6GetSum.f k x0 x15).bind fun bt181 => (if bt181.2.2 = true then ((spec_BytesOf.f k bt181.1).bind fun bt184 => ((spec_SumOf.f k bt184.1).bind fun bt188 => (if x179003.length < 8796093022208 then (spec_GetMan.l0 k x0 x8 x11 x14 bt181.2.1 (wrap64 (x18 + 1)) x169000 x169001 x169002 x179000 x179001 x179002 (x179003 ++ [(⟨bt188.1,bt181.1⟩ : S66)])) else (none)))) else (some (x169000,x169001,x169002,([] : List (S66)),0,false)))) else ((spec_ManOk.f k x179000 x179001 x179002 x179003).bind fun t180 => (if t180 = true then (some (x179000,x179001,x179002,x179003,x15,true)) else (some (x169000,x169001,x169002,([] : List (S66)),0,false))))
end
def spec_GetMan.f (k : Nat) (l0 : List Int) (a1 : Int) : Option (Int × Int × Int × (List (S66)) × Int × Bool) := (spec_GetVar.f k l0 a1).bind fun bt169 => ((spec_GetVar.f k l0 bt169.2.1).bind fun bt172 => ((spec_GetVar.f k l0 bt172.2.1).bind fun bt175 => (if bt169.2.2 = true then (if bt172.2.2 = true then (spec_GetMan.j0 k l0 bt169.1 bt172.1 bt175.1 bt175.2.1 (!bt175.2.2) 0 0 0) else (spec_GetMan.j0 k l0 bt169.1 bt172.1 bt175.1 bt175.2.1 true 0 0 0)) else (spec_GetMan.j0 k l0 bt169.1 bt172.1 bt175.1 bt175.2.1 true 0 0 0))))
theorem spec_GetMan.mono_l : ∀ k,(∀ y0 y1 y2 y3 y4 y5 y6 y7 y8,LeO (spec_GetMan.j0 k y0 y1 y2 y3 y4 y5 y6 y7 y8) (spec_GetMan.j0 (k + 1) y0 y1 y2 y3 y4 y5 y6 y7 y8)) ∧ (∀ y0 y1 y2 y3 y4 y5 y6 y7 y8 y9 y10 y11 y12,LeO (spec_GetMan.l0 k y0 y1 y2 y3 y4 y5 y6 y7 y8 y9 y10 y11 y12) (spec_GetMan.l0 (k + 1) y0 y1 y2 y3 y4 y5 y6 y7 y8 y9 y10 y11 y12)) ∧ (∀ y0 y1 y2 y3 y4 y5 y6 y7 y8 y9 y10 y11 y12 y13,LeO (spec_GetMan.j2 k y0 y1 y2 y3 y4 y5 y6 y7 y8 y9 y10 y11 y12 y13) (spec_GetMan.j2 (k + 1) y0 y1 y2 y3 y4 y5 y6 y7 y8 y9 y10 y11 y12 y13))
 | 0 => ⟨fun _ _ _ _ _ _ _ _ _ r h => by simp [spec_GetMan.j0] at h,fun _ _ _ _ _ _ _ _ _ _ _ _ _ r h => by simp [spec_GetMan.l0] at h,fun _ _ _ _ _ _ _ _ _ _ _ _ _ _ r h => by simp [spec_GetMan.j2] at h⟩
 | k + 1 => by
  obtain ⟨ih0,ih1,ih2⟩ := spec_GetMan.mono_l k
  refine ⟨?_,?_,?_⟩
  ·intro y0 y1 y2 y3 y4 y5 y6 y7 y8
   unfold spec_GetMan.j0
   repeat' first
   | (with_reducible exact ih0 _ _ _ _ _ _ _ _ _)
   | (with_reducible exact ih1 _ _ _ _ _ _ _ _ _ _ _ _ _)
   | (with_reducible exact ih2 _ _ _ _ _ _ _ _ _ _ _ _ _ _)
   | (with_reducible exact spec_BytesOf.mono _ _)
   | (with_reducible exact spec_GetVar.mono _ _ _)
   | (with_reducible exact spec_ManOk.mono _ _ _ _ _)
   | (with_reducible exact spec_SumOf.mono _ _)
   | (with_reducible exact spec_l6GetSum.mono _ _ _)
   | (with_reducible exact LeO.refl _)
   | (with_reducible exact LeO.none _)
   | (with_reducible refine LeO.ite ?_ ?_)
   | (with_reducible refine LeO.bind ?_ (fun _ => ?_))
   | exact ih0 _ _ _ _ _ _ _ _ _
   | exact ih1 _ _ _ _ _ _ _ _ _ _ _ _ _
   | exact ih2 _ _ _ _ _ _ _ _ _ _ _ _ _ _
   | exact spec_BytesOf.mono _ _
   | exact spec_GetVar.mono _ _ _
   | exact spec_ManOk.mono _ _ _ _ _
   | exact spec_SumOf.mono _ _
   | exact spec_l6GetSum.mono _ _ _
   | exact LeO.none _
   | refine LeO.ite ?_ ?_
   | refine LeO.bind ?_ (fun _ => ?_)
  ·intro y0 y1 y2 y3 y4 y5 y6 y7 y8 y9 y10 y11 y12
   unfold spec_GetMan.l0
   repeat' first
   | (with_reducible exact ih0 _ _ _ _ _ _ _ _ _)
   | (with_reducible exact ih1 _ _ _ _ _ _ _ _ _ _ _ _ _)
   | (with_reducible exact ih2 _ _ _ _ _ _ _ _ _ _ _ _ _ _)
   | (with_reducible exact spec_BytesOf.mono _ _)
   | (with_reducible exact spec_GetVar.mono _ _ _)
   | (with_reducible exact spec_ManOk.mono _ _ _ _ _)
   | (with_reducible exact spec_SumOf.mono _ _)
   | (with_reducible exact spec_l6GetSum.mono _ _ _)
   | (with_reducible exact LeO.refl _)
   | (with_reducible exact LeO.none _)
   | (with_reducible refine LeO.ite ?_ ?_)
   | (with_reducible refine LeO.bind ?_ (fun _ => ?_))
   | exact ih0 _ _ _ _ _ _ _ _ _
   | exact ih1 _ _ _ _ _ _ _ _ _ _ _ _ _
   | exact ih2 _ _ _ _ _ _ _ _ _ _ _ _ _ _
   | exact spec_BytesOf.mono _ _
   | exact spec_GetVar.mono _ _ _
   | exact spec_ManOk.mono _ _ _ _ _
   | exact spec_SumOf.mono _ _
   | exact spec_l6GetSum.mono _ _ _
   | exact LeO.none _
   | refine LeO.ite ?_ ?_
   | refine LeO.bind ?_ (fun _ => ?_)
  ·intro y0 y1 y2 y3 y4 y5 y6 y7 y8 y9 y10 y11 y12 y13
   unfold spec_GetMan.j2
   repeat' first
   | (with_reducible exact ih0 _ _ _ _ _ _ _ _ _)
   | (with_reducible exact ih1 _ _ _ _ _ _ _ _ _ _ _ _ _)
   | (with_reducible exact ih2 _ _ _ _ _ _ _ _ _ _ _ _ _ _)
   | (with_reducible exact spec_BytesOf.mono _ _)
   | (with_reducible exact spec_GetVar.mono _ _ _)
   | (with_reducible exact spec_ManOk.mono _ _ _ _ _)
   | (with_reducible exact spec_SumOf.mono _ _)
   | (with_reducible exact spec_l6GetSum.mono _ _ _)
   | (with_reducible exact LeO.refl _)
   | (with_reducible exact LeO.none _)
   | (with_reducible refine LeO.ite ?_ ?_)
   | (with_reducible refine LeO.bind ?_ (fun _ => ?_))
   | exact ih0 _ _ _ _ _ _ _ _ _
   | exact ih1 _ _ _ _ _ _ _ _ _ _ _ _ _
   | exact ih2 _ _ _ _ _ _ _ _ _ _ _ _ _ _
   | exact spec_BytesOf.mono _ _
   | exact spec_GetVar.mono _ _ _
   | exact spec_ManOk.mono _ _ _ _ _
   | exact spec_SumOf.mono _ _
   | exact spec_l6GetSum.mono _ _ _
   | exact LeO.none _
   | refine LeO.ite ?_ ?_
   | refine LeO.bind ?_ (fun _ => ?_)
theorem spec_GetMan.mono : ∀ a0 a1 k,LeO (spec_GetMan.f k a0 a1) (spec_GetMan.f (k + 1) a0 a1) := by
 intro a0 a1 k
 obtain ⟨ih0,ih1,ih2⟩ := spec_GetMan.mono_l k
 unfold spec_GetMan.f
 repeat' first
   | (with_reducible exact ih0 _ _ _ _ _ _ _ _ _)
   | (with_reducible exact ih1 _ _ _ _ _ _ _ _ _ _ _ _ _)
   | (with_reducible exact ih2 _ _ _ _ _ _ _ _ _ _ _ _ _ _)
   | (with_reducible exact spec_BytesOf.mono _ _)
   | (with_reducible exact spec_GetVar.mono _ _ _)
   | (with_reducible exact spec_ManOk.mono _ _ _ _ _)
   | (with_reducible exact spec_SumOf.mono _ _)
   | (with_reducible exact spec_l6GetSum.mono _ _ _)
   | (with_reducible exact LeO.refl _)
   | (with_reducible exact LeO.none _)
   | (with_reducible refine LeO.ite ?_ ?_)
   | (with_reducible refine LeO.bind ?_ (fun _ => ?_))
   | exact ih0 _ _ _ _ _ _ _ _ _
   | exact ih1 _ _ _ _ _ _ _ _ _ _ _ _ _
   | exact ih2 _ _ _ _ _ _ _ _ _ _ _ _ _ _
   | exact spec_BytesOf.mono _ _
   | exact spec_GetVar.mono _ _ _
   | exact spec_ManOk.mono _ _ _ _ _
   | exact spec_SumOf.mono _ _
   | exact spec_l6GetSum.mono _ _ _
   | exact LeO.none _
   | refine LeO.ite ?_ ?_
   | refine LeO.bind ?_ (fun _ => ?_)
set_option maxHeartbeats 8000000 in
set_option maxRecDepth 100000 in
theorem spec_GetMan.calls (k : Nat) (A0 : Option Addr) (c0 : Nat) (l0 : List Int) (a1 : Int) (r1 : Int) (r2 : Int) (r3 : Int) (r4 : List (S66)) (r5 : Int) (r6 : Bool) (w : World) (hr0 : Kd.C (Kd.int .u8) w A0 l0.length l0) (hc0 : l0.length ≤ c0) (h : spec_GetMan.f k l0 a1 = some (r1,r2,r3,r4,r5,r6)) :
  Calls Try.prog 31 #[.slice A0 l0.length c0,.int .i64 a1] w fun e w' => ∃ v3_ : Value,e = .returned (.tuple #[.agg #[.int .i64 r1,.int .i64 r2,.int .i64 r3,v3_],.int .i64 r5,.bool r6]) ∧ Kd.R k66 66 w' w.heap.size (fun _ => True) v3_ r4 ∧ Below w.heap.size w w' := by
 have hu31 := Try.underlying31
 have hu66 := Try.underlying66
 have hf66_0 : ∀ (a_ b_ : Int) (W_ : World),(Instr.field 66 (.agg #[.int .i64 a_,.int .i64 b_]) 0).run Try.prog W_ = .ok (.int .i64 a_) W_ := fun _ _ _ => by kernel_rfl
 have hf66_1 : ∀ (a_ b_ : Int) (W_ : World),(Instr.field 66 (.agg #[.int .i64 a_,.int .i64 b_]) 1).run Try.prog W_ = .ok (.int .i64 b_) W_ := fun _ _ _ => by kernel_rfl
 have HR0 := Aside0.mk hr0
 have HC0 := Aside0.mk hc0
 clear hr0 hc0
 have HB := Aside0.mk (Below.refl w.heap.size w)
 have H : ((spec_GetVar.f k l0 a1).bind fun bt169 => ((spec_GetVar.f k l0 bt169.2.1).bind fun bt172 => ((spec_GetVar.f k l0 bt172.2.1).bind fun bt175 => (if bt169.2.2 = true then (if bt172.2.2 = true then (spec_GetMan.j0 k l0 bt169.1 bt172.1 bt175.1 bt175.2.1 (!bt175.2.2) 0 0 0) else (spec_GetMan.j0 k l0 bt169.1 bt172.1 bt175.1 bt175.2.1 true 0 0 0)) else (spec_GetMan.j0 k l0 bt169.1 bt172.1 bt175.1 bt175.2.1 true 0 0 0))))) = some (r1,r2,r3,r4,r5,r6) := h
 clear h
 replace H := Option.bind_eq_some_iff.mp H
 obtain ⟨⟨t169,t170,t171⟩,A30,H⟩ := H
 (try dsimp only at H)
 have A3 := Aside0.mk A30
 clear A30
 replace H := Option.bind_eq_some_iff.mp H
 obtain ⟨⟨t172,t173,t174⟩,A40,H⟩ := H
 (try dsimp only at H)
 have A4 := Aside0.mk A40
 clear A40
 replace H := Option.bind_eq_some_iff.mp H
 obtain ⟨⟨t175,t176,t177⟩,A50,H⟩ := H
 (try dsimp only at H)
 have A5 := Aside0.mk A50
 clear A50
 have HC6 := Aside0.mk H
 clear H
 have htw_ : ∀ (w_ : World) (a_ : Addr) (u_ v_ : Value),(w_.cell? a_).isSome = true → ((w_.setCell a_ u_).setCell a_ v_).cell? a_ = some v_ := fun w_ a_ u_ v_ h_ => World.cell?_setCell_same' _ a_ v_ (by rw [World.cell?_setCell_same' w_ a_ u_ h_];rfl)
 go_enter Try.func31,Try.ntmps31
 go_upto_region 5 with (first | ((with_reducible refine gate_dst (N := 4) rfl ?_);refine box_event ?hg (N := 4) ?hd (cs := #[.int .i64 0,.int .i64 0,.int .i64 0,.slice none 0 0]) (t := 31) ?hr ?_;(case hd => rfl);(case hg => rfl);(case hr => first | (go_simp;done) | (go_simp;rfl));intro gb167 hg w7 hbox hb;have n0_ := Aside0.mk (below_step (B_up HB.out) hb);have n1_ := Aside0.mk (hbox);have n2_ := Aside0.mk ((by rw [hg];exact (below_size (B_up HB.out)) : w.heap.size ≤ gb167));have n3_ := Aside0.mk ((by rw [hg];exact (below_size (B_up HB.out)) : w.heap.size ≤ gb167));clear HB;have HB := n0_;have BK167 := n1_;have GW167 := n2_;have GE167 := n3_;clear n0_ n1_ n2_ n3_;clear hb hbox hg) | ((with_reducible refine gate_dst (N := 7) rfl ?_);refine box_event ?hg (N := 7) ?hd (cs := #[.int .i64 0,.int .i64 0,.int .i64 0,.slice none 0 0]) (t := 31) ?hr ?_;(case hd => rfl);(case hg => rfl);(case hr => first | (go_simp;done) | (go_simp;rfl));intro gb168 hg w8 hbox hb;have n0_ := Aside0.mk (blk_below (g := gb167) (o := .cells #[.int .i64 0,.int .i64 0,.int .i64 0,.slice none 0 0] 31 (0,0)) (blk_up BK167.out) hb);have n1_ := Aside0.mk (below_step (B_set HB.out) hb);have n2_ := Aside0.mk (hbox);have n3_ := Aside0.mk ((by rw [hg];exact (below_size (B_set HB.out)) : w.heap.size ≤ gb168));have n4_ := Aside0.mk ((by rw [hg];exact (below_size (B_set HB.out)) : w.heap.size ≤ gb168));have n5_ := Aside0.mk ((by rw [hg];exact Nat.ne_of_lt (blk_lt (g := gb167) (o := .cells #[.int .i64 0,.int .i64 0,.int .i64 0,.slice none 0 0] 31 (0,0)) (blk_up BK167.out)) : gb167 ≠ gb168));have n6_ := Aside0.mk ((by rw [hg];exact Nat.ne_of_gt (blk_lt (g := gb167) (o := .cells #[.int .i64 0,.int .i64 0,.int .i64 0,.slice none 0 0] 31 (0,0)) (blk_up BK167.out)) : gb168 ≠ gb167));clear BK167;clear HB;have BK167 := n0_;have HB := n1_;have BK168 := n2_;have GW168 := n3_;have GE168 := n4_;have NB167_168 := n5_;have NB168_167 := n6_;clear n0_ n1_ n2_ n3_ n4_ n5_ n6_;clear hb hbox hg;have hnb9 := NB168_167.out;have hnc9 := NB167_168.out;have hcz10_0 : w8.cell? ⟨gb168,0,none⟩ = some (.int .i64 0) := (blk_cell BK168.out 0).trans rfl;have hcz10_1 : w8.cell? ⟨gb168,1,none⟩ = some (.int .i64 0) := (blk_cell BK168.out 1).trans rfl;have hcz10_2 : w8.cell? ⟨gb168,2,none⟩ = some (.int .i64 0) := (blk_cell BK168.out 2).trans rfl;have hcz10_3 : w8.cell? ⟨gb168,3,none⟩ = some (.slice none 0 0) := (blk_cell BK168.out 3).trans rfl;have hfz10_0 := blk_frozen BK168.out 0;have hfz10_1 := blk_frozen BK168.out 1;have hfz10_2 := blk_frozen BK168.out 2;have hfz10_3 := blk_frozen BK168.out 3) | ((with_reducible refine gate_callee (f := 68) rfl ?_);refine goesL_ (some 29) rfl rfl Try.func68 (by kernel_rfl) rfl #[.slice A0 l0.length c0,.int .i64 a1] rfl eq_up ?_;(with_reducible refine (spec_GetVar.calls k _ _ l0 a1 t169 t170 t171 _ ?side1 ?side2 A3.out).mono ?_);(case side1 => exact Kd.C_below HR0.out (B_set HB.out));(case side2 => exact HC0.out);rintro e w' ⟨rfl,⟨nd,rfl⟩⟩;refine ⟨_,rfl,?_⟩) | ((with_reducible refine gate_callee (f := 68) rfl ?_);refine goesL_ (some 36) rfl rfl Try.func68 (by kernel_rfl) rfl #[.slice A0 l0.length c0,.int .i64 t170] rfl eq_up ?_;(with_reducible refine (spec_GetVar.calls k _ _ l0 t170 t172 t173 t174 _ ?side1 ?side2 A4.out).mono ?_);(case side1 => exact Kd.C_below HR0.out (B_set HB.out));(case side2 => exact HC0.out);rintro e w' ⟨rfl,⟨nd,rfl⟩⟩;refine ⟨_,rfl,?_⟩) | ((with_reducible refine gate_callee (f := 68) rfl ?_);refine goesL_ (some 43) rfl rfl Try.func68 (by kernel_rfl) rfl #[.slice A0 l0.length c0,.int .i64 t173] rfl eq_up ?_;(with_reducible refine (spec_GetVar.calls k _ _ l0 t173 t175 t176 t177 _ ?side1 ?side2 A5.out).mono ?_);(case side1 => exact Kd.C_below HR0.out (B_set HB.out));(case side2 => exact HC0.out);rintro e w' ⟨rfl,⟨nd,rfl⟩⟩;refine ⟨_,rfl,?_⟩))
 (try simp only [Act.put,List.setIfInBounds_toArray,List.set_cons_zero,List.set_cons_succ])
 go_cut [56] (fun v56 wc => ∃ (kq : Nat) (x56_5 : Bool),v56 = .bool x56_5 ∧ Aside0 (spec_GetMan.j0 kq l0 t169 t172 t175 t176 x56_5 0 0 0 = some (r1,r2,r3,r4,r5,r6)) ∧ Aside0 (kq ≤ k) ∧ Aside0 (wc.heap[gb167]? = some (.cells #[.int .i64 0,.int .i64 0,.int .i64 0,(.slice none 0 0)] 31 (0,0))) ∧ Aside0 (wc.heap[gb168]? = some (.cells #[.int .i64 0,.int .i64 0,.int .i64 0,(.slice none 0 0)] 31 (0,0))) ∧ Aside0 (Below w.heap.size w wc))
 case first =>
  have H := HC6.out
  clear HC6
  by_cases c11 : t171 = true
  ·subst c11
   rw [if_pos rfl] at H
   by_cases c12 : t174 = true
   ·subst c12
    rw [if_pos rfl] at H
    have H' := Aside0.mk H
    clear H
    go_wp2
    go_meet
    case rel => exact ⟨_,(!t177),(by first | rfl | (simp;done) | (simp [*];done)),H',⟨by first | omega | exact Nat.le_refl _⟩,⟨by (with_reducible repeat (first | refine blk_drewN ?_ _ | refine blk_drew ?_ | refine blk_alloc ?_ _));refine blk_far ?_ NB167_168.out _;(with_reducible repeat (first | refine blk_drewN ?_ _ | refine blk_drew ?_ | refine blk_alloc ?_ _));refine blk_far ?_ NB167_168.out _;(with_reducible repeat (first | refine blk_drewN ?_ _ | refine blk_drew ?_ | refine blk_alloc ?_ _));refine blk_far ?_ NB167_168.out _;(with_reducible repeat (first | refine blk_drewN ?_ _ | refine blk_drew ?_ | refine blk_alloc ?_ _));refine blk_far ?_ NB167_168.out _;(with_reducible repeat (first | refine blk_drewN ?_ _ | refine blk_drew ?_ | refine blk_alloc ?_ _));exact BK167.out⟩,⟨by (with_reducible repeat (first | refine blk_drewN ?_ _ | refine blk_drew ?_ | refine blk_alloc ?_ _));refine blk_put (cs := #[.int .i64 0,.int .i64 0,.int .i64 0,.slice none 0 0]) ?_ 3 _ rfl;(with_reducible repeat (first | refine blk_drewN ?_ _ | refine blk_drew ?_ | refine blk_alloc ?_ _));refine blk_put (cs := #[.int .i64 0,.int .i64 0,.int .i64 0,.slice none 0 0]) ?_ 2 _ rfl;(with_reducible repeat (first | refine blk_drewN ?_ _ | refine blk_drew ?_ | refine blk_alloc ?_ _));refine blk_put (cs := #[.int .i64 0,.int .i64 0,.int .i64 0,.slice none 0 0]) ?_ 1 _ rfl;(with_reducible repeat (first | refine blk_drewN ?_ _ | refine blk_drew ?_ | refine blk_alloc ?_ _));refine blk_put (cs := #[.int .i64 0,.int .i64 0,.int .i64 0,.slice none 0 0]) ?_ 0 _ rfl;(with_reducible repeat (first | refine blk_drewN ?_ _ | refine blk_drew ?_ | refine blk_alloc ?_ _));exact BK168.out⟩,⟨by repeat (first | (with_reducible first | exact HB.out | apply below_alloc | apply pw_below_drewN | apply below_drew1 | refine below_set ?_ GE167.out | refine below_set ?_ GE168.out) | exact HB.out)⟩⟩
   ·replace c12 := Bool.eq_false_iff.mpr c12
    subst c12
    have H1 : (spec_GetMan.j0 k l0 t169 t172 t175 t176 true 0 0 0) = some (r1,r2,r3,r4,r5,r6) := by rw [if_neg (show ¬ (false = true) by decide)] at H;exact H
    clear H
    have H := H1
    clear H1
    have H' := Aside0.mk H
    clear H
    go_wp2
    go_meet
    case rel => exact ⟨_,(true),(by first | rfl | (simp;done) | (simp [*];done)),H',⟨by first | omega | exact Nat.le_refl _⟩,⟨by (with_reducible repeat (first | refine blk_drewN ?_ _ | refine blk_drew ?_ | refine blk_alloc ?_ _));refine blk_far ?_ NB167_168.out _;(with_reducible repeat (first | refine blk_drewN ?_ _ | refine blk_drew ?_ | refine blk_alloc ?_ _));refine blk_far ?_ NB167_168.out _;(with_reducible repeat (first | refine blk_drewN ?_ _ | refine blk_drew ?_ | refine blk_alloc ?_ _));refine blk_far ?_ NB167_168.out _;(with_reducible repeat (first | refine blk_drewN ?_ _ | refine blk_drew ?_ | refine blk_alloc ?_ _));refine blk_far ?_ NB167_168.out _;(with_reducible repeat (first | refine blk_drewN ?_ _ | refine blk_drew ?_ | refine blk_alloc ?_ _));exact BK167.out⟩,⟨by (with_reducible repeat (first | refine blk_drewN ?_ _ | refine blk_drew ?_ | refine blk_alloc ?_ _));refine blk_put (cs := #[.int .i64 0,.int .i64 0,.int .i64 0,.slice none 0 0]) ?_ 3 _ rfl;(with_reducible repeat (first | refine blk_drewN ?_ _ | refine blk_drew ?_ | refine blk_alloc ?_ _));refine blk_put (cs := #[.int .i64 0,.int .i64 0,.int .i64 0,.slice none 0 0]) ?_ 2 _ rfl;(with_reducible repeat (first | refine blk_drewN ?_ _ | refine blk_drew ?_ | refine blk_alloc ?_ _));refine blk_put (cs := #[.int .i64 0,.int .i64 0,.int .i64 0,.slice none 0 0]) ?_ 1 _ rfl;(with_reducible repeat (first | refine blk_drewN ?_ _ | refine blk_drew ?_ | refine blk_alloc ?_ _));refine blk_put (cs := #[.int .i64 0,.int .i64 0,.int .i64 0,.slice none 0 0]) ?_ 0 _ rfl;(with_reducible repeat (first | refine blk_drewN ?_ _ | refine blk_drew ?_ | refine blk_alloc ?_ _));exact BK168.out⟩,⟨by repeat (first | (with_reducible first | exact HB.out | apply below_alloc | apply pw_below_drewN | apply below_drew1 | refine below_set ?_ GE167.out | refine below_set ?_ GE168.out) | exact HB.out)⟩⟩
  ·replace c11 := Bool.eq_false_iff.mpr c11
   subst c11
   have H1 : (spec_GetMan.j0 k l0 t169 t172 t175 t176 true 0 0 0) = some (r1,r2,r3,r4,r5,r6) := by rw [if_neg (show ¬ (false = true) by decide)] at H;exact H
   clear H
   have H := H1
   clear H1
   have H' := Aside0.mk H
   clear H
   go_wp2
   go_meet
   case rel => exact ⟨_,(true),(by first | rfl | (simp;done) | (simp [*];done)),H',⟨by first | omega | exact Nat.le_refl _⟩,⟨by (with_reducible repeat (first | refine blk_drewN ?_ _ | refine blk_drew ?_ | refine blk_alloc ?_ _));refine blk_far ?_ NB167_168.out _;(with_reducible repeat (first | refine blk_drewN ?_ _ | refine blk_drew ?_ | refine blk_alloc ?_ _));refine blk_far ?_ NB167_168.out _;(with_reducible repeat (first | refine blk_drewN ?_ _ | refine blk_drew ?_ | refine blk_alloc ?_ _));refine blk_far ?_ NB167_168.out _;(with_reducible repeat (first | refine blk_drewN ?_ _ | refine blk_drew ?_ | refine blk_alloc ?_ _));refine blk_far ?_ NB167_168.out _;(with_reducible repeat (first | refine blk_drewN ?_ _ | refine blk_drew ?_ | refine blk_alloc ?_ _));exact BK167.out⟩,⟨by (with_reducible repeat (first | refine blk_drewN ?_ _ | refine blk_drew ?_ | refine blk_alloc ?_ _));refine blk_put (cs := #[.int .i64 0,.int .i64 0,.int .i64 0,.slice none 0 0]) ?_ 3 _ rfl;(with_reducible repeat (first | refine blk_drewN ?_ _ | refine blk_drew ?_ | refine blk_alloc ?_ _));refine blk_put (cs := #[.int .i64 0,.int .i64 0,.int .i64 0,.slice none 0 0]) ?_ 2 _ rfl;(with_reducible repeat (first | refine blk_drewN ?_ _ | refine blk_drew ?_ | refine blk_alloc ?_ _));refine blk_put (cs := #[.int .i64 0,.int .i64 0,.int .i64 0,.slice none 0 0]) ?_ 1 _ rfl;(with_reducible repeat (first | refine blk_drewN ?_ _ | refine blk_drew ?_ | refine blk_alloc ?_ _));refine blk_put (cs := #[.int .i64 0,.int .i64 0,.int .i64 0,.slice none 0 0]) ?_ 0 _ rfl;(with_reducible repeat (first | refine blk_drewN ?_ _ | refine blk_drew ?_ | refine blk_alloc ?_ _));exact BK168.out⟩,⟨by repeat (first | (with_reducible first | exact HB.out | apply below_alloc | apply pw_below_drewN | apply below_drew1 | refine below_set ?_ GE167.out | refine below_set ?_ GE168.out) | exact HB.out)⟩⟩
 case rest =>
  clear HC6
  try clear c1
  try clear p2
  try clear c3
  try clear c6
  try clear c9
  try clear c11
  try clear c12
  try clear hcz10_0
  try clear hcz10_1
  try clear hcz10_2
  try clear hcz10_3
  try clear hfz10_0
  try clear hfz10_1
  try clear hfz10_2
  try clear hfz10_3
  obtain ⟨kq,x56_5,rfl,HA,HJ5,BK167,BK168,HB⟩ := hcut
  cases kq with
  | zero => exact absurd HA.out (by simp [spec_GetMan.j0])
  | succ kj5 =>
   have H := HA.out
   clear HA
   simp only [spec_GetMan.j0] at H
   by_cases c13 : x56_5 = true
   ·subst c13
    rw [if_pos rfl] at H
    simp only [Option.some.injEq,Prod.mk.injEq] at H
    obtain ⟨rfl,rfl,rfl,rfl,rfl,rfl⟩ := H
    have hnb14 := NB168_167.out
    have hnc14 := NB167_168.out
    have hcz15_0 : wc.cell? ⟨gb168,0,none⟩ = some (.int .i64 0) := (blk_cell BK168.out 0).trans rfl
    have hcz15_1 : wc.cell? ⟨gb168,1,none⟩ = some (.int .i64 0) := (blk_cell BK168.out 1).trans rfl
    have hcz15_2 : wc.cell? ⟨gb168,2,none⟩ = some (.int .i64 0) := (blk_cell BK168.out 2).trans rfl
    have hcz15_3 : wc.cell? ⟨gb168,3,none⟩ = some (.slice none 0 0) := (blk_cell BK168.out 3).trans rfl
    have hfz15_0 := blk_frozen BK168.out 0
    have hfz15_1 := blk_frozen BK168.out 1
    have hfz15_2 := blk_frozen BK168.out 2
    have hfz15_3 := blk_frozen BK168.out 3
    have hcz16_0 : wc.cell? ⟨gb167,0,none⟩ = some (.int .i64 0) := (blk_cell BK167.out 0).trans rfl
    have hcz16_1 : wc.cell? ⟨gb167,1,none⟩ = some (.int .i64 0) := (blk_cell BK167.out 1).trans rfl
    have hcz16_2 : wc.cell? ⟨gb167,2,none⟩ = some (.int .i64 0) := (blk_cell BK167.out 2).trans rfl
    have hcz16_3 : wc.cell? ⟨gb167,3,none⟩ = some (.slice none 0 0) := (blk_cell BK167.out 3).trans rfl
    have hfz16_0 := blk_frozen BK167.out 0
    have hfz16_1 := blk_frozen BK167.out 1
    have hfz16_2 := blk_frozen BK167.out 2
    have hfz16_3 := blk_frozen BK167.out 3
    go_wp2
    refine bodyPost_ret (results_ctt rfl _ _ gb167 31 #[.int .i64 0,.int .i64 0,.int .i64 0,.slice none 0 0] (0,0) _ rfl (by (with_reducible repeat (first | refine blk_drewN ?_ _ | refine blk_drew ?_ | refine blk_alloc ?_ _));refine blk_put (cs := #[.int .i64 0,.int .i64 0,.int .i64 0,.slice none 0 0]) ?_ 3 _ rfl;(with_reducible repeat (first | refine blk_drewN ?_ _ | refine blk_drew ?_ | refine blk_alloc ?_ _));refine blk_put (cs := #[.int .i64 0,.int .i64 0,.int .i64 0,.slice none 0 0]) ?_ 2 _ rfl;(with_reducible repeat (first | refine blk_drewN ?_ _ | refine blk_drew ?_ | refine blk_alloc ?_ _));refine blk_put (cs := #[.int .i64 0,.int .i64 0,.int .i64 0,.slice none 0 0]) ?_ 1 _ rfl;(with_reducible repeat (first | refine blk_drewN ?_ _ | refine blk_drew ?_ | refine blk_alloc ?_ _));refine blk_put (cs := #[.int .i64 0,.int .i64 0,.int .i64 0,.slice none 0 0]) ?_ 0 _ rfl;(with_reducible repeat (first | refine blk_drewN ?_ _ | refine blk_drew ?_ | refine blk_alloc ?_ _));exact BK167.out) Try.underlying31 rfl (by kernel_rfl)) rfl ?_
    exact ⟨_,by first | rfl | (simp [errW_none,errW_some] <;> rfl) | (simp [*,errW_none,errW_some] <;> rfl),by first | exact Kd.R_nil _ _ _ _ _ | exact Kd.N_nil _ _ _ _ _ | exact Kd.V_nil _ _ _ _ _ | exact Kd.Q_nil _ _ _ _ _ | exact Kd.S_nil _ _ _ _ _,by repeat (first | (with_reducible first | exact HB.out | apply below_alloc | apply pw_below_drewN | apply below_drew1 | refine below_set ?_ GE167.out | refine below_set ?_ GE168.out) | exact HB.out)⟩
   ·replace c13 := Bool.eq_false_iff.mpr c13
    subst c13
    have H1 : (spec_GetMan.l0 kj5 l0 t169 t172 t175 t176 0 0 0 0 t169 t172 t175 ([] : List (S66))) = some (r1,r2,r3,r4,r5,r6) := by rw [if_neg (show ¬ (false = true) by decide)] at H;exact H
    clear H
    have H := H1
    clear H1
    have H' := Aside0.mk H
    clear H
    go_wp2_with (first | ((with_reducible refine gate_dst (N := 17) rfl ?_);refine box_event ?hg (N := 17) ?hd (cs := #[.int .i64 0,.int .i64 0,.int .i64 0,.slice none 0 0]) (t := 31) ?hr ?_;(case hd => rfl);(case hg => rfl);(case hr => first | (go_simp;done) | (go_simp;rfl));intro gb178 hg w17 hbox hb;have n0_ := Aside0.mk (blk_below (g := gb167) (o := .cells #[.int .i64 0,.int .i64 0,.int .i64 0,.slice none 0 0] 31 (0,0)) (blk_up BK167.out) hb);have n1_ := Aside0.mk (blk_below (g := gb168) (o := .cells #[.int .i64 0,.int .i64 0,.int .i64 0,.slice none 0 0] 31 (0,0)) (blk_up BK168.out) hb);have n2_ := Aside0.mk (below_step (B_set HB.out) hb);have n3_ := Aside0.mk (hbox);have n4_ := Aside0.mk ((by rw [hg];exact (below_size (B_set HB.out)) : w.heap.size ≤ gb178));have n5_ := Aside0.mk ((by rw [hg];exact (below_size (B_set HB.out)) : w.heap.size ≤ gb178));have n6_ := Aside0.mk ((by rw [hg];exact Nat.ne_of_lt (blk_lt (g := gb167) (o := .cells #[.int .i64 0,.int .i64 0,.int .i64 0,.slice none 0 0] 31 (0,0)) (blk_up BK167.out)) : gb167 ≠ gb178));have n7_ := Aside0.mk ((by rw [hg];exact Nat.ne_of_gt (blk_lt (g := gb167) (o := .cells #[.int .i64 0,.int .i64 0,.int .i64 0,.slice none 0 0] 31 (0,0)) (blk_up BK167.out)) : gb178 ≠ gb167));have n8_ := Aside0.mk ((by rw [hg];exact Nat.ne_of_lt (blk_lt (g := gb168) (o := .cells #[.int .i64 0,.int .i64 0,.int .i64 0,.slice none 0 0] 31 (0,0)) (blk_up BK168.out)) : gb168 ≠ gb178));have n9_ := Aside0.mk ((by rw [hg];exact Nat.ne_of_gt (blk_lt (g := gb168) (o := .cells #[.int .i64 0,.int .i64 0,.int .i64 0,.slice none 0 0] 31 (0,0)) (blk_up BK168.out)) : gb178 ≠ gb168));clear BK167;clear BK168;clear HB;have BK167 := n0_;have BK168 := n1_;have HB := n2_;have BK178 := n3_;have GW178 := n4_;have GE178 := n5_;have NB167_178 := n6_;have NB178_167 := n7_;have NB168_178 := n8_;have NB178_168 := n9_;clear n0_ n1_ n2_ n3_ n4_ n5_ n6_ n7_ n8_ n9_;clear hb hbox hg;have hnb18 := NB178_167.out;have hnc18 := NB167_178.out;have hnb19 := NB178_168.out;have hnc19 := NB168_178.out;have hcz20_0 : w17.cell? ⟨gb178,0,none⟩ = some (.int .i64 0) := (blk_cell BK178.out 0).trans rfl;have hcz20_1 : w17.cell? ⟨gb178,1,none⟩ = some (.int .i64 0) := (blk_cell BK178.out 1).trans rfl;have hcz20_2 : w17.cell? ⟨gb178,2,none⟩ = some (.int .i64 0) := (blk_cell BK178.out 2).trans rfl;have hcz20_3 : w17.cell? ⟨gb178,3,none⟩ = some (.slice none 0 0) := (blk_cell BK178.out 3).trans rfl;have hfz20_0 := blk_frozen BK178.out 0;have hfz20_1 := blk_frozen BK178.out 1;have hfz20_2 := blk_frozen BK178.out 2;have hfz20_3 := blk_frozen BK178.out 3))
    go_loopg [15,18] kj5 (fun kq v15 v18 w' => ∃ (x15_2 : Int) (x18_2 : Int) (x168000_2 : Int) (x168001_2 : Int) (x168002_2 : Int) (x179003_2 : List (S66)) (u179003 : Value),v15 = .int .i64 x15_2 ∧ v18 = .int .i64 x18_2 ∧ Aside0 (spec_GetMan.l0 kq l0 t169 t172 t175 x15_2 x18_2 0 0 0 t169 t172 t175 x179003_2 = some (r1,r2,r3,r4,r5,r6)) ∧ Aside0 (kq ≤ kj5) ∧ Aside0 (Kd.R k66 66 w' w.heap.size (fun _ => True) u179003 x179003_2) ∧ Aside0 (w'.heap[gb167]? = some (.cells #[.int .i64 x168000_2,.int .i64 x168001_2,.int .i64 x168002_2,(.slice none 0 0)] 31 (0,0))) ∧ Aside0 (w'.heap[gb168]? = some (.cells #[.int .i64 0,.int .i64 0,.int .i64 0,(.slice none 0 0)] 31 (0,0))) ∧ Aside0 (w'.heap[gb178]? = some (.cells #[.int .i64 t169,.int .i64 t172,.int .i64 t175,u179003] 31 (0,0))) ∧ Aside0 (Below w.heap.size w w'))
    case atStart => exact ⟨(t176),(0),(0),(0),(0),(([] : List (S66))),(.slice none 0 0),(by first | rfl | (simp;done) | (simp [*];done)),(by first | rfl | (simp;done) | (simp [*];done)),H',⟨Nat.le_refl _⟩,⟨by first | exact Kd.R_nil _ _ _ _ _ | exact Kd.N_nil _ _ _ _ _ | exact Kd.V_nil _ _ _ _ _ | exact Kd.Q_nil _ _ _ _ _ | exact Kd.S_nil _ _ _ _ _⟩,⟨by (with_reducible repeat (first | refine blk_drewN ?_ _ | refine blk_drew ?_ | refine blk_alloc ?_ _));refine blk_far ?_ NB167_178.out _;(with_reducible repeat (first | refine blk_drewN ?_ _ | refine blk_drew ?_ | refine blk_alloc ?_ _));refine blk_far ?_ NB167_178.out _;(with_reducible repeat (first | refine blk_drewN ?_ _ | refine blk_drew ?_ | refine blk_alloc ?_ _));refine blk_far ?_ NB167_178.out _;(with_reducible repeat (first | refine blk_drewN ?_ _ | refine blk_drew ?_ | refine blk_alloc ?_ _));refine blk_far ?_ NB167_178.out _;(with_reducible repeat (first | refine blk_drewN ?_ _ | refine blk_drew ?_ | refine blk_alloc ?_ _));exact BK167.out⟩,⟨by (with_reducible repeat (first | refine blk_drewN ?_ _ | refine blk_drew ?_ | refine blk_alloc ?_ _));refine blk_far ?_ NB168_178.out _;(with_reducible repeat (first | refine blk_drewN ?_ _ | refine blk_drew ?_ | refine blk_alloc ?_ _));refine blk_far ?_ NB168_178.out _;(with_reducible repeat (first | refine blk_drewN ?_ _ | refine blk_drew ?_ | refine blk_alloc ?_ _));refine blk_far ?_ NB168_178.out _;(with_reducible repeat (first | refine blk_drewN ?_ _ | refine blk_drew ?_ | refine blk_alloc ?_ _));refine blk_far ?_ NB168_178.out _;(with_reducible repeat (first | refine blk_drewN ?_ _ | refine blk_drew ?_ | refine blk_alloc ?_ _));exact BK168.out⟩,⟨by (with_reducible repeat (first | refine blk_drewN ?_ _ | refine blk_drew ?_ | refine blk_alloc ?_ _));refine blk_put (cs := #[.int .i64 t169,.int .i64 t172,.int .i64 t175,.slice none 0 0]) ?_ 3 _ rfl;(with_reducible repeat (first | refine blk_drewN ?_ _ | refine blk_drew ?_ | refine blk_alloc ?_ _));refine blk_put (cs := #[.int .i64 t169,.int .i64 t172,.int .i64 0,.slice none 0 0]) ?_ 2 _ rfl;(with_reducible repeat (first | refine blk_drewN ?_ _ | refine blk_drew ?_ | refine blk_alloc ?_ _));refine blk_put (cs := #[.int .i64 t169,.int .i64 0,.int .i64 0,.slice none 0 0]) ?_ 1 _ rfl;(with_reducible repeat (first | refine blk_drewN ?_ _ | refine blk_drew ?_ | refine blk_alloc ?_ _));refine blk_put (cs := #[.int .i64 0,.int .i64 0,.int .i64 0,.slice none 0 0]) ?_ 0 _ rfl;(with_reducible repeat (first | refine blk_drewN ?_ _ | refine blk_drew ?_ | refine blk_alloc ?_ _));exact BK178.out⟩,⟨by repeat (first | (with_reducible first | exact HB.out | apply below_alloc | apply pw_below_drewN | apply below_drew1 | refine below_set ?_ GE167.out | refine below_set ?_ GE168.out | refine below_set ?_ GE178.out) | exact HB.out)⟩⟩
    case round =>
     clear H'
     try clear c1
     try clear p2
     try clear c3
     try clear c6
     try clear c9
     try clear c11
     try clear c12
     try clear c13
     try clear c14
     try clear c18
     try clear c19
     try clear hcz10_0
     try clear hcz10_1
     try clear hcz10_2
     try clear hcz10_3
     try clear hcz15_0
     try clear hcz15_1
     try clear hcz15_2
     try clear hcz15_3
     try clear hcz16_0
     try clear hcz16_1
     try clear hcz16_2
     try clear hcz16_3
     try clear hcz20_0
     try clear hcz20_1
     try clear hcz20_2
     try clear hcz20_3
     try clear hfz10_0
     try clear hfz10_1
     try clear hfz10_2
     try clear hfz10_3
     try clear hfz15_0
     try clear hfz15_1
     try clear hfz15_2
     try clear hfz15_3
     try clear hfz16_0
     try clear hfz16_1
     try clear hfz16_2
     try clear hfz16_3
     try clear hfz20_0
     try clear hfz20_1
     try clear hfz20_2
     try clear hfz20_3
     try clear p2
     obtain ⟨x15_2,x18_2,x168000_2,x168001_2,x168002_2,x179003_2,u179003,rfl,rfl,HA,HK2,HO_179003,BK167,BK168,BK178,HB⟩ := hrel
     cases gk with
     | zero => exact absurd HA.out (by simp [spec_GetMan.l0])
     | succ k2 =>
      have H := HA.out
      clear HA
      simp only [spec_GetMan.l0] at H
      have HC21 := Aside0.mk H
      clear H
      go_upto_region 9 with (fail)
      go_cut [70] (fun v70 wc => ∃ (kq : Nat) (x70_20 : Bool),v70 = .bool x70_20 ∧ Aside0 (spec_GetMan.j2 kq l0 t169 t172 t175 x15_2 x18_2 x70_20 0 0 0 t169 t172 t175 x179003_2 = some (r1,r2,r3,r4,r5,r6)) ∧ Aside0 (kq ≤ k2) ∧ Aside0 (Kd.R k66 66 wc w.heap.size (fun _ => True) u179003 x179003_2) ∧ Aside0 (wc.heap[gb167]? = some (.cells #[.int .i64 x168000_2,.int .i64 x168001_2,.int .i64 x168002_2,(.slice none 0 0)] 31 (0,0))) ∧ Aside0 (wc.heap[gb168]? = some (.cells #[.int .i64 0,.int .i64 0,.int .i64 0,(.slice none 0 0)] 31 (0,0))) ∧ Aside0 (wc.heap[gb178]? = some (.cells #[.int .i64 t169,.int .i64 t172,.int .i64 t175,u179003] 31 (0,0))) ∧ Aside0 (Below w.heap.size w wc))
      case first =>
       have H := HC21.out
       clear HC21
       replace H := Option.bind_eq_some_iff.mp H
       obtain ⟨t179,A220,H⟩ := H
       (try dsimp only at H)
       have A22 := Aside0.mk A220
       clear A220
       by_cases c23 : x18_2 < t179
       ·rw [if_pos c23] at H
        have c23b0 : decide (x18_2 < t179) = true := decide_eq_true c23
        clear c23
        (first | rw [c23b0] | (simp only [i64_w,i32_w];rw [c23b0]) | skip)
        have H' := Aside0.mk H
        clear H
        go_wp2_with (first | ((with_reducible refine gate_callee (f := 69) rfl ?_);refine goesL_ (some 65) rfl rfl Try.func69 (by kernel_rfl) rfl #[.int .i64 t172,.int .i64 t175] rfl eq_up ?_;(with_reducible refine (spec_Blocks.calls t172 t175 t179 _ A22.out).mono ?_);rintro e w' ⟨rfl,⟨nd,rfl⟩⟩;refine ⟨_,rfl,?_⟩))
        go_meet
        case rel => exact ⟨_,(decide (t169 > 0)),(by first | rfl | (simp;done) | (simp [*];done)),H',⟨by have := HJ5.out;have := HK2.out;first | omega | exact Nat.le_refl _⟩,⟨by (with_reducible repeat (first | apply Kd.R_alloc | apply Kd.R_drewN | apply Kd.R_drew));exact HO_179003.out⟩,⟨by (with_reducible repeat (first | refine blk_drewN ?_ _ | refine blk_drew ?_ | refine blk_alloc ?_ _));exact BK167.out⟩,⟨by (with_reducible repeat (first | refine blk_drewN ?_ _ | refine blk_drew ?_ | refine blk_alloc ?_ _));exact BK168.out⟩,⟨by (with_reducible repeat (first | refine blk_drewN ?_ _ | refine blk_drew ?_ | refine blk_alloc ?_ _));exact BK178.out⟩,⟨by repeat (first | (with_reducible first | exact HB.out | apply below_alloc | apply pw_below_drewN | apply below_drew1 | refine below_set ?_ GE167.out | refine below_set ?_ GE168.out | refine below_set ?_ GE178.out) | exact HB.out)⟩⟩
       ·rw [if_neg c23] at H
        have c23b0 : decide (x18_2 < t179) = false := decide_eq_false c23
        clear c23
        (first | rw [c23b0] | (simp only [i64_w,i32_w];rw [c23b0]) | skip)
        have H' := Aside0.mk H
        clear H
        go_wp2_with (first | ((with_reducible refine gate_callee (f := 69) rfl ?_);refine goesL_ (some 65) rfl rfl Try.func69 (by kernel_rfl) rfl #[.int .i64 t172,.int .i64 t175] rfl eq_up ?_;(with_reducible refine (spec_Blocks.calls t172 t175 t179 _ A22.out).mono ?_);rintro e w' ⟨rfl,⟨nd,rfl⟩⟩;refine ⟨_,rfl,?_⟩))
        go_meet
        case rel => exact ⟨_,(false),(by first | rfl | (simp;done) | (simp [*];done)),H',⟨by have := HJ5.out;have := HK2.out;first | omega | exact Nat.le_refl _⟩,⟨by (with_reducible repeat (first | apply Kd.R_alloc | apply Kd.R_drewN | apply Kd.R_drew));exact HO_179003.out⟩,⟨by (with_reducible repeat (first | refine blk_drewN ?_ _ | refine blk_drew ?_ | refine blk_alloc ?_ _));exact BK167.out⟩,⟨by (with_reducible repeat (first | refine blk_drewN ?_ _ | refine blk_drew ?_ | refine blk_alloc ?_ _));exact BK168.out⟩,⟨by (with_reducible repeat (first | refine blk_drewN ?_ _ | refine blk_drew ?_ | refine blk_alloc ?_ _));exact BK178.out⟩,⟨by repeat (first | (with_reducible first | exact HB.out | apply below_alloc | apply pw_below_drewN | apply below_drew1 | refine below_set ?_ GE167.out | refine below_set ?_ GE168.out | refine below_set ?_ GE178.out) | exact HB.out)⟩⟩
      case rest =>
       clear HC21
       try clear c1
       try clear c2
       try clear p2
       try clear c3
       try clear c6
       try clear c9
       try clear c11
       try clear c12
       try clear c13
       try clear c14
       try clear c18
       try clear c19
       try clear c23
       try clear c23b0
       try clear hcz10_0
       try clear hcz10_1
       try clear hcz10_2
       try clear hcz10_3
       try clear hcz15_0
       try clear hcz15_1
       try clear hcz15_2
       try clear hcz15_3
       try clear hcz16_0
       try clear hcz16_1
       try clear hcz16_2
       try clear hcz16_3
       try clear hcz20_0
       try clear hcz20_1
       try clear hcz20_2
       try clear hcz20_3
       try clear hfz10_0
       try clear hfz10_1
       try clear hfz10_2
       try clear hfz10_3
       try clear hfz15_0
       try clear hfz15_1
       try clear hfz15_2
       try clear hfz15_3
       try clear hfz16_0
       try clear hfz16_1
       try clear hfz16_2
       try clear hfz16_3
       try clear hfz20_0
       try clear hfz20_1
       try clear hfz20_2
       try clear hfz20_3
       try clear p2
       obtain ⟨kq,x70_20,rfl,HA,HJ20,HO_179003,BK167,BK168,BK178,HB⟩ := hcut
       cases kq with
       | zero => exact absurd HA.out (by simp [spec_GetMan.j2])
       | succ kj20 =>
        have H := HA.out
        clear HA
        simp only [spec_GetMan.j2] at H
        by_cases c24 : x70_20 = true
        ·subst c24
         rw [if_pos rfl] at H
         replace H := Option.bind_eq_some_iff.mp H
         obtain ⟨⟨t181,t182,t183⟩,A250,H⟩ := H
         (try dsimp only at H)
         have A25 := Aside0.mk A250
         clear A250
         by_cases c26 : t183 = true
         ·subst c26
          rw [if_pos rfl] at H
          replace H := Option.bind_eq_some_iff.mp H
          obtain ⟨⟨t184,t185⟩,A270,H⟩ := H
          (try dsimp only at H)
          have A27 := Aside0.mk A270
          clear A270
          replace H := Option.bind_eq_some_iff.mp H
          obtain ⟨⟨t188,t189⟩,A280,H⟩ := H
          (try dsimp only at H)
          have A28 := Aside0.mk A280
          clear A280
          by_cases c29 : x179003_2.length < 8796093022208
          ·rw [if_pos c29] at H
           have LMc29 := Aside0.mk c29
           clear c29
           obtain ⟨y191,hy191⟩ : ∃ y_ : List (S66),y_ = (x179003_2 ++ [(⟨t188,t181⟩ : S66)]) := ⟨_,rfl⟩
           replace H : (spec_GetMan.l0 kj20 l0 t169 t172 t175 t182 (wrap64 (x18_2 + 1)) 0 0 0 t169 t172 t175 y191) = some (r1,r2,r3,r4,r5,r6) := by first | (rw [hy191];with_reducible exact H) | (have H2_ := (Option.bind_some _ _).symm.trans H;rw [hy191];with_reducible exact H2_) | (have H2_ := (Option.bind_some _ _).symm.trans H;with_reducible exact H2_) | with_reducible exact H | (rw [hy191];exact H) | exact H
           have Ny191 := Aside0.mk hy191
           clear hy191
           have H' := Aside0.mk H
           clear H
           go_wp2_with (first | ((with_reducible refine gate_callee (f := 70) rfl ?_);refine goesL_ (some 76) rfl rfl Try.func70 (by kernel_rfl) rfl #[.slice A0 l0.length c0,.int .i64 x15_2] rfl eq_up ?_;(with_reducible refine (spec_l6GetSum.calls kj20 _ _ l0 x15_2 t181 t182 true _ ?side1 ?side2 A25.out).mono ?_);(case side1 => repeat (first | exact (Kd.C_below HR0.out HB.out) | (with_reducible refine Kd.C_alloc ?_ _) | (with_reducible refine Kd.C_drewN ?_ _) | (with_reducible refine Kd.C_drew ?_)));(case side2 => exact HC0.out);rintro e w' ⟨rfl,⟨nd,rfl⟩⟩;refine ⟨_,rfl,?_⟩;(try (rw [drewN_self wc];generalize hq_ : World.drewN wc _ = wc;have n0_ : Aside0 (Kd.R k66 66 wc w.heap.size (fun _ => True) u179003 x179003_2) := ⟨by rw [← hq_];exact (Kd.R_up HO_179003.out)⟩;have n1_ : Aside0 (wc.heap[gb167]? = some (.cells #[.int .i64 x168000_2,.int .i64 x168001_2,.int .i64 x168002_2,.slice none 0 0] 31 (0,0))) := ⟨by rw [← hq_];exact (blk_up BK167.out)⟩;have n2_ : Aside0 (wc.heap[gb168]? = some (.cells #[.int .i64 0,.int .i64 0,.int .i64 0,.slice none 0 0] 31 (0,0))) := ⟨by rw [← hq_];exact (blk_up BK168.out)⟩;have n3_ : Aside0 (wc.heap[gb178]? = some (.cells #[.int .i64 t169,.int .i64 t172,.int .i64 t175,u179003] 31 (0,0))) := ⟨by rw [← hq_];exact (blk_up BK178.out)⟩;have n4_ : Aside0 (Below w.heap.size w wc) := ⟨by rw [← hq_];exact (B_set HB.out)⟩;clear HO_179003 BK167 BK168 BK178 HB hq_;have HO_179003 := n0_;have BK167 := n1_;have BK168 := n2_;have BK178 := n3_;have HB := n4_;clear n0_ n1_ n2_ n3_ n4_))) | ((with_reducible refine gate_callee (f := 71) rfl ?_);refine goesL_ (some 85) rfl rfl Try.func71 (by kernel_rfl) rfl #[.int .i64 t181] rfl eq_up ?_;(with_reducible refine (spec_BytesOf.calls kj20 t181 t184 t185 _ A27.out).mono ?_);rintro e w30 ⟨v186,rfl,ho0,hb⟩;refine ⟨_,rfl,?_⟩;have n0_ := Aside0.mk (Kd.R_below (Kd.R_up HO_179003.out) hb);have n1_ := Aside0.mk (Kd.R_lower ho0 (below_size (B_set HB.out)));have n2_ := Aside0.mk (blk_below (g := gb167) (o := .cells #[.int .i64 x168000_2,.int .i64 x168001_2,.int .i64 x168002_2,.slice none 0 0] 31 (0,0)) (blk_up BK167.out) hb);have n3_ := Aside0.mk (blk_below (g := gb168) (o := .cells #[.int .i64 0,.int .i64 0,.int .i64 0,.slice none 0 0] 31 (0,0)) (blk_up BK168.out) hb);have n4_ := Aside0.mk (blk_below (g := gb178) (o := .cells #[.int .i64 t169,.int .i64 t172,.int .i64 t175,u179003] 31 (0,0)) (blk_up BK178.out) hb);have n5_ := Aside0.mk (below_step (B_set HB.out) hb);clear HO_179003;clear BK167;clear BK168;clear BK178;clear HB;have HO_179003 := n0_;have HO187 := n1_;have BK167 := n2_;have BK168 := n3_;have BK178 := n4_;have HB := n5_;clear n0_ n1_ n2_ n3_ n4_ n5_;(try clear hb);(try clear hb2);(try clear hk);(try clear hi);(try clear ho0);obtain ⟨Ao31,co31,eo31⟩ := Kd.R_slice HO187.out;subst eo31) | ((with_reducible refine gate_callee (f := 72) rfl ?_);refine goesL_ (some 89) rfl rfl Try.func72 (by kernel_rfl) rfl #[.slice Ao31 t184.length co31] rfl eq_up ?_;(with_reducible refine (spec_SumOf.calls kj20 _ _ t184 t188 t189 _ ?side1 ?side2 A28.out).mono ?_);(case side1 => exact Kd.C_up (Kd.R_reads' HO187.out).2.2);(case side2 => exact (Kd.R_reads' HO187.out).2.1);rintro e w32 ⟨rfl,hb⟩;refine ⟨_,rfl,?_⟩;have n0_ := Aside0.mk (Kd.R_below (Kd.R_up HO_179003.out) hb);have n1_ := Aside0.mk (Kd.R_below (Kd.R_up HO187.out) hb);have n2_ := Aside0.mk (blk_below (g := gb167) (o := .cells #[.int .i64 x168000_2,.int .i64 x168001_2,.int .i64 x168002_2,.slice none 0 0] 31 (0,0)) (blk_up BK167.out) hb);have n3_ := Aside0.mk (blk_below (g := gb168) (o := .cells #[.int .i64 0,.int .i64 0,.int .i64 0,.slice none 0 0] 31 (0,0)) (blk_up BK168.out) hb);have n4_ := Aside0.mk (blk_below (g := gb178) (o := .cells #[.int .i64 t169,.int .i64 t172,.int .i64 t175,u179003] 31 (0,0)) (blk_up BK178.out) hb);have n5_ := Aside0.mk (below_step (B_set HB.out) hb);clear HO_179003;clear HO187;clear BK167;clear BK168;clear BK178;clear HB;have HO_179003 := n0_;have HO187 := n1_;have BK167 := n2_;have BK168 := n3_;have BK178 := n4_;have HB := n5_;clear n0_ n1_ n2_ n3_ n4_ n5_;(try clear hb);(try clear hb2);(try clear hk);(try clear hi)) | ((with_reducible refine gate_dst (N := 24) rfl ?_);refine box_event ?hg (N := 24) ?hd (cs := #[.int .i64 0,.int .i64 0]) (t := 66) ?hr ?_;(case hd => rfl);(case hg => rfl);(case hr => first | (go_simp;done) | (go_simp;rfl));intro gb190 hg w33 hbox hb;have n0_ := Aside0.mk (Kd.R_below (Kd.R_elderB (Kd.R_up HO_179003.out) gb190 (Nat.le_of_eq hg.symm)) hb);have n1_ := Aside0.mk (Kd.R_below (Kd.R_up HO187.out) hb);have n2_ := Aside0.mk (blk_below (g := gb167) (o := .cells #[.int .i64 x168000_2,.int .i64 x168001_2,.int .i64 x168002_2,.slice none 0 0] 31 (0,0)) (blk_up BK167.out) hb);have n3_ := Aside0.mk (blk_below (g := gb168) (o := .cells #[.int .i64 0,.int .i64 0,.int .i64 0,.slice none 0 0] 31 (0,0)) (blk_up BK168.out) hb);have n4_ := Aside0.mk (blk_below (g := gb178) (o := .cells #[.int .i64 t169,.int .i64 t172,.int .i64 t175,u179003] 31 (0,0)) (blk_up BK178.out) hb);have n5_ := Aside0.mk (below_step (B_set HB.out) hb);have n6_ := Aside0.mk (hbox);have n7_ := Aside0.mk ((by rw [hg];exact (below_size (B_set HB.out)) : w.heap.size ≤ gb190));have n8_ := Aside0.mk ((by rw [hg];exact (below_size (B_set HB.out)) : w.heap.size ≤ gb190));have n9_ := Aside0.mk ((by rw [hg];exact Nat.ne_of_lt (blk_lt (g := gb167) (o := .cells #[.int .i64 x168000_2,.int .i64 x168001_2,.int .i64 x168002_2,.slice none 0 0] 31 (0,0)) (blk_up BK167.out)) : gb167 ≠ gb190));have n10_ := Aside0.mk ((by rw [hg];exact Nat.ne_of_gt (blk_lt (g := gb167) (o := .cells #[.int .i64 x168000_2,.int .i64 x168001_2,.int .i64 x168002_2,.slice none 0 0] 31 (0,0)) (blk_up BK167.out)) : gb190 ≠ gb167));have n11_ := Aside0.mk ((by rw [hg];exact Nat.ne_of_lt (blk_lt (g := gb168) (o := .cells #[.int .i64 0,.int .i64 0,.int .i64 0,.slice none 0 0] 31 (0,0)) (blk_up BK168.out)) : gb168 ≠ gb190));have n12_ := Aside0.mk ((by rw [hg];exact Nat.ne_of_gt (blk_lt (g := gb168) (o := .cells #[.int .i64 0,.int .i64 0,.int .i64 0,.slice none 0 0] 31 (0,0)) (blk_up BK168.out)) : gb190 ≠ gb168));have n13_ := Aside0.mk ((by rw [hg];exact Nat.ne_of_lt (blk_lt (g := gb178) (o := .cells #[.int .i64 t169,.int .i64 t172,.int .i64 t175,u179003] 31 (0,0)) (blk_up BK178.out)) : gb178 ≠ gb190));have n14_ := Aside0.mk ((by rw [hg];exact Nat.ne_of_gt (blk_lt (g := gb178) (o := .cells #[.int .i64 t169,.int .i64 t172,.int .i64 t175,u179003] 31 (0,0)) (blk_up BK178.out)) : gb190 ≠ gb178));clear HO_179003;clear HO187;clear BK167;clear BK168;clear BK178;clear HB;have HO_179003 := n0_;have HO187 := n1_;have BK167 := n2_;have BK168 := n3_;have BK178 := n4_;have HB := n5_;have BK190 := n6_;have GW190 := n7_;have GE190 := n8_;have NB167_190 := n9_;have NB190_167 := n10_;have NB168_190 := n11_;have NB190_168 := n12_;have NB178_190 := n13_;have NB190_178 := n14_;clear n0_ n1_ n2_ n3_ n4_ n5_ n6_ n7_ n8_ n9_ n10_ n11_ n12_ n13_ n14_;clear hb hbox hg;have hnb34 := NB190_167.out;have hnc34 := NB167_190.out;have hnb35 := NB190_168.out;have hnc35 := NB168_190.out;have hnb36 := NB190_178.out;have hnc36 := NB178_190.out;have hcz37_0 : w33.cell? ⟨gb190,0,none⟩ = some (.int .i64 0) := (blk_cell BK190.out 0).trans rfl;have hcz37_1 : w33.cell? ⟨gb190,1,none⟩ = some (.int .i64 0) := (blk_cell BK190.out 1).trans rfl;have hfz37_0 := blk_frozen BK190.out 0;have hfz37_1 := blk_frozen BK190.out 1;have hnb38 := NB178_167.out;have hnc38 := NB167_178.out;have hnb39 := NB178_168.out;have hnc39 := NB168_178.out;have hcz40_0 : w33.cell? ⟨gb178,0,none⟩ = some (.int .i64 t169) := (blk_cell BK178.out 0).trans rfl;have hcz40_1 : w33.cell? ⟨gb178,1,none⟩ = some (.int .i64 t172) := (blk_cell BK178.out 1).trans rfl;have hcz40_2 : w33.cell? ⟨gb178,2,none⟩ = some (.int .i64 t175) := (blk_cell BK178.out 2).trans rfl;have hcz40_3 : w33.cell? ⟨gb178,3,none⟩ = some (u179003) := (blk_cell BK178.out 3).trans rfl;have hfz40_0 := blk_frozen BK178.out 0;have hfz40_1 := blk_frozen BK178.out 1;have hfz40_2 := blk_frozen BK178.out 2;have hfz40_3 := blk_frozen BK178.out 3) | ((with_reducible refine gate_builtin (b := .append) (xs := #[.tmp 93,.tmp 95]) rfl ?_);at_builtin;refine Kd.R_append k66 (w0 := w) w.heap.size rfl (.tmp 93) (.tmp 95) 29 66 (.agg #[(.int .i64 0),(.int .i64 0)]) 16 rfl Try.underlying29 info66 rfl (by decide) (by omega) u179003 x179003_2 (⟨t188,t181⟩ : S66) [.int .i64 t188,.int .i64 t181] (fun k_ => k_ ≠ gb190) (fun _ => False) rfl (by first | (go_simp;done) | (go_simp;rfl)) ?aP (fun _ hk => hk.elim) ?aF ?aO ?aB ?aS ?aL ?_;(case aP => exact k66_mkM _ _ _ (⟨t188,t181⟩ : S66));(case aB => exact (B_set HB.out));(case aF => exact (fun k_ hk => Kd.freshB (g := gb190) (o := .cells #[.int .i64 t188,.int .i64 t181] 66 (0,0)) (by (with_reducible repeat (first | refine blk_drewN ?_ _ | refine blk_drew ?_ | refine blk_alloc ?_ _));refine blk_put (cs := #[.int .i64 t188,.int .i64 t189]) ?_ 1 _ rfl;(with_reducible repeat (first | refine blk_drewN ?_ _ | refine blk_drew ?_ | refine blk_alloc ?_ _));refine blk_put (cs := #[.int .i64 t188,.int .i64 0]) ?_ 1 _ rfl;(with_reducible repeat (first | refine blk_drewN ?_ _ | refine blk_drew ?_ | refine blk_alloc ?_ _));refine blk_put (cs := #[.int .i64 0,.int .i64 0]) ?_ 0 _ rfl;(with_reducible repeat (first | refine blk_drewN ?_ _ | refine blk_drew ?_ | refine blk_alloc ?_ _));exact BK190.out) k_ hk));(case aO => exact (by (with_reducible repeat (first | apply Kd.R_alloc | apply Kd.R_drewN | apply Kd.R_drew));exact Kd.R_mono (Kd.R_far (p := ⟨gb190,1,none⟩) (Kd.R_far (p := ⟨gb190,1,none⟩) (Kd.R_far (p := ⟨gb190,0,none⟩) (Kd.R_mono HO_179003.out (fun k_ hk => (⟨hk,hk.2⟩ : _ ∧ k_ ≠ gb190))) (fun _ hk => hk.2) (.int .i64 t188)) (fun _ hk => hk.2) (.int .i64 t189)) (fun _ hk => hk.2) (.int .i64 t181)) (fun _ hk => hk.1.2)));(case aS => exact (below_size (B_set HB.out)));(case aL => have := LMc29.out;omega);intro v192 w41 ho hb hg hat;rw [← Ny191.out] at ho;have n0_ := Aside0.mk (blk_grown (g := gb167) (o := .cells #[.int .i64 x168000_2,.int .i64 x168001_2,.int .i64 x168002_2,.slice none 0 0] 31 (0,0)) (by (with_reducible repeat (first | refine blk_drewN ?_ _ | refine blk_drew ?_ | refine blk_alloc ?_ _));refine blk_far ?_ NB167_190.out _;(with_reducible repeat (first | refine blk_drewN ?_ _ | refine blk_drew ?_ | refine blk_alloc ?_ _));refine blk_far ?_ NB167_190.out _;(with_reducible repeat (first | refine blk_drewN ?_ _ | refine blk_drew ?_ | refine blk_alloc ?_ _));refine blk_far ?_ NB167_190.out _;(with_reducible repeat (first | refine blk_drewN ?_ _ | refine blk_drew ?_ | refine blk_alloc ?_ _));exact BK167.out) hg (Kd.R_ne HO_179003.out BK167.out (by decide)));have n1_ := Aside0.mk (blk_grown (g := gb168) (o := .cells #[.int .i64 0,.int .i64 0,.int .i64 0,.slice none 0 0] 31 (0,0)) (by (with_reducible repeat (first | refine blk_drewN ?_ _ | refine blk_drew ?_ | refine blk_alloc ?_ _));refine blk_far ?_ NB168_190.out _;(with_reducible repeat (first | refine blk_drewN ?_ _ | refine blk_drew ?_ | refine blk_alloc ?_ _));refine blk_far ?_ NB168_190.out _;(with_reducible repeat (first | refine blk_drewN ?_ _ | refine blk_drew ?_ | refine blk_alloc ?_ _));refine blk_far ?_ NB168_190.out _;(with_reducible repeat (first | refine blk_drewN ?_ _ | refine blk_drew ?_ | refine blk_alloc ?_ _));exact BK168.out) hg (Kd.R_ne HO_179003.out BK168.out (by decide)));have n2_ := Aside0.mk (blk_grown (g := gb178) (o := .cells #[.int .i64 t169,.int .i64 t172,.int .i64 t175,u179003] 31 (0,0)) (by (with_reducible repeat (first | refine blk_drewN ?_ _ | refine blk_drew ?_ | refine blk_alloc ?_ _));refine blk_far ?_ NB178_190.out _;(with_reducible repeat (first | refine blk_drewN ?_ _ | refine blk_drew ?_ | refine blk_alloc ?_ _));refine blk_far ?_ NB178_190.out _;(with_reducible repeat (first | refine blk_drewN ?_ _ | refine blk_drew ?_ | refine blk_alloc ?_ _));refine blk_far ?_ NB178_190.out _;(with_reducible repeat (first | refine blk_drewN ?_ _ | refine blk_drew ?_ | refine blk_alloc ?_ _));exact BK178.out) hg (Kd.R_ne HO_179003.out BK178.out (by decide)));have n3_ := Aside0.mk (Kd.R_over' (by (with_reducible repeat (first | apply Kd.R_alloc | apply Kd.R_drewN | apply Kd.R_drew));exact (Kd.R_mono (Kd.R_far (p := ⟨gb190,1,none⟩) (Kd.R_far (p := ⟨gb190,1,none⟩) (Kd.R_far (p := ⟨gb190,0,none⟩) (Kd.R_types HO187.out BK190.out (by decide)) (fun _ hk => hk.2) (.int .i64 t188)) (fun _ hk => hk.2) (.int .i64 t189)) (fun _ hk => hk.2) (.int .i64 t181)) (fun _ h_ => h_.1))) (Kd.R_typed (by (with_reducible repeat (first | apply Kd.R_alloc | apply Kd.R_drewN | apply Kd.R_drew));exact (Kd.R_mono (Kd.R_far (p := ⟨gb190,1,none⟩) (Kd.R_far (p := ⟨gb190,1,none⟩) (Kd.R_far (p := ⟨gb190,0,none⟩) (Kd.R_mono HO_179003.out (fun k_ hk => (⟨hk,hk.2⟩ : _ ∧ k_ ≠ gb190))) (fun _ hk => hk.2) (.int .i64 t188)) (fun _ hk => hk.2) (.int .i64 t189)) (fun _ hk => hk.2) (.int .i64 t181)) (fun _ h_ => h_.1)))) (by decide) hg);have n4_ := Aside0.mk (blk_grown (g := gb190) (o := .cells #[.int .i64 t188,.int .i64 t181] 66 (0,0)) (by (with_reducible repeat (first | refine blk_drewN ?_ _ | refine blk_drew ?_ | refine blk_alloc ?_ _));refine blk_put (cs := #[.int .i64 t188,.int .i64 t189]) ?_ 1 _ rfl;(with_reducible repeat (first | refine blk_drewN ?_ _ | refine blk_drew ?_ | refine blk_alloc ?_ _));refine blk_put (cs := #[.int .i64 t188,.int .i64 0]) ?_ 1 _ rfl;(with_reducible repeat (first | refine blk_drewN ?_ _ | refine blk_drew ?_ | refine blk_alloc ?_ _));refine blk_put (cs := #[.int .i64 0,.int .i64 0]) ?_ 0 _ rfl;(with_reducible repeat (first | refine blk_drewN ?_ _ | refine blk_drew ?_ | refine blk_alloc ?_ _));exact BK190.out) hg (Kd.R_away HO_179003.out (fun _ hk => hk.2)));have n5_ := Aside0.mk (hb);have n6_ := Aside0.mk (ho);clear BK167;clear BK168;clear BK178;clear HO187;clear BK190;clear HB;clear HO_179003;have BK167 := n0_;have BK168 := n1_;have BK178 := n2_;have HO187 := n3_;have BK190 := n4_;have HB := n5_;have HO193 := n6_;clear n0_ n1_ n2_ n3_ n4_ n5_ n6_;clear ho hb hg hat;obtain ⟨Ao42,co42,eo42⟩ := Kd.R_slice HO193.out;subst eo42;have hcz43_0 : w41.cell? ⟨gb178,0,none⟩ = some (.int .i64 t169) := (blk_cell BK178.out 0).trans rfl;have hcz43_1 : w41.cell? ⟨gb178,1,none⟩ = some (.int .i64 t172) := (blk_cell BK178.out 1).trans rfl;have hcz43_2 : w41.cell? ⟨gb178,2,none⟩ = some (.int .i64 t175) := (blk_cell BK178.out 2).trans rfl;have hcz43_3 : w41.cell? ⟨gb178,3,none⟩ = some (u179003) := (blk_cell BK178.out 3).trans rfl;have hfz43_0 := blk_frozen BK178.out 0;have hfz43_1 := blk_frozen BK178.out 1;have hfz43_2 := blk_frozen BK178.out 2;have hfz43_3 := blk_frozen BK178.out 3))
           go_roundg kj20
           case measure => have := HJ5.out;have := HK2.out;have := HJ20.out;omega
           case rel => exact ⟨(t182),(wrap64 (x18_2 + 1)),(x168000_2),(x168001_2),(x168002_2),(y191),(.slice Ao42 y191.length co42),(by first | rfl | (simp;done) | (simp [*];done)),(by first | rfl | (simp;done) | (simp [*];done)),H',⟨by have := HJ5.out;have := HK2.out;have := HJ20.out;omega⟩,⟨by (with_reducible repeat (first | apply Kd.R_alloc | apply Kd.R_drewN | apply Kd.R_drew));exact Kd.R_mono (Kd.R_far (p := ⟨gb178,3,none⟩) (Kd.R_types HO193.out BK178.out (by decide)) (fun _ hk => hk.2) (.slice Ao42 y191.length co42)) (fun _ hk => trivial)⟩,⟨by (with_reducible repeat (first | refine blk_drewN ?_ _ | refine blk_drew ?_ | refine blk_alloc ?_ _));refine blk_far ?_ NB167_178.out _;(with_reducible repeat (first | refine blk_drewN ?_ _ | refine blk_drew ?_ | refine blk_alloc ?_ _));exact BK167.out⟩,⟨by (with_reducible repeat (first | refine blk_drewN ?_ _ | refine blk_drew ?_ | refine blk_alloc ?_ _));refine blk_far ?_ NB168_178.out _;(with_reducible repeat (first | refine blk_drewN ?_ _ | refine blk_drew ?_ | refine blk_alloc ?_ _));exact BK168.out⟩,⟨by (with_reducible repeat (first | refine blk_drewN ?_ _ | refine blk_drew ?_ | refine blk_alloc ?_ _));refine blk_put (cs := #[.int .i64 t169,.int .i64 t172,.int .i64 t175,u179003]) ?_ 3 _ rfl;(with_reducible repeat (first | refine blk_drewN ?_ _ | refine blk_drew ?_ | refine blk_alloc ?_ _));exact BK178.out⟩,⟨by repeat (first | (with_reducible first | exact HB.out | apply below_alloc | apply pw_below_drewN | apply below_drew1 | refine below_set ?_ GE167.out | refine below_set ?_ GE168.out | refine below_set ?_ GE178.out | refine below_set ?_ GE190.out) | exact HB.out)⟩⟩
          ·rw [if_neg c29] at H
           exact absurd H (by simp)
         ·replace c26 := Bool.eq_false_iff.mpr c26
          subst c26
          have H1 : (some (0,0,0,([] : List (S66)),0,false)) = some (r1,r2,r3,r4,r5,r6) := by rw [if_neg (show ¬ (false = true) by decide)] at H;exact H
          clear H
          have H := H1
          clear H1
          simp only [Option.some.injEq,Prod.mk.injEq] at H
          obtain ⟨rfl,rfl,rfl,rfl,rfl,rfl⟩ := H
          go_wp2_with (first | ((with_reducible refine gate_callee (f := 70) rfl ?_);refine goesL_ (some 76) rfl rfl Try.func70 (by kernel_rfl) rfl #[.slice A0 l0.length c0,.int .i64 x15_2] rfl eq_up ?_;(with_reducible refine (spec_l6GetSum.calls kj20 _ _ l0 x15_2 t181 t182 false _ ?side1 ?side2 A25.out).mono ?_);(case side1 => repeat (first | exact (Kd.C_below HR0.out HB.out) | (with_reducible refine Kd.C_alloc ?_ _) | (with_reducible refine Kd.C_drewN ?_ _) | (with_reducible refine Kd.C_drew ?_)));(case side2 => exact HC0.out);rintro e w' ⟨rfl,⟨nd,rfl⟩⟩;refine ⟨_,rfl,?_⟩;(try (rw [drewN_self wc];generalize hq_ : World.drewN wc _ = wc;have n0_ : Aside0 (Kd.R k66 66 wc w.heap.size (fun _ => True) u179003 x179003_2) := ⟨by rw [← hq_];exact (Kd.R_up HO_179003.out)⟩;have n1_ : Aside0 (wc.heap[gb167]? = some (.cells #[.int .i64 x168000_2,.int .i64 x168001_2,.int .i64 x168002_2,.slice none 0 0] 31 (0,0))) := ⟨by rw [← hq_];exact (blk_up BK167.out)⟩;have n2_ : Aside0 (wc.heap[gb168]? = some (.cells #[.int .i64 0,.int .i64 0,.int .i64 0,.slice none 0 0] 31 (0,0))) := ⟨by rw [← hq_];exact (blk_up BK168.out)⟩;have n3_ : Aside0 (wc.heap[gb178]? = some (.cells #[.int .i64 t169,.int .i64 t172,.int .i64 t175,u179003] 31 (0,0))) := ⟨by rw [← hq_];exact (blk_up BK178.out)⟩;have n4_ : Aside0 (Below w.heap.size w wc) := ⟨by rw [← hq_];exact (B_set HB.out)⟩;clear HO_179003 BK167 BK168 BK178 HB hq_;have HO_179003 := n0_;have BK167 := n1_;have BK168 := n2_;have BK178 := n3_;have HB := n4_;clear n0_ n1_ n2_ n3_ n4_));have hnb44 := NB168_167.out;have hnc44 := NB167_168.out;have hnb45 := NB168_178.out;have hnc45 := NB178_168.out;have hcz46_0 : wc.cell? ⟨gb168,0,none⟩ = some (.int .i64 0) := (blk_cell BK168.out 0).trans rfl;have hcz46_1 : wc.cell? ⟨gb168,1,none⟩ = some (.int .i64 0) := (blk_cell BK168.out 1).trans rfl;have hcz46_2 : wc.cell? ⟨gb168,2,none⟩ = some (.int .i64 0) := (blk_cell BK168.out 2).trans rfl;have hcz46_3 : wc.cell? ⟨gb168,3,none⟩ = some (.slice none 0 0) := (blk_cell BK168.out 3).trans rfl;have hfz46_0 := blk_frozen BK168.out 0;have hfz46_1 := blk_frozen BK168.out 1;have hfz46_2 := blk_frozen BK168.out 2;have hfz46_3 := blk_frozen BK168.out 3;have hnb47 := NB167_178.out;have hnc47 := NB178_167.out;have hcz48_0 : wc.cell? ⟨gb167,0,none⟩ = some (.int .i64 x168000_2) := (blk_cell BK167.out 0).trans rfl;have hcz48_1 : wc.cell? ⟨gb167,1,none⟩ = some (.int .i64 x168001_2) := (blk_cell BK167.out 1).trans rfl;have hcz48_2 : wc.cell? ⟨gb167,2,none⟩ = some (.int .i64 x168002_2) := (blk_cell BK167.out 2).trans rfl;have hcz48_3 : wc.cell? ⟨gb167,3,none⟩ = some (.slice none 0 0) := (blk_cell BK167.out 3).trans rfl;have hfz48_0 := blk_frozen BK167.out 0;have hfz48_1 := blk_frozen BK167.out 1;have hfz48_2 := blk_frozen BK167.out 2;have hfz48_3 := blk_frozen BK167.out 3))
          refine bodyPost_ret (results_ctt rfl _ _ gb167 31 #[.int .i64 0,.int .i64 0,.int .i64 0,.slice none 0 0] (0,0) _ rfl (by (with_reducible repeat (first | refine blk_drewN ?_ _ | refine blk_drew ?_ | refine blk_alloc ?_ _));refine blk_put (cs := #[.int .i64 0,.int .i64 0,.int .i64 0,.slice none 0 0]) ?_ 3 _ rfl;(with_reducible repeat (first | refine blk_drewN ?_ _ | refine blk_drew ?_ | refine blk_alloc ?_ _));refine blk_put (cs := #[.int .i64 0,.int .i64 0,.int .i64 x168002_2,.slice none 0 0]) ?_ 2 _ rfl;(with_reducible repeat (first | refine blk_drewN ?_ _ | refine blk_drew ?_ | refine blk_alloc ?_ _));refine blk_put (cs := #[.int .i64 0,.int .i64 x168001_2,.int .i64 x168002_2,.slice none 0 0]) ?_ 1 _ rfl;(with_reducible repeat (first | refine blk_drewN ?_ _ | refine blk_drew ?_ | refine blk_alloc ?_ _));refine blk_put (cs := #[.int .i64 x168000_2,.int .i64 x168001_2,.int .i64 x168002_2,.slice none 0 0]) ?_ 0 _ rfl;(with_reducible repeat (first | refine blk_drewN ?_ _ | refine blk_drew ?_ | refine blk_alloc ?_ _));exact BK167.out) Try.underlying31 rfl (by kernel_rfl)) rfl ?_
          exact ⟨_,by first | rfl | (simp [errW_none,errW_some] <;> rfl) | (simp [*,errW_none,errW_some] <;> rfl),by first | exact Kd.R_nil _ _ _ _ _ | exact Kd.N_nil _ _ _ _ _ | exact Kd.V_nil _ _ _ _ _ | exact Kd.Q_nil _ _ _ _ _ | exact Kd.S_nil _ _ _ _ _,by repeat (first | (with_reducible first | exact HB.out | apply below_alloc | apply pw_below_drewN | apply below_drew1 | refine below_set ?_ GE167.out | refine below_set ?_ GE168.out | refine below_set ?_ GE178.out) | exact HB.out)⟩
        ·replace c24 := Bool.eq_false_iff.mpr c24
         subst c24
         have H1 : ((spec_ManOk.f kj20 t169 t172 t175 x179003_2).bind fun t180 => (if t180 = true then (some (t169,t172,t175,x179003_2,x15_2,true)) else (some (0,0,0,([] : List (S66)),0,false)))) = some (r1,r2,r3,r4,r5,r6) := by rw [if_neg (show ¬ (false = true) by decide)] at H;exact H
         clear H
         have H := H1
         clear H1
         replace H := Option.bind_eq_some_iff.mp H
         obtain ⟨t180,A490,H⟩ := H
         (try dsimp only at H)
         have A49 := Aside0.mk A490
         clear A490
         by_cases c50 : t180 = true
         ·subst c50
          rw [if_pos rfl] at H
          simp only [Option.some.injEq,Prod.mk.injEq] at H
          obtain ⟨rfl,rfl,rfl,rfl,rfl,rfl⟩ := H
          have hnb51 := NB178_167.out
          have hnc51 := NB167_178.out
          have hnb52 := NB178_168.out
          have hnc52 := NB168_178.out
          have hcz53_0 : wc.cell? ⟨gb178,0,none⟩ = some (.int .i64 t169) := (blk_cell BK178.out 0).trans rfl
          have hcz53_1 : wc.cell? ⟨gb178,1,none⟩ = some (.int .i64 t172) := (blk_cell BK178.out 1).trans rfl
          have hcz53_2 : wc.cell? ⟨gb178,2,none⟩ = some (.int .i64 t175) := (blk_cell BK178.out 2).trans rfl
          have hcz53_3 : wc.cell? ⟨gb178,3,none⟩ = some (u179003) := (blk_cell BK178.out 3).trans rfl
          have hfz53_0 := blk_frozen BK178.out 0
          have hfz53_1 := blk_frozen BK178.out 1
          have hfz53_2 := blk_frozen BK178.out 2
          have hfz53_3 := blk_frozen BK178.out 3
          obtain ⟨Ao54,co54,eo54⟩ := Kd.R_slice HO_179003.out
          subst eo54
          go_wp2_with (first | ((with_reducible refine gate_callee (f := 62) rfl ?_);refine goesL_ (some 100) rfl rfl Try.func62 (by kernel_rfl) rfl #[.agg #[.int .i64 t169,.int .i64 t172,.int .i64 t175,.slice Ao54 x179003_2.length co54]] rfl eq_up ?_;(with_reducible refine (spec_ManOk.calls kj20 t169 t172 t175 _ _ x179003_2 true _ ?side1 ?side2 A49.out).mono ?_);(case side1 => exact Kd.C_up (Kd.R_reads' HO_179003.out).2.2);(case side2 => exact (Kd.R_reads' HO_179003.out).2.1);rintro e w55 ⟨rfl,hb⟩;refine ⟨_,rfl,?_⟩;have n0_ := Aside0.mk (Kd.R_below (Kd.R_up HO_179003.out) hb);have n1_ := Aside0.mk (blk_below (g := gb167) (o := .cells #[.int .i64 x168000_2,.int .i64 x168001_2,.int .i64 x168002_2,.slice none 0 0] 31 (0,0)) (blk_up BK167.out) hb);have n2_ := Aside0.mk (blk_below (g := gb168) (o := .cells #[.int .i64 0,.int .i64 0,.int .i64 0,.slice none 0 0] 31 (0,0)) (blk_up BK168.out) hb);have n3_ := Aside0.mk (blk_below (g := gb178) (o := .cells #[.int .i64 t169,.int .i64 t172,.int .i64 t175,.slice Ao54 x179003_2.length co54] 31 (0,0)) (blk_up BK178.out) hb);have n4_ := Aside0.mk (below_step (B_set HB.out) hb);clear HO_179003;clear BK167;clear BK168;clear BK178;clear HB;have HO_179003 := n0_;have BK167 := n1_;have BK168 := n2_;have BK178 := n3_;have HB := n4_;clear n0_ n1_ n2_ n3_ n4_;(try clear hb);(try clear hb2);(try clear hk);(try clear hi);have hcz56_0 : w55.cell? ⟨gb178,0,none⟩ = some (.int .i64 t169) := (blk_cell BK178.out 0).trans rfl;have hcz56_1 : w55.cell? ⟨gb178,1,none⟩ = some (.int .i64 t172) := (blk_cell BK178.out 1).trans rfl;have hcz56_2 : w55.cell? ⟨gb178,2,none⟩ = some (.int .i64 t175) := (blk_cell BK178.out 2).trans rfl;have hcz56_3 : w55.cell? ⟨gb178,3,none⟩ = some (.slice Ao54 x179003_2.length co54) := (blk_cell BK178.out 3).trans rfl;have hfz56_0 := blk_frozen BK178.out 0;have hfz56_1 := blk_frozen BK178.out 1;have hfz56_2 := blk_frozen BK178.out 2;have hfz56_3 := blk_frozen BK178.out 3;have hnb57 := NB167_168.out;have hnc57 := NB168_167.out;have hcz58_0 : w55.cell? ⟨gb167,0,none⟩ = some (.int .i64 x168000_2) := (blk_cell BK167.out 0).trans rfl;have hcz58_1 : w55.cell? ⟨gb167,1,none⟩ = some (.int .i64 x168001_2) := (blk_cell BK167.out 1).trans rfl;have hcz58_2 : w55.cell? ⟨gb167,2,none⟩ = some (.int .i64 x168002_2) := (blk_cell BK167.out 2).trans rfl;have hcz58_3 : w55.cell? ⟨gb167,3,none⟩ = some (.slice none 0 0) := (blk_cell BK167.out 3).trans rfl;have hfz58_0 := blk_frozen BK167.out 0;have hfz58_1 := blk_frozen BK167.out 1;have hfz58_2 := blk_frozen BK167.out 2;have hfz58_3 := blk_frozen BK167.out 3))
          refine bodyPost_ret (results_ctt rfl _ _ gb167 31 #[.int .i64 t169,.int .i64 t172,.int .i64 t175,.slice Ao54 x179003_2.length co54] (0,0) _ rfl (by (with_reducible repeat (first | refine blk_drewN ?_ _ | refine blk_drew ?_ | refine blk_alloc ?_ _));refine blk_put (cs := #[.int .i64 t169,.int .i64 t172,.int .i64 t175,.slice none 0 0]) ?_ 3 _ rfl;(with_reducible repeat (first | refine blk_drewN ?_ _ | refine blk_drew ?_ | refine blk_alloc ?_ _));refine blk_put (cs := #[.int .i64 t169,.int .i64 t172,.int .i64 x168002_2,.slice none 0 0]) ?_ 2 _ rfl;(with_reducible repeat (first | refine blk_drewN ?_ _ | refine blk_drew ?_ | refine blk_alloc ?_ _));refine blk_put (cs := #[.int .i64 t169,.int .i64 x168001_2,.int .i64 x168002_2,.slice none 0 0]) ?_ 1 _ rfl;(with_reducible repeat (first | refine blk_drewN ?_ _ | refine blk_drew ?_ | refine blk_alloc ?_ _));refine blk_put (cs := #[.int .i64 x168000_2,.int .i64 x168001_2,.int .i64 x168002_2,.slice none 0 0]) ?_ 0 _ rfl;(with_reducible repeat (first | refine blk_drewN ?_ _ | refine blk_drew ?_ | refine blk_alloc ?_ _));exact BK167.out) Try.underlying31 rfl (by kernel_rfl)) rfl ?_
          exact ⟨_,by first | rfl | (simp [errW_none,errW_some] <;> rfl) | (simp [*,errW_none,errW_some] <;> rfl),by (with_reducible repeat (first | apply Kd.R_alloc | apply Kd.R_drewN | apply Kd.R_drew));exact Kd.R_mono (Kd.R_far (p := ⟨gb167,3,none⟩) (Kd.R_far (p := ⟨gb167,2,none⟩) (Kd.R_far (p := ⟨gb167,1,none⟩) (Kd.R_far (p := ⟨gb167,0,none⟩) (Kd.R_types HO_179003.out BK167.out (by decide)) (fun _ hk => hk.2) (.int .i64 t169)) (fun _ hk => hk.2) (.int .i64 t172)) (fun _ hk => hk.2) (.int .i64 t175)) (fun _ hk => hk.2) (.slice Ao54 x179003_2.length co54)) (fun _ hk => trivial),by repeat (first | (with_reducible first | exact HB.out | apply below_alloc | apply pw_below_drewN | apply below_drew1 | refine below_set ?_ GE167.out | refine below_set ?_ GE168.out | refine below_set ?_ GE178.out) | exact HB.out)⟩
         ·replace c50 := Bool.eq_false_iff.mpr c50
          subst c50
          have H1 : (some (0,0,0,([] : List (S66)),0,false)) = some (r1,r2,r3,r4,r5,r6) := by rw [if_neg (show ¬ (false = true) by decide)] at H;exact H
          clear H
          have H := H1
          clear H1
          simp only [Option.some.injEq,Prod.mk.injEq] at H
          obtain ⟨rfl,rfl,rfl,rfl,rfl,rfl⟩ := H
          have hnb59 := NB178_167.out
          have hnc59 := NB167_178.out
          have hnb60 := NB178_168.out
          have hnc60 := NB168_178.out
          have hcz61_0 : wc.cell? ⟨gb178,0,none⟩ = some (.int .i64 t169) := (blk_cell BK178.out 0).trans rfl
          have hcz61_1 : wc.cell? ⟨gb178,1,none⟩ = some (.int .i64 t172) := (blk_cell BK178.out 1).trans rfl
          have hcz61_2 : wc.cell? ⟨gb178,2,none⟩ = some (.int .i64 t175) := (blk_cell BK178.out 2).trans rfl
          have hcz61_3 : wc.cell? ⟨gb178,3,none⟩ = some (u179003) := (blk_cell BK178.out 3).trans rfl
          have hfz61_0 := blk_frozen BK178.out 0
          have hfz61_1 := blk_frozen BK178.out 1
          have hfz61_2 := blk_frozen BK178.out 2
          have hfz61_3 := blk_frozen BK178.out 3
          obtain ⟨Ao62,co62,eo62⟩ := Kd.R_slice HO_179003.out
          subst eo62
          go_wp2_with (first | ((with_reducible refine gate_callee (f := 62) rfl ?_);refine goesL_ (some 100) rfl rfl Try.func62 (by kernel_rfl) rfl #[.agg #[.int .i64 t169,.int .i64 t172,.int .i64 t175,.slice Ao62 x179003_2.length co62]] rfl eq_up ?_;(with_reducible refine (spec_ManOk.calls kj20 t169 t172 t175 _ _ x179003_2 false _ ?side1 ?side2 A49.out).mono ?_);(case side1 => exact Kd.C_up (Kd.R_reads' HO_179003.out).2.2);(case side2 => exact (Kd.R_reads' HO_179003.out).2.1);rintro e w63 ⟨rfl,hb⟩;refine ⟨_,rfl,?_⟩;have n0_ := Aside0.mk (Kd.R_below (Kd.R_up HO_179003.out) hb);have n1_ := Aside0.mk (blk_below (g := gb167) (o := .cells #[.int .i64 x168000_2,.int .i64 x168001_2,.int .i64 x168002_2,.slice none 0 0] 31 (0,0)) (blk_up BK167.out) hb);have n2_ := Aside0.mk (blk_below (g := gb168) (o := .cells #[.int .i64 0,.int .i64 0,.int .i64 0,.slice none 0 0] 31 (0,0)) (blk_up BK168.out) hb);have n3_ := Aside0.mk (blk_below (g := gb178) (o := .cells #[.int .i64 t169,.int .i64 t172,.int .i64 t175,.slice Ao62 x179003_2.length co62] 31 (0,0)) (blk_up BK178.out) hb);have n4_ := Aside0.mk (below_step (B_set HB.out) hb);clear HO_179003;clear BK167;clear BK168;clear BK178;clear HB;have HO_179003 := n0_;have BK167 := n1_;have BK168 := n2_;have BK178 := n3_;have HB := n4_;clear n0_ n1_ n2_ n3_ n4_;(try clear hb);(try clear hb2);(try clear hk);(try clear hi);have hnb64 := NB168_167.out;have hnc64 := NB167_168.out;have hcz65_0 : w63.cell? ⟨gb168,0,none⟩ = some (.int .i64 0) := (blk_cell BK168.out 0).trans rfl;have hcz65_1 : w63.cell? ⟨gb168,1,none⟩ = some (.int .i64 0) := (blk_cell BK168.out 1).trans rfl;have hcz65_2 : w63.cell? ⟨gb168,2,none⟩ = some (.int .i64 0) := (blk_cell BK168.out 2).trans rfl;have hcz65_3 : w63.cell? ⟨gb168,3,none⟩ = some (.slice none 0 0) := (blk_cell BK168.out 3).trans rfl;have hfz65_0 := blk_frozen BK168.out 0;have hfz65_1 := blk_frozen BK168.out 1;have hfz65_2 := blk_frozen BK168.out 2;have hfz65_3 := blk_frozen BK168.out 3;have hcz66_0 : w63.cell? ⟨gb167,0,none⟩ = some (.int .i64 x168000_2) := (blk_cell BK167.out 0).trans rfl;have hcz66_1 : w63.cell? ⟨gb167,1,none⟩ = some (.int .i64 x168001_2) := (blk_cell BK167.out 1).trans rfl;have hcz66_2 : w63.cell? ⟨gb167,2,none⟩ = some (.int .i64 x168002_2) := (blk_cell BK167.out 2).trans rfl;have hcz66_3 : w63.cell? ⟨gb167,3,none⟩ = some (.slice none 0 0) := (blk_cell BK167.out 3).trans rfl;have hfz66_0 := blk_frozen BK167.out 0;have hfz66_1 := blk_frozen BK167.out 1;have hfz66_2 := blk_frozen BK167.out 2;have hfz66_3 := blk_frozen BK167.out 3))
          refine bodyPost_ret (results_ctt rfl _ _ gb167 31 #[.int .i64 0,.int .i64 0,.int .i64 0,.slice none 0 0] (0,0) _ rfl (by (with_reducible repeat (first | refine blk_drewN ?_ _ | refine blk_drew ?_ | refine blk_alloc ?_ _));refine blk_put (cs := #[.int .i64 0,.int .i64 0,.int .i64 0,.slice none 0 0]) ?_ 3 _ rfl;(with_reducible repeat (first | refine blk_drewN ?_ _ | refine blk_drew ?_ | refine blk_alloc ?_ _));refine blk_put (cs := #[.int .i64 0,.int .i64 0,.int .i64 x168002_2,.slice none 0 0]) ?_ 2 _ rfl;(with_reducible repeat (first | refine blk_drewN ?_ _ | refine blk_drew ?_ | refine blk_alloc ?_ _));refine blk_put (cs := #[.int .i64 0,.int .i64 x168001_2,.int .i64 x168002_2,.slice none 0 0]) ?_ 1 _ rfl;(with_reducible repeat (first | refine blk_drewN ?_ _ | refine blk_drew ?_ | refine blk_alloc ?_ _));refine blk_put (cs := #[.int .i64 x168000_2,.int .i64 x168001_2,.int .i64 x168002_2,.slice none 0 0]) ?_ 0 _ rfl;(with_reducible repeat (first | refine blk_drewN ?_ _ | refine blk_drew ?_ | refine blk_alloc ?_ _));exact BK167.out) Try.underlying31 rfl (by kernel_rfl)) rfl ?_
          exact ⟨_,by first | rfl | (simp [errW_none,errW_some] <;> rfl) | (simp [*,errW_none,errW_some] <;> rfl),by first | exact Kd.R_nil _ _ _ _ _ | exact Kd.N_nil _ _ _ _ _ | exact Kd.V_nil _ _ _ _ _ | exact Kd.Q_nil _ _ _ _ _ | exact Kd.S_nil _ _ _ _ _,by repeat (first | (with_reducible first | exact HB.out | apply below_alloc | apply pw_below_drewN | apply below_drew1 | refine below_set ?_ GE167.out | refine below_set ?_ GE168.out | refine below_set ?_ GE178.out) | exact HB.out)⟩

/-! ### impl_within: function 53 -/
def impl_within.f (a0 : Int) (a1 : Int) (a2 : Int) : Option (Bool) := if a0 ≥ a1 then (some (decide (a0 ≤ a2))) else (some false)
set_option maxHeartbeats 8000000 in
set_option maxRecDepth 100000 in
theorem impl_within.calls (a0 : Int) (a1 : Int) (a2 : Int) (r : Bool) (w : World) (h : impl_within.f a0 a1 a2 = some r) :
  Calls Try.prog 53 #[.int .i64 a0,.int .i64 a1,.int .i64 a2] w fun e w' => e = .returned (.bool r) ∧ Drawn0 w w' := by
 have H : (if a0 ≥ a1 then (some (decide (a0 ≤ a2))) else (some false)) = some r := h
 clear h
 by_cases c4 : a0 ≥ a1
 ·rw [if_pos c4] at H
  have c4b0 : decide (a1 ≤ a0) = true := decide_eq_true c4
  clear c4
  obtain rfl := Option.some.inj H
  have htw_ : ∀ (w_ : World) (a_ : Addr) (u_ v_ : Value),(w_.cell? a_).isSome = true → ((w_.setCell a_ u_).setCell a_ v_).cell? a_ = some v_ := fun w_ a_ u_ v_ h_ => World.cell?_setCell_same' _ a_ v_ (by rw [World.cell?_setCell_same' w_ a_ u_ h_];rfl)
  go_enter Try.func53,Try.ntmps53
  go_wp2
  go_ret
  exact ⟨by first | rfl | (simp;done) | (simp [*];done),by repeat (first | exact Drawn0.refl _ | apply Drawn0.step)⟩
 ·rw [if_neg c4] at H
  have c4b0 : decide (a1 ≤ a0) = false := decide_eq_false c4
  clear c4
  obtain rfl := Option.some.inj H
  have htw_ : ∀ (w_ : World) (a_ : Addr) (u_ v_ : Value),(w_.cell? a_).isSome = true → ((w_.setCell a_ u_).setCell a_ v_).cell? a_ = some v_ := fun w_ a_ u_ v_ h_ => World.cell?_setCell_same' _ a_ v_ (by rw [World.cell?_setCell_same' w_ a_ u_ h_];rfl)
  go_enter Try.func53,Try.ntmps53
  go_wp2
  go_ret
  exact ⟨by first | rfl | (simp;done) | (simp [*];done),by repeat (first | exact Drawn0.refl _ | apply Drawn0.step)⟩

/-! ### impl_SizeOk: function 81 -/
def impl_SizeOk.f (a0 : Int) (a1 : Int) : Option (Bool) := (impl_within.f a0 2 6).bind fun t194 => (if t194 = true then ((impl_within.f a1 0 (wrap64 (40 * a0))).bind fun t195 => (some t195)) else (some false))
set_option maxHeartbeats 8000000 in
set_option maxRecDepth 100000 in
theorem impl_SizeOk.calls (a0 : Int) (a1 : Int) (r : Bool) (w : World) (h : impl_SizeOk.f a0 a1 = some r) :
  Calls Try.prog 81 #[.int .i64 a0,.int .i64 a1] w fun e w' => e = .returned (.bool r) ∧ Drawn0 w w' := by
 have H : ((impl_within.f a0 2 6).bind fun t194 => (if t194 = true then ((impl_within.f a1 0 (wrap64 (40 * a0))).bind fun t195 => (some t195)) else (some false))) = some r := h
 clear h
 replace H := Option.bind_eq_some_iff.mp H
 obtain ⟨t194,A30,H⟩ := H
 (try dsimp only at H)
 have A3 := Aside0.mk A30
 clear A30
 by_cases c4 : t194 = true
 ·subst c4
  rw [if_pos rfl] at H
  replace H := Option.bind_eq_some_iff.mp H
  obtain ⟨t195,A50,H⟩ := H
  replace H : (some t195) = some r := H
  have A5 := Aside0.mk A50
  clear A50
  obtain rfl := Option.some.inj H
  have htw_ : ∀ (w_ : World) (a_ : Addr) (u_ v_ : Value),(w_.cell? a_).isSome = true → ((w_.setCell a_ u_).setCell a_ v_).cell? a_ = some v_ := fun w_ a_ u_ v_ h_ => World.cell?_setCell_same' _ a_ v_ (by rw [World.cell?_setCell_same' w_ a_ u_ h_];rfl)
  go_enter Try.func81,Try.ntmps81
  go_wp2_with (first | ((with_reducible refine gate_callee (f := 53) rfl ?_);refine goesL_ (some 6) rfl rfl Try.func53 (by kernel_rfl) rfl #[.int .i64 a0,.int .i64 2,.int .i64 6] rfl eq_up ?_;(with_reducible refine (impl_within.calls a0 2 6 true _ A3.out).mono ?_);rintro e w' ⟨rfl,⟨nd,rfl⟩⟩;refine ⟨_,rfl,?_⟩) | (go_at_call 53;(with_reducible refine (impl_within.calls a1 0 (wrap64 (40 * a0)) t195 _ A5.out).mono ?_);rintro e w' ⟨rfl,⟨nd,rfl⟩⟩))
  go_ret
  exact ⟨by first | rfl | (simp;done) | (simp [*];done),by repeat (first | exact Drawn0.refl _ | apply Drawn0.step)⟩
 ·replace c4 := Bool.eq_false_iff.mpr c4
  subst c4
  have H1 : (some false) = some r := by rw [if_neg (show ¬ (false = true) by decide)] at H;exact H
  clear H
  have H := H1
  clear H1
  obtain rfl := Option.some.inj H
  have htw_ : ∀ (w_ : World) (a_ : Addr) (u_ v_ : Value),(w_.cell? a_).isSome = true → ((w_.setCell a_ u_).setCell a_ v_).cell? a_ = some v_ := fun w_ a_ u_ v_ h_ => World.cell?_setCell_same' _ a_ v_ (by rw [World.cell?_setCell_same' w_ a_ u_ h_];rfl)
  go_enter Try.func81,Try.ntmps81
  go_wp2_with (first | ((with_reducible refine gate_callee (f := 53) rfl ?_);refine goesL_ (some 6) rfl rfl Try.func53 (by kernel_rfl) rfl #[.int .i64 a0,.int .i64 2,.int .i64 6] rfl eq_up ?_;(with_reducible refine (impl_within.calls a0 2 6 false _ A3.out).mono ?_);rintro e w' ⟨rfl,⟨nd,rfl⟩⟩;refine ⟨_,rfl,?_⟩))
  go_ret
  exact ⟨by first | rfl | (simp;done) | (simp [*];done),by repeat (first | exact Drawn0.refl _ | apply Drawn0.step)⟩

/-! ### impl_CeilDiv: function 96 -/
def impl_CeilDiv.f (a0 : Int) (a1 : Int) : Option (Int) := (impl_within.f a0 0 1000000000000).bind fun t196 => (if t196 = true then ((impl_within.f a1 1 1000000000000).bind fun t197 => (if t197 = true then (if a1 = 0 then (none) else (some (wrap64 (Int.tdiv (wrap64 ((wrap64 (a0 + a1)) - 1)) a1)))) else (some 0))) else (some 0))
set_option maxHeartbeats 8000000 in
set_option maxRecDepth 100000 in
theorem impl_CeilDiv.calls (a0 : Int) (a1 : Int) (r : Int) (w : World) (h : impl_CeilDiv.f a0 a1 = some r) :
  Calls Try.prog 96 #[.int .i64 a0,.int .i64 a1] w fun e w' => e = .returned (.int .i64 r) ∧ Drawn0 w w' := by
 have H : ((impl_within.f a0 0 1000000000000).bind fun t196 => (if t196 = true then ((impl_within.f a1 1 1000000000000).bind fun t197 => (if t197 = true then (if a1 = 0 then (none) else (some (wrap64 (Int.tdiv (wrap64 ((wrap64 (a0 + a1)) - 1)) a1)))) else (some 0))) else (some 0))) = some r := h
 clear h
 replace H := Option.bind_eq_some_iff.mp H
 obtain ⟨t196,A30,H⟩ := H
 (try dsimp only at H)
 have A3 := Aside0.mk A30
 clear A30
 by_cases c4 : t196 = true
 ·subst c4
  rw [if_pos rfl] at H
  replace H := Option.bind_eq_some_iff.mp H
  obtain ⟨t197,A50,H⟩ := H
  (try dsimp only at H)
  have A5 := Aside0.mk A50
  clear A50
  by_cases c6 : t197 = true
  ·subst c6
   rw [if_pos rfl] at H
   by_cases c7 : a1 = 0
   ·rw [if_pos c7] at H
    exact absurd H (by simp)
   ·rw [if_neg c7] at H
    have c7b0 : (a1 == 0) = false := beq_eq_false_iff_ne.mpr c7
    have c7b1 : (a1 != 0) = true := bne_iff_ne.mpr c7
    obtain rfl := Option.some.inj H
    have htw_ : ∀ (w_ : World) (a_ : Addr) (u_ v_ : Value),(w_.cell? a_).isSome = true → ((w_.setCell a_ u_).setCell a_ v_).cell? a_ = some v_ := fun w_ a_ u_ v_ h_ => World.cell?_setCell_same' _ a_ v_ (by rw [World.cell?_setCell_same' w_ a_ u_ h_];rfl)
    go_enter Try.func96,Try.ntmps96
    go_wp2_with (first | ((with_reducible refine gate_callee (f := 53) rfl ?_);refine goesL_ (some 6) rfl rfl Try.func53 (by kernel_rfl) rfl #[.int .i64 a0,.int .i64 0,.int .i64 1000000000000] rfl eq_up ?_;(with_reducible refine (impl_within.calls a0 0 1000000000000 true _ A3.out).mono ?_);rintro e w' ⟨rfl,⟨nd,rfl⟩⟩;refine ⟨_,rfl,?_⟩) | (go_at_call 53;(with_reducible refine (impl_within.calls a1 1 1000000000000 true _ A5.out).mono ?_);rintro e w' ⟨rfl,⟨nd,rfl⟩⟩))
    go_ret
    exact ⟨by first | rfl | (simp;done) | (simp [*];done),by repeat (first | exact Drawn0.refl _ | apply Drawn0.step)⟩
  ·replace c6 := Bool.eq_false_iff.mpr c6
   subst c6
   have H1 : (some 0) = some r := by rw [if_neg (show ¬ (false = true) by decide)] at H;exact H
   clear H
   have H := H1
   clear H1
   obtain rfl := Option.some.inj H
   have htw_ : ∀ (w_ : World) (a_ : Addr) (u_ v_ : Value),(w_.cell? a_).isSome = true → ((w_.setCell a_ u_).setCell a_ v_).cell? a_ = some v_ := fun w_ a_ u_ v_ h_ => World.cell?_setCell_same' _ a_ v_ (by rw [World.cell?_setCell_same' w_ a_ u_ h_];rfl)
   go_enter Try.func96,Try.ntmps96
   go_wp2_with (first | ((with_reducible refine gate_callee (f := 53) rfl ?_);refine goesL_ (some 6) rfl rfl Try.func53 (by kernel_rfl) rfl #[.int .i64 a0,.int .i64 0,.int .i64 1000000000000] rfl eq_up ?_;(with_reducible refine (impl_within.calls a0 0 1000000000000 true _ A3.out).mono ?_);rintro e w' ⟨rfl,⟨nd,rfl⟩⟩;refine ⟨_,rfl,?_⟩) | (go_at_call 53;(with_reducible refine (impl_within.calls a1 1 1000000000000 false _ A5.out).mono ?_);rintro e w' ⟨rfl,⟨nd,rfl⟩⟩))
   go_ret
   exact ⟨by first | rfl | (simp;done) | (simp [*];done),by repeat (first | exact Drawn0.refl _ | apply Drawn0.step)⟩
 ·replace c4 := Bool.eq_false_iff.mpr c4
  subst c4
  have H1 : (some 0) = some r := by rw [if_neg (show ¬ (false = true) by decide)] at H;exact H
  clear H
  have H := H1
  clear H1
  obtain rfl := Option.some.inj H
  have htw_ : ∀ (w_ : World) (a_ : Addr) (u_ v_ : Value),(w_.cell? a_).isSome = true → ((w_.setCell a_ u_).setCell a_ v_).cell? a_ = some v_ := fun w_ a_ u_ v_ h_ => World.cell?_setCell_same' _ a_ v_ (by rw [World.cell?_setCell_same' w_ a_ u_ h_];rfl)
  go_enter Try.func96,Try.ntmps96
  go_wp2_with (first | ((with_reducible refine gate_callee (f := 53) rfl ?_);refine goesL_ (some 6) rfl rfl Try.func53 (by kernel_rfl) rfl #[.int .i64 a0,.int .i64 0,.int .i64 1000000000000] rfl eq_up ?_;(with_reducible refine (impl_within.calls a0 0 1000000000000 false _ A3.out).mono ?_);rintro e w' ⟨rfl,⟨nd,rfl⟩⟩;refine ⟨_,rfl,?_⟩))
  go_ret
  exact ⟨by first | rfl | (simp;done) | (simp [*];done),by repeat (first | exact Drawn0.refl _ | apply Drawn0.step)⟩

/-! ### impl_Blocks: function 47 -/
def impl_Blocks.f (a0 : Int) (a1 : Int) : Option (Int) := (impl_SizeOk.f a0 a1).bind fun t198 => (if t198 = true then ((impl_CeilDiv.f a1 a0).bind fun t199 => (some t199)) else (some 0))
set_option maxHeartbeats 8000000 in
set_option maxRecDepth 100000 in
theorem impl_Blocks.calls (a0 : Int) (a1 : Int) (r : Int) (w : World) (h : impl_Blocks.f a0 a1 = some r) :
  Calls Try.prog 47 #[.int .i64 a0,.int .i64 a1] w fun e w' => e = .returned (.int .i64 r) ∧ Drawn0 w w' := by
 have H : ((impl_SizeOk.f a0 a1).bind fun t198 => (if t198 = true then ((impl_CeilDiv.f a1 a0).bind fun t199 => (some t199)) else (some 0))) = some r := h
 clear h
 replace H := Option.bind_eq_some_iff.mp H
 obtain ⟨t198,A30,H⟩ := H
 replace H : (if t198 = true then ((impl_CeilDiv.f a1 a0).bind fun t199 => (some t199)) else (some 0)) = some r := H
 have A3 := Aside0.mk A30
 clear A30
 by_cases c4 : t198 = true
 ·subst c4
  rw [if_pos rfl] at H
  replace H := Option.bind_eq_some_iff.mp H
  obtain ⟨t199,A50,H⟩ := H
  replace H : (some t199) = some r := H
  have A5 := Aside0.mk A50
  clear A50
  obtain rfl := Option.some.inj H
  have htw_ : ∀ (w_ : World) (a_ : Addr) (u_ v_ : Value),(w_.cell? a_).isSome = true → ((w_.setCell a_ u_).setCell a_ v_).cell? a_ = some v_ := fun w_ a_ u_ v_ h_ => World.cell?_setCell_same' _ a_ v_ (by rw [World.cell?_setCell_same' w_ a_ u_ h_];rfl)
  go_enter Try.func47,Try.ntmps47
  go_wp2_with (first | ((with_reducible refine gate_callee (f := 81) rfl ?_);refine goesL_ (some 7) rfl rfl Try.func81 (by kernel_rfl) rfl #[.int .i64 a0,.int .i64 a1] rfl eq_up ?_;(with_reducible refine (impl_SizeOk.calls a0 a1 true _ A3.out).mono ?_);rintro e w' ⟨rfl,⟨nd,rfl⟩⟩;refine ⟨_,rfl,?_⟩) | ((with_reducible refine gate_callee (f := 96) rfl ?_);refine goesL_ (some 11) rfl rfl Try.func96 (by kernel_rfl) rfl #[.int .i64 a1,.int .i64 a0] rfl eq_up ?_;(with_reducible refine (impl_CeilDiv.calls a1 a0 t199 _ A5.out).mono ?_);rintro e w' ⟨rfl,⟨nd,rfl⟩⟩;refine ⟨_,rfl,?_⟩))
  go_ret
  exact ⟨by first | rfl | (simp;done) | (simp [*];done),by repeat (first | exact Drawn0.refl _ | apply Drawn0.step)⟩
 ·replace c4 := Bool.eq_false_iff.mpr c4
  subst c4
  have H1 : (some 0) = some r := by rw [if_neg (show ¬ (false = true) by decide)] at H;exact H
  clear H
  have H := H1
  clear H1
  obtain rfl := Option.some.inj H
  have htw_ : ∀ (w_ : World) (a_ : Addr) (u_ v_ : Value),(w_.cell? a_).isSome = true → ((w_.setCell a_ u_).setCell a_ v_).cell? a_ = some v_ := fun w_ a_ u_ v_ h_ => World.cell?_setCell_same' _ a_ v_ (by rw [World.cell?_setCell_same' w_ a_ u_ h_];rfl)
  go_enter Try.func47,Try.ntmps47
  go_wp2_with (first | ((with_reducible refine gate_callee (f := 81) rfl ?_);refine goesL_ (some 7) rfl rfl Try.func81 (by kernel_rfl) rfl #[.int .i64 a0,.int .i64 a1] rfl eq_up ?_;(with_reducible refine (impl_SizeOk.calls a0 a1 false _ A3.out).mono ?_);rintro e w' ⟨rfl,⟨nd,rfl⟩⟩;refine ⟨_,rfl,?_⟩))
  go_ret
  exact ⟨by first | rfl | (simp;done) | (simp [*];done),by repeat (first | exact Drawn0.refl _ | apply Drawn0.step)⟩

/-! ### impl_SpanOf: function 52 -/
def impl_SpanOf.f (a0 : Int) (a1 : Int) (a2 : Int) : Option (Int × Int) := (impl_Blocks.f a0 a1).bind fun t200 => ((impl_within.f a2 0 (wrap64 (t200 - 1))).bind fun t201 => (if t201 = true then (some (wrap64 (a2 * a0),mn a0 (wrap64 (a1 - (wrap64 (a2 * a0)))))) else (some (0,0))))
set_option maxHeartbeats 8000000 in
set_option maxRecDepth 100000 in
theorem impl_SpanOf.calls (a0 : Int) (a1 : Int) (a2 : Int) (r1 : Int) (r2 : Int) (w : World) (h : impl_SpanOf.f a0 a1 a2 = some (r1,r2)) :
  Calls Try.prog 52 #[.int .i64 a0,.int .i64 a1,.int .i64 a2] w fun e w' => e = .returned (.tuple #[.int .i64 r1,.int .i64 r2]) ∧ Below w.heap.size w w' := by
 have HB := Aside0.mk (Below.refl w.heap.size w)
 have H : ((impl_Blocks.f a0 a1).bind fun t200 => ((impl_within.f a2 0 (wrap64 (t200 - 1))).bind fun t201 => (if t201 = true then (some (wrap64 (a2 * a0),mn a0 (wrap64 (a1 - (wrap64 (a2 * a0)))))) else (some (0,0))))) = some (r1,r2) := h
 clear h
 replace H := Option.bind_eq_some_iff.mp H
 obtain ⟨t200,A40,H⟩ := H
 (try dsimp only at H)
 have A4 := Aside0.mk A40
 clear A40
 replace H := Option.bind_eq_some_iff.mp H
 obtain ⟨t201,A50,H⟩ := H
 (try dsimp only at H)
 have A5 := Aside0.mk A50
 clear A50
 by_cases c6 : t201 = true
 ·subst c6
  rw [if_pos rfl] at H
  obtain ⟨ji7,hji7⟩ : ∃ j_ : Int,(mn a0 (wrap64 (a1 - (wrap64 (a2 * a0))))) = j_ := ⟨_,rfl⟩
  replace H : (some (wrap64 (a2 * a0),ji7)) = some (r1,r2) := by first | (rw [hji7] at H;exact H) | (simp only [hji7] at H ⊢;exact H)
  (try rw [hji7] at A4)
  (try rw [hji7] at A5)
  have hji7_ : (if (wrap64 (a1 - (wrap64 (a2 * a0)))) < a0 then (wrap64 (a1 - (wrap64 (a2 * a0)))) else a0) = ji7 := hji7
  simp only [Option.some.injEq,Prod.mk.injEq] at H
  obtain ⟨rfl,rfl⟩ := H
  have htw_ : ∀ (w_ : World) (a_ : Addr) (u_ v_ : Value),(w_.cell? a_).isSome = true → ((w_.setCell a_ u_).setCell a_ v_).cell? a_ = some v_ := fun w_ a_ u_ v_ h_ => World.cell?_setCell_same' _ a_ v_ (by rw [World.cell?_setCell_same' w_ a_ u_ h_];rfl)
  go_enter Try.func52,Try.ntmps52
  go_wp2_with (first | ((with_reducible refine gate_callee (f := 47) rfl ?_);refine goesL_ (some 11) rfl rfl Try.func47 (by kernel_rfl) rfl #[.int .i64 a0,.int .i64 a1] rfl eq_up ?_;(with_reducible refine (impl_Blocks.calls a0 a1 t200 _ A4.out).mono ?_);rintro e w' ⟨rfl,⟨nd,rfl⟩⟩;refine ⟨_,rfl,?_⟩) | ((with_reducible refine gate_callee (f := 53) rfl ?_);refine goesL_ (some 13) rfl rfl Try.func53 (by kernel_rfl) rfl #[.int .i64 a2,.int .i64 0,.int .i64 (wrap64 (t200 - 1))] rfl eq_up ?_;(with_reducible refine (impl_within.calls a2 0 (wrap64 (t200 - 1)) true _ A5.out).mono ?_);rintro e w' ⟨rfl,⟨nd,rfl⟩⟩;refine ⟨_,rfl,?_⟩))
  go_ret2
  exact ⟨by first | rfl | (simp [errW_none,errW_some] <;> rfl) | (simp only [← hji7];first | rfl | (simp [errW_none,errW_some] <;> rfl)) | (simp [*,errW_none,errW_some] <;> rfl),by repeat (first | (with_reducible first | exact HB.out | apply below_alloc | apply pw_below_drewN | apply below_drew1) | exact HB.out)⟩
 ·replace c6 := Bool.eq_false_iff.mpr c6
  subst c6
  have H1 : (some (0,0)) = some (r1,r2) := by rw [if_neg (show ¬ (false = true) by decide)] at H;exact H
  clear H
  have H := H1
  clear H1
  simp only [Option.some.injEq,Prod.mk.injEq] at H
  obtain ⟨rfl,rfl⟩ := H
  have htw_ : ∀ (w_ : World) (a_ : Addr) (u_ v_ : Value),(w_.cell? a_).isSome = true → ((w_.setCell a_ u_).setCell a_ v_).cell? a_ = some v_ := fun w_ a_ u_ v_ h_ => World.cell?_setCell_same' _ a_ v_ (by rw [World.cell?_setCell_same' w_ a_ u_ h_];rfl)
  go_enter Try.func52,Try.ntmps52
  go_wp2_with (first | ((with_reducible refine gate_callee (f := 47) rfl ?_);refine goesL_ (some 11) rfl rfl Try.func47 (by kernel_rfl) rfl #[.int .i64 a0,.int .i64 a1] rfl eq_up ?_;(with_reducible refine (impl_Blocks.calls a0 a1 t200 _ A4.out).mono ?_);rintro e w' ⟨rfl,⟨nd,rfl⟩⟩;refine ⟨_,rfl,?_⟩) | ((with_reducible refine gate_callee (f := 53) rfl ?_);refine goesL_ (some 13) rfl rfl Try.func53 (by kernel_rfl) rfl #[.int .i64 a2,.int .i64 0,.int .i64 (wrap64 (t200 - 1))] rfl eq_up ?_;(with_reducible refine (impl_within.calls a2 0 (wrap64 (t200 - 1)) false _ A5.out).mono ?_);rintro e w' ⟨rfl,⟨nd,rfl⟩⟩;refine ⟨_,rfl,?_⟩))
  go_ret2
  exact ⟨by first | rfl | (simp [errW_none,errW_some] <;> rfl) | (simp [*,errW_none,errW_some] <;> rfl),by repeat (first | (with_reducible first | exact HB.out | apply below_alloc | apply pw_below_drewN | apply below_drew1) | exact HB.out)⟩

end Go.Proofs.Ytdkgcloempbgpaa.PFnExactGetMan
