-- by a program of this session (a turned copy of the print: make with a capacity)
import Derived.Test.YtdkgcloempbgpaaVMade1
import Derived.Test.YtdkgcloempbgpaaPFnMansx0
import Derived.Test.YtdkgcloempbgpaaPFnMansx2
import Derived.Test.YtdkgcloempbgpaaPFnMansx3
import Derived.Test.YtdkgcloempbgpaaPFnMansx4
namespace Go.Proofs.Ytdkgcloempbgpaa.PFnMans
open Go.RowKit Go.Proofs.YtdkgcloempbgpaaW.PrintWords Go.Proofs.YtdkgcloempbgpaaW.PrintLast Go.Proofs.YtdkgcloempbgpaaW.PrintMore
attribute [local go_sem] max2_int min2_int max_two min_two max_three min_three max_four min_four   -- for this text's walks alone
set_option linter.unusedVariables false
set_option linter.unusedSimpArgs false

/-! ### impl_GetMan: function 32 -/
def impl_GetMan.l0 : Nat → List Int → Int → Int → Int → Int → Int → Int → List (S66) → Option (Int × Int × Int × (List (S66)) × Int × Bool)
 | 0,_,_,_,_,_,_,_,_ => none
 | k + 1,x0,x1,x39,x40,x198000,x198001,x198002,x198003 => if x40 < x39 then ((impl_readVar.f k x0 x1 8).bind fun bt200 => ((impl_BytesOf.f k bt200.1).bind fun bt203 => (if bt200.2.2 = true then (if bt203.2 = true then ((impl_SumOf.f k bt203.1).bind fun bt207 => (if x198003.length < 8796093022208 then (impl_GetMan.l0 k x0 bt200.2.1 x39 (wrap64 (x40 + 1)) x198000 x198001 x198002 (x198003 ++ [(⟨bt207.1,bt207.2⟩ : S66)])) else (none))) else (some (0,0,0,([] : List (S66)),0,false))) else (some (0,0,0,([] : List (S66)),0,false))))) else ((impl_ManOk.f k x198000 x198001 x198002 x198003).bind fun t199 => (if t199 = true then (some (x198000,x198001,x198002,x198003,x1,true)) else (some (0,0,0,([] : List (S66)),0,false))))
def impl_GetMan.f (k : Nat) (l0 : List Int) (a1 : Int) : Option (Int × Int × Int × (List (S66)) × Int × Bool) := (impl_readVars.f k l0 a1 3).bind fun bt189 => (if bt189.2.2 = true then (if 0 < (bt189.1.length : Int) then (if 1 < (bt189.1.length : Int) then (if 2 < (bt189.1.length : Int) then ((impl_Blocks.f (rd bt189.1 1) (rd bt189.1 2)).bind fun t198 => (impl_GetMan.l0 k l0 bt189.2.1 t198 0 (rd bt189.1 0) (rd bt189.1 1) (rd bt189.1 2) ([] : List (S66)))) else (none)) else (none)) else (none)) else (some (0,0,0,([] : List (S66)),0,false)))
theorem impl_GetMan.mono_l : ∀ k,(∀ y0 y1 y2 y3 y4 y5 y6 y7,LeO (impl_GetMan.l0 k y0 y1 y2 y3 y4 y5 y6 y7) (impl_GetMan.l0 (k + 1) y0 y1 y2 y3 y4 y5 y6 y7))
 | 0 => fun _ _ _ _ _ _ _ _ r h => by simp [impl_GetMan.l0] at h
 | k + 1 => by
  have ih0 := impl_GetMan.mono_l k
  ·intro y0 y1 y2 y3 y4 y5 y6 y7
   unfold impl_GetMan.l0
   repeat' first
   | (with_reducible exact ih0 _ _ _ _ _ _ _ _)
   | (with_reducible exact impl_BytesOf.mono _ _)
   | (with_reducible exact impl_ManOk.mono _ _ _ _ _)
   | (with_reducible exact impl_SumOf.mono _ _)
   | (with_reducible exact impl_readVar.mono _ _ _ _)
   | (with_reducible exact impl_readVars.mono _ _ _ _)
   | (with_reducible exact LeO.refl _)
   | (with_reducible exact LeO.none _)
   | (with_reducible refine LeO.ite ?_ ?_)
   | (with_reducible refine LeO.bind ?_ (fun _ => ?_))
   | exact ih0 _ _ _ _ _ _ _ _
   | exact impl_BytesOf.mono _ _
   | exact impl_ManOk.mono _ _ _ _ _
   | exact impl_SumOf.mono _ _
   | exact impl_readVar.mono _ _ _ _
   | exact impl_readVars.mono _ _ _ _
   | exact LeO.none _
   | refine LeO.ite ?_ ?_
   | refine LeO.bind ?_ (fun _ => ?_)
theorem impl_GetMan.mono : ∀ a0 a1 k,LeO (impl_GetMan.f k a0 a1) (impl_GetMan.f (k + 1) a0 a1) := by
 intro a0 a1 k
 have ih0 := impl_GetMan.mono_l k
 unfold impl_GetMan.f
 repeat' first
   | (with_reducible exact ih0 _ _ _ _ _ _ _ _)
   | (with_reducible exact impl_BytesOf.mono _ _)
   | (with_reducible exact impl_ManOk.mono _ _ _ _ _)
   | (with_reducible exact impl_SumOf.mono _ _)
   | (with_reducible exact impl_readVar.mono _ _ _ _)
   | (with_reducible exact impl_readVars.mono _ _ _ _)
   | (with_reducible exact LeO.refl _)
   | (with_reducible exact LeO.none _)
   | (with_reducible refine LeO.ite ?_ ?_)
   | (with_reducible refine LeO.bind ?_ (fun _ => ?_))
   | exact ih0 _ _ _ _ _ _ _ _
   | exact impl_BytesOf.mono _ _
   | exact impl_ManOk.mono _ _ _ _ _
   | exact impl_SumOf.mono _ _
   | exact impl_readVar.mono _ _ _ _
   | exact impl_readVars.mono _ _ _ _
   | exact LeO.none _
   | refine LeO.ite ?_ ?_
   | refine LeO.bind ?_ (fun _ => ?_)
def impl_GetMan.T4 : Bool × List (List Nat × List Nat) := (true,[([],[]),([0],[0]),([1],[1]),([],[]),([3],[3]),([4],[4]),([],[]),([6],[6]),([7],[7]),([2,5,8],[2,5,8]),([],[]),([10,9,0,1,2,3,4,5,6,7,8,9,10],[9,10])])
def impl_GetMan.B4 : List Nat := [0,1,3,0,8,24,0,64,192,511,0,2047]
theorem impl_GetMan.tab4 : rtab .any (opsOf Try.f32 4) = impl_GetMan.T4 := by kernel_rfl
theorem impl_GetMan.bits4 : waitsOk impl_GetMan.T4.2 impl_GetMan.B4 = true := by kernel_rfl
def impl_GetMan.T11 : Bool × List (List Nat × List Nat) := (true,[([],[]),([0],[0]),([],[]),([2],[2]),([3],[3]),([1,4,3],[1,4]),([0,1,2,3,4,5],[]),([6,5,5,0,1,2,3,4,5],[5,6])])
def impl_GetMan.B11 : List Nat := [0,1,0,4,12,31,63,127]
theorem impl_GetMan.tab11 : rtab .any (opsOf Try.f32 11) = impl_GetMan.T11 := by kernel_rfl
theorem impl_GetMan.bits11 : waitsOk impl_GetMan.T11.2 impl_GetMan.B11 = true := by kernel_rfl
set_option maxHeartbeats 8000000 in
set_option maxRecDepth 100000 in
theorem impl_GetMan.calls (k : Nat) (A0 : Option Addr) (c0 : Nat) (l0 : List Int) (a1 : Int) (r1 : Int) (r2 : Int) (r3 : Int) (r4 : List (S66)) (r5 : Int) (r6 : Bool) (w : World) (hr0 : Kd.C (Kd.int .u8) w A0 l0.length l0) (hc0 : l0.length ≤ c0) (h : impl_GetMan.f k l0 a1 = some (r1,r2,r3,r4,r5,r6)) :
  Calls Try.prog 32 #[.slice A0 l0.length c0,.int .i64 a1] w fun e w' => ∃ v3_ : Value,e = .returned (.tuple #[.agg #[.int .i64 r1,.int .i64 r2,.int .i64 r3,v3_],.int .i64 r5,.bool r6]) ∧ Kd.R k66 66 w' w.heap.size (fun _ => True) v3_ r4 ∧ Below w.heap.size w w' := by
 have hu31 := Try.underlying31
 have HR0 := Aside0.mk hr0
 have HC0 := Aside0.mk hc0
 clear hr0 hc0
 have HB := Aside0.mk (Below.refl w.heap.size w)
 have H : ((impl_readVars.f k l0 a1 3).bind fun bt189 => (if bt189.2.2 = true then (if 0 < (bt189.1.length : Int) then (if 1 < (bt189.1.length : Int) then (if 2 < (bt189.1.length : Int) then ((impl_Blocks.f (rd bt189.1 1) (rd bt189.1 2)).bind fun t198 => (impl_GetMan.l0 k l0 bt189.2.1 t198 0 (rd bt189.1 0) (rd bt189.1 1) (rd bt189.1 2) ([] : List (S66)))) else (none)) else (none)) else (none)) else (some (0,0,0,([] : List (S66)),0,false)))) = some (r1,r2,r3,r4,r5,r6) := h
 clear h
 replace H := Option.bind_eq_some_iff.mp H
 obtain ⟨⟨t189,t190,t191⟩,A30,H⟩ := H
 (try dsimp only at H)
 have A3 := Aside0.mk A30
 clear A30
 by_cases c4 : t191 = true
 ·subst c4
  rw [if_pos rfl] at H
  by_cases c5 : 0 < (t189.length : Int)
  ·rw [if_pos c5] at H
   have c5b0 : decide (0 < (t189.length : Int)) = true := decide_eq_true c5
   have c5b1 : decide (0 < t189.length) = true := decide_eq_true (by omega)
   clear c5
   by_cases c6 : 1 < (t189.length : Int)
   ·rw [if_pos c6] at H
    have c6b0 : decide (1 < (t189.length : Int)) = true := decide_eq_true c6
    have c6b1 : decide (1 < t189.length) = true := decide_eq_true (by omega)
    clear c6
    by_cases c7 : 2 < (t189.length : Int)
    ·rw [if_pos c7] at H
     have c7b0 : decide (2 < (t189.length : Int)) = true := decide_eq_true c7
     have c7b1 : decide (2 < t189.length) = true := decide_eq_true (by omega)
     clear c7
     replace H := Option.bind_eq_some_iff.mp H
     obtain ⟨t198,A80,H⟩ := H
     (try dsimp only at H)
     have A8 := Aside0.mk A80
     clear A80
     have H' := Aside0.mk H
     clear H
     go_enter Try.func32,Try.ntmps32
     try go_wp2_with (first | ((with_reducible refine gate_dst (N := 4) rfl ?_);refine box_event ?hg (N := 4) ?hd (cs := #[.int .i64 0,.int .i64 0,.int .i64 0,.slice none 0 0]) (t := 31) ?hr ?_;(case hd => rfl);(case hg => rfl);(case hr => first | (go_simp;done) | (go_simp;rfl));intro gb188 hg w9 hbox hb;have n0_ := Aside0.mk (below_step (B_up HB.out) hb);have n1_ := Aside0.mk (hbox);have n2_ := Aside0.mk ((by rw [hg];exact (below_size (B_up HB.out)) : w.heap.size ≤ gb188));have n3_ := Aside0.mk ((by rw [hg];exact (below_size (B_up HB.out)) : w.heap.size ≤ gb188));clear HB;have HB := n0_;have BK188 := n1_;have GW188 := n2_;have GE188 := n3_;clear n0_ n1_ n2_ n3_;clear hb hbox hg) | ((with_reducible refine gate_callee (f := 73) rfl ?_);refine goesL_ (some 18) rfl rfl Try.func73 (by kernel_rfl) rfl #[.slice A0 l0.length c0,.int .i64 a1,.int .i64 3] rfl eq_up ?_;(with_reducible refine (impl_readVars.calls k _ _ l0 a1 3 t189 t190 true _ ?side1 ?side2 A3.out).mono ?_);(case side1 => repeat (first | exact (Kd.C_below HR0.out HB.out) | (with_reducible refine Kd.C_alloc ?_ _) | (with_reducible refine Kd.C_drewN ?_ _) | (with_reducible refine Kd.C_drew ?_)));(case side2 => exact HC0.out);rintro e w10 ⟨v192,rfl,ho0,hb⟩;refine ⟨_,rfl,?_⟩;have n0_ := Aside0.mk (Kd.R_lower ho0 (below_size (B_set HB.out)));have n1_ := Aside0.mk (blk_below (g := gb188) (o := .cells #[.int .i64 0,.int .i64 0,.int .i64 0,.slice none 0 0] 31 (0,0)) (blk_up BK188.out) hb);have n2_ := Aside0.mk (below_step (B_set HB.out) hb);clear BK188;clear HB;have HO193 := n0_;have BK188 := n1_;have HB := n2_;clear n0_ n1_ n2_;(try clear hb);(try clear hb2);(try clear hk);(try clear hi);(try clear ho0)))
     have n0_ := Aside0.mk (Kd.R_drew HO193.out)
     have n1_ := Aside0.mk (blk_drew BK188.out)
     have n2_ := Aside0.mk (below_drew1 HB.out)
     clear HO193
     clear BK188
     clear HB
     have HO193 := n0_
     have BK188 := n1_
     have HB := n2_
     clear n0_ n1_ n2_
     obtain ⟨Ao12,co12,eo12⟩ := Kd.R_slice HO193.out
     (first | subst eo12 | (injection eo12 with f1_ f2_ f3_;have f4_ := f1_.symm;have f5_ := f3_.symm;clear f1_ f2_ f3_;subst f4_;subst f5_))
     have p194 : 0 ≤ (0 : Int) := (by omega)
     have q194 : 0 < (t189.length : Int) := of_decide_eq_true (by first | (with_reducible assumption) | assumption)
     obtain ⟨ad194,e194,hx194_0⟩ := Kd.at_int (Kd.R_reads' HO193.out).2.2 0 p194 q194
     cases e194
     have qi194 : (0 < t189.length) = True := eq_true (by omega)
     (try rw [show ((0 : Int)).toNat = 0 from rfl] at hx194_0)
     (try rw [Addr.add_zero'] at hx194_0)
     replace p194 := eq_true p194
     replace q194 := eq_true q194
     have p195 : 0 ≤ (1 : Int) := (by omega)
     have q195 : 1 < (t189.length : Int) := of_decide_eq_true (by first | (with_reducible assumption) | assumption)
     obtain ⟨ad195,e195,hx195_0⟩ := Kd.at_int (Kd.R_reads' HO193.out).2.2 1 p195 q195
     obtain rfl : ad194 = ad195 := (by injection e195)
     (try simp only [show (1 : Int).toNat = 1 from rfl,Nat.reduceMul,Nat.reduceEqDiff,Go.Addr.add,↓reduceIte] at hx195_0)
     have qi195 : (1 < t189.length) = True := eq_true (by omega)
     (try rw [show ((1 : Int)).toNat = 1 from rfl] at hx195_0)
     replace p195 := eq_true p195
     replace q195 := eq_true q195
     have p196 : 0 ≤ (2 : Int) := (by omega)
     have q196 : 2 < (t189.length : Int) := of_decide_eq_true (by first | (with_reducible assumption) | assumption)
     obtain ⟨ad196,e196,hx196_0⟩ := Kd.at_int (Kd.R_reads' HO193.out).2.2 2 p196 q196
     obtain rfl : ad194 = ad196 := (by injection e196)
     (try simp only [show (2 : Int).toNat = 2 from rfl,Nat.reduceMul,Nat.reduceEqDiff,Go.Addr.add,↓reduceIte] at hx196_0)
     have qi196 : (2 < t189.length) = True := eq_true (by omega)
     (try rw [show ((2 : Int)).toNat = 2 from rfl] at hx196_0)
     replace p196 := eq_true p196
     replace q196 := eq_true q196
     refine start_ (n := 12) (S := fun w' => w'.cell? ad194 = some (.int .i64 (rd t189 0)) ∧ w'.cell? ⟨ad194.block,ad194.off + 1,none⟩ = some (.int .i64 (rd t189 1)) ∧ w'.cell? ⟨ad194.block,ad194.off + 2,none⟩ = some (.int .i64 (rd t189 2))) (ds := []) #[false,false,false,false,false,false,false,false,false,false,false,false] (by kernel_rfl) rfl rfl ⟨hx194_0,hx195_0,hx196_0⟩ (fun hHeld => ?_);refine with_tabW impl_GetMan.tab4 impl_GetMan.bits4 (fun HT_ HW_ => ?_)
     generalize w10.drew = w11 at HO193 BK188 HB hx194_0 hx195_0 hx196_0 hHeld ⊢
     refine pure_ (i := 0) (N := some 25) (v := ?_) (a' := ?_) #[true,false,false,false,false,false,false,false,false,false,false,false] rfl rfl (any_of HT_.out (by kernel_rfl)) (fun _ _ _ h => h) (Or.inl ⟨by rfl,?_⟩) ?_ ?_
     rotate_left
     ·intro w'
      go_simp
      with_reducible rfl
     rotate_left
     ·simp only [Act.put,List.setIfInBounds_toArray,List.set_cons_zero,List.set_cons_succ,i64_w,i32_w]
      rfl
     refine pure_ (i := 1) (N := some 26) (v := ?_) (a' := ?_) #[true,true,false,false,false,false,false,false,false,false,false,false] rfl rfl (any_of HT_.out (by kernel_rfl)) (fun _ _ _ h => h) (Or.inl ⟨by rfl,?_⟩) ?_ ?_
     rotate_left
     ·intro w'
      go_simp
      with_reducible rfl
     rotate_left
     ·simp only [Act.put,List.setIfInBounds_toArray,List.set_cons_zero,List.set_cons_succ,i64_w,i32_w]
      rfl
     refine pure_ (i := 3) (N := some 28) (v := ?_) (a' := ?_) #[true,true,false,true,false,false,false,false,false,false,false,false] rfl rfl (any_of HT_.out (by kernel_rfl)) (fun _ _ _ h => h) (Or.inl ⟨by rfl,?_⟩) ?_ ?_
     rotate_left
     ·intro w'
      go_simp
      with_reducible rfl
     rotate_left
     ·simp only [Act.put,List.setIfInBounds_toArray,List.set_cons_zero,List.set_cons_succ,i64_w,i32_w]
      rfl
     refine pure_ (i := 4) (N := some 29) (v := ?_) (a' := ?_) #[true,true,false,true,true,false,false,false,false,false,false,false] rfl rfl (any_of HT_.out (by kernel_rfl)) (fun _ _ _ h => h) (Or.inl ⟨by rfl,?_⟩) ?_ ?_
     rotate_left
     ·intro w'
      go_simp
      with_reducible rfl
     rotate_left
     ·simp only [Act.put,List.setIfInBounds_toArray,List.set_cons_zero,List.set_cons_succ,i64_w,i32_w]
      rfl
     refine pure_ (i := 6) (N := some 31) (v := ?_) (a' := ?_) #[true,true,false,true,true,false,true,false,false,false,false,false] rfl rfl (any_of HT_.out (by kernel_rfl)) (fun _ _ _ h => h) (Or.inl ⟨by rfl,?_⟩) ?_ ?_
     rotate_left
     ·intro w'
      go_simp
      with_reducible rfl
     rotate_left
     ·simp only [Act.put,List.setIfInBounds_toArray,List.set_cons_zero,List.set_cons_succ,i64_w,i32_w]
      rfl
     refine pure_ (i := 7) (N := some 32) (v := ?_) (a' := ?_) #[true,true,false,true,true,false,true,true,false,false,false,false] rfl rfl (any_of HT_.out (by kernel_rfl)) (fun _ _ _ h => h) (Or.inl ⟨by rfl,?_⟩) ?_ ?_
     rotate_left
     ·intro w'
      go_simp
      with_reducible rfl
     rotate_left
     ·simp only [Act.put,List.setIfInBounds_toArray,List.set_cons_zero,List.set_cons_succ,i64_w,i32_w]
      rfl
     refine take_ (i := 2) (N := some 27) (v := ?_) (a' := ?_) #[true,true,true,true,true,false,true,true,false,false,false,false] rfl rfl (take_ofW HT_.out HW_.out (by kernel_rfl)) (fun _ _ _ h => h) (Or.inl ⟨by rfl,?_⟩) hHeld ?_ ?_
     rotate_left
     ·rintro w' ⟨s0,s1,s2⟩
      go_simp
      with_reducible rfl
     rotate_left
     ·simp only [Act.put,List.setIfInBounds_toArray,List.set_cons_zero,List.set_cons_succ,i64_w,i32_w]
      rfl
     refine take_ (i := 5) (N := some 30) (v := ?_) (a' := ?_) #[true,true,true,true,true,true,true,true,false,false,false,false] rfl rfl (take_ofW HT_.out HW_.out (by kernel_rfl)) (fun _ _ _ h => h) (Or.inl ⟨by rfl,?_⟩) hHeld ?_ ?_
     rotate_left
     ·rintro w' ⟨s0,s1,s2⟩
      go_simp
      with_reducible rfl
     rotate_left
     ·simp only [Act.put,List.setIfInBounds_toArray,List.set_cons_zero,List.set_cons_succ,i64_w,i32_w]
      rfl
     refine take_ (i := 8) (N := some 33) (v := ?_) (a' := ?_) #[true,true,true,true,true,true,true,true,true,false,false,false] rfl rfl (take_ofW HT_.out HW_.out (by kernel_rfl)) (fun _ _ _ h => h) (Or.inl ⟨by rfl,?_⟩) hHeld ?_ ?_
     rotate_left
     ·rintro w' ⟨s0,s1,s2⟩
      go_simp
      with_reducible rfl
     rotate_left
     ·simp only [Act.put,List.setIfInBounds_toArray,List.set_cons_zero,List.set_cons_succ,i64_w,i32_w]
      rfl
     refine pure_ (i := 9) (N := some 34) (v := ?_) (a' := ?_) #[true,true,true,true,true,true,true,true,true,true,false,false] rfl rfl (any_of HT_.out (by kernel_rfl)) (fun _ _ _ h => h) (Or.inl ⟨by rfl,?_⟩) ?_ ?_
     rotate_left
     ·intro w'
      go_simp
      with_reducible rfl
     rotate_left
     ·simp only [Act.put,List.setIfInBounds_toArray,List.set_cons_zero,List.set_cons_succ,i64_w,i32_w]
      rfl
     refine one_ (i := 10) (N := some 9) #[true,true,true,true,true,true,true,true,true,true,true,false] rfl rfl (one_of HT_.out (by kernel_rfl)) (by decide) (fun K hK => ?_)
     refine box_step ?hg (N := 9) ?hd (cs := #[.int .i64 0,.int .i64 0,.int .i64 0,.slice none 0 0]) (t := 31) ?hr ?_;(case hd => rfl);(case hg => rfl);(case hr => first | (go_simp;done) | (go_simp;rfl))
     intro gb197 hg w13 hbox hb
     have HS0_ := (hb.cell (World.block_lt_of_cell? _ _ (hHeld.1))).trans (hHeld.1)
     have HS1_ := (hb.cell (World.block_lt_of_cell? _ _ (hHeld.2.1))).trans (hHeld.2.1)
     have HS2_ := (hb.cell (World.block_lt_of_cell? _ _ (hHeld.2.2))).trans (hHeld.2.2)
     have n0_ := Aside0.mk (Kd.R_below (Kd.R_up HO193.out) hb)
     have n1_ := Aside0.mk (blk_below (g := gb188) (o := .cells #[.int .i64 0,.int .i64 0,.int .i64 0,.slice none 0 0] 31 (0,0)) (blk_up BK188.out) hb)
     have n2_ := Aside0.mk (below_step (B_set HB.out) hb)
     have n3_ := Aside0.mk (hbox)
     have n4_ := Aside0.mk ((by rw [hg];exact (below_size (B_set HB.out)) : w.heap.size ≤ gb197))
     have n5_ := Aside0.mk ((by rw [hg];exact (below_size (B_set HB.out)) : w.heap.size ≤ gb197))
     have n6_ := Aside0.mk ((by rw [hg];exact Nat.ne_of_lt (blk_lt (g := gb188) (o := .cells #[.int .i64 0,.int .i64 0,.int .i64 0,.slice none 0 0] 31 (0,0)) (blk_up BK188.out)) : gb188 ≠ gb197))
     have n7_ := Aside0.mk ((by rw [hg];exact Nat.ne_of_gt (blk_lt (g := gb188) (o := .cells #[.int .i64 0,.int .i64 0,.int .i64 0,.slice none 0 0] 31 (0,0)) (blk_up BK188.out)) : gb197 ≠ gb188))
     clear HO193
     clear BK188
     clear HB
     have HO193 := n0_
     have BK188 := n1_
     have HB := n2_
     have BK197 := n3_
     have GW197 := n4_
     have GE197 := n5_
     have NB188_197 := n6_
     have NB197_188 := n7_
     clear n0_ n1_ n2_ n3_ n4_ n5_ n6_ n7_
     clear hb hbox hg
     refine hK.out _ _ ⟨HS0_,HS1_,HS2_⟩ (fun hHeld => ?_)
     clear hK K
     refine norm_ (a' := ?_) ?_ ?_
     rotate_left
     ·show Act.put _ (some 9) _ = _
      simp only [Act.put,List.setIfInBounds_toArray,List.set_cons_zero,List.set_cons_succ,i64_w,i32_w]
      rfl
     refine one_ (i := 11) (N := none) #[true,true,true,true,true,true,true,true,true,true,true,true] rfl rfl (one_of HT_.out (by kernel_rfl)) (by decide) (fun K hK => ?_)
     have hs14 : w13.cell? ⟨gb197,0,none⟩ = some (.int .i64 0) := (blk_cell BK197.out 0).trans rfl
     have hfs14 := blk_frozen BK197.out 0
     have hns14_0 := NB188_197.out
     have hms14_0 := NB197_188.out
     have hs15 : w13.cell? ⟨gb197,1,none⟩ = some (.int .i64 0) := (blk_cell BK197.out 1).trans rfl
     have hfs15 := blk_frozen BK197.out 1
     have hns15_0 := NB188_197.out
     have hms15_0 := NB197_188.out
     have hs16 : w13.cell? ⟨gb197,2,none⟩ = some (.int .i64 0) := (blk_cell BK197.out 2).trans rfl
     have hfs16 := blk_frozen BK197.out 2
     have hns16_0 := NB188_197.out
     have hms16_0 := NB197_188.out
     have hs17 : w13.cell? ⟨gb197,3,none⟩ = some (.slice none 0 0) := (blk_cell BK197.out 3).trans rfl
     have hfs17 := blk_frozen BK197.out 3
     have hns17_0 := NB188_197.out
     have hms17_0 := NB197_188.out
     refine skip_ (w1 := ?_) (by rfl) rfl ?_ ?_
     rotate_left
     ·go_simp
      rfl
     refine hK.out _ _ ⟨((cell_far (p := ⟨gb197,_,none⟩) (by first | exact Kd.own_blk (Kd.R_ne HO193.out BK197.out (by decide)) | (rw [add_block];exact Kd.own_blk (Kd.R_ne HO193.out BK197.out (by decide))) | (show (Addr.add _ _).block ≠ _;rw [add_block];exact Kd.own_blk (Kd.R_ne HO193.out BK197.out (by decide))) | (dsimp only;exact Kd.own_blk (Kd.R_ne HO193.out BK197.out (by decide)))) _).trans (((cell_far (p := ⟨gb197,_,none⟩) (by first | exact Kd.own_blk (Kd.R_ne HO193.out BK197.out (by decide)) | (rw [add_block];exact Kd.own_blk (Kd.R_ne HO193.out BK197.out (by decide))) | (show (Addr.add _ _).block ≠ _;rw [add_block];exact Kd.own_blk (Kd.R_ne HO193.out BK197.out (by decide))) | (dsimp only;exact Kd.own_blk (Kd.R_ne HO193.out BK197.out (by decide)))) _).trans (((cell_far (p := ⟨gb197,_,none⟩) (by first | exact Kd.own_blk (Kd.R_ne HO193.out BK197.out (by decide)) | (rw [add_block];exact Kd.own_blk (Kd.R_ne HO193.out BK197.out (by decide))) | (show (Addr.add _ _).block ≠ _;rw [add_block];exact Kd.own_blk (Kd.R_ne HO193.out BK197.out (by decide))) | (dsimp only;exact Kd.own_blk (Kd.R_ne HO193.out BK197.out (by decide)))) _).trans (((cell_far (p := ⟨gb197,_,none⟩) (by first | exact Kd.own_blk (Kd.R_ne HO193.out BK197.out (by decide)) | (rw [add_block];exact Kd.own_blk (Kd.R_ne HO193.out BK197.out (by decide))) | (show (Addr.add _ _).block ≠ _;rw [add_block];exact Kd.own_blk (Kd.R_ne HO193.out BK197.out (by decide))) | (dsimp only;exact Kd.own_blk (Kd.R_ne HO193.out BK197.out (by decide)))) _).trans (hHeld.1)))))))),((cell_far (p := ⟨gb197,_,none⟩) (by first | exact Kd.own_blk (Kd.R_ne HO193.out BK197.out (by decide)) | (rw [add_block];exact Kd.own_blk (Kd.R_ne HO193.out BK197.out (by decide))) | (show (Addr.add _ _).block ≠ _;rw [add_block];exact Kd.own_blk (Kd.R_ne HO193.out BK197.out (by decide))) | (dsimp only;exact Kd.own_blk (Kd.R_ne HO193.out BK197.out (by decide)))) _).trans (((cell_far (p := ⟨gb197,_,none⟩) (by first | exact Kd.own_blk (Kd.R_ne HO193.out BK197.out (by decide)) | (rw [add_block];exact Kd.own_blk (Kd.R_ne HO193.out BK197.out (by decide))) | (show (Addr.add _ _).block ≠ _;rw [add_block];exact Kd.own_blk (Kd.R_ne HO193.out BK197.out (by decide))) | (dsimp only;exact Kd.own_blk (Kd.R_ne HO193.out BK197.out (by decide)))) _).trans (((cell_far (p := ⟨gb197,_,none⟩) (by first | exact Kd.own_blk (Kd.R_ne HO193.out BK197.out (by decide)) | (rw [add_block];exact Kd.own_blk (Kd.R_ne HO193.out BK197.out (by decide))) | (show (Addr.add _ _).block ≠ _;rw [add_block];exact Kd.own_blk (Kd.R_ne HO193.out BK197.out (by decide))) | (dsimp only;exact Kd.own_blk (Kd.R_ne HO193.out BK197.out (by decide)))) _).trans (((cell_far (p := ⟨gb197,_,none⟩) (by first | exact Kd.own_blk (Kd.R_ne HO193.out BK197.out (by decide)) | (rw [add_block];exact Kd.own_blk (Kd.R_ne HO193.out BK197.out (by decide))) | (show (Addr.add _ _).block ≠ _;rw [add_block];exact Kd.own_blk (Kd.R_ne HO193.out BK197.out (by decide))) | (dsimp only;exact Kd.own_blk (Kd.R_ne HO193.out BK197.out (by decide)))) _).trans (hHeld.2.1)))))))),((cell_far (p := ⟨gb197,_,none⟩) (by first | exact Kd.own_blk (Kd.R_ne HO193.out BK197.out (by decide)) | (rw [add_block];exact Kd.own_blk (Kd.R_ne HO193.out BK197.out (by decide))) | (show (Addr.add _ _).block ≠ _;rw [add_block];exact Kd.own_blk (Kd.R_ne HO193.out BK197.out (by decide))) | (dsimp only;exact Kd.own_blk (Kd.R_ne HO193.out BK197.out (by decide)))) _).trans (((cell_far (p := ⟨gb197,_,none⟩) (by first | exact Kd.own_blk (Kd.R_ne HO193.out BK197.out (by decide)) | (rw [add_block];exact Kd.own_blk (Kd.R_ne HO193.out BK197.out (by decide))) | (show (Addr.add _ _).block ≠ _;rw [add_block];exact Kd.own_blk (Kd.R_ne HO193.out BK197.out (by decide))) | (dsimp only;exact Kd.own_blk (Kd.R_ne HO193.out BK197.out (by decide)))) _).trans (((cell_far (p := ⟨gb197,_,none⟩) (by first | exact Kd.own_blk (Kd.R_ne HO193.out BK197.out (by decide)) | (rw [add_block];exact Kd.own_blk (Kd.R_ne HO193.out BK197.out (by decide))) | (show (Addr.add _ _).block ≠ _;rw [add_block];exact Kd.own_blk (Kd.R_ne HO193.out BK197.out (by decide))) | (dsimp only;exact Kd.own_blk (Kd.R_ne HO193.out BK197.out (by decide)))) _).trans (((cell_far (p := ⟨gb197,_,none⟩) (by first | exact Kd.own_blk (Kd.R_ne HO193.out BK197.out (by decide)) | (rw [add_block];exact Kd.own_blk (Kd.R_ne HO193.out BK197.out (by decide))) | (show (Addr.add _ _).block ≠ _;rw [add_block];exact Kd.own_blk (Kd.R_ne HO193.out BK197.out (by decide))) | (dsimp only;exact Kd.own_blk (Kd.R_ne HO193.out BK197.out (by decide)))) _).trans (hHeld.2.2))))))))⟩ (fun hHeld => ?_)
     clear hK K
     refine done_ (done_of HT_.out (by kernel_rfl)) ?_
     have hnb18 := NB197_188.out
     have hnc18 := NB188_197.out
     have hcz19_0 : w13.cell? ⟨gb197,0,none⟩ = some (.int .i64 0) := (blk_cell BK197.out 0).trans rfl
     have hcz19_1 : w13.cell? ⟨gb197,1,none⟩ = some (.int .i64 0) := (blk_cell BK197.out 1).trans rfl
     have hcz19_2 : w13.cell? ⟨gb197,2,none⟩ = some (.int .i64 0) := (blk_cell BK197.out 2).trans rfl
     have hcz19_3 : w13.cell? ⟨gb197,3,none⟩ = some (.slice none 0 0) := (blk_cell BK197.out 3).trans rfl
     have hfz19_0 := blk_frozen BK197.out 0
     have hfz19_1 := blk_frozen BK197.out 1
     have hfz19_2 := blk_frozen BK197.out 2
     have hfz19_3 := blk_frozen BK197.out 3
     try go_wp2_with (first | ((with_reducible refine gate_callee (f := 47) rfl ?_);refine goesL_ (some 39) rfl rfl Try.func47 (by kernel_rfl) rfl #[.int .i64 (rd t189 1),.int .i64 (rd t189 2)] rfl eq_up ?_;(with_reducible refine (impl_Blocks.calls (rd t189 1) (rd t189 2) t198 _ A8.out).mono ?_);rintro e w' ⟨rfl,⟨nd,rfl⟩⟩;refine ⟨_,rfl,?_⟩))
     go_loopg [1,40] k (fun kq v1 v40 w' => ∃ (x1_1 : Int) (x40_1 : Int) (x189000_1 : Int) (x189001_1 : Int) (x189002_1 : Int) (x198003_1 : List (S66)) (u198003 : Value),v1 = .int .i64 x1_1 ∧ v40 = .int .i64 x40_1 ∧ Aside0 (impl_GetMan.l0 kq l0 x1_1 t198 x40_1 (rd t189 0) (rd t189 1) (rd t189 2) x198003_1 = some (r1,r2,r3,r4,r5,r6)) ∧ Aside0 (kq ≤ k) ∧ Aside0 (Kd.R k66 66 w' w.heap.size (fun _ => True) u198003 x198003_1) ∧ Aside0 (w'.heap[gb188]? = some (.cells #[.int .i64 x189000_1,.int .i64 x189001_1,.int .i64 x189002_1,(.slice none 0 0)] 31 (0,0))) ∧ Aside0 (w'.heap[gb197]? = some (.cells #[.int .i64 (rd t189 0),.int .i64 (rd t189 1),.int .i64 (rd t189 2),u198003] 31 (0,0))) ∧ Aside0 (Below w.heap.size w w'))
     case atStart => exact ⟨(t190),(0),(0),(0),(0),(([] : List (S66))),(.slice none 0 0),(by first | rfl | (simp;done) | (simp [*];done)),(by first | rfl | (simp;done) | (simp [*];done)),H',⟨Nat.le_refl _⟩,⟨by first | exact Kd.R_nil _ _ _ _ _ | exact Kd.N_nil _ _ _ _ _ | exact Kd.V_nil _ _ _ _ _ | exact Kd.Q_nil _ _ _ _ _ | exact Kd.S_nil _ _ _ _ _⟩,⟨by (with_reducible repeat (first | refine blk_drewN ?_ _ | refine blk_drew ?_ | refine blk_alloc ?_ _));refine blk_far ?_ NB188_197.out _;(with_reducible repeat (first | refine blk_drewN ?_ _ | refine blk_drew ?_ | refine blk_alloc ?_ _));refine blk_far ?_ NB188_197.out _;(with_reducible repeat (first | refine blk_drewN ?_ _ | refine blk_drew ?_ | refine blk_alloc ?_ _));refine blk_far ?_ NB188_197.out _;(with_reducible repeat (first | refine blk_drewN ?_ _ | refine blk_drew ?_ | refine blk_alloc ?_ _));refine blk_far ?_ NB188_197.out _;(with_reducible repeat (first | refine blk_drewN ?_ _ | refine blk_drew ?_ | refine blk_alloc ?_ _));exact BK188.out⟩,⟨by (with_reducible repeat (first | refine blk_drewN ?_ _ | refine blk_drew ?_ | refine blk_alloc ?_ _));refine blk_put (cs := #[.int .i64 (rd t189 0),.int .i64 (rd t189 1),.int .i64 (rd t189 2),.slice none 0 0]) ?_ 3 _ rfl;(with_reducible repeat (first | refine blk_drewN ?_ _ | refine blk_drew ?_ | refine blk_alloc ?_ _));refine blk_put (cs := #[.int .i64 (rd t189 0),.int .i64 (rd t189 1),.int .i64 0,.slice none 0 0]) ?_ 2 _ rfl;(with_reducible repeat (first | refine blk_drewN ?_ _ | refine blk_drew ?_ | refine blk_alloc ?_ _));refine blk_put (cs := #[.int .i64 (rd t189 0),.int .i64 0,.int .i64 0,.slice none 0 0]) ?_ 1 _ rfl;(with_reducible repeat (first | refine blk_drewN ?_ _ | refine blk_drew ?_ | refine blk_alloc ?_ _));refine blk_put (cs := #[.int .i64 0,.int .i64 0,.int .i64 0,.slice none 0 0]) ?_ 0 _ rfl;(with_reducible repeat (first | refine blk_drewN ?_ _ | refine blk_drew ?_ | refine blk_alloc ?_ _));exact BK197.out⟩,⟨by repeat (first | (with_reducible first | exact HB.out | apply below_alloc | apply pw_below_drewN | apply below_drew1 | refine below_set ?_ GE188.out | refine below_set ?_ GE197.out) | exact HB.out)⟩⟩
     case round =>
      clear H'
      try clear c1
      try clear p1
      try clear q1
      try clear hx1
      try clear qi1
      try clear p2
      try clear c3
      try clear c4
      try clear c5
      try clear c5b0
      try clear c5b1
      try clear c6
      try clear c6b0
      try clear c6b1
      try clear c7
      try clear c7b0
      try clear c7b1
      try clear c18
      try clear p19
      try clear q19
      try clear hx19
      try clear qi19
      try clear hcz19_0
      try clear hcz19_1
      try clear hcz19_2
      try clear hcz19_3
      try clear hfz19_0
      try clear hfz19_1
      try clear hfz19_2
      try clear hfz19_3
      try clear hx194_0
      try clear hx195_0
      try clear hx196_0
      try clear p194
      try clear p195
      try clear p196
      try clear q194
      try clear q195
      try clear q196
      obtain ⟨x1_1,x40_1,x189000_1,x189001_1,x189002_1,x198003_1,u198003,rfl,rfl,HA,HK1,HO_198003,BK188,BK197,HB⟩ := hrel
      cases gk with
      | zero => exact absurd HA.out (by simp [impl_GetMan.l0])
      | succ k1 =>
       have H := HA.out
       clear HA
       simp only [impl_GetMan.l0] at H
       by_cases c20 : x40_1 < t198
       ·rw [if_pos c20] at H
        have c20b0 : decide (x40_1 < t198) = true := decide_eq_true c20
        clear c20
        replace H := Option.bind_eq_some_iff.mp H
        obtain ⟨⟨t200,t201,t202⟩,A210,H⟩ := H
        (try dsimp only at H)
        have A21 := Aside0.mk A210
        clear A210
        replace H := Option.bind_eq_some_iff.mp H
        obtain ⟨⟨t203,t204⟩,A220,H⟩ := H
        (try dsimp only at H)
        have A22 := Aside0.mk A220
        clear A220
        by_cases c23 : t202 = true
        ·subst c23
         rw [if_pos rfl] at H
         by_cases c24 : t204 = true
         ·subst c24
          rw [if_pos rfl] at H
          replace H := Option.bind_eq_some_iff.mp H
          obtain ⟨⟨t207,t208⟩,A250,H⟩ := H
          (try dsimp only at H)
          have A25 := Aside0.mk A250
          clear A250
          by_cases c26 : x198003_1.length < 8796093022208
          ·rw [if_pos c26] at H
           have LMc26 := Aside0.mk c26
           clear c26
           obtain ⟨y209,hy209⟩ : ∃ y_ : List (S66),y_ = (x198003_1 ++ [(⟨t207,t208⟩ : S66)]) := ⟨_,rfl⟩
           replace H : (impl_GetMan.l0 k1 l0 t201 t198 (wrap64 (x40_1 + 1)) (rd t189 0) (rd t189 1) (rd t189 2) y209) = some (r1,r2,r3,r4,r5,r6) := by first | (rw [hy209];with_reducible exact H) | (have H2_ := (Option.bind_some _ _).symm.trans H;rw [hy209];with_reducible exact H2_) | (have H2_ := (Option.bind_some _ _).symm.trans H;with_reducible exact H2_) | with_reducible exact H | (rw [hy209];exact H) | exact H
           have Ny209 := Aside0.mk hy209
           clear hy209
           have H' := Aside0.mk H
           clear H
           try go_wp2_with (first | ((with_reducible refine gate_callee (f := 74) rfl ?_);refine goesL_ (some 45) rfl rfl Try.func74 (by kernel_rfl) rfl #[.slice A0 l0.length c0,.int .i64 x1_1,.int .i64 8] rfl eq_up ?_;(with_reducible refine (impl_readVar.calls k1 _ _ l0 x1_1 8 t200 t201 true _ ?side1 ?side2 A21.out).mono ?_);(case side1 => repeat (first | exact (Kd.C_below HR0.out HB.out) | (with_reducible refine Kd.C_alloc ?_ _) | (with_reducible refine Kd.C_drewN ?_ _) | (with_reducible refine Kd.C_drew ?_)));(case side2 => exact HC0.out);rintro e w' ⟨rfl,⟨nd,rfl⟩⟩;refine ⟨_,rfl,?_⟩;(try (rw [drewN_self wr];generalize hq_ : World.drewN wr _ = wr;have n0_ : Aside0 (Kd.R k66 66 wr w.heap.size (fun _ => True) u198003 x198003_1) := ⟨by rw [← hq_];exact (Kd.R_up HO_198003.out)⟩;have n1_ : Aside0 (wr.heap[gb188]? = some (.cells #[.int .i64 x189000_1,.int .i64 x189001_1,.int .i64 x189002_1,.slice none 0 0] 31 (0,0))) := ⟨by rw [← hq_];exact (blk_up BK188.out)⟩;have n2_ : Aside0 (wr.heap[gb197]? = some (.cells #[.int .i64 (rd t189 0),.int .i64 (rd t189 1),.int .i64 (rd t189 2),u198003] 31 (0,0))) := ⟨by rw [← hq_];exact (blk_up BK197.out)⟩;have n3_ : Aside0 (Below w.heap.size w wr) := ⟨by rw [← hq_];exact (B_set HB.out)⟩;clear HO_198003 BK188 BK197 HB hq_;have HO_198003 := n0_;have BK188 := n1_;have BK197 := n2_;have HB := n3_;clear n0_ n1_ n2_ n3_))) | ((with_reducible refine gate_callee (f := 75) rfl ?_);refine goesL_ (some 51) rfl rfl Try.func75 (by kernel_rfl) rfl #[.int .i64 t200] rfl eq_up ?_;(with_reducible refine (impl_BytesOf.calls k1 t200 t203 true _ A22.out).mono ?_);rintro e w27 ⟨v205,rfl,ho0,hb⟩;refine ⟨_,rfl,?_⟩;have n0_ := Aside0.mk (Kd.R_below (Kd.R_up HO_198003.out) hb);have n1_ := Aside0.mk (Kd.R_lower ho0 (below_size (B_set HB.out)));have n2_ := Aside0.mk (blk_below (g := gb188) (o := .cells #[.int .i64 x189000_1,.int .i64 x189001_1,.int .i64 x189002_1,.slice none 0 0] 31 (0,0)) (blk_up BK188.out) hb);have n3_ := Aside0.mk (blk_below (g := gb197) (o := .cells #[.int .i64 (rd t189 0),.int .i64 (rd t189 1),.int .i64 (rd t189 2),u198003] 31 (0,0)) (blk_up BK197.out) hb);have n4_ := Aside0.mk (below_step (B_set HB.out) hb);clear HO_198003;clear BK188;clear BK197;clear HB;have HO_198003 := n0_;have HO206 := n1_;have BK188 := n2_;have BK197 := n3_;have HB := n4_;clear n0_ n1_ n2_ n3_ n4_;(try clear hb);(try clear hb2);(try clear hk);(try clear hi);(try clear ho0)))
           have n0_ := Aside0.mk (Kd.R_drew HO_198003.out)
           have n1_ := Aside0.mk (Kd.R_drew HO206.out)
           have n2_ := Aside0.mk (blk_drew BK188.out)
           have n3_ := Aside0.mk (blk_drew BK197.out)
           have n4_ := Aside0.mk (below_drew1 HB.out)
           clear HO_198003
           clear HO206
           clear BK188
           clear BK197
           clear HB
           have HO_198003 := n0_
           have HO206 := n1_
           have BK188 := n2_
           have BK197 := n3_
           have HB := n4_
           clear n0_ n1_ n2_ n3_ n4_
           obtain ⟨Ao29,co29,eo29⟩ := Kd.R_slice HO206.out
           (first | subst eo29 | (injection eo29 with f1_ f2_ f3_;have f4_ := f1_.symm;have f5_ := f3_.symm;clear f1_ f2_ f3_;subst f4_;subst f5_))
           refine start_ (n := 8) (S := fun w' => w'.cell? ⟨gb197,0,none⟩ = some (.int .i64 (rd t189 0)) ∧ w'.cell? ⟨gb197,1,none⟩ = some (.int .i64 (rd t189 1)) ∧ w'.cell? ⟨gb197,2,none⟩ = some (.int .i64 (rd t189 2)) ∧ w'.cell? ⟨gb197,3,none⟩ = some (u198003)) (ds := [7]) #[false,false,false,false,false,false,false,false] (by kernel_rfl) rfl rfl ⟨(blk_cell BK197.out 0).trans rfl,(blk_cell BK197.out 1).trans rfl,(blk_cell BK197.out 2).trans rfl,(blk_cell BK197.out 3).trans rfl⟩ (fun hHeld => ?_);refine with_tabW impl_GetMan.tab11 impl_GetMan.bits11 (fun HT_ HW_ => ?_)
           generalize w27.drew = w28 at HO_198003 HO206 BK188 BK197 HB hHeld ⊢
           refine pure_ (i := 0) (N := some 61) (v := ?_) (a' := ?_) #[true,false,false,false,false,false,false,false] rfl rfl (any_of HT_.out (by kernel_rfl)) (fun _ _ _ h => h) (Or.inl ⟨by rfl,?_⟩) ?_ ?_
           rotate_left
           ·intro w'
            go_simp
            with_reducible rfl
           rotate_left
           ·simp only [Act.put,List.setIfInBounds_toArray,List.set_cons_zero,List.set_cons_succ,i64_w,i32_w]
            rfl
           refine pure_ (i := 2) (N := some 63) (v := ?_) (a' := ?_) #[true,false,true,false,false,false,false,false] rfl rfl (any_of HT_.out (by kernel_rfl)) (fun _ _ _ h => h) (Or.inl ⟨by rfl,?_⟩) ?_ ?_
           rotate_left
           ·intro w'
            go_simp
            with_reducible rfl
           rotate_left
           ·simp only [Act.put,List.setIfInBounds_toArray,List.set_cons_zero,List.set_cons_succ,i64_w,i32_w]
            rfl
           refine take_ (i := 1) (N := some 62) (v := ?_) (a' := ?_) #[true,true,true,false,false,false,false,false] rfl rfl (take_ofW HT_.out HW_.out (by kernel_rfl)) (fun _ _ _ h => h) (Or.inl ⟨by rfl,?_⟩) hHeld ?_ ?_
           rotate_left
           ·rintro w' ⟨s0,s1,s2,s3⟩
            go_simp
            with_reducible rfl
           rotate_left
           ·simp only [Act.put,List.setIfInBounds_toArray,List.set_cons_zero,List.set_cons_succ,i64_w,i32_w]
            rfl
           refine one_ (i := 3) (N := some 64) #[true,true,true,true,false,false,false,false] rfl rfl (one_of HT_.out (by kernel_rfl)) (by decide) (fun K hK => ?_)
           refine goes_ Try.func76 (by kernel_rfl) rfl #[.slice Ao29 t203.length co29] (by rfl) rfl rfl eq_up ?_
           with_reducible refine (impl_SumOf.calls k1 _ _ t203 t207 t208 _ ?side1 ?side2 A25.out).mono ?_
           (case side1 => exact Kd.C_up (Kd.R_reads' HO206.out).2.2)
           (case side2 => exact (Kd.R_reads' HO206.out).2.1)
           rintro e w30 ⟨rfl,hb⟩
           refine ⟨_,rfl,?_⟩
           have n0_ := Aside0.mk (Kd.R_below (Kd.R_up HO_198003.out) hb)
           have n1_ := Aside0.mk (Kd.R_below (Kd.R_up HO206.out) hb)
           have n2_ := Aside0.mk (blk_below (g := gb188) (o := .cells #[.int .i64 x189000_1,.int .i64 x189001_1,.int .i64 x189002_1,.slice none 0 0] 31 (0,0)) (blk_up BK188.out) hb)
           have n3_ := Aside0.mk (blk_below (g := gb197) (o := .cells #[.int .i64 (rd t189 0),.int .i64 (rd t189 1),.int .i64 (rd t189 2),u198003] 31 (0,0)) (blk_up BK197.out) hb)
           have n4_ := Aside0.mk (below_step (B_set HB.out) hb)
           clear HO_198003
           clear HO206
           clear BK188
           clear BK197
           clear HB
           have HO_198003 := n0_
           have HO206 := n1_
           have BK188 := n2_
           have BK197 := n3_
           have HB := n4_
           clear n0_ n1_ n2_ n3_ n4_
           (try clear hb)
           (try clear hb2)
           (try clear hk)
           (try clear hi)
           refine hK.out _ _ ⟨(blk_cell BK197.out 0).trans rfl,(blk_cell BK197.out 1).trans rfl,(blk_cell BK197.out 2).trans rfl,(blk_cell BK197.out 3).trans rfl⟩ (fun hHeld => ?_)
           clear hK K
           refine norm_ (a' := ?_) ?_ ?_
           rotate_left
           ·show Act.put _ (some 64) _ = _
            simp only [Act.put,List.setIfInBounds_toArray,List.set_cons_zero,List.set_cons_succ,i64_w,i32_w]
            rfl
           refine one_ (i := 4) (N := some 65) #[true,true,true,true,true,false,false,false] rfl rfl (one_of HT_.out (by kernel_rfl)) (by decide) (fun K hK => ?_)
           refine value_ (w1 := ?_) (v := ?_) (by rfl) rfl ?_ ?_
           rotate_left 2
           ·go_simp
            constructor
            ·rfl
            ·rfl
           refine hK.out _ _ ⟨(blk_cell (blk_alloc BK197.out _) 0).trans rfl,(blk_cell (blk_alloc BK197.out _) 1).trans rfl,(blk_cell (blk_alloc BK197.out _) 2).trans rfl,(blk_cell (blk_alloc BK197.out _) 3).trans rfl⟩ (fun hHeld => ?_)
           clear hK K
           refine norm_ (a' := ?_) ?_ ?_
           rotate_left
           ·show Act.put _ (some 65) _ = _
            simp only [Act.put,List.setIfInBounds_toArray,List.set_cons_zero,List.set_cons_succ,i64_w,i32_w]
            rfl
           refine one_ (i := 5) (N := some 66) #[true,true,true,true,true,true,false,false] rfl rfl (one_of HT_.out (by kernel_rfl)) (by decide) (fun K hK => ?_)
           refine Kd.R_append_step k66 (w0 := w) w.heap.size (by rfl) (.tmp 62) (.tmp 65) 29 66 (.agg #[(.int .i64 0),(.int .i64 0)]) 16 rfl Try.underlying29 info66 rfl (by decide) (by omega) u198003 x198003_1 (⟨t207,t208⟩ : S66) [.int .i64 t207,.int .i64 t208] (fun _ => True) (fun _ => False) rfl rfl ?aP (fun _ hk => hk.elim) ?aF ?aO ?aB ?aS ?aL ?_
           (case aP => exact k66_mkM _ _ _ (⟨t207,t208⟩ : S66))
           (case aB => exact (B_set HB.out))
           (case aF => exact (fun _ _ => trivial))
           (case aO => exact (Kd.R_up HO_198003.out))
           (case aS => exact (below_size (B_set HB.out)))
           (case aL => have := LMc26.out;omega)
           intro v210 w31 ho hb hg hat
           rw [← Ny209.out] at ho
           have n0_ := Aside0.mk (blk_grown (g := gb188) (o := .cells #[.int .i64 x189000_1,.int .i64 x189001_1,.int .i64 x189002_1,.slice none 0 0] 31 (0,0)) (blk_up BK188.out) hg (Kd.R_ne HO_198003.out BK188.out (by decide)))
           have n1_ := Aside0.mk (blk_grown (g := gb197) (o := .cells #[.int .i64 (rd t189 0),.int .i64 (rd t189 1),.int .i64 (rd t189 2),u198003] 31 (0,0)) (blk_up BK197.out) hg (Kd.R_ne HO_198003.out BK197.out (by decide)))
           have n2_ := Aside0.mk (Kd.R_over' (Kd.R_up HO206.out) (Kd.R_typed (Kd.R_up HO_198003.out)) (by decide) hg)
           have n3_ := Aside0.mk (hb)
           have n4_ := Aside0.mk (ho)
           clear BK188
           clear BK197
           clear HO206
           clear HB
           clear HO_198003
           have BK188 := n0_
           have BK197 := n1_
           have HO206 := n2_
           have HB := n3_
           have HO211 := n4_
           clear n0_ n1_ n2_ n3_ n4_
           clear ho hb hg hat
           obtain ⟨Ao32,co32,eo32⟩ := Kd.R_slice HO211.out
           (first | subst eo32 | (injection eo32 with f1_ f2_ f3_;have f4_ := f1_.symm;have f5_ := f3_.symm;clear f1_ f2_ f3_;subst f4_;subst f5_))
           refine hK.out _ _ ⟨(blk_cell BK197.out 0).trans rfl,(blk_cell BK197.out 1).trans rfl,(blk_cell BK197.out 2).trans rfl,(blk_cell BK197.out 3).trans rfl⟩ (fun hHeld => ?_)
           clear hK K
           refine norm_ (a' := ?_) ?_ ?_
           rotate_left
           ·show Act.put _ (some 66) _ = _
            simp only [Act.put,List.setIfInBounds_toArray,List.set_cons_zero,List.set_cons_succ,i64_w,i32_w]
            rfl
           refine pure_ (i := 6) (N := some 67) (v := ?_) (a' := ?_) #[true,true,true,true,true,true,true,false] rfl rfl (any_of HT_.out (by kernel_rfl)) (fun _ _ _ h => h) (Or.inl ⟨by rfl,?_⟩) ?_ ?_
           rotate_left
           ·intro w'
            go_simp
            with_reducible rfl
           rotate_left
           ·simp only [Act.put,List.setIfInBounds_toArray,List.set_cons_zero,List.set_cons_succ,i64_w,i32_w]
            rfl
           refine last_ (i := 7) (N := none) #[true,true,true,true,true,true,true,true] rfl rfl (one_of HT_.out (by kernel_rfl)) (by decide) (fun K hK => ?_)
           have hs33 : w31.cell? ⟨gb197,3,none⟩ = some (u198003) := (blk_cell BK197.out 3).trans rfl
           have hfs33 := blk_frozen BK197.out 3
           have hns33_0 := NB188_197.out
           have hms33_0 := NB197_188.out
           refine skip_ (w1 := ?_) (by rfl) rfl ?_ ?_
           rotate_left
           ·go_simp
            rfl
           refine hK.out _ _ ?_
           clear hK K
           refine done_ (done_of HT_.out (by kernel_rfl)) ?_
           try go_wp2
           go_roundg k1
           case measure => have := HK1.out;omega
           case rel => exact ⟨(t201),(wrap64 (x40_1 + 1)),(x189000_1),(x189001_1),(x189002_1),(y209),(.slice Ao32 y209.length co32),(by first | rfl | (simp;done) | (simp [*];done)),(by first | rfl | (simp;done) | (simp [*];done)),H',⟨by have := HK1.out;omega⟩,⟨by (with_reducible repeat (first | apply Kd.R_alloc | apply Kd.R_drewN | apply Kd.R_drew));exact Kd.R_mono (Kd.R_far (p := ⟨gb197,3,none⟩) (Kd.R_types HO211.out BK197.out (by decide)) (fun _ hk => hk.2) (.slice Ao32 y209.length co32)) (fun _ hk => trivial)⟩,⟨by (with_reducible repeat (first | refine blk_drewN ?_ _ | refine blk_drew ?_ | refine blk_alloc ?_ _));refine blk_far ?_ NB188_197.out _;(with_reducible repeat (first | refine blk_drewN ?_ _ | refine blk_drew ?_ | refine blk_alloc ?_ _));exact BK188.out⟩,⟨by (with_reducible repeat (first | refine blk_drewN ?_ _ | refine blk_drew ?_ | refine blk_alloc ?_ _));refine blk_put (cs := #[.int .i64 (rd t189 0),.int .i64 (rd t189 1),.int .i64 (rd t189 2),u198003]) ?_ 3 _ rfl;(with_reducible repeat (first | refine blk_drewN ?_ _ | refine blk_drew ?_ | refine blk_alloc ?_ _));exact BK197.out⟩,⟨by repeat (first | (with_reducible first | exact HB.out | apply below_alloc | apply pw_below_drewN | apply below_drew1 | refine below_set ?_ GE188.out | refine below_set ?_ GE197.out) | exact HB.out)⟩⟩
          ·rw [if_neg c26] at H
           exact absurd H (by simp)
         ·replace c24 := Bool.eq_false_iff.mpr c24
          subst c24
          have H1 : (some (0,0,0,([] : List (S66)),0,false)) = some (r1,r2,r3,r4,r5,r6) := by rw [if_neg (show ¬ (false = true) by decide)] at H;exact H
          clear H
          have H := H1
          clear H1
          simp only [Option.some.injEq,Prod.mk.injEq] at H
          obtain ⟨rfl,rfl,rfl,rfl,rfl,rfl⟩ := H
          go_wp2_with (first | ((with_reducible refine gate_callee (f := 74) rfl ?_);refine goesL_ (some 45) rfl rfl Try.func74 (by kernel_rfl) rfl #[.slice A0 l0.length c0,.int .i64 x1_1,.int .i64 8] rfl eq_up ?_;(with_reducible refine (impl_readVar.calls k1 _ _ l0 x1_1 8 t200 t201 true _ ?side1 ?side2 A21.out).mono ?_);(case side1 => repeat (first | exact (Kd.C_below HR0.out HB.out) | (with_reducible refine Kd.C_alloc ?_ _) | (with_reducible refine Kd.C_drewN ?_ _) | (with_reducible refine Kd.C_drew ?_)));(case side2 => exact HC0.out);rintro e w' ⟨rfl,⟨nd,rfl⟩⟩;refine ⟨_,rfl,?_⟩;(try (rw [drewN_self wr];generalize hq_ : World.drewN wr _ = wr;have n0_ : Aside0 (Kd.R k66 66 wr w.heap.size (fun _ => True) u198003 x198003_1) := ⟨by rw [← hq_];exact (Kd.R_up HO_198003.out)⟩;have n1_ : Aside0 (wr.heap[gb188]? = some (.cells #[.int .i64 x189000_1,.int .i64 x189001_1,.int .i64 x189002_1,.slice none 0 0] 31 (0,0))) := ⟨by rw [← hq_];exact (blk_up BK188.out)⟩;have n2_ : Aside0 (wr.heap[gb197]? = some (.cells #[.int .i64 (rd t189 0),.int .i64 (rd t189 1),.int .i64 (rd t189 2),u198003] 31 (0,0))) := ⟨by rw [← hq_];exact (blk_up BK197.out)⟩;have n3_ : Aside0 (Below w.heap.size w wr) := ⟨by rw [← hq_];exact (B_set HB.out)⟩;clear HO_198003 BK188 BK197 HB hq_;have HO_198003 := n0_;have BK188 := n1_;have BK197 := n2_;have HB := n3_;clear n0_ n1_ n2_ n3_))) | ((with_reducible refine gate_callee (f := 75) rfl ?_);refine goesL_ (some 51) rfl rfl Try.func75 (by kernel_rfl) rfl #[.int .i64 t200] rfl eq_up ?_;(with_reducible refine (impl_BytesOf.calls k1 t200 t203 false _ A22.out).mono ?_);rintro e w34 ⟨v205,rfl,ho0,hb⟩;refine ⟨_,rfl,?_⟩;have n0_ := Aside0.mk (Kd.R_below (Kd.R_up HO_198003.out) hb);have n1_ := Aside0.mk (Kd.R_lower ho0 (below_size (B_set HB.out)));have n2_ := Aside0.mk (blk_below (g := gb188) (o := .cells #[.int .i64 x189000_1,.int .i64 x189001_1,.int .i64 x189002_1,.slice none 0 0] 31 (0,0)) (blk_up BK188.out) hb);have n3_ := Aside0.mk (blk_below (g := gb197) (o := .cells #[.int .i64 (rd t189 0),.int .i64 (rd t189 1),.int .i64 (rd t189 2),u198003] 31 (0,0)) (blk_up BK197.out) hb);have n4_ := Aside0.mk (below_step (B_set HB.out) hb);clear HO_198003;clear BK188;clear BK197;clear HB;have HO_198003 := n0_;have HO206 := n1_;have BK188 := n2_;have BK197 := n3_;have HB := n4_;clear n0_ n1_ n2_ n3_ n4_;(try clear hb);(try clear hb2);(try clear hk);(try clear hi);(try clear ho0);have hnb35 := NB188_197.out;have hnc35 := NB197_188.out;have hcz36_0 : w34.cell? ⟨gb188,0,none⟩ = some (.int .i64 x189000_1) := (blk_cell BK188.out 0).trans rfl;have hcz36_1 : w34.cell? ⟨gb188,1,none⟩ = some (.int .i64 x189001_1) := (blk_cell BK188.out 1).trans rfl;have hcz36_2 : w34.cell? ⟨gb188,2,none⟩ = some (.int .i64 x189002_1) := (blk_cell BK188.out 2).trans rfl;have hcz36_3 : w34.cell? ⟨gb188,3,none⟩ = some (.slice none 0 0) := (blk_cell BK188.out 3).trans rfl;have hfz36_0 := blk_frozen BK188.out 0;have hfz36_1 := blk_frozen BK188.out 1;have hfz36_2 := blk_frozen BK188.out 2;have hfz36_3 := blk_frozen BK188.out 3))
          refine bodyPost_ret (results_ctt rfl _ _ gb188 31 #[.int .i64 0,.int .i64 0,.int .i64 0,.slice none 0 0] (0,0) _ rfl (by (with_reducible repeat (first | refine blk_drewN ?_ _ | refine blk_drew ?_ | refine blk_alloc ?_ _));refine blk_put (cs := #[.int .i64 0,.int .i64 0,.int .i64 0,.slice none 0 0]) ?_ 3 _ rfl;(with_reducible repeat (first | refine blk_drewN ?_ _ | refine blk_drew ?_ | refine blk_alloc ?_ _));refine blk_put (cs := #[.int .i64 0,.int .i64 0,.int .i64 x189002_1,.slice none 0 0]) ?_ 2 _ rfl;(with_reducible repeat (first | refine blk_drewN ?_ _ | refine blk_drew ?_ | refine blk_alloc ?_ _));refine blk_put (cs := #[.int .i64 0,.int .i64 x189001_1,.int .i64 x189002_1,.slice none 0 0]) ?_ 1 _ rfl;(with_reducible repeat (first | refine blk_drewN ?_ _ | refine blk_drew ?_ | refine blk_alloc ?_ _));refine blk_put (cs := #[.int .i64 x189000_1,.int .i64 x189001_1,.int .i64 x189002_1,.slice none 0 0]) ?_ 0 _ rfl;(with_reducible repeat (first | refine blk_drewN ?_ _ | refine blk_drew ?_ | refine blk_alloc ?_ _));exact BK188.out) Try.underlying31 rfl (by kernel_rfl)) rfl ?_
          exact ⟨_,by first | rfl | (simp [errW_none,errW_some] <;> rfl) | (simp [*,errW_none,errW_some] <;> rfl),by first | exact Kd.R_nil _ _ _ _ _ | exact Kd.N_nil _ _ _ _ _ | exact Kd.V_nil _ _ _ _ _ | exact Kd.Q_nil _ _ _ _ _ | exact Kd.S_nil _ _ _ _ _,by repeat (first | (with_reducible first | exact HB.out | apply below_alloc | apply pw_below_drewN | apply below_drew1 | refine below_set ?_ GE188.out | refine below_set ?_ GE197.out) | exact HB.out)⟩
        ·replace c23 := Bool.eq_false_iff.mpr c23
         subst c23
         have H1 : (some (0,0,0,([] : List (S66)),0,false)) = some (r1,r2,r3,r4,r5,r6) := by rw [if_neg (show ¬ (false = true) by decide)] at H;exact H
         clear H
         have H := H1
         clear H1
         simp only [Option.some.injEq,Prod.mk.injEq] at H
         obtain ⟨rfl,rfl,rfl,rfl,rfl,rfl⟩ := H
         go_wp2_with (first | ((with_reducible refine gate_callee (f := 74) rfl ?_);refine goesL_ (some 45) rfl rfl Try.func74 (by kernel_rfl) rfl #[.slice A0 l0.length c0,.int .i64 x1_1,.int .i64 8] rfl eq_up ?_;(with_reducible refine (impl_readVar.calls k1 _ _ l0 x1_1 8 t200 t201 false _ ?side1 ?side2 A21.out).mono ?_);(case side1 => repeat (first | exact (Kd.C_below HR0.out HB.out) | (with_reducible refine Kd.C_alloc ?_ _) | (with_reducible refine Kd.C_drewN ?_ _) | (with_reducible refine Kd.C_drew ?_)));(case side2 => exact HC0.out);rintro e w' ⟨rfl,⟨nd,rfl⟩⟩;refine ⟨_,rfl,?_⟩;(try (rw [drewN_self wr];generalize hq_ : World.drewN wr _ = wr;have n0_ : Aside0 (Kd.R k66 66 wr w.heap.size (fun _ => True) u198003 x198003_1) := ⟨by rw [← hq_];exact (Kd.R_up HO_198003.out)⟩;have n1_ : Aside0 (wr.heap[gb188]? = some (.cells #[.int .i64 x189000_1,.int .i64 x189001_1,.int .i64 x189002_1,.slice none 0 0] 31 (0,0))) := ⟨by rw [← hq_];exact (blk_up BK188.out)⟩;have n2_ : Aside0 (wr.heap[gb197]? = some (.cells #[.int .i64 (rd t189 0),.int .i64 (rd t189 1),.int .i64 (rd t189 2),u198003] 31 (0,0))) := ⟨by rw [← hq_];exact (blk_up BK197.out)⟩;have n3_ : Aside0 (Below w.heap.size w wr) := ⟨by rw [← hq_];exact (B_set HB.out)⟩;clear HO_198003 BK188 BK197 HB hq_;have HO_198003 := n0_;have BK188 := n1_;have BK197 := n2_;have HB := n3_;clear n0_ n1_ n2_ n3_))) | ((with_reducible refine gate_callee (f := 75) rfl ?_);refine goesL_ (some 51) rfl rfl Try.func75 (by kernel_rfl) rfl #[.int .i64 t200] rfl eq_up ?_;(with_reducible refine (impl_BytesOf.calls k1 t200 t203 t204 _ A22.out).mono ?_);rintro e w37 ⟨v205,rfl,ho0,hb⟩;refine ⟨_,rfl,?_⟩;have n0_ := Aside0.mk (Kd.R_below (Kd.R_up HO_198003.out) hb);have n1_ := Aside0.mk (Kd.R_lower ho0 (below_size (B_set HB.out)));have n2_ := Aside0.mk (blk_below (g := gb188) (o := .cells #[.int .i64 x189000_1,.int .i64 x189001_1,.int .i64 x189002_1,.slice none 0 0] 31 (0,0)) (blk_up BK188.out) hb);have n3_ := Aside0.mk (blk_below (g := gb197) (o := .cells #[.int .i64 (rd t189 0),.int .i64 (rd t189 1),.int .i64 (rd t189 2),u198003] 31 (0,0)) (blk_up BK197.out) hb);have n4_ := Aside0.mk (below_step (B_set HB.out) hb);clear HO_198003;clear BK188;clear BK197;clear HB;have HO_198003 := n0_;have HO206 := n1_;have BK188 := n2_;have BK197 := n3_;have HB := n4_;clear n0_ n1_ n2_ n3_ n4_;(try clear hb);(try clear hb2);(try clear hk);(try clear hi);(try clear ho0);have hnb38 := NB188_197.out;have hnc38 := NB197_188.out;have hcz39_0 : w37.cell? ⟨gb188,0,none⟩ = some (.int .i64 x189000_1) := (blk_cell BK188.out 0).trans rfl;have hcz39_1 : w37.cell? ⟨gb188,1,none⟩ = some (.int .i64 x189001_1) := (blk_cell BK188.out 1).trans rfl;have hcz39_2 : w37.cell? ⟨gb188,2,none⟩ = some (.int .i64 x189002_1) := (blk_cell BK188.out 2).trans rfl;have hcz39_3 : w37.cell? ⟨gb188,3,none⟩ = some (.slice none 0 0) := (blk_cell BK188.out 3).trans rfl;have hfz39_0 := blk_frozen BK188.out 0;have hfz39_1 := blk_frozen BK188.out 1;have hfz39_2 := blk_frozen BK188.out 2;have hfz39_3 := blk_frozen BK188.out 3))
         refine bodyPost_ret (results_ctt rfl _ _ gb188 31 #[.int .i64 0,.int .i64 0,.int .i64 0,.slice none 0 0] (0,0) _ rfl (by (with_reducible repeat (first | refine blk_drewN ?_ _ | refine blk_drew ?_ | refine blk_alloc ?_ _));refine blk_put (cs := #[.int .i64 0,.int .i64 0,.int .i64 0,.slice none 0 0]) ?_ 3 _ rfl;(with_reducible repeat (first | refine blk_drewN ?_ _ | refine blk_drew ?_ | refine blk_alloc ?_ _));refine blk_put (cs := #[.int .i64 0,.int .i64 0,.int .i64 x189002_1,.slice none 0 0]) ?_ 2 _ rfl;(with_reducible repeat (first | refine blk_drewN ?_ _ | refine blk_drew ?_ | refine blk_alloc ?_ _));refine blk_put (cs := #[.int .i64 0,.int .i64 x189001_1,.int .i64 x189002_1,.slice none 0 0]) ?_ 1 _ rfl;(with_reducible repeat (first | refine blk_drewN ?_ _ | refine blk_drew ?_ | refine blk_alloc ?_ _));refine blk_put (cs := #[.int .i64 x189000_1,.int .i64 x189001_1,.int .i64 x189002_1,.slice none 0 0]) ?_ 0 _ rfl;(with_reducible repeat (first | refine blk_drewN ?_ _ | refine blk_drew ?_ | refine blk_alloc ?_ _));exact BK188.out) Try.underlying31 rfl (by kernel_rfl)) rfl ?_
         exact ⟨_,by first | rfl | (simp [errW_none,errW_some] <;> rfl) | (simp [*,errW_none,errW_some] <;> rfl),by first | exact Kd.R_nil _ _ _ _ _ | exact Kd.N_nil _ _ _ _ _ | exact Kd.V_nil _ _ _ _ _ | exact Kd.Q_nil _ _ _ _ _ | exact Kd.S_nil _ _ _ _ _,by repeat (first | (with_reducible first | exact HB.out | apply below_alloc | apply pw_below_drewN | apply below_drew1 | refine below_set ?_ GE188.out | refine below_set ?_ GE197.out) | exact HB.out)⟩
       ·rw [if_neg c20] at H
        have c20b0 : decide (x40_1 < t198) = false := decide_eq_false c20
        clear c20
        replace H := Option.bind_eq_some_iff.mp H
        obtain ⟨t199,A400,H⟩ := H
        (try dsimp only at H)
        have A40 := Aside0.mk A400
        clear A400
        by_cases c41 : t199 = true
        ·subst c41
         rw [if_pos rfl] at H
         simp only [Option.some.injEq,Prod.mk.injEq] at H
         obtain ⟨rfl,rfl,rfl,rfl,rfl,rfl⟩ := H
         have hnb42 := NB197_188.out
         have hnc42 := NB188_197.out
         have hcz43_0 : wr.cell? ⟨gb197,0,none⟩ = some (.int .i64 (rd t189 0)) := (blk_cell BK197.out 0).trans rfl
         have hcz43_1 : wr.cell? ⟨gb197,1,none⟩ = some (.int .i64 (rd t189 1)) := (blk_cell BK197.out 1).trans rfl
         have hcz43_2 : wr.cell? ⟨gb197,2,none⟩ = some (.int .i64 (rd t189 2)) := (blk_cell BK197.out 2).trans rfl
         have hcz43_3 : wr.cell? ⟨gb197,3,none⟩ = some (u198003) := (blk_cell BK197.out 3).trans rfl
         have hfz43_0 := blk_frozen BK197.out 0
         have hfz43_1 := blk_frozen BK197.out 1
         have hfz43_2 := blk_frozen BK197.out 2
         have hfz43_3 := blk_frozen BK197.out 3
         obtain ⟨Ao44,co44,eo44⟩ := Kd.R_slice HO_198003.out
         subst eo44
         go_wp2_with (first | ((with_reducible refine gate_callee (f := 43) rfl ?_);refine goesL_ (some 71) rfl rfl Try.func43 (by kernel_rfl) rfl #[.agg #[.int .i64 (rd t189 0),.int .i64 (rd t189 1),.int .i64 (rd t189 2),.slice Ao44 x198003_1.length co44]] rfl eq_up ?_;(with_reducible refine (impl_ManOk.calls k1 (rd t189 0) (rd t189 1) (rd t189 2) _ _ x198003_1 true _ ?side1 ?side2 A40.out).mono ?_);(case side1 => exact Kd.C_up (Kd.R_reads' HO_198003.out).2.2);(case side2 => exact (Kd.R_reads' HO_198003.out).2.1);rintro e w45 ⟨rfl,hb⟩;refine ⟨_,rfl,?_⟩;have n0_ := Aside0.mk (Kd.R_below (Kd.R_up HO_198003.out) hb);have n1_ := Aside0.mk (blk_below (g := gb188) (o := .cells #[.int .i64 x189000_1,.int .i64 x189001_1,.int .i64 x189002_1,.slice none 0 0] 31 (0,0)) (blk_up BK188.out) hb);have n2_ := Aside0.mk (blk_below (g := gb197) (o := .cells #[.int .i64 (rd t189 0),.int .i64 (rd t189 1),.int .i64 (rd t189 2),.slice Ao44 x198003_1.length co44] 31 (0,0)) (blk_up BK197.out) hb);have n3_ := Aside0.mk (below_step (B_set HB.out) hb);clear HO_198003;clear BK188;clear BK197;clear HB;have HO_198003 := n0_;have BK188 := n1_;have BK197 := n2_;have HB := n3_;clear n0_ n1_ n2_ n3_;(try clear hb);(try clear hb2);(try clear hk);(try clear hi);have hcz46_0 : w45.cell? ⟨gb197,0,none⟩ = some (.int .i64 (rd t189 0)) := (blk_cell BK197.out 0).trans rfl;have hcz46_1 : w45.cell? ⟨gb197,1,none⟩ = some (.int .i64 (rd t189 1)) := (blk_cell BK197.out 1).trans rfl;have hcz46_2 : w45.cell? ⟨gb197,2,none⟩ = some (.int .i64 (rd t189 2)) := (blk_cell BK197.out 2).trans rfl;have hcz46_3 : w45.cell? ⟨gb197,3,none⟩ = some (.slice Ao44 x198003_1.length co44) := (blk_cell BK197.out 3).trans rfl;have hfz46_0 := blk_frozen BK197.out 0;have hfz46_1 := blk_frozen BK197.out 1;have hfz46_2 := blk_frozen BK197.out 2;have hfz46_3 := blk_frozen BK197.out 3;have hcz47_0 : w45.cell? ⟨gb188,0,none⟩ = some (.int .i64 x189000_1) := (blk_cell BK188.out 0).trans rfl;have hcz47_1 : w45.cell? ⟨gb188,1,none⟩ = some (.int .i64 x189001_1) := (blk_cell BK188.out 1).trans rfl;have hcz47_2 : w45.cell? ⟨gb188,2,none⟩ = some (.int .i64 x189002_1) := (blk_cell BK188.out 2).trans rfl;have hcz47_3 : w45.cell? ⟨gb188,3,none⟩ = some (.slice none 0 0) := (blk_cell BK188.out 3).trans rfl;have hfz47_0 := blk_frozen BK188.out 0;have hfz47_1 := blk_frozen BK188.out 1;have hfz47_2 := blk_frozen BK188.out 2;have hfz47_3 := blk_frozen BK188.out 3))
         refine bodyPost_ret (results_ctt rfl _ _ gb188 31 #[.int .i64 (rd t189 0),.int .i64 (rd t189 1),.int .i64 (rd t189 2),.slice Ao44 x198003_1.length co44] (0,0) _ rfl (by (with_reducible repeat (first | refine blk_drewN ?_ _ | refine blk_drew ?_ | refine blk_alloc ?_ _));refine blk_put (cs := #[.int .i64 (rd t189 0),.int .i64 (rd t189 1),.int .i64 (rd t189 2),.slice none 0 0]) ?_ 3 _ rfl;(with_reducible repeat (first | refine blk_drewN ?_ _ | refine blk_drew ?_ | refine blk_alloc ?_ _));refine blk_put (cs := #[.int .i64 (rd t189 0),.int .i64 (rd t189 1),.int .i64 x189002_1,.slice none 0 0]) ?_ 2 _ rfl;(with_reducible repeat (first | refine blk_drewN ?_ _ | refine blk_drew ?_ | refine blk_alloc ?_ _));refine blk_put (cs := #[.int .i64 (rd t189 0),.int .i64 x189001_1,.int .i64 x189002_1,.slice none 0 0]) ?_ 1 _ rfl;(with_reducible repeat (first | refine blk_drewN ?_ _ | refine blk_drew ?_ | refine blk_alloc ?_ _));refine blk_put (cs := #[.int .i64 x189000_1,.int .i64 x189001_1,.int .i64 x189002_1,.slice none 0 0]) ?_ 0 _ rfl;(with_reducible repeat (first | refine blk_drewN ?_ _ | refine blk_drew ?_ | refine blk_alloc ?_ _));exact BK188.out) Try.underlying31 rfl (by kernel_rfl)) rfl ?_
         exact ⟨_,by first | rfl | (simp [errW_none,errW_some] <;> rfl) | (simp [*,errW_none,errW_some] <;> rfl),by (with_reducible repeat (first | apply Kd.R_alloc | apply Kd.R_drewN | apply Kd.R_drew));exact Kd.R_mono (Kd.R_far (p := ⟨gb188,3,none⟩) (Kd.R_far (p := ⟨gb188,2,none⟩) (Kd.R_far (p := ⟨gb188,1,none⟩) (Kd.R_far (p := ⟨gb188,0,none⟩) (Kd.R_types HO_198003.out BK188.out (by decide)) (fun _ hk => hk.2) (.int .i64 (rd t189 0))) (fun _ hk => hk.2) (.int .i64 (rd t189 1))) (fun _ hk => hk.2) (.int .i64 (rd t189 2))) (fun _ hk => hk.2) (.slice Ao44 x198003_1.length co44)) (fun _ hk => trivial),by repeat (first | (with_reducible first | exact HB.out | apply below_alloc | apply pw_below_drewN | apply below_drew1 | refine below_set ?_ GE188.out | refine below_set ?_ GE197.out) | exact HB.out)⟩
        ·replace c41 := Bool.eq_false_iff.mpr c41
         subst c41
         have H1 : (some (0,0,0,([] : List (S66)),0,false)) = some (r1,r2,r3,r4,r5,r6) := by rw [if_neg (show ¬ (false = true) by decide)] at H;exact H
         clear H
         have H := H1
         clear H1
         simp only [Option.some.injEq,Prod.mk.injEq] at H
         obtain ⟨rfl,rfl,rfl,rfl,rfl,rfl⟩ := H
         have hnb48 := NB197_188.out
         have hnc48 := NB188_197.out
         have hcz49_0 : wr.cell? ⟨gb197,0,none⟩ = some (.int .i64 (rd t189 0)) := (blk_cell BK197.out 0).trans rfl
         have hcz49_1 : wr.cell? ⟨gb197,1,none⟩ = some (.int .i64 (rd t189 1)) := (blk_cell BK197.out 1).trans rfl
         have hcz49_2 : wr.cell? ⟨gb197,2,none⟩ = some (.int .i64 (rd t189 2)) := (blk_cell BK197.out 2).trans rfl
         have hcz49_3 : wr.cell? ⟨gb197,3,none⟩ = some (u198003) := (blk_cell BK197.out 3).trans rfl
         have hfz49_0 := blk_frozen BK197.out 0
         have hfz49_1 := blk_frozen BK197.out 1
         have hfz49_2 := blk_frozen BK197.out 2
         have hfz49_3 := blk_frozen BK197.out 3
         obtain ⟨Ao50,co50,eo50⟩ := Kd.R_slice HO_198003.out
         subst eo50
         go_wp2_with (first | ((with_reducible refine gate_callee (f := 43) rfl ?_);refine goesL_ (some 71) rfl rfl Try.func43 (by kernel_rfl) rfl #[.agg #[.int .i64 (rd t189 0),.int .i64 (rd t189 1),.int .i64 (rd t189 2),.slice Ao50 x198003_1.length co50]] rfl eq_up ?_;(with_reducible refine (impl_ManOk.calls k1 (rd t189 0) (rd t189 1) (rd t189 2) _ _ x198003_1 false _ ?side1 ?side2 A40.out).mono ?_);(case side1 => exact Kd.C_up (Kd.R_reads' HO_198003.out).2.2);(case side2 => exact (Kd.R_reads' HO_198003.out).2.1);rintro e w51 ⟨rfl,hb⟩;refine ⟨_,rfl,?_⟩;have n0_ := Aside0.mk (Kd.R_below (Kd.R_up HO_198003.out) hb);have n1_ := Aside0.mk (blk_below (g := gb188) (o := .cells #[.int .i64 x189000_1,.int .i64 x189001_1,.int .i64 x189002_1,.slice none 0 0] 31 (0,0)) (blk_up BK188.out) hb);have n2_ := Aside0.mk (blk_below (g := gb197) (o := .cells #[.int .i64 (rd t189 0),.int .i64 (rd t189 1),.int .i64 (rd t189 2),.slice Ao50 x198003_1.length co50] 31 (0,0)) (blk_up BK197.out) hb);have n3_ := Aside0.mk (below_step (B_set HB.out) hb);clear HO_198003;clear BK188;clear BK197;clear HB;have HO_198003 := n0_;have BK188 := n1_;have BK197 := n2_;have HB := n3_;clear n0_ n1_ n2_ n3_;(try clear hb);(try clear hb2);(try clear hk);(try clear hi);have hcz52_0 : w51.cell? ⟨gb188,0,none⟩ = some (.int .i64 x189000_1) := (blk_cell BK188.out 0).trans rfl;have hcz52_1 : w51.cell? ⟨gb188,1,none⟩ = some (.int .i64 x189001_1) := (blk_cell BK188.out 1).trans rfl;have hcz52_2 : w51.cell? ⟨gb188,2,none⟩ = some (.int .i64 x189002_1) := (blk_cell BK188.out 2).trans rfl;have hcz52_3 : w51.cell? ⟨gb188,3,none⟩ = some (.slice none 0 0) := (blk_cell BK188.out 3).trans rfl;have hfz52_0 := blk_frozen BK188.out 0;have hfz52_1 := blk_frozen BK188.out 1;have hfz52_2 := blk_frozen BK188.out 2;have hfz52_3 := blk_frozen BK188.out 3))
         refine bodyPost_ret (results_ctt rfl _ _ gb188 31 #[.int .i64 0,.int .i64 0,.int .i64 0,.slice none 0 0] (0,0) _ rfl (by (with_reducible repeat (first | refine blk_drewN ?_ _ | refine blk_drew ?_ | refine blk_alloc ?_ _));refine blk_put (cs := #[.int .i64 0,.int .i64 0,.int .i64 0,.slice none 0 0]) ?_ 3 _ rfl;(with_reducible repeat (first | refine blk_drewN ?_ _ | refine blk_drew ?_ | refine blk_alloc ?_ _));refine blk_put (cs := #[.int .i64 0,.int .i64 0,.int .i64 x189002_1,.slice none 0 0]) ?_ 2 _ rfl;(with_reducible repeat (first | refine blk_drewN ?_ _ | refine blk_drew ?_ | refine blk_alloc ?_ _));refine blk_put (cs := #[.int .i64 0,.int .i64 x189001_1,.int .i64 x189002_1,.slice none 0 0]) ?_ 1 _ rfl;(with_reducible repeat (first | refine blk_drewN ?_ _ | refine blk_drew ?_ | refine blk_alloc ?_ _));refine blk_put (cs := #[.int .i64 x189000_1,.int .i64 x189001_1,.int .i64 x189002_1,.slice none 0 0]) ?_ 0 _ rfl;(with_reducible repeat (first | refine blk_drewN ?_ _ | refine blk_drew ?_ | refine blk_alloc ?_ _));exact BK188.out) Try.underlying31 rfl (by kernel_rfl)) rfl ?_
         exact ⟨_,by first | rfl | (simp [errW_none,errW_some] <;> rfl) | (simp [*,errW_none,errW_some] <;> rfl),by first | exact Kd.R_nil _ _ _ _ _ | exact Kd.N_nil _ _ _ _ _ | exact Kd.V_nil _ _ _ _ _ | exact Kd.Q_nil _ _ _ _ _ | exact Kd.S_nil _ _ _ _ _,by repeat (first | (with_reducible first | exact HB.out | apply below_alloc | apply pw_below_drewN | apply below_drew1 | refine below_set ?_ GE188.out | refine below_set ?_ GE197.out) | exact HB.out)⟩
    ·rw [if_neg c7] at H
     exact absurd H (by simp)
   ·rw [if_neg c6] at H
    exact absurd H (by simp)
  ·rw [if_neg c5] at H
   exact absurd H (by simp)
 ·replace c4 := Bool.eq_false_iff.mpr c4
  subst c4
  have H1 : (some (0,0,0,([] : List (S66)),0,false)) = some (r1,r2,r3,r4,r5,r6) := by rw [if_neg (show ¬ (false = true) by decide)] at H;exact H
  clear H
  have H := H1
  clear H1
  simp only [Option.some.injEq,Prod.mk.injEq] at H
  obtain ⟨rfl,rfl,rfl,rfl,rfl,rfl⟩ := H
  go_enter Try.func32,Try.ntmps32
  go_wp2_with (first | ((with_reducible refine gate_dst (N := 4) rfl ?_);refine box_event ?hg (N := 4) ?hd (cs := #[.int .i64 0,.int .i64 0,.int .i64 0,.slice none 0 0]) (t := 31) ?hr ?_;(case hd => rfl);(case hg => rfl);(case hr => first | (go_simp;done) | (go_simp;rfl));intro gb188 hg w53 hbox hb;have n0_ := Aside0.mk (below_step (B_up HB.out) hb);have n1_ := Aside0.mk (hbox);have n2_ := Aside0.mk ((by rw [hg];exact (below_size (B_up HB.out)) : w.heap.size ≤ gb188));have n3_ := Aside0.mk ((by rw [hg];exact (below_size (B_up HB.out)) : w.heap.size ≤ gb188));clear HB;have HB := n0_;have BK188 := n1_;have GW188 := n2_;have GE188 := n3_;clear n0_ n1_ n2_ n3_;clear hb hbox hg) | ((with_reducible refine gate_callee (f := 73) rfl ?_);refine goesL_ (some 18) rfl rfl Try.func73 (by kernel_rfl) rfl #[.slice A0 l0.length c0,.int .i64 a1,.int .i64 3] rfl eq_up ?_;(with_reducible refine (impl_readVars.calls k _ _ l0 a1 3 t189 t190 false _ ?side1 ?side2 A3.out).mono ?_);(case side1 => repeat (first | exact (Kd.C_below HR0.out HB.out) | (with_reducible refine Kd.C_alloc ?_ _) | (with_reducible refine Kd.C_drewN ?_ _) | (with_reducible refine Kd.C_drew ?_)));(case side2 => exact HC0.out);rintro e w54 ⟨v192,rfl,ho0,hb⟩;refine ⟨_,rfl,?_⟩;have n0_ := Aside0.mk (Kd.R_lower ho0 (below_size (B_set HB.out)));have n1_ := Aside0.mk (blk_below (g := gb188) (o := .cells #[.int .i64 0,.int .i64 0,.int .i64 0,.slice none 0 0] 31 (0,0)) (blk_up BK188.out) hb);have n2_ := Aside0.mk (below_step (B_set HB.out) hb);clear BK188;clear HB;have HO193 := n0_;have BK188 := n1_;have HB := n2_;clear n0_ n1_ n2_;(try clear hb);(try clear hb2);(try clear hk);(try clear hi);(try clear ho0);have hcz55_0 : w54.cell? ⟨gb188,0,none⟩ = some (.int .i64 0) := (blk_cell BK188.out 0).trans rfl;have hcz55_1 : w54.cell? ⟨gb188,1,none⟩ = some (.int .i64 0) := (blk_cell BK188.out 1).trans rfl;have hcz55_2 : w54.cell? ⟨gb188,2,none⟩ = some (.int .i64 0) := (blk_cell BK188.out 2).trans rfl;have hcz55_3 : w54.cell? ⟨gb188,3,none⟩ = some (.slice none 0 0) := (blk_cell BK188.out 3).trans rfl;have hfz55_0 := blk_frozen BK188.out 0;have hfz55_1 := blk_frozen BK188.out 1;have hfz55_2 := blk_frozen BK188.out 2;have hfz55_3 := blk_frozen BK188.out 3))
  refine bodyPost_ret (results_ctt rfl _ _ gb188 31 #[.int .i64 0,.int .i64 0,.int .i64 0,.slice none 0 0] (0,0) _ rfl (by (with_reducible repeat (first | refine blk_drewN ?_ _ | refine blk_drew ?_ | refine blk_alloc ?_ _));refine blk_put (cs := #[.int .i64 0,.int .i64 0,.int .i64 0,.slice none 0 0]) ?_ 3 _ rfl;(with_reducible repeat (first | refine blk_drewN ?_ _ | refine blk_drew ?_ | refine blk_alloc ?_ _));refine blk_put (cs := #[.int .i64 0,.int .i64 0,.int .i64 0,.slice none 0 0]) ?_ 2 _ rfl;(with_reducible repeat (first | refine blk_drewN ?_ _ | refine blk_drew ?_ | refine blk_alloc ?_ _));refine blk_put (cs := #[.int .i64 0,.int .i64 0,.int .i64 0,.slice none 0 0]) ?_ 1 _ rfl;(with_reducible repeat (first | refine blk_drewN ?_ _ | refine blk_drew ?_ | refine blk_alloc ?_ _));refine blk_put (cs := #[.int .i64 0,.int .i64 0,.int .i64 0,.slice none 0 0]) ?_ 0 _ rfl;(with_reducible repeat (first | refine blk_drewN ?_ _ | refine blk_drew ?_ | refine blk_alloc ?_ _));exact BK188.out) Try.underlying31 rfl (by kernel_rfl)) rfl ?_
  exact ⟨_,by first | rfl | (simp [errW_none,errW_some] <;> rfl) | (simp [*,errW_none,errW_some] <;> rfl),by first | exact Kd.R_nil _ _ _ _ _ | exact Kd.N_nil _ _ _ _ _ | exact Kd.V_nil _ _ _ _ _ | exact Kd.Q_nil _ _ _ _ _ | exact Kd.S_nil _ _ _ _ _,by repeat (first | (with_reducible first | exact HB.out | apply below_alloc | apply pw_below_drewN | apply below_drew1 | refine below_set ?_ GE188.out) | exact HB.out)⟩

/-! ### laws_big: function 34 -/
def laws_big.f (l0 : List Int) : Option (Bool) := some (decide ((l0.length : Int) > 1048576))
set_option maxHeartbeats 8000000 in
set_option maxRecDepth 100000 in
theorem laws_big.calls (A0 : Option Addr) (c0 : Nat) (l0 : List Int) (r : Bool) (w : World) (hr0 : Kd.C (Kd.int .u8) w A0 l0.length l0) (hc0 : l0.length ≤ c0) (h : laws_big.f l0 = some r) :
  Calls Try.prog 34 #[.slice A0 l0.length c0] w fun e w' => e = .returned (.bool r) ∧ Drawn0 w w' := by
 have HR0 := Aside0.mk hr0
 have HC0 := Aside0.mk hc0
 clear hr0 hc0
 have H : (some (decide ((l0.length : Int) > 1048576))) = some r := h
 clear h
 obtain rfl := Option.some.inj H
 go_enter Try.func34,Try.ntmps34
 go_wp2
 go_ret
 exact ⟨by first | rfl | (simp;done) | (simp [*];done),by repeat (first | exact Drawn0.refl _ | apply Drawn0.step)⟩

/-- A state of type 100 at block g of W; what its slices lead to came in by w0. -/
def IsS100 (w0 W : World) (g : Nat) (f0 : List Int) (f1 : Int) (f2 : Int) : Prop := ∃ A0 c0,W.heap[g]? = some (.cells #[.slice A0 f0.length c0,.int .i64 f1,.int .i64 f2] 100 (0,0)) ∧ w0.heap.size ≤ g ∧ Kd.C (Kd.int .u8) w0 A0 f0.length f0
theorem IsS100.grown {w0 W : World} {g : Nat} {f0 : List Int} {f1 : Int} {f2 : Int} {W1 : World} {row : Option Nat} (h : IsS100 w0 W g f0 f1 f2) (hw : W.grownBy W1 row) (hne : some g ≠ row) : IsS100 w0 W1 g f0 f1 f2 := by
 obtain ⟨A0,c0,hb,hg,hr0⟩ := h
 exact ⟨A0,c0,blk_grown hb hw hne,hg,hr0⟩
theorem IsS100.own_neN {w0 W : World} {g : Nat} {f0 : List Int} {f1 : Int} {f2 : Int} {α : Type} {d : Kd α} {e : Nat} {base : Nat} {ok : Nat → Prop} {v : Value} {xs : List α} (h : IsS100 w0 W g f0 f1 f2) (ho : Kd.N d e W base ok v xs) (ht : e ≠ 100) : some g ≠ v.ownBlock := by
 obtain ⟨A0,c0,hb,hg,hr0⟩ := h
 exact Kd.N_ne ho hb ht
theorem IsS100.fresh {w0 W : World} {g : Nat} {f0 : List Int} {f1 : Int} {f2 : Int} (h : IsS100 w0 W g f0 f1 f2) : ∀ k,W.heap.size ≤ k → k ≠ g := by
 obtain ⟨A0,c0,hb,hg,hr0⟩ := h
 exact Kd.freshB hb
theorem IsS100.kept {w0 W : World} {g : Nat} {f0 : List Int} {f1 : Int} {f2 : Int} {W1 : World} {S : Nat → Prop} (h : IsS100 w0 W g f0 f1 f2) (hk : Kept W W1 S) (hne : ¬ S g) : IsS100 w0 W1 g f0 f1 f2 := by
 obtain ⟨A0,c0,hb,hg,hr0⟩ := h
 exact ⟨A0,c0,blk_kept hb hk hne,hg,hr0⟩
theorem IsS100.below {w0 W : World} {g : Nat} {f0 : List Int} {f1 : Int} {f2 : Int} {W1 : World} (h : IsS100 w0 W g f0 f1 f2) (hw : Below W.heap.size W W1) : IsS100 w0 W1 g f0 f1 f2 := h.grown (grown_of_below hw none) (by simp)
theorem IsS100.alloc {w0 W : World} {g : Nat} {f0 : List Int} {f1 : Int} {f2 : Int} (h : IsS100 w0 W g f0 f1 f2) (o : Obj) : IsS100 w0 (W.alloc o) g f0 f1 f2 := h.below (below_alloc (Below.refl _ _) o)
theorem IsS100.drewN {w0 W : World} {g : Nat} {f0 : List Int} {f1 : Int} {f2 : Int} (h : IsS100 w0 W g f0 f1 f2) (m : Nat) : IsS100 w0 (W.drewN m) g f0 f1 f2 := h
theorem IsS100.drew {w0 W : World} {g : Nat} {f0 : List Int} {f1 : Int} {f2 : Int} (h : IsS100 w0 W g f0 f1 f2) : IsS100 w0 W.drew g f0 f1 f2 := h
theorem IsS100.at_ {w0 W : World} {g : Nat} {f0 : List Int} {f1 : Int} {f2 : Int} {w' : World} {m : Nat} (hq : W.drewN m = w') (h : IsS100 w0 W g f0 f1 f2) : IsS100 w0 w' g f0 f1 f2 := by subst hq;exact IsS100.drewN h m
theorem IsS100.apart {w0 W : World} {g : Nat} {f0 : List Int} {f1 : Int} {f2 : Int} {α : Type} {d : Kd α} {e : Nat} {base : Nat} {ok : Nat → Prop} {v : Value} {xs : List α} (h : IsS100 w0 W g f0 f1 f2) (ho : d.R e W base ok v xs) (ht : ∀ q,q ∈ e :: d.E → q ≠ 100) : d.R e W base (fun k => ok k ∧ k ≠ g) v xs := by
 obtain ⟨A0,c0,hb,hg,hr0⟩ := h
 exact Kd.R_types ho hb ht
theorem IsS100.own_ne {w0 W : World} {g : Nat} {f0 : List Int} {f1 : Int} {f2 : Int} {α : Type} {d : Kd α} {e : Nat} {base : Nat} {ok : Nat → Prop} {v : Value} {xs : List α} (h : IsS100 w0 W g f0 f1 f2) (ho : d.R e W base ok v xs) (ht : e ≠ 100) : some g ≠ v.ownBlock := by
 obtain ⟨A0,c0,hb,hg,hr0⟩ := h
 exact Kd.R_ne ho hb ht
theorem IsS100.apartQ {w0 W : World} {g : Nat} {f0 : List Int} {f1 : Int} {f2 : Int} {α : Type} {d : Kd α} {e : Nat} {base : Nat} {ok : Nat → Prop} {v : Value} {xs : List α} (h : IsS100 w0 W g f0 f1 f2) (ho : d.Q e W base ok v xs) (ht : ∀ q,q ∈ e :: d.E → q ≠ 100) : d.Q e W base (fun k => ok k ∧ k ≠ g) v xs := by
 obtain ⟨A0,c0,hb,hg,hr0⟩ := h
 exact Kd.Q_types ho hb ht
theorem IsS100.own_neQ {w0 W : World} {g : Nat} {f0 : List Int} {f1 : Int} {f2 : Int} {α : Type} {d : Kd α} {e : Nat} {base : Nat} {ok : Nat → Prop} {v : Value} {xs : List α} (h : IsS100 w0 W g f0 f1 f2) (ho : d.Q e W base ok v xs) (ht : e ≠ 100) : some g ≠ v.ownBlock := by
 obtain ⟨A0,c0,hb,hg,hr0⟩ := h
 exact Kd.Q_ne ho hb ht
theorem IsS100.apartS {w0 W : World} {g : Nat} {f0 : List Int} {f1 : Int} {f2 : Int} {α : Type} {d : Kd α} {e : Nat} {base : Nat} {ok : Nat → Prop} {v : Value} {xs : List α} (h : IsS100 w0 W g f0 f1 f2) (ho : d.S e W base ok v xs) (ht : ∀ q,q ∈ e :: d.E → q ≠ 100) : d.S e W base (fun k => ok k ∧ k ≠ g) v xs := by
 obtain ⟨A0,c0,hb,hg,hr0⟩ := h
 exact Kd.S_types ho hb ht
theorem IsS100.own_neS {w0 W : World} {g : Nat} {f0 : List Int} {f1 : Int} {f2 : Int} {α : Type} {d : Kd α} {e : Nat} {base : Nat} {ok : Nat → Prop} {v : Value} {xs : List α} (h : IsS100 w0 W g f0 f1 f2) (ho : d.S e W base ok v xs) (ht : e ≠ 100) : some g ≠ v.ownBlock := by
 obtain ⟨A0,c0,hb,hg,hr0⟩ := h
 exact Kd.S_ne ho hb ht
theorem IsS100.lt {w0 W : World} {g : Nat} {f0 : List Int} {f1 : Int} {f2 : Int} (h : IsS100 w0 W g f0 f1 f2) : g < W.heap.size := by
 obtain ⟨A0,c0,hb,hg,hr0⟩ := h
 exact blk_lt hb
theorem IsS100.ge {w0 W : World} {g : Nat} {f0 : List Int} {f1 : Int} {f2 : Int} (h : IsS100 w0 W g f0 f1 f2) : w0.heap.size ≤ g := by
 obtain ⟨A0,c0,hb,hg,hr0⟩ := h
 exact hg
theorem IsS100.ne_blk {w0 W : World} {g : Nat} {f0 : List Int} {f1 : Int} {f2 : Int} {a : Nat} {cs : Array Value} {t : TypeId} {fr : Nat × Nat} (h : IsS100 w0 W g f0 f1 f2) (hb2 : W.heap[a]? = some (.cells cs t fr)) (ht : t ≠ 100) : g ≠ a := by
 obtain ⟨A0,c0,hb,hg,hr0⟩ := h
 rintro rfl
 rw [hb] at hb2
 injection hb2 with hb2
 injection hb2 with _ ht2
 exact ht ht2.symm
theorem IsS100.far {w0 W : World} {g : Nat} {f0 : List Int} {f1 : Int} {f2 : Int} {p : Addr} (h : IsS100 w0 W g f0 f1 f2) (hne : g ≠ p.block) (u : Value) : IsS100 w0 (W.setCell p u) g f0 f1 f2 := by
 obtain ⟨A0,c0,hb,hg,hr0⟩ := h
 exact ⟨A0,c0,blk_far hb hne u,hg,hr0⟩
theorem cellS100_0 {W : World} {g : Nat} {A0 : Option Addr} {c0 : Nat} {f0 : List Int} {f1 : Int} {f2 : Int} (h : W.heap[g]? = some (.cells #[.slice A0 f0.length c0,.int .i64 f1,.int .i64 f2] 100 (0,0))) : W.cell? ⟨g,0,none⟩ = some (.slice A0 f0.length c0) := (blk_cell h 0).trans rfl
theorem cellS100_1 {W : World} {g : Nat} {A0 : Option Addr} {c0 : Nat} {f0 : List Int} {f1 : Int} {f2 : Int} (h : W.heap[g]? = some (.cells #[.slice A0 f0.length c0,.int .i64 f1,.int .i64 f2] 100 (0,0))) : W.cell? ⟨g,1,none⟩ = some (.int .i64 f1) := (blk_cell h 1).trans rfl
theorem IsS100.set_1 {w0 W : World} {g : Nat} {f0 : List Int} {f1 : Int} {f2 : Int} (h : IsS100 w0 W g f0 f1 f2) (x : Int) : IsS100 w0 (W.setCell ⟨g,1,none⟩ (.int .i64 x)) g f0 x f2 := by
 obtain ⟨A0,c0,hb,hg,hr0⟩ := h
 exact ⟨A0,c0,by simpa using blk_set hb 1 (.int .i64 x),hg,hr0⟩
theorem cellS100_2 {W : World} {g : Nat} {A0 : Option Addr} {c0 : Nat} {f0 : List Int} {f1 : Int} {f2 : Int} (h : W.heap[g]? = some (.cells #[.slice A0 f0.length c0,.int .i64 f1,.int .i64 f2] 100 (0,0))) : W.cell? ⟨g,2,none⟩ = some (.int .i64 f2) := (blk_cell h 2).trans rfl
theorem IsS100.set_2 {w0 W : World} {g : Nat} {f0 : List Int} {f1 : Int} {f2 : Int} (h : IsS100 w0 W g f0 f1 f2) (x : Int) : IsS100 w0 (W.setCell ⟨g,2,none⟩ (.int .i64 x)) g f0 f1 x := by
 obtain ⟨A0,c0,hb,hg,hr0⟩ := h
 exact ⟨A0,c0,by simpa using blk_set hb 2 (.int .i64 x),hg,hr0⟩
theorem IsS100.new (w0 W : World) (A0 : Option Addr) (c0 : Nat) (f0 : List Int) (f1 : Int) (f2 : Int) (hB : Below w0.heap.size w0 W) (hr0 : Kd.C (Kd.int .u8) w0 A0 f0.length f0) : IsS100 w0 (W.alloc (.cells #[.slice A0 f0.length c0,.int .i64 f1,.int .i64 f2] 100)) W.heap.size f0 f1 f2 := ⟨A0,c0,by simpa using heap_alloc_new W _,hB.size,hr0⟩

/-! ### spec_l1New: function 78 -/
def spec_l1New.l0 : Nat → List Int → Int → Int → Option (List Int × Int × Int)
 | 0,_,_,_ => none
 | k + 1,x0,x3,x4 => if x4 < (x0.length : Int) then (if x4 < 4000 then (if 0 ≤ x4 then (spec_l1New.l0 k x0 (Go.bits .and .i64 (wrap64 ((wrap64 ((wrap64 (x3 * 137)) + (wrap64 (rd x0 x4)))) + 11)) 1073741823) (wrap64 (x4 + 1))) else (none)) else (some (x0,0,x3))) else (some (x0,0,x3))
def spec_l1New.f (k : Nat) (l0 : List Int) : Option (List Int × Int × Int) := spec_l1New.l0 k l0 (wrap64 (162416 + (l0.length : Int))) 0
theorem spec_l1New.mono_l : ∀ k,(∀ y0 y1 y2,LeO (spec_l1New.l0 k y0 y1 y2) (spec_l1New.l0 (k + 1) y0 y1 y2))
 | 0 => fun _ _ _ r h => by simp [spec_l1New.l0] at h
 | k + 1 => by
  have ih0 := spec_l1New.mono_l k
  ·intro y0 y1 y2
   unfold spec_l1New.l0
   repeat' first
   | (with_reducible exact ih0 _ _ _)
   | (with_reducible exact LeO.refl _)
   | (with_reducible exact LeO.none _)
   | (with_reducible refine LeO.ite ?_ ?_)
   | (with_reducible refine LeO.bind ?_ (fun _ => ?_))
   | exact ih0 _ _ _
   | exact LeO.none _
   | refine LeO.ite ?_ ?_
   | refine LeO.bind ?_ (fun _ => ?_)
theorem spec_l1New.mono : ∀ a0 k,LeO (spec_l1New.f k a0) (spec_l1New.f (k + 1) a0) := by
 intro a0 k
 have ih0 := spec_l1New.mono_l k
 unfold spec_l1New.f
 repeat' first
   | (with_reducible exact ih0 _ _ _)
   | (with_reducible exact LeO.refl _)
   | (with_reducible exact LeO.none _)
   | (with_reducible refine LeO.ite ?_ ?_)
   | (with_reducible refine LeO.bind ?_ (fun _ => ?_))
   | exact ih0 _ _ _
   | exact LeO.none _
   | refine LeO.ite ?_ ?_
   | refine LeO.bind ?_ (fun _ => ?_)
set_option maxHeartbeats 8000000 in
set_option maxRecDepth 100000 in
theorem spec_l1New.calls (k : Nat) (A0 : Option Addr) (c0 : Nat) (l0 : List Int) (r1 : List Int) (r2 : Int) (r3 : Int) (w0 w : World) (hB : Below w0.heap.size w0 w) (hr0 : Kd.C (Kd.int .u8) w0 A0 l0.length l0) (hc0 : l0.length ≤ c0) (h : spec_l1New.f k l0 = some (r1,r2,r3)) :
  Calls Try.prog 78 #[.slice A0 l0.length c0] w fun e w' => ∃ g_ : Nat,e = .returned (.pointer (some ⟨g_,0,none⟩)) ∧ IsS100 w0 w' g_ r1 r2 r3 ∧ Below w0.heap.size w0 w' ∧ Below w.heap.size w w' := by
 have hu100 := Try.underlying100
 have HR0 := Aside0.mk hr0
 have HC0 := Aside0.mk hc0
 clear hr0 hc0
 have HBW := Aside0.mk (Below.refl w.heap.size w)
 have HW0 := Aside0.mk hB.size
 have HB := Aside0.mk hB
 clear hB
 have H : (spec_l1New.l0 k l0 (wrap64 (162416 + (l0.length : Int))) 0) = some (r1,r2,r3) := h
 clear h
 have H' := Aside0.mk H
 clear H
 go_enter Try.func78,Try.ntmps78
 go_wp2
 go_loopg [3,4] k (fun kq v3 v4 w' => ∃ (x3_1 : Int) (x4_1 : Int),v3 = .int .i64 x3_1 ∧ v4 = .int .i64 x4_1 ∧ Aside0 (spec_l1New.l0 kq l0 x3_1 x4_1 = some (r1,r2,r3)) ∧ Aside0 (kq ≤ k) ∧ Aside0 (Below w0.heap.size w0 w') ∧ Aside0 (Below w.heap.size w w'))
 case atStart => exact ⟨(wrap64 (162416 + (l0.length : Int))),(0),(by first | rfl | (simp;done) | (simp [*];done)),(by first | rfl | (simp;done) | (simp [*];done)),H',⟨Nat.le_refl _⟩,⟨by repeat (first | (with_reducible first | exact HB.out | apply below_alloc | apply pw_below_drewN | apply below_drew1) | exact HB.out)⟩,⟨by repeat (first | (with_reducible first | exact HBW.out | apply below_alloc | apply pw_below_drewN | apply below_drew1) | exact HBW.out)⟩⟩
 case round =>
  clear H'
  obtain ⟨x3_1,x4_1,rfl,rfl,HA,HK1,HB,HBW⟩ := hrel
  cases gk with
  | zero => exact absurd HA.out (by simp [spec_l1New.l0])
  | succ k1 =>
   have H := HA.out
   clear HA
   simp only [spec_l1New.l0] at H
   by_cases c2 : x4_1 < (l0.length : Int)
   ·rw [if_pos c2] at H
    have c2b0 : decide (x4_1 < (l0.length : Int)) = true := decide_eq_true c2
    clear c2
    by_cases c3 : x4_1 < 4000
    ·rw [if_pos c3] at H
     have c3b0 : decide (x4_1 < 4000) = true := decide_eq_true c3
     clear c3
     by_cases c4 : 0 ≤ x4_1
     ·rw [if_pos c4] at H
      have c4b0 : decide (0 ≤ x4_1) = true := decide_eq_true c4
      clear c4
      have H' := Aside0.mk H
      clear H
      have p212 : 0 ≤ (x4_1 : Int) := of_decide_eq_true (by first | (with_reducible assumption) | assumption)
      have q212 : x4_1 < (l0.length : Int) := of_decide_eq_true (by first | (with_reducible assumption) | assumption)
      obtain ⟨ad212,e212,hx212_0⟩ := Kd.at_int HR0.out x4_1 p212 q212
      cases e212
      replace hx212_0 := pw_cell_below HB.out hx212_0
      replace p212 := eq_true p212
      replace q212 := eq_true q212
      go_wp2
      go_roundg k1
      case measure => have := HK1.out;omega
      case rel => exact ⟨(Go.bits .and .i64 (wrap64 ((wrap64 ((wrap64 (x3_1 * 137)) + (wrap64 (rd l0 x4_1)))) + 11)) 1073741823),(wrap64 (x4_1 + 1)),(by first | rfl | (simp;done) | (simp [*];done)),(by first | rfl | (simp;done) | (simp [*];done)),H',⟨by have := HK1.out;omega⟩,⟨by repeat (first | (with_reducible first | exact HB.out | apply below_alloc | apply pw_below_drewN | apply below_drew1) | exact HB.out)⟩,⟨by repeat (first | (with_reducible first | exact HBW.out | apply below_alloc | apply pw_below_drewN | apply below_drew1) | exact HBW.out)⟩⟩
     ·rw [if_neg c4] at H
      exact absurd H (by simp)
    ·rw [if_neg c3] at H
     have c3b0 : decide (x4_1 < 4000) = false := decide_eq_false c3
     clear c3
     simp only [Option.some.injEq,Prod.mk.injEq] at H
     obtain ⟨rfl,rfl,rfl⟩ := H
     go_wp2_with (first | ((with_reducible refine gate_dst (N := 31) rfl ?_);refine box_event ?hg (N := 31) ?hd (cs := #[.slice A0 l0.length c0,.int .i64 0,.int .i64 x3_1]) (t := 100) ?hr ?_;(case hd => rfl);(case hg => rfl);(case hr => first | (go_simp;done) | (go_simp;rfl));intro gb213 hg w5 hbox hb;have n0_ := Aside0.mk (below_step HBW.out hb);have n1_ := Aside0.mk (below_step (B_up HB.out) hb);have n2_ := Aside0.mk (hbox);have n3_ := Aside0.mk ((by rw [hg];exact (below_size (by repeat (first | (with_reducible first | exact HBW.out | apply below_alloc | apply pw_below_drewN | apply below_drew1) | exact HBW.out))) : w.heap.size ≤ gb213));have n4_ := Aside0.mk ((Nat.le_trans HW0.out (by rw [hg];exact (below_size (by repeat (first | (with_reducible first | exact HBW.out | apply below_alloc | apply pw_below_drewN | apply below_drew1) | exact HBW.out))) : w.heap.size ≤ gb213) : w0.heap.size ≤ gb213));clear HBW;clear HB;have HBW := n0_;have HB := n1_;have BK213 := n2_;have GW213 := n3_;have GE213 := n4_;clear n0_ n1_ n2_ n3_ n4_;clear hb hbox hg))
     go_ret
     exact ⟨_,rfl,(show IsS100 w0 _ gb213 l0 0 x3_1 from ⟨_,_,by (with_reducible repeat (first | refine blk_drewN ?_ _ | refine blk_drew ?_ | refine blk_alloc ?_ _));exact BK213.out,GE213.out,HR0.out⟩),by repeat (first | (with_reducible first | exact HB.out | apply below_alloc | apply pw_below_drewN | apply below_drew1 | refine below_set ?_ GE213.out) | exact HB.out),by repeat (first | (with_reducible first | exact HBW.out | apply below_alloc | apply pw_below_drewN | apply below_drew1 | refine below_set ?_ GW213.out) | exact HBW.out)⟩
   ·rw [if_neg c2] at H
    have c2b0 : decide (x4_1 < (l0.length : Int)) = false := decide_eq_false c2
    clear c2
    simp only [Option.some.injEq,Prod.mk.injEq] at H
    obtain ⟨rfl,rfl,rfl⟩ := H
    go_wp2_with (first | ((with_reducible refine gate_dst (N := 31) rfl ?_);refine box_event ?hg (N := 31) ?hd (cs := #[.slice A0 l0.length c0,.int .i64 0,.int .i64 x3_1]) (t := 100) ?hr ?_;(case hd => rfl);(case hg => rfl);(case hr => first | (go_simp;done) | (go_simp;rfl));intro gb214 hg w6 hbox hb;have n0_ := Aside0.mk (below_step HBW.out hb);have n1_ := Aside0.mk (below_step (B_up HB.out) hb);have n2_ := Aside0.mk (hbox);have n3_ := Aside0.mk ((by rw [hg];exact (below_size (by repeat (first | (with_reducible first | exact HBW.out | apply below_alloc | apply pw_below_drewN | apply below_drew1) | exact HBW.out))) : w.heap.size ≤ gb214));have n4_ := Aside0.mk ((Nat.le_trans HW0.out (by rw [hg];exact (below_size (by repeat (first | (with_reducible first | exact HBW.out | apply below_alloc | apply pw_below_drewN | apply below_drew1) | exact HBW.out))) : w.heap.size ≤ gb214) : w0.heap.size ≤ gb214));clear HBW;clear HB;have HBW := n0_;have HB := n1_;have BK214 := n2_;have GW214 := n3_;have GE214 := n4_;clear n0_ n1_ n2_ n3_ n4_;clear hb hbox hg))
    go_ret
    exact ⟨_,rfl,(show IsS100 w0 _ gb214 l0 0 x3_1 from ⟨_,_,by (with_reducible repeat (first | refine blk_drewN ?_ _ | refine blk_drew ?_ | refine blk_alloc ?_ _));exact BK214.out,GE214.out,HR0.out⟩),by repeat (first | (with_reducible first | exact HB.out | apply below_alloc | apply pw_below_drewN | apply below_drew1 | refine below_set ?_ GE214.out) | exact HB.out),by repeat (first | (with_reducible first | exact HBW.out | apply below_alloc | apply pw_below_drewN | apply below_drew1 | refine below_set ?_ GW214.out) | exact HBW.out)⟩

/-! ### spec_l1Byte: function 105 -/
def spec_l1Byte.f (s0_0 : List Int) (s0_1 : Int) (s0_2 : Int) : Option (Int × Int × Int) := if s0_1 < (s0_0.length : Int) then (if 0 ≤ s0_1 then (some (Go.bits .and .i64 (wrap64 ((Go.bits .and .i64 (Go.bits .xor .i64 ((wrap64 ((wrap64 (s0_2 * 6364136223846793005)) + 1442695040888963407)) / 8589934592) ((wrap64 ((wrap64 (s0_2 * 6364136223846793005)) + 1442695040888963407)) / 140737488355328)) 255) + (wrap64 (rd s0_0 s0_1)))) 255,wrap64 (s0_1 + 1),wrap64 ((wrap64 (s0_2 * 6364136223846793005)) + 1442695040888963407))) else (none)) else (some (Go.bits .and .i64 (Go.bits .xor .i64 ((wrap64 ((wrap64 (s0_2 * 6364136223846793005)) + 1442695040888963407)) / 8589934592) ((wrap64 ((wrap64 (s0_2 * 6364136223846793005)) + 1442695040888963407)) / 140737488355328)) 255,s0_1,wrap64 ((wrap64 (s0_2 * 6364136223846793005)) + 1442695040888963407)))
set_option maxHeartbeats 8000000 in
set_option maxRecDepth 100000 in
theorem spec_l1Byte.calls (g : Nat) (s0_0 : List Int) (s0_1 : Int) (s0_2 : Int) (r1 : Int) (r2 : Int) (r3 : Int) (w0 w : World) (hI : IsS100 w0 w g s0_0 s0_1 s0_2) (hB : Below w0.heap.size w0 w) (h : spec_l1Byte.f s0_0 s0_1 s0_2 = some (r1,r2,r3)) :
  Calls Try.prog 105 #[.pointer (some ⟨g,0,none⟩)] w fun e w' => e = .returned (.int .i64 r1) ∧ IsS100 w0 w' g s0_0 r2 r3 ∧ Below w0.heap.size w0 w' ∧ KeepBut w w' g none := by
 have HI0 := Aside0.mk hI
 have HK := Aside0.mk (KeepBut.refl w g none)
 have HL := Aside0.mk hB.size
 clear hI
 have HW0 := Aside0.mk hB.size
 have HB := Aside0.mk hB
 clear hB
 have H : (if s0_1 < (s0_0.length : Int) then (if 0 ≤ s0_1 then (some (Go.bits .and .i64 (wrap64 ((Go.bits .and .i64 (Go.bits .xor .i64 ((wrap64 ((wrap64 (s0_2 * 6364136223846793005)) + 1442695040888963407)) / 8589934592) ((wrap64 ((wrap64 (s0_2 * 6364136223846793005)) + 1442695040888963407)) / 140737488355328)) 255) + (wrap64 (rd s0_0 s0_1)))) 255,wrap64 (s0_1 + 1),wrap64 ((wrap64 (s0_2 * 6364136223846793005)) + 1442695040888963407))) else (none)) else (some (Go.bits .and .i64 (Go.bits .xor .i64 ((wrap64 ((wrap64 (s0_2 * 6364136223846793005)) + 1442695040888963407)) / 8589934592) ((wrap64 ((wrap64 (s0_2 * 6364136223846793005)) + 1442695040888963407)) / 140737488355328)) 255,s0_1,wrap64 ((wrap64 (s0_2 * 6364136223846793005)) + 1442695040888963407)))) = some (r1,r2,r3) := h
 clear h
 by_cases c2 : s0_1 < (s0_0.length : Int)
 ·rw [if_pos c2] at H
  have c2b0 : decide (s0_1 < (s0_0.length : Int)) = true := decide_eq_true c2
  clear c2
  by_cases c3 : 0 ≤ s0_1
  ·rw [if_pos c3] at H
   have c3b0 : decide (0 ≤ s0_1) = true := decide_eq_true c3
   clear c3
   simp only [Option.some.injEq,Prod.mk.injEq] at H
   obtain ⟨rfl,rfl,rfl⟩ := H
   obtain ⟨ASz4_0,cSz4_0,HGz4,hgz4,HSz4_0⟩ := HI0.out
   have hcz4_0 := cellS100_0 HGz4
   have hcz4_1 := cellS100_1 HGz4
   have hcz4_2 := cellS100_2 HGz4
   have hfz4_1 := blk_frozen HGz4 1
   have hfz4_2 := blk_frozen HGz4 2
   clear HGz4 hgz4
   have p215 : 0 ≤ (s0_1 : Int) := of_decide_eq_true (by first | (with_reducible assumption) | assumption)
   have q215 : s0_1 < (s0_0.length : Int) := of_decide_eq_true (by first | (with_reducible assumption) | assumption)
   obtain ⟨ad215,e215,hx215_0⟩ := Kd.at_int HSz4_0 s0_1 p215 q215
   cases e215
   have hn215_0 : ad215.block ≠ g := Nat.ne_of_lt (Nat.lt_of_lt_of_le (by have := World.block_lt_of_cell? _ _ hx215_0;first | rwa [add_block] at this | exact this) (IsS100.ge HI0.out))
   replace hx215_0 := pw_cell_below HB.out hx215_0
   replace hx215_0 := (cell_far (p := ⟨g,2,none⟩) (by first | (rw [add_block];exact hn215_0) | (show (Addr.add _ _).block ≠ _;rw [add_block];exact hn215_0) | exact hn215_0) (.int .i64 (wrap64 ((wrap64 (s0_2 * 6364136223846793005)) + 1442695040888963407)))).trans hx215_0
   (try have hy215_0 := fun (n_ : Nat) => (show (((w.drewN n_).setCell ⟨g,2,none⟩ (.int .i64 (wrap64 ((wrap64 (s0_2 * 6364136223846793005)) + 1442695040888963407))))).cell? _ = some _ from hx215_0))
   clear hn215_0
   replace p215 := eq_true p215
   replace q215 := eq_true q215
   go_enter Try.func105,Try.ntmps105
   go_wp2
   repeat (go_quiet (fail);try go_wp2)
   go_ret
   exact ⟨by first | rfl | (simp [errW_none,errW_some] <;> rfl) | (simp [*,errW_none,errW_some] <;> rfl),by repeat (first | (with_reducible first | exact HI0.out | apply IsS100.alloc | apply IsS100.drewN | apply IsS100.drew | apply IsS100.set_1 | apply IsS100.set_2) | exact HI0.out),by repeat (first | (with_reducible first | exact HB.out | apply below_alloc | apply pw_below_drewN | apply below_drew1 | refine below_set ?_ (IsS100.ge HI0.out)) | exact HB.out),by repeat (first | (with_reducible first | exact HK.out | apply KeepBut.set_ | apply keep_drewN | apply keep_drew | apply keep_alloc) | exact HK.out)⟩
  ·rw [if_neg c3] at H
   exact absurd H (by simp)
 ·rw [if_neg c2] at H
  have c2b0 : decide (s0_1 < (s0_0.length : Int)) = false := decide_eq_false c2
  clear c2
  simp only [Option.some.injEq,Prod.mk.injEq] at H
  obtain ⟨rfl,rfl,rfl⟩ := H
  obtain ⟨ASz5_0,cSz5_0,HGz5,hgz5,HSz5_0⟩ := HI0.out
  have hcz5_0 := cellS100_0 HGz5
  have hcz5_1 := cellS100_1 HGz5
  have hcz5_2 := cellS100_2 HGz5
  have hfz5_1 := blk_frozen HGz5 1
  have hfz5_2 := blk_frozen HGz5 2
  clear HGz5 hgz5
  go_enter Try.func105,Try.ntmps105
  go_wp2
  repeat (go_quiet (fail);try go_wp2)
  go_ret
  exact ⟨by first | rfl | (simp [errW_none,errW_some] <;> rfl) | (simp [*,errW_none,errW_some] <;> rfl),by repeat (first | (with_reducible first | exact HI0.out | apply IsS100.alloc | apply IsS100.drewN | apply IsS100.drew | apply IsS100.set_1 | apply IsS100.set_2) | exact HI0.out),by repeat (first | (with_reducible first | exact HB.out | apply below_alloc | apply pw_below_drewN | apply below_drew1 | refine below_set ?_ (IsS100.ge HI0.out)) | exact HB.out),by repeat (first | (with_reducible first | exact HK.out | apply KeepBut.set_ | apply keep_drewN | apply keep_drew | apply keep_alloc) | exact HK.out)⟩

end Go.Proofs.Ytdkgcloempbgpaa.PFnMans
