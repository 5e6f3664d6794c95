/- The law FnDigits over any bytes: it returns true; it asks that the table internal/strconv.uint64pow10 read as it is laid, and that strconv.ErrSyntax and strconv.ErrRange hold errors. -/
import Derived.Test.YtdodnhjglpidlaaDoorItoaWalk
import Derived.Test.YtdodnhjglpidlaaDoorShelfA
import Derived.Test.YtdodnhjglpidlaaDoorPureFnDigits
import Derived.BigCall
import Derived.Lib.AtoiErrMem
set_option linter.unusedVariables false
set_option linter.unusedSimpArgs false
namespace Go.Proofs.YtdodnhjglpidlaaDoor.Door
open Go Go.RowKit Go.Sort Go.Lib Go.Proofs.YtdodnhjglpidlaaDoor.PFnDigits Go.Proofs.YtdodnhjglpidlaaDoor.Pure Go.Proofs.YtdodnhjglpidlaaDoorW.PrintWords

/-- A variable reads on as it did, whatever a call does at blocks of its own. -/
theorem var_below {w w' : World} {name : String} {x : Array Value} (h : w.var? Tryd.prog name = some x) (hb : Below w.heap.size w w') : w'.var? Tryd.prog name = some x := by
  unfold World.var? at *
  cases hg : Tryd.prog.globalNamed name with
  | none => simp [hg] at h
  | some g =>
    simp only [hg, Option.bind_some] at h ⊢
    have hlt : g < w.heap.size := by
      rcases Nat.lt_or_ge g w.heap.size with h' | h'
      · exact h'
      · rw [Array.getElem?_eq_none h'] at h; simp at h
    rw [hb.block g hlt]
    exact h
theorem chain {w w1 w3 : World} {nd : Nat} (h1 : Below w.heap.size w w1) (h3 : Below (w1.drewN nd).heap.size (w1.drewN nd) w3) : Below w.heap.size w w3 :=
  (pw_below_drewN h1 nd).trans (h3.mono h1.size)
set_option maxRecDepth 100000 in
theorem impl_ParseNum_c (s : ByteArray) (hlim : s.size ≤ 281474976710656) (w : World) (htab : TabIs Tryd.prog w "internal/strconv.uint64pow10" .u64 pow10Tab)
    (tp0 : TypeId) (p0 : Value) (hv0 : w.var? Tryd.prog "strconv.ErrSyntax" = some #[.iface tp0 p0]) (tp1 : TypeId) (p1 : Value) (hv1 : w.var? Tryd.prog "strconv.ErrRange" = some #[.iface tp1 p1]) :
    Calls Tryd.prog 7 #[.string s] w fun e w' => e = .returned (.tuple #[.int .i64 (pn s.data.toList).1, .bool (pn s.data.toList).2]) ∧ Below w.heap.size w w' := by
  rcases h : Lib.atoiAll s.data.toList with v | _ | _
  · obtain ⟨v0, v1⟩ := Lib.atoiAll_bounds h
    have hpn := pn_ok h
    have hw := impl_within_v v 0 1000000000000
    have hB : ∀ w1, (w1 = w ∨ ∃ t, w1 = Lib.bytesWorld w 5 t) → Below w.heap.size w w1 := by
      intro w1 hb0
      rcases hb0 with rfl | ⟨t, rfl⟩
      · exact Below.refl _ _
      · exact Lib.bytesWorld_below _ _ _
    by_cases c1 : 0 ≤ v ∧ v ≤ 1000000000000
    · rw [decide_eq_true c1] at hw
      have c3e : (⟨(Lib.itoa v).toArray⟩ : ByteArray).toList = Lib.itoa v := by rw [Lib.toList_data]
      by_cases c2 : Lib.itoa v = s.data.toList
      · rw [if_pos ⟨c1.1, c1.2, c2⟩] at hpn
        rw [hpn]
        have c3 : (⟨(Lib.itoa v).toArray⟩ : ByteArray) = s := by rw [c2]
        go_enter Tryd.func7, Tryd.ntmps7
        go_wp2_with (first
          | (go_at_call 25; refine (Tryd.strconv_Atoi_ok s (by omega) v h _).mono ?_; rintro e w1 ⟨rfl, hb0⟩; have hb1 := hB _ hb0)
          | (go_at_call 26; refine (impl_within.calls v 0 1000000000000 true _ hw).mono ?_; rintro e w2 ⟨rfl, ⟨nd, rfl⟩⟩)
          | (go_at_call 11; refine (impl_NumText_c v v0 v1 _ (tab_below htab (pw_below_drewN hb1 _))).mono ?_; rintro e w3 ⟨rfl, hb3⟩; rw [c3]))
        go_ret2
        exact ⟨rfl, chain hb1 hb3⟩
      · rw [if_neg (fun g => c2 g.2.2)] at hpn
        rw [hpn]
        have c3 : (Lib.itoa v == s.toList) = false := beq_eq_false_iff_ne.mpr (by rw [Lib.toList_data]; exact c2)
        clear c2 c3e
        go_enter Tryd.func7, Tryd.ntmps7
        go_wp2_with (first
          | (go_at_call 25; refine (Tryd.strconv_Atoi_ok s (by omega) v h _).mono ?_; rintro e w1 ⟨rfl, hb0⟩; have hb1 := hB _ hb0)
          | (go_at_call 26; refine (impl_within.calls v 0 1000000000000 true _ hw).mono ?_; rintro e w2 ⟨rfl, ⟨nd, rfl⟩⟩)
          | (go_at_call 11; refine (impl_NumText_c v v0 v1 _ (tab_below htab (pw_below_drewN hb1 _))).mono ?_; rintro e w3 ⟨rfl, hb3⟩))
        go_ret2
        exact ⟨rfl, chain hb1 hb3⟩
    · rw [decide_eq_false c1] at hw
      rw [if_neg (fun g => c1 ⟨g.1, g.2.1⟩)] at hpn
      rw [hpn]
      go_enter Tryd.func7, Tryd.ntmps7
      go_wp2_with (first
        | (go_at_call 25; refine (Tryd.strconv_Atoi_ok s (by omega) v h _).mono ?_; rintro e w1 ⟨rfl, hb0⟩; have hb1 := hB _ hb0)
        | (go_at_call 26; refine (impl_within.calls v 0 1000000000000 false _ hw).mono ?_; rintro e w2 ⟨rfl, ⟨nd, rfl⟩⟩))
      go_ret2
      exact ⟨rfl, pw_below_drewN hb1 _⟩
  · have hpn := pn_bad (l := s.data.toList) (fun v => by rw [h]; exact fun g => by cases g)
    rw [hpn]
    go_enter Tryd.func7, Tryd.ntmps7
    go_wp2_with (go_at_call 25; refine (Tryd.strconv_Atoi_syntax_var s hlim h tp0 p0 _ hv0).mono ?_; rintro e w1 ⟨N, rfl, -, -, hb1⟩)
    go_ret2
    exact ⟨rfl, hb1⟩
  · have hpn := pn_bad (l := s.data.toList) (fun v => by rw [h]; exact fun g => by cases g)
    rw [hpn]
    go_enter Tryd.func7, Tryd.ntmps7
    go_wp2_with (go_at_call 25; refine (Tryd.strconv_Atoi_range_var s hlim h tp1 p1 _ hv1).mono ?_; rintro e w1 ⟨N, rfl, -, -, hb1⟩)
    go_ret2
    exact ⟨rfl, hb1⟩
theorem chainB {w W w' : World} (h1 : Below w.heap.size w W) (h2 : Below W.heap.size W w') : Below w.heap.size w w' := h1.trans (h2.mono h1.size)
theorem big_v (l : List Int) : laws_big.f l = some (decide ((l.length : Int) > 1048576)) := rfl
set_option maxHeartbeats 8000000 in
set_option maxRecDepth 100000 in
theorem law_walk (A0 : Option Addr) (c0 : Nat) (l0 : List Int) (w : World) (hr0 : Kd.C (Kd.int .u8) w A0 l0.length l0) (hc0 : l0.length ≤ c0) (htab : TabIs Tryd.prog w "internal/strconv.uint64pow10" .u64 pow10Tab)
    (tp0 : TypeId) (p0 : Value) (hv0 : w.var? Tryd.prog "strconv.ErrSyntax" = some #[.iface tp0 p0]) (tp1 : TypeId) (p1 : Value) (hv1 : w.var? Tryd.prog "strconv.ErrRange" = some #[.iface tp1 p1]) :
    Calls Tryd.prog 4 #[.slice A0 l0.length c0] w fun e w' => e = .returned (.bool true) ∧ Below w.heap.size w w' := by
  have hbg := big_v l0
  by_cases hbig : (l0.length : Int) > 1048576
  · rw [decide_eq_true hbig] at hbg
    go_enter Tryd.func4, Tryd.ntmps4
    go_wp2_with (go_at_call 8; refine (laws_big.calls A0 c0 l0 true _ hr0 hc0 hbg).mono ?_; rintro e w1 ⟨rfl, ⟨nd, rfl⟩⟩)
    go_ret
    exact ⟨rfl, pw_below_drewN (Below.refl _ _) _⟩
  · rw [decide_eq_false hbig] at hbg
    obtain ⟨n, e1, hn⟩ := spec_DrawNumText_x (k := 1050000) (b := l0) (by omega) (by omega)
    obtain ⟨s, e2, hs⟩ := spec_DrawParseNum_x (k := 1050000) (b := l0) (by omega) (by omega)
    obtain ⟨a, b, e3⟩ := spec_DrawCeilDiv_x (k := 1050000) (b := l0) (by omega) (by omega)
    obtain ⟨p, q, e4, hp⟩ := spec_DrawWrap_x (k := 1050000) (b := l0) (by omega) (by omega)
    obtain ⟨x, y, e5⟩ := spec_DrawLeast_x (k := 1050000) (b := l0) (by omega) (by omega)
    have e11 := spec_NumText_v (k := 1050000) (by omega) hn.1 hn.2
    have hsz2 : s.size ≤ 281474976710656 := by omega
    have hsz1 : (⟨(Lib.itoa n).toArray⟩ : ByteArray).size ≤ 281474976710656 := itoa_size hn
    have e8 := spec_ParseNum_v (k := 1050000) (by omega) s
    have hv2 := pn_I64 s.data.toList
    have ht2 := pn_true (l := s.data.toList)
    have e7 : pn (⟨(Lib.itoa n).toArray⟩ : ByteArray).data.toList = if 0 ≤ n ∧ n ≤ 1000000000000 then (n, true) else (0, false) := pn_itoa n
    have e6 : pn s.data.toList = ((pn s.data.toList).1, (pn s.data.toList).2) := rfl
    rw [e6] at e8
    generalize (pn s.data.toList).1 = v2 at e6 e8 hv2 ht2
    generalize (pn s.data.toList).2 = k2 at e6 e8 hv2 ht2
    have e9 := impl_CeilDiv_t a b
    have e10 := spec_CeilDiv_t a b
    generalize cd a b = d at e9 e10
    have e12 := impl_Wrap_t p q
    have e13 := spec_Wrap_t p q
    have hr := @wq_facts p q
    generalize wq p q = r at e12 e13 hr
    have e14 : impl_Least.f x y = some (mn x y) := rfl
    have e15 := spec_Least_v x y
    generalize mn x y = m1 at e14 e15
    have e16 : impl_Most.f x y = some (mx x y) := rfl
    have e17 := spec_Most_v x y
    generalize mx x y = m2 at e16 e17
    have HB := Below.refl w.heap.size w
    by_cases hn1 : 0 ≤ n ∧ n ≤ 1000000000000
    · rw [if_pos hn1] at e7
      go_enter Tryd.func4, Tryd.ntmps4
      go_wp2_with (first
      | (go_at_call 8; refine (laws_big.calls A0 c0 l0 false _ (Kd.C_below hr0 HB) hc0 hbg).mono ?_; rintro e w1 ⟨rfl, ⟨nd, rfl⟩⟩)
      | (go_at_call 9; refine (spec_DrawNumText.calls 1050000 A0 c0 l0 n _ (Kd.C_below hr0 (by repeat (first | exact HB | apply below_alloc | apply pw_below_drewN | apply below_drew1))) hc0 e1).mono ?_; rintro e w1 ⟨rfl, hb⟩; replace HB := chainB (by repeat (first | exact HB | apply below_alloc | apply pw_below_drewN | apply below_drew1)) hb; clear hb)
      | (go_at_call 10; refine (spec_DrawParseNum.calls 1050000 A0 c0 l0 s _ (Kd.C_below hr0 (by repeat (first | exact HB | apply below_alloc | apply pw_below_drewN | apply below_drew1))) hc0 e2).mono ?_; rintro e w1 ⟨rfl, hb⟩; replace HB := chainB (by repeat (first | exact HB | apply below_alloc | apply pw_below_drewN | apply below_drew1)) hb; clear hb)
      | (go_at_call 12; refine (spec_DrawCeilDiv.calls 1050000 A0 c0 l0 a b _ (Kd.C_below hr0 (by repeat (first | exact HB | apply below_alloc | apply pw_below_drewN | apply below_drew1))) hc0 e3).mono ?_; rintro e w1 ⟨rfl, hb⟩; replace HB := chainB (by repeat (first | exact HB | apply below_alloc | apply pw_below_drewN | apply below_drew1)) hb; clear hb)
      | (go_at_call 13; refine (spec_DrawWrap.calls 1050000 A0 c0 l0 p q _ (Kd.C_below hr0 (by repeat (first | exact HB | apply below_alloc | apply pw_below_drewN | apply below_drew1))) hc0 e4).mono ?_; rintro e w1 ⟨rfl, hb⟩; replace HB := chainB (by repeat (first | exact HB | apply below_alloc | apply pw_below_drewN | apply below_drew1)) hb; clear hb)
      | (go_at_call 14; refine (spec_DrawLeast.calls 1050000 A0 c0 l0 x y _ (Kd.C_below hr0 (by repeat (first | exact HB | apply below_alloc | apply pw_below_drewN | apply below_drew1))) hc0 e5).mono ?_; rintro e w1 ⟨rfl, hb⟩; replace HB := chainB (by repeat (first | exact HB | apply below_alloc | apply pw_below_drewN | apply below_drew1)) hb; clear hb)
      | (go_at_call 11; refine (impl_NumText_c _ (by first | exact hn.1 | exact hv2.1) (by first | exact hn.2 | exact hv2.2) _ (tab_below htab (by repeat (first | exact HB | apply below_alloc | apply pw_below_drewN | apply below_drew1)))).mono ?_; rintro e w1 ⟨rfl, hb⟩; replace HB := chainB (by repeat (first | exact HB | apply below_alloc | apply pw_below_drewN | apply below_drew1)) hb; clear hb)
      | (go_at_call 7; refine (impl_ParseNum_c _ (by first | exact hsz1 | exact hsz2) _ (tab_below htab (by repeat (first | exact HB | apply below_alloc | apply pw_below_drewN | apply below_drew1))) tp0 p0 (var_below hv0 (by repeat (first | exact HB | apply below_alloc | apply pw_below_drewN | apply below_drew1))) tp1 p1 (var_below hv1 (by repeat (first | exact HB | apply below_alloc | apply pw_below_drewN | apply below_drew1)))).mono ?_; rintro e w1 ⟨he, hb⟩; (first | rw [e6] at he | rw [e7] at he); subst he; replace HB := chainB (by repeat (first | exact HB | apply below_alloc | apply pw_below_drewN | apply below_drew1)) hb; clear hb)
      | (go_at_call 6; refine (spec_ParseNum.calls 1050000 s v2 k2 _ e8).mono ?_; rintro e w1 ⟨rfl, hb⟩; replace HB := chainB (by repeat (first | exact HB | apply below_alloc | apply pw_below_drewN | apply below_drew1)) hb; clear hb)
      | (go_at_call 17; refine (spec_NumText.calls 1050000 n _ _ e11).mono ?_; rintro e w1 ⟨rfl, hb⟩; replace HB := chainB (by repeat (first | exact HB | apply below_alloc | apply pw_below_drewN | apply below_drew1)) hb; clear hb)
      | (go_at_call 15; refine (impl_CeilDiv.calls a b d _ e9).mono ?_; rintro e w1 ⟨rfl, ⟨nd, rfl⟩⟩)
      | (go_at_call 18; refine (spec_CeilDiv.calls a b d _ e10).mono ?_; rintro e w1 ⟨rfl, ⟨nd, rfl⟩⟩)
      | (go_at_call 16; refine (impl_Wrap.calls p q r _ e12).mono ?_; rintro e w1 ⟨rfl, ⟨nd, rfl⟩⟩)
      | (go_at_call 19; refine (spec_Wrap.calls p q r _ e13).mono ?_; rintro e w1 ⟨rfl, ⟨nd, rfl⟩⟩)
      | (go_at_call 20; refine (impl_Least.calls x y m1 _ e14).mono ?_; rintro e w1 ⟨rfl, hb⟩; replace HB := chainB (by repeat (first | exact HB | apply below_alloc | apply pw_below_drewN | apply below_drew1)) hb; clear hb)
      | (go_at_call 21; refine (spec_Least.calls x y m1 _ e15).mono ?_; rintro e w1 ⟨rfl, ⟨nd, rfl⟩⟩)
      | (go_at_call 22; refine (impl_Most.calls x y m2 _ e16).mono ?_; rintro e w1 ⟨rfl, hb⟩; replace HB := chainB (by repeat (first | exact HB | apply below_alloc | apply pw_below_drewN | apply below_drew1)) hb; clear hb)
      | (go_at_call 23; refine (spec_Most.calls x y m2 _ e17).mono ?_; rintro e w1 ⟨rfl, ⟨nd, rfl⟩⟩))
      all_goals first
        | (go_ret; exact ⟨by first | rfl | (simp; omega), (by repeat (first | exact HB | apply below_alloc | apply pw_below_drewN | apply below_drew1))⟩)
        | (exfalso; have hr' := hr ⟨by assumption, by assumption⟩; simp only [bne_iff_ne, ne_eq, bne_eq_false_iff_eq] at *; omega)
    · rw [if_neg hn1] at e7
      by_cases hn2 : 0 ≤ n
      · have hn3 : ¬ n ≤ 1000000000000 := fun g => hn1 ⟨hn2, g⟩
        go_enter Tryd.func4, Tryd.ntmps4
        go_wp2_with (first
        | (go_at_call 8; refine (laws_big.calls A0 c0 l0 false _ (Kd.C_below hr0 HB) hc0 hbg).mono ?_; rintro e w1 ⟨rfl, ⟨nd, rfl⟩⟩)
        | (go_at_call 9; refine (spec_DrawNumText.calls 1050000 A0 c0 l0 n _ (Kd.C_below hr0 (by repeat (first | exact HB | apply below_alloc | apply pw_below_drewN | apply below_drew1))) hc0 e1).mono ?_; rintro e w1 ⟨rfl, hb⟩; replace HB := chainB (by repeat (first | exact HB | apply below_alloc | apply pw_below_drewN | apply below_drew1)) hb; clear hb)
        | (go_at_call 10; refine (spec_DrawParseNum.calls 1050000 A0 c0 l0 s _ (Kd.C_below hr0 (by repeat (first | exact HB | apply below_alloc | apply pw_below_drewN | apply below_drew1))) hc0 e2).mono ?_; rintro e w1 ⟨rfl, hb⟩; replace HB := chainB (by repeat (first | exact HB | apply below_alloc | apply pw_below_drewN | apply below_drew1)) hb; clear hb)
        | (go_at_call 12; refine (spec_DrawCeilDiv.calls 1050000 A0 c0 l0 a b _ (Kd.C_below hr0 (by repeat (first | exact HB | apply below_alloc | apply pw_below_drewN | apply below_drew1))) hc0 e3).mono ?_; rintro e w1 ⟨rfl, hb⟩; replace HB := chainB (by repeat (first | exact HB | apply below_alloc | apply pw_below_drewN | apply below_drew1)) hb; clear hb)
        | (go_at_call 13; refine (spec_DrawWrap.calls 1050000 A0 c0 l0 p q _ (Kd.C_below hr0 (by repeat (first | exact HB | apply below_alloc | apply pw_below_drewN | apply below_drew1))) hc0 e4).mono ?_; rintro e w1 ⟨rfl, hb⟩; replace HB := chainB (by repeat (first | exact HB | apply below_alloc | apply pw_below_drewN | apply below_drew1)) hb; clear hb)
        | (go_at_call 14; refine (spec_DrawLeast.calls 1050000 A0 c0 l0 x y _ (Kd.C_below hr0 (by repeat (first | exact HB | apply below_alloc | apply pw_below_drewN | apply below_drew1))) hc0 e5).mono ?_; rintro e w1 ⟨rfl, hb⟩; replace HB := chainB (by repeat (first | exact HB | apply below_alloc | apply pw_below_drewN | apply below_drew1)) hb; clear hb)
        | (go_at_call 11; refine (impl_NumText_c _ (by first | exact hn.1 | exact hv2.1) (by first | exact hn.2 | exact hv2.2) _ (tab_below htab (by repeat (first | exact HB | apply below_alloc | apply pw_below_drewN | apply below_drew1)))).mono ?_; rintro e w1 ⟨rfl, hb⟩; replace HB := chainB (by repeat (first | exact HB | apply below_alloc | apply pw_below_drewN | apply below_drew1)) hb; clear hb)
        | (go_at_call 7; refine (impl_ParseNum_c _ (by first | exact hsz1 | exact hsz2) _ (tab_below htab (by repeat (first | exact HB | apply below_alloc | apply pw_below_drewN | apply below_drew1))) tp0 p0 (var_below hv0 (by repeat (first | exact HB | apply below_alloc | apply pw_below_drewN | apply below_drew1))) tp1 p1 (var_below hv1 (by repeat (first | exact HB | apply below_alloc | apply pw_below_drewN | apply below_drew1)))).mono ?_; rintro e w1 ⟨he, hb⟩; (first | rw [e6] at he | rw [e7] at he); subst he; replace HB := chainB (by repeat (first | exact HB | apply below_alloc | apply pw_below_drewN | apply below_drew1)) hb; clear hb)
        | (go_at_call 6; refine (spec_ParseNum.calls 1050000 s v2 k2 _ e8).mono ?_; rintro e w1 ⟨rfl, hb⟩; replace HB := chainB (by repeat (first | exact HB | apply below_alloc | apply pw_below_drewN | apply below_drew1)) hb; clear hb)
        | (go_at_call 17; refine (spec_NumText.calls 1050000 n _ _ e11).mono ?_; rintro e w1 ⟨rfl, hb⟩; replace HB := chainB (by repeat (first | exact HB | apply below_alloc | apply pw_below_drewN | apply below_drew1)) hb; clear hb)
        | (go_at_call 15; refine (impl_CeilDiv.calls a b d _ e9).mono ?_; rintro e w1 ⟨rfl, ⟨nd, rfl⟩⟩)
        | (go_at_call 18; refine (spec_CeilDiv.calls a b d _ e10).mono ?_; rintro e w1 ⟨rfl, ⟨nd, rfl⟩⟩)
        | (go_at_call 16; refine (impl_Wrap.calls p q r _ e12).mono ?_; rintro e w1 ⟨rfl, ⟨nd, rfl⟩⟩)
        | (go_at_call 19; refine (spec_Wrap.calls p q r _ e13).mono ?_; rintro e w1 ⟨rfl, ⟨nd, rfl⟩⟩)
        | (go_at_call 20; refine (impl_Least.calls x y m1 _ e14).mono ?_; rintro e w1 ⟨rfl, hb⟩; replace HB := chainB (by repeat (first | exact HB | apply below_alloc | apply pw_below_drewN | apply below_drew1)) hb; clear hb)
        | (go_at_call 21; refine (spec_Least.calls x y m1 _ e15).mono ?_; rintro e w1 ⟨rfl, ⟨nd, rfl⟩⟩)
        | (go_at_call 22; refine (impl_Most.calls x y m2 _ e16).mono ?_; rintro e w1 ⟨rfl, hb⟩; replace HB := chainB (by repeat (first | exact HB | apply below_alloc | apply pw_below_drewN | apply below_drew1)) hb; clear hb)
        | (go_at_call 23; refine (spec_Most.calls x y m2 _ e17).mono ?_; rintro e w1 ⟨rfl, ⟨nd, rfl⟩⟩))
        all_goals first
          | (go_ret; exact ⟨by first | rfl | (simp; omega), (by repeat (first | exact HB | apply below_alloc | apply pw_below_drewN | apply below_drew1))⟩)
          | (exfalso; have hr' := hr ⟨by assumption, by assumption⟩; simp only [bne_iff_ne, ne_eq, bne_eq_false_iff_eq] at *; omega)
      · go_enter Tryd.func4, Tryd.ntmps4
        go_wp2_with (first
        | (go_at_call 8; refine (laws_big.calls A0 c0 l0 false _ (Kd.C_below hr0 HB) hc0 hbg).mono ?_; rintro e w1 ⟨rfl, ⟨nd, rfl⟩⟩)
        | (go_at_call 9; refine (spec_DrawNumText.calls 1050000 A0 c0 l0 n _ (Kd.C_below hr0 (by repeat (first | exact HB | apply below_alloc | apply pw_below_drewN | apply below_drew1))) hc0 e1).mono ?_; rintro e w1 ⟨rfl, hb⟩; replace HB := chainB (by repeat (first | exact HB | apply below_alloc | apply pw_below_drewN | apply below_drew1)) hb; clear hb)
        | (go_at_call 10; refine (spec_DrawParseNum.calls 1050000 A0 c0 l0 s _ (Kd.C_below hr0 (by repeat (first | exact HB | apply below_alloc | apply pw_below_drewN | apply below_drew1))) hc0 e2).mono ?_; rintro e w1 ⟨rfl, hb⟩; replace HB := chainB (by repeat (first | exact HB | apply below_alloc | apply pw_below_drewN | apply below_drew1)) hb; clear hb)
        | (go_at_call 12; refine (spec_DrawCeilDiv.calls 1050000 A0 c0 l0 a b _ (Kd.C_below hr0 (by repeat (first | exact HB | apply below_alloc | apply pw_below_drewN | apply below_drew1))) hc0 e3).mono ?_; rintro e w1 ⟨rfl, hb⟩; replace HB := chainB (by repeat (first | exact HB | apply below_alloc | apply pw_below_drewN | apply below_drew1)) hb; clear hb)
        | (go_at_call 13; refine (spec_DrawWrap.calls 1050000 A0 c0 l0 p q _ (Kd.C_below hr0 (by repeat (first | exact HB | apply below_alloc | apply pw_below_drewN | apply below_drew1))) hc0 e4).mono ?_; rintro e w1 ⟨rfl, hb⟩; replace HB := chainB (by repeat (first | exact HB | apply below_alloc | apply pw_below_drewN | apply below_drew1)) hb; clear hb)
        | (go_at_call 14; refine (spec_DrawLeast.calls 1050000 A0 c0 l0 x y _ (Kd.C_below hr0 (by repeat (first | exact HB | apply below_alloc | apply pw_below_drewN | apply below_drew1))) hc0 e5).mono ?_; rintro e w1 ⟨rfl, hb⟩; replace HB := chainB (by repeat (first | exact HB | apply below_alloc | apply pw_below_drewN | apply below_drew1)) hb; clear hb)
        | (go_at_call 11; refine (impl_NumText_c _ (by first | exact hn.1 | exact hv2.1) (by first | exact hn.2 | exact hv2.2) _ (tab_below htab (by repeat (first | exact HB | apply below_alloc | apply pw_below_drewN | apply below_drew1)))).mono ?_; rintro e w1 ⟨rfl, hb⟩; replace HB := chainB (by repeat (first | exact HB | apply below_alloc | apply pw_below_drewN | apply below_drew1)) hb; clear hb)
        | (go_at_call 7; refine (impl_ParseNum_c _ (by first | exact hsz1 | exact hsz2) _ (tab_below htab (by repeat (first | exact HB | apply below_alloc | apply pw_below_drewN | apply below_drew1))) tp0 p0 (var_below hv0 (by repeat (first | exact HB | apply below_alloc | apply pw_below_drewN | apply below_drew1))) tp1 p1 (var_below hv1 (by repeat (first | exact HB | apply below_alloc | apply pw_below_drewN | apply below_drew1)))).mono ?_; rintro e w1 ⟨he, hb⟩; (first | rw [e6] at he | rw [e7] at he); subst he; replace HB := chainB (by repeat (first | exact HB | apply below_alloc | apply pw_below_drewN | apply below_drew1)) hb; clear hb)
        | (go_at_call 6; refine (spec_ParseNum.calls 1050000 s v2 k2 _ e8).mono ?_; rintro e w1 ⟨rfl, hb⟩; replace HB := chainB (by repeat (first | exact HB | apply below_alloc | apply pw_below_drewN | apply below_drew1)) hb; clear hb)
        | (go_at_call 17; refine (spec_NumText.calls 1050000 n _ _ e11).mono ?_; rintro e w1 ⟨rfl, hb⟩; replace HB := chainB (by repeat (first | exact HB | apply below_alloc | apply pw_below_drewN | apply below_drew1)) hb; clear hb)
        | (go_at_call 15; refine (impl_CeilDiv.calls a b d _ e9).mono ?_; rintro e w1 ⟨rfl, ⟨nd, rfl⟩⟩)
        | (go_at_call 18; refine (spec_CeilDiv.calls a b d _ e10).mono ?_; rintro e w1 ⟨rfl, ⟨nd, rfl⟩⟩)
        | (go_at_call 16; refine (impl_Wrap.calls p q r _ e12).mono ?_; rintro e w1 ⟨rfl, ⟨nd, rfl⟩⟩)
        | (go_at_call 19; refine (spec_Wrap.calls p q r _ e13).mono ?_; rintro e w1 ⟨rfl, ⟨nd, rfl⟩⟩)
        | (go_at_call 20; refine (impl_Least.calls x y m1 _ e14).mono ?_; rintro e w1 ⟨rfl, hb⟩; replace HB := chainB (by repeat (first | exact HB | apply below_alloc | apply pw_below_drewN | apply below_drew1)) hb; clear hb)
        | (go_at_call 21; refine (spec_Least.calls x y m1 _ e15).mono ?_; rintro e w1 ⟨rfl, ⟨nd, rfl⟩⟩)
        | (go_at_call 22; refine (impl_Most.calls x y m2 _ e16).mono ?_; rintro e w1 ⟨rfl, hb⟩; replace HB := chainB (by repeat (first | exact HB | apply below_alloc | apply pw_below_drewN | apply below_drew1)) hb; clear hb)
        | (go_at_call 23; refine (spec_Most.calls x y m2 _ e17).mono ?_; rintro e w1 ⟨rfl, ⟨nd, rfl⟩⟩))
        all_goals first
          | (go_ret; exact ⟨by first | rfl | (simp; omega), (by repeat (first | exact HB | apply below_alloc | apply pw_below_drewN | apply below_drew1))⟩)
          | (exfalso; have hr' := hr ⟨by assumption, by assumption⟩; simp only [bne_iff_ne, ne_eq, bne_eq_false_iff_eq] at *; omega)
end Go.Proofs.YtdodnhjglpidlaaDoor.Door
