/- The law FnExactParseNum over every string: it returns true, since the program's ParseNum and the reference's both accept just the numerals of 0 to 1000000000000; it asks that the table internal/strconv.uint64pow10 read as it is laid, and that strconv.ErrSyntax and strconv.ErrRange hold errors. -/
import Derived.Test.YtdodnhjglpidlaaDoorItoaWalk
import Derived.Test.YtdodnhjglpidlaaDoorShelfA
import Derived.Test.YtdodnhjglpidlaaDoorPureFnExactParseNum
import Derived.BigCall
import Derived.Lib.AtoiErrMem
namespace Go.Proofs.YtdodnhjglpidlaaDoor.Door
open Go Go.RowKit Go.Sort Go.Lib Go.Proofs.YtdodnhjglpidlaaDoor.PFnExactParseNum Go.Proofs.YtdodnhjglpidlaaDoor.Pure Go.Proofs.YtdodnhjglpidlaaDoorW.PrintWords

/-- A variable reads on as it did, whatever a call does at blocks of its own. -/
theorem var_below {w w' : World} {name : String} {x : Array Value} (h : w.var? Tryd.prog name = some x) (hb : Below w.heap.size w w') : w'.var? Tryd.prog name = some x := by
  unfold World.var? at *
  cases hg : Tryd.prog.globalNamed name with
  | none => simp [hg] at h
  | some g =>
    simp only [hg, Option.bind_some] at h ⊢
    have hlt : g < w.heap.size := by
      rcases Nat.lt_or_ge g w.heap.size with h' | h'
      · exact h'
      · rw [Array.getElem?_eq_none h'] at h; simp at h
    rw [hb.block g hlt]
    exact h
theorem chain {w w1 w3 : World} {nd : Nat} (h1 : Below w.heap.size w w1) (h3 : Below (w1.drewN nd).heap.size (w1.drewN nd) w3) : Below w.heap.size w w3 :=
  (pw_below_drewN h1 nd).trans (h3.mono h1.size)
set_option maxRecDepth 100000 in
theorem impl_ParseNum_c (s : ByteArray) (hlim : s.size ≤ 281474976710656) (w : World) (htab : TabIs Tryd.prog w "internal/strconv.uint64pow10" .u64 pow10Tab)
    (tp0 : TypeId) (p0 : Value) (hv0 : w.var? Tryd.prog "strconv.ErrSyntax" = some #[.iface tp0 p0]) (tp1 : TypeId) (p1 : Value) (hv1 : w.var? Tryd.prog "strconv.ErrRange" = some #[.iface tp1 p1]) :
    Calls Tryd.prog 7 #[.string s] w fun e w' => e = .returned (.tuple #[.int .i64 (pn s.data.toList).1, .bool (pn s.data.toList).2]) ∧ Below w.heap.size w w' := by
  rcases h : Lib.atoiAll s.data.toList with v | _ | _
  · obtain ⟨v0, v1⟩ := Lib.atoiAll_bounds h
    have hpn := pn_ok h
    have hw := impl_within_v v 0 1000000000000
    have hB : ∀ w1, (w1 = w ∨ ∃ t, w1 = Lib.bytesWorld w 5 t) → Below w.heap.size w w1 := by
      intro w1 hb0
      rcases hb0 with rfl | ⟨t, rfl⟩
      · exact Below.refl _ _
      · exact Lib.bytesWorld_below _ _ _
    by_cases c1 : 0 ≤ v ∧ v ≤ 1000000000000
    · rw [decide_eq_true c1] at hw
      have c3e : (⟨(Lib.itoa v).toArray⟩ : ByteArray).toList = Lib.itoa v := by rw [Lib.toList_data]
      by_cases c2 : Lib.itoa v = s.data.toList
      · rw [if_pos ⟨c1.1, c1.2, c2⟩] at hpn
        rw [hpn]
        have c3 : (⟨(Lib.itoa v).toArray⟩ : ByteArray) = s := by rw [c2]
        go_enter Tryd.func7, Tryd.ntmps7
        go_wp2_with (first
          | (go_at_call 25; refine (Tryd.strconv_Atoi_ok s (by omega) v h _).mono ?_; rintro e w1 ⟨rfl, hb0⟩; have hb1 := hB _ hb0)
          | (go_at_call 26; refine (impl_within.calls v 0 1000000000000 true _ hw).mono ?_; rintro e w2 ⟨rfl, ⟨nd, rfl⟩⟩)
          | (go_at_call 11; refine (impl_NumText_c v v0 v1 _ (tab_below htab (pw_below_drewN hb1 _))).mono ?_; rintro e w3 ⟨rfl, hb3⟩; rw [c3]))
        go_ret2
        exact ⟨rfl, chain hb1 hb3⟩
      · rw [if_neg (fun g => c2 g.2.2)] at hpn
        rw [hpn]
        have c3 : (Lib.itoa v == s.toList) = false := beq_eq_false_iff_ne.mpr (by rw [Lib.toList_data]; exact c2)
        clear c2 c3e
        go_enter Tryd.func7, Tryd.ntmps7
        go_wp2_with (first
          | (go_at_call 25; refine (Tryd.strconv_Atoi_ok s (by omega) v h _).mono ?_; rintro e w1 ⟨rfl, hb0⟩; have hb1 := hB _ hb0)
          | (go_at_call 26; refine (impl_within.calls v 0 1000000000000 true _ hw).mono ?_; rintro e w2 ⟨rfl, ⟨nd, rfl⟩⟩)
          | (go_at_call 11; refine (impl_NumText_c v v0 v1 _ (tab_below htab (pw_below_drewN hb1 _))).mono ?_; rintro e w3 ⟨rfl, hb3⟩))
        go_ret2
        exact ⟨rfl, chain hb1 hb3⟩
    · rw [decide_eq_false c1] at hw
      rw [if_neg (fun g => c1 ⟨g.1, g.2.1⟩)] at hpn
      rw [hpn]
      go_enter Tryd.func7, Tryd.ntmps7
      go_wp2_with (first
        | (go_at_call 25; refine (Tryd.strconv_Atoi_ok s (by omega) v h _).mono ?_; rintro e w1 ⟨rfl, hb0⟩; have hb1 := hB _ hb0)
        | (go_at_call 26; refine (impl_within.calls v 0 1000000000000 false _ hw).mono ?_; rintro e w2 ⟨rfl, ⟨nd, rfl⟩⟩))
      go_ret2
      exact ⟨rfl, pw_below_drewN hb1 _⟩
  · have hpn := pn_bad (l := s.data.toList) (fun v => by rw [h]; exact fun g => by cases g)
    rw [hpn]
    go_enter Tryd.func7, Tryd.ntmps7
    go_wp2_with (go_at_call 25; refine (Tryd.strconv_Atoi_syntax_var s hlim h tp0 p0 _ hv0).mono ?_; rintro e w1 ⟨N, rfl, -, -, hb1⟩)
    go_ret2
    exact ⟨rfl, hb1⟩
  · have hpn := pn_bad (l := s.data.toList) (fun v => by rw [h]; exact fun g => by cases g)
    rw [hpn]
    go_enter Tryd.func7, Tryd.ntmps7
    go_wp2_with (go_at_call 25; refine (Tryd.strconv_Atoi_range_var s hlim h tp1 p1 _ hv1).mono ?_; rintro e w1 ⟨N, rfl, -, -, hb1⟩)
    go_ret2
    exact ⟨rfl, hb1⟩
theorem law_walk (s : ByteArray) (hlim : s.size ≤ 281474976710656) (w : World) (htab : TabIs Tryd.prog w "internal/strconv.uint64pow10" .u64 pow10Tab)
    (tp0 : TypeId) (p0 : Value) (hv0 : w.var? Tryd.prog "strconv.ErrSyntax" = some #[.iface tp0 p0]) (tp1 : TypeId) (p1 : Value) (hv1 : w.var? Tryd.prog "strconv.ErrRange" = some #[.iface tp1 p1]) :
    Calls Tryd.prog 3 #[.string s] w fun e w' => e = .returned (.bool true) ∧ Below w.heap.size w w' := by
  have hs := spec_ParseNum_v (k := 1001) (by omega) s
  have hi := fun w1 hb1 => impl_ParseNum_c s hlim w1 (tab_below htab hb1) tp0 p0 (var_below hv0 hb1) tp1 p1 (var_below hv1 hb1)
  generalize pn s.data.toList = r at *
  obtain ⟨r1, r2⟩ := r
  by_cases hbig : (s.size : Int) > 1048576
  · go_enter Tryd.func3, Tryd.ntmps3
    go_wp2
    go_ret
    exact ⟨rfl, Below.refl _ _⟩
  · go_enter Tryd.func3, Tryd.ntmps3
    go_wp2_with (first
      | (go_at_call 6; refine (spec_ParseNum.calls 1001 s r1 r2 _ hs).mono ?_; rintro e w1 ⟨rfl, hb1⟩)
      | (go_at_call 7; refine (hi _ hb1).mono ?_; rintro e w2 ⟨rfl, hb2⟩))
    go_ret
    exact ⟨rfl, hb1.trans (hb2.mono hb1.size)⟩
end Go.Proofs.YtdodnhjglpidlaaDoor.Door
