/- Parse over the translation: the whole function. -/
import Derived.Test.YtldhpecpmgjihaaScprange
set_option linter.unusedVariables false
set_option linter.unusedSimpArgs false
namespace Go.Proofs.Ytldhpecpmgjihaa
open Go.RowKit Go.Shelf Sc
attribute [local go_sem] Oper.semAt_some

theorem own_keep {w w' : World} {B e z n : Nat} {v : Value} {xs : List Value} (h : w.ownsRow B e z v n xs) (hb : Below w.heap.size w w') : w'.ownsRow B e z v n xs := by
  obtain ⟨h0, h | ⟨g, cap, cur, hv, hg, hh, r⟩⟩ := h
  · exact ⟨h0, .inl h⟩
  · exact ⟨h0, .inr ⟨g, cap, cur, hv, hg, (hb.block g (Array.getElem?_eq_some_iff.1 hh).1).trans hh, r⟩⟩
theorem own_below {w : World} {B e z n : Nat} {v : Value} {xs : List Value} (h : w.ownsRow B e z v n xs) : ∀ k, v.ownBlock = some k → B ≤ k := by
  obtain ⟨_, h | ⟨g, cap, cur, hv, hg, _⟩⟩ := h
  · intro k hk
    rw [h.1] at hk
    cases hk
  · intro k hk
    rw [hv] at hk
    injection hk with hk
    rw [← hk]
    exact hg
theorem below_putObj {B l : Nat} {a W : World} {o : Obj} (h : Below B a W) (hl : B ≤ l) : Below B a (W.putObj l o) :=
  h.trans ⟨rfl, rfl, rfl, by simp, fun k hk => World.putObj_heap_other (by omega)⟩
/-- What is so at a round's end. -/
theorem px_end {s : ByteArray} {c : Int} {w W : World} {R Rb : Loop} {j m : Nat} (hL : W.heap[w.heap.size + 4]? = some (.loop Rb)) (hK : W.heap[w.heap.size + 3]? = some (.deferred (some []))) (hS : Boxed W (w.heap.size + 2) 9 (.string (suf s j))) (hC : Boxed W w.heap.size 3 (.int .i64 c))
    (hO : ∃ v, Boxed W (w.heap.size + 1) 24 v ∧ W.ownsRow (w.heap.size + 5) 29 4 v (parseU s c m).length (its (parseU s c m))) (hB : Below w.heap.size w W) : PX s c w R j m (W.putObj (w.heap.size + 4) (.loop R)) := by
  obtain ⟨v, hv, hr⟩ := hO
  exact ⟨World.putObj_heap_same (Array.getElem?_eq_some_iff.1 hL).1, (World.putObj_heap_other (by omega)).trans hK, (World.putObj_heap_other (by omega)).trans hS, (World.putObj_heap_other (by omega)).trans hC, ⟨v, (World.putObj_heap_other (by omega)).trans hv, ownsRow_putObj hr _ hL rfl⟩, below_putObj hB (by omega)⟩
theorem ul_items : Try.prog.underlying 24 = some (.slice 29) := by kernel_rfl
theorem info_item : (Try.prog.info? 29).map (fun i => (i.zero, i.size, i.bytes)) = some (some (.agg #[.int .i64 0, .int .i64 0, .int .i64 0, .int .i64 0]), 4, 32) := by kernel_rfl
set_option maxRecDepth 100000 in
set_option maxHeartbeats 800000 in
theorem items_fn (s : ByteArray) (w : World) : Calls Try.prog 18 #[.string s] w fun e w' => e = .returned (.func (.func 22) #[] #[.pointer (some ⟨w.heap.size, 0, none⟩)]) ∧ w' = w.alloc (.cells #[.string s] 9) := by
  have hmf : ∀ (fn : Fn) (first cap : Array Value) (w : World), (Instr.makeFunc fn first cap).run Try.prog w = .ok (.func fn first cap) w := fun _ _ _ _ => rfl
  go_enter Try.func18, Try.ntmps18
  go_wp2
  go_ret
  exact ⟨rfl, rfl⟩
set_option maxRecDepth 100000 in
set_option maxHeartbeats 3200000 in
theorem parse_own (s : ByteArray) (c : Int) (hs : s.size ≤ 1000000) (w : World) : Calls Try.prog 12 #[.string s, .int .i64 c] w fun e w' => ∃ v, e = .returned v ∧ w'.ownsRow (w.heap.size + 5) 29 4 v (parseU s c (s.size / 4)).length (its (parseU s c (s.size / 4))) ∧ Below w.heap.size w w' := by
  obtain ⟨i0, hi, hy0, hy1, hy2⟩ := info_parts info_item
  refine (callsIn_wide (n := 5)).1 ?_
  refine callsIn_of_wp_marks Try.func12 rfl trivial ?_ rfl
  simp only [Try.ntmps12, List.size_toArray, List.length_cons, List.length_nil, Nat.reduceAdd, Nat.reduceSub, Array.replicate_succ, Array.replicate_zero, List.push_toArray, List.append_toArray, List.nil_append, List.cons_append]
  gi_wp2_with (refine ⟨trivial, ?_⟩; gi_at_call 18; refine (callsIn_wide.2 (items_fn s _)).mono ?_; rintro e w' ⟨rfl, rfl⟩)
  refine parse_range 5 (by decide) _ _ _ _ w _ s c (by rfl) (by simp) (by simp) (below_new (below_new (below_new (Below.refl _ _) _) _) _) ?hC ?hO ?hS ?hround ?hdone
  case hC => exact ((Boxed.new w _ _).alloc _).alloc _
  case hO =>
    have h := (Boxed.new (w.alloc (.cells #[.int .i64 c] 3)) 24 (.slice none 0 0)).alloc (.cells #[.string s] 9)
    rw [World.size_alloc] at h
    exact h
  case hS =>
    have h := Boxed.new ((w.alloc (.cells #[.int .i64 c] 3)).alloc (.cells #[.slice none 0 0] 24)) 9 (.string s)
    rw [World.size_alloc, World.size_alloc] at h
    exact h
  case hround =>
    intro fn R j W hj hR h
    refine roundIn_of_wpIn trivial ?_
    obtain ⟨x, hx⟩ : ∃ x, itAt s j = x := ⟨_, rfl⟩
    rw [hx]
    obtain ⟨WA, hWA⟩ : ∃ WA, W.alloc (.cells #[.int .i64 x.k, .int .i64 x.c, .int .i64 x.a, .int .i64 x.b] 29) = WA := ⟨_, rfl⟩
    have hzW : w.heap.size + 5 ≤ W.heap.size := (Array.getElem?_eq_some_iff.1 h.L).1
    have keepA : ∀ k, k < W.heap.size → WA.heap[k]? = W.heap[k]? := fun k hk => by rw [← hWA]; exact Below.heap_alloc _ _ k hk
    have hLA : WA.heap[w.heap.size + 4]? = some (.loop R) := (keepA _ (by omega)).trans h.L
    have hbr := run_beginRound (P := Try.prog) hLA (by rw [hR])
    obtain ⟨W2, hW2⟩ : ∃ W2, WA.putObj (w.heap.size + 4) (.loop { R with state := .busy }) = W2 := ⟨_, rfl⟩
    rw [hW2] at hbr
    have keep2 : ∀ k, k ≠ w.heap.size + 4 → W2.heap[k]? = WA.heap[k]? := fun k hk => by rw [← hW2]; exact World.putObj_heap_other hk
    have hz2 : W2.heap.size = W.heap.size + 1 := by rw [← hW2, ← hWA]; simp
    have hX : W2.heap[W.heap.size]? = some (.cells #[.int .i64 x.k, .int .i64 x.c, .int .i64 x.a, .int .i64 x.b] 29) := (keep2 _ (by omega)).trans (by rw [← hWA]; exact World.alloc_heap_new W _)
    obtain ⟨v, hv, hr⟩ := h.O
    have hC2 : Boxed W2 w.heap.size 3 (.int .i64 c) := (keep2 _ (by omega)).trans ((keepA _ (by omega)).trans h.C)
    have hv2 : Boxed W2 (w.heap.size + 1) 24 v := (keep2 _ (by omega)).trans ((keepA _ (by omega)).trans hv)
    have cx0 : W2.cell? ⟨W.heap.size, 0, none⟩ = some (.int .i64 x.k) := by simp [World.cell?, hX]
    have cx1 : W2.cell? ⟨W.heap.size, 1, none⟩ = some (.int .i64 x.c) := by simp [World.cell?, hX]
    have cx2 : W2.cell? ⟨W.heap.size, 2, none⟩ = some (.int .i64 x.a) := by simp [World.cell?, hX]
    have cx3 : W2.cell? ⟨W.heap.size, 3, none⟩ = some (.int .i64 x.b) := by simp [World.cell?, hX]
    have cc := hC2.cell
    have HWA : Hid (W.alloc (.cells #[.int .i64 x.k, .int .i64 x.c, .int .i64 x.a, .int .i64 x.b] 29) = WA) := Lib.hid hWA
    have hnx : ¬ W.heap.size = w.heap.size := by omega
    have HR := Lib.hid hR
    have HBR := Lib.hid hbr
    have HV2 := Lib.hid hv2
    have HC2 := Lib.hid hC2
    have HX := Lib.hid hX
    have HRW := Lib.hid hr
    have HH := Lib.hid h
    have HHX := Lib.hid hx
    have HA := Lib.hid keepA
    have H2 := Lib.hid keep2
    have HW2 := Lib.hid hW2
    clear hC2 hv2 hv hX hr h hx keepA keep2 hLA hR hW2
    rw [← hWA] at hbr
    clear hWA HBR
    -- the item may be, or not
    have step : ∀ t : Bool, rightU x c = t → Hid (∀ w : World, Calls Try.prog 14 #[(.agg #[.int .i64 x.k, .int .i64 x.c, .int .i64 x.a, .int .i64 x.b]), .int .i64 c] w fun e w' => e = .returned (.bool t) ∧ Below w.heap.size w w') := fun t ht => Lib.hid (fun w => by
      have h := right_any x c w
      rw [ht] at h
      exact h)
    by_cases hrt : rightU x c = true
    · have RC := step true hrt
      clear step
      have HT := Lib.hid hrt
      clear hrt
      gi_wp2_with fail
      refine ⟨trivial, (CallsIn.inRound _ (callsIn_wide.2 (RC.out _))).mono ?_⟩
      rintro e w3 ⟨rfl, hb⟩
      have hz3 : W2.heap.size ≤ w3.heap.size := hb.size
      have at3 : ∀ k, k < W.heap.size → k ≠ w.heap.size + 4 → w3.heap[k]? = W.heap[k]? := fun k hk hn => (hb.block k (by omega)).trans ((H2.out k hn).trans (HA.out k hk))
      have hL3 : w3.heap[w.heap.size + 4]? = some (.loop { R with state := .busy }) := (hb.block _ (by omega)).trans (by rw [← HW2.out]; exact World.putObj_heap_same (by rw [← HWA.out]; simp; omega))
      have hv3 : Boxed w3 (w.heap.size + 1) 24 v := (hb.block _ (by omega)).trans HV2.out
      have hr3 : w3.ownsRow (w.heap.size + 5) 29 4 v (parseU s c j).length (its (parseU s c j)) := own_keep (by rw [← HW2.out, ← HWA.out]; exact ownsRow_putObj (HRW.out.alloc _) _ (l := w.heap.size + 4) (o := .loop R) (by rw [HWA.out]; exact (HA.out _ (by omega)).trans HH.out.L) rfl) hb
      have hB3 : Below w.heap.size w w3 := (show Below w.heap.size w W2 from by rw [← HW2.out, ← HWA.out]; exact below_putObj (below_new HH.out.B _) (by omega)).trans (hb.mono (by omega))
      have dx0 : w3.cell? ⟨W.heap.size, 0, none⟩ = some (.int .i64 x.k) := (hb.cell (p := ⟨W.heap.size, 0, none⟩) (by simp; omega)).trans cx0
      have dx1 : w3.cell? ⟨W.heap.size, 1, none⟩ = some (.int .i64 x.c) := (hb.cell (p := ⟨W.heap.size, 1, none⟩) (by simp; omega)).trans cx1
      have dx2 : w3.cell? ⟨W.heap.size, 2, none⟩ = some (.int .i64 x.a) := (hb.cell (p := ⟨W.heap.size, 2, none⟩) (by simp; omega)).trans cx2
      have dx3 : w3.cell? ⟨W.heap.size, 3, none⟩ = some (.int .i64 x.b) := (hb.cell (p := ⟨W.heap.size, 3, none⟩) (by simp; omega)).trans cx3
      have dv := hv3.cell
      have df := hv3.frozen
      have AT3 := Lib.hid at3
      have HL3 := Lib.hid hL3
      have HV3 := Lib.hid hv3
      have HR3 := Lib.hid hr3
      have HB3 := Lib.hid hB3
      have hlen := parse_len s c j
      clear at3 hL3 hv3 hr3 hB3 hb cx0 cx1 cx2 cx3 cc
      gi_wp2_with (first | (gi_at_builtin; refine wpListIn_append_own _ rfl _ _ 24 rfl (w.heap.size + 5) 29 i0 (.agg #[.int .i64 0, .int .i64 0, .int .i64 0, .int .i64 0]) 4 32 ul_items hi hy0 hy1 hy2 rfl (by decide) _ _ _ rfl (HR3.out.alloc _) ⟨w3.heap.size, 0, none⟩ 1 1 [.int .i64 x.k, .int .i64 x.c, .int .i64 x.a, .int .i64 x.b] rfl rfl ?c1 ?c2 ?c3 ?c4 ?c5 ?_) | fail)
      case c1 =>
        intro j u hj
        match j, hj with
        | 0, hj => simp at hj; subst hj; simp [Addr.add]
        | 1, hj => simp at hj; subst hj; simp [Addr.add]
        | 2, hj => simp at hj; subst hj; simp [Addr.add]
        | 3, hj => simp at hj; subst hj; simp [Addr.add]
      case c2 =>
        intro u hu
        simp at hu
        rcases hu with rfl | rfl | rfl | rfl <;> rfl
      case c3 => unfold maxLen; omega
      case c4 => omega
      case c5 => simp; omega
      · intro v' w4 hown' hgrow _
        have hnr : ∀ k, k < w.heap.size + 5 → some k ≠ v.ownBlock := fun k hk e => by have := own_below HR3.out k e.symm; omega
        have at4 : ∀ k, k < w.heap.size + 5 → w4.heap[k]? = w3.heap[k]? := fun k hk => (hgrow.block k (by simp; omega) (hnr k hk)).trans (Below.heap_alloc _ _ k (by omega))
        have hv4 : Boxed w4 (w.heap.size + 1) 24 v := (at4 _ (by omega)).trans HV3.out
        have ev := hv4.cell
        have ef := hv4.frozen
        have hB4 : Below w.heap.size w w4 := (below_new HB3.out _).grown hgrow (by simp; omega) (fun k e => by have := own_below HR3.out k e; omega)
        obtain ⟨g', cap', hv'⟩ := ownsRow_succ hown'
        subst hv'
        have HOW := Lib.hid hown'
        have AT4 := Lib.hid at4
        have HV4 := Lib.hid hv4
        have HB4 := Lib.hid hB4
        clear hown' hgrow hnr at4 hv4 hB4 dx0 dx1 dx2 dx3 dv df
        gi_wp2
        have hL5 : (w4.setCell ⟨w.heap.size + 1, 0, none⟩ (.slice (some ⟨g', 0, none⟩) ((parseU s c j).length + 1) cap')).heap[w.heap.size + 4]? = some (.loop { R with state := .busy }) := (Below.heap_setCell _ _ _ _ (by simp)).trans ((AT4.out _ (by omega)).trans HL3.out)
        refine ⟨_, _, run_endRound none hL5, rfl, ?_⟩
        have eR : ({ { R with state := .busy } with state := if (none : Option Code).isNone then .ready else .done, pending := none } : Loop) = R := by rw [HR.out]; rfl
        rw [eR]
        have eP : parseU s c (j + 1) = parseU s c j ++ [x] := by
          show (if rightU (itAt s j) c then _ else _) = _
          rw [HHX.out, HT.out, if_pos rfl]
        have at5 : ∀ k, k < w.heap.size + 5 → k ≠ w.heap.size + 1 → k ≠ w.heap.size + 4 → (w4.setCell ⟨w.heap.size + 1, 0, none⟩ (.slice (some ⟨g', 0, none⟩) ((parseU s c j).length + 1) cap')).heap[k]? = W.heap[k]? := fun k h1 h2 h3 => (Below.heap_setCell _ _ _ _ h2).trans ((AT4.out _ h1).trans (AT3.out k (by omega) h3))
        refine px_end hL5 ((at5 _ (by omega) (by omega) (by omega)).trans HH.out.K) ((at5 _ (by omega) (by omega) (by omega)).trans HH.out.S) ((at5 _ (by omega) (by omega) (by omega)).trans HH.out.C) ⟨_, HV4.out.set _, ?_⟩ (HB4.out.setCell (by simp) _)
        rw [eP, its_snoc, List.length_append]
        exact ownsRow_setCell_below HOW.out (by simp) _
    · have hrf : rightU x c = false := by simpa using hrt
      have RC := step false hrf
      clear step hrt
      have HT := Lib.hid hrf
      clear hrf
      gi_wp2_with fail
      refine ⟨trivial, (CallsIn.inRound _ (callsIn_wide.2 (RC.out _))).mono ?_⟩
      rintro e w3 ⟨rfl, hb⟩
      have hz3 : W2.heap.size ≤ w3.heap.size := hb.size
      have at3 : ∀ k, k < W.heap.size → k ≠ w.heap.size + 4 → w3.heap[k]? = W.heap[k]? := fun k hk hn => (hb.block k (by omega)).trans ((H2.out k hn).trans (HA.out k hk))
      have hL3 : w3.heap[w.heap.size + 4]? = some (.loop { R with state := .busy }) := (hb.block _ (by omega)).trans (by rw [← HW2.out]; exact World.putObj_heap_same (by rw [← HWA.out]; simp; omega))
      have hv3 : Boxed w3 (w.heap.size + 1) 24 v := (hb.block _ (by omega)).trans HV2.out
      have hr3 : w3.ownsRow (w.heap.size + 5) 29 4 v (parseU s c j).length (its (parseU s c j)) := own_keep (by rw [← HW2.out, ← HWA.out]; exact ownsRow_putObj (HRW.out.alloc _) _ (l := w.heap.size + 4) (o := .loop R) (by rw [HWA.out]; exact (HA.out _ (by omega)).trans HH.out.L) rfl) hb
      have hB3 : Below w.heap.size w w3 := (show Below w.heap.size w W2 from by rw [← HW2.out, ← HWA.out]; exact below_putObj (below_new HH.out.B _) (by omega)).trans (hb.mono (by omega))
      have AT3 := Lib.hid at3
      have HL3 := Lib.hid hL3
      have HV3 := Lib.hid hv3
      have HR3 := Lib.hid hr3
      have HB3 := Lib.hid hB3
      clear at3 hL3 hv3 hr3 hB3 hb cx0 cx1 cx2 cx3 cc
      gi_wp2
      refine ⟨_, _, run_endRound none HL3.out, rfl, ?_⟩
      have eR : ({ { R with state := .busy } with state := if (none : Option Code).isNone then .ready else .done, pending := none } : Loop) = R := by rw [HR.out]; rfl
      rw [eR]
      have eP : parseU s c (j + 1) = parseU s c j := by
        show (if rightU (itAt s j) c then _ else _) = _
        rw [HHX.out, HT.out]
        rfl
      refine px_end HL3.out ((AT3.out _ (by omega) (by omega)).trans HH.out.K) ((AT3.out _ (by omega) (by omega)).trans HH.out.S) ((AT3.out _ (by omega) (by omega)).trans HH.out.C) ⟨_, HV3.out, ?_⟩ HB3.out
      rw [eP]
      exact HR3.out
  case hdone =>
    intro R W h
    have hzW : w.heap.size + 5 ≤ W.heap.size := (Array.getElem?_eq_some_iff.1 h.L).1
    obtain ⟨v, hv, hr⟩ := h.O
    have hr5 := ownsRow_putObj hr (.loop { R with state := .exhausted }) h.L rfl
    have hv5 : Boxed (W.putObj (w.heap.size + 4) (.loop { R with state := .exhausted })) (w.heap.size + 1) 24 v := (World.putObj_heap_other (by omega)).trans hv
    have hK5 : (W.putObj (w.heap.size + 4) (.loop { R with state := .exhausted })).heap[w.heap.size + 3]? = some (.deferred (some [])) := (World.putObj_heap_other (by omega)).trans h.K
    have hB5 : Below w.heap.size w (W.putObj (w.heap.size + 4) (.loop { R with state := .exhausted })) := below_putObj h.B (by omega)
    generalize W.putObj (w.heap.size + 4) (.loop { R with state := .exhausted }) = W5 at hr5 hv5 hK5 hB5 ⊢
    clear hr hv h
    have cv := hv5.cell
    have HR5 := Lib.hid hr5
    have HK5 := Lib.hid hK5
    have HB5 := Lib.hid hB5
    clear hr5 hK5 hB5
    gi_wp2
    refine ⟨by simp, .inl ⟨_, _, rfl, run_takeDeferred HK5.out, ?_⟩⟩
    exact ⟨_, results_tmp rfl _ _ _, v, rfl, ownsRow_putObj HR5.out _ HK5.out rfl, below_putObj HB5.out (by omega)⟩
end Go.Proofs.Ytldhpecpmgjihaa
