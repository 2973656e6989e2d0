/- The reference's draw of a graduation, now and then a wrong one. Condition: the code has at most 4096 bytes. -/
import Derived.Test.YtkjommcmeinkaaaGreatKRw27
import Derived.Test.YtkjommcmeinkaaaGreatKRw30
import Derived.Test.YtkjommcmeinkaaaGreatKRw33
set_option linter.unusedSimpArgs false
namespace Go.Proofs.YtkjommcmeinkaaaGreat
open Go.RowKit
theorem part_set {w : World} {base b n cap : Nat} {L : List Part} {k : Nat} (hk : k < L.length) (h : Own w base 78 3 (.slice (some ⟨b, 0, none⟩) n cap) (L.map Part.cells)) (m : Int) :
    (∃ L' : List Part, L'.length = L.length ∧ Own (w.setCell ⟨b, k * 3 + 1, none⟩ (.int .i64 m)) base 78 3 (.slice (some ⟨b, 0, none⟩) n cap) (L'.map Part.cells)) ∧
    (∃ L' : List Part, L'.length = L.length ∧ Own (w.setCell ⟨b, k * 3 + 2, none⟩ (.int .i64 m)) base 78 3 (.slice (some ⟨b, 0, none⟩) n cap) (L'.map Part.cells)) := by
  have hk' : k < (L.map Part.cells).length := by simpa using hk
  refine ⟨⟨L.set k ⟨L[k].fr, m, L[k].st⟩, by simp, ?_⟩, ⟨L.set k ⟨L[k].fr, L[k].to, m⟩, by simp, ?_⟩⟩
  · have h1 := h.set1 (i := k) (j := 1) hk' (by omega) (.int .i64 m)
    rw [List.map_set]
    simpa [Part.cells] using h1
  · have h1 := h.set1 (i := k) (j := 2) hk' (by omega) (.int .i64 m)
    rw [List.map_set]
    simpa [Part.cells] using h1
def pickM : Array Value := #[.int .i64 1, .int .i64 (-1), .int .i64 100]
/-- while an end is moved -/
structure GdS (w : World) (A : Option Addr) (n c g : Nat) (R : List Part) (cp b : Nat) (b1 b2 b3 : Bool) (v32 v33 v34 : Value) (v : World) : Prop where
  k1 : g < w.heap.size
  s : Src v A n c g
  p : Own v w.heap.size 78 3 (.slice (some ⟨b, 0, none⟩) R.length cp) (R.map Part.cells)
  gr : w.grownBy v (some g)
  l32 : b1 = true → ∃ bb, v32 = .slice (some ⟨bb, 0, none⟩) 3 3 ∧ Blk v bb 2 pickM ∧ bb ≠ g
  l33 : b2 = true → ∃ q : Int, v33 = .int .i64 q
  l34 : b3 = true → ∃ q : Int, v34 = .int .i64 q
section
variable {w v v' : World} {A : Option Addr} {n c g : Nat} {R : List Part} {cp b : Nat} {b1 b2 b3 : Bool} {v32 v33 v34 : Value}
theorem GdS.cell {k : Nat} (h : GdS w A n c g R cp b b1 b2 b3 v32 v33 v34 v) (hk : k < R.length) : v.cell? ⟨b, k * 3 + 1, none⟩ = some (.int .i64 R[k].to) := by
  obtain ⟨b', off', he, _, hc⟩ := h.p.sl.at_ (i := k) (by rw [List.length_map]; exact hk)
  cases he
  have := hc 1 (.int .i64 R[k].to) (by rw [List.getElem_map]; rfl)
  rwa [Nat.zero_add] at this
theorem GdS.mk1 (h : GdS w A n c g R cp b b1 b2 b3 v32 v33 v34 v) : GdS w A n c g R cp b true b2 b3 (.slice (some ⟨v.heap.size, 0, none⟩) 3 3) v33 v34 (v.alloc (.cells pickM 2)) :=
  ⟨h.k1, h.s.alloc _, h.p.alloc _, h.gr.trans (grown_alloc _ _), fun _ => ⟨_, rfl, Blk.new _ _ _, (by have := h.s.lt; omega)⟩, h.l33, h.l34⟩
theorem GdS.pick (h : GdS w A n c g R cp b b1 b2 b3 v32 v33 v34 v) (q : Int) (hS : Src v' A n c g) (hg : v.grownBy v' (some g)) : GdS w A n c g R cp b b1 true b3 v32 (.int .i64 q) v34 v' :=
  ⟨h.k1, hS, h.p.src hg h.k1, h.gr.trans hg, (fun e => by
    obtain ⟨bb, h1, h2, h3⟩ := h.l32 e
    exact ⟨bb, h1, h2.src hg h3, h3⟩), fun _ => ⟨q, rfl⟩, h.l34⟩
theorem GdS.add (h : GdS w A n c g R cp b b1 b2 b3 v32 v33 v34 v) (m : Int) : GdS w A n c g R cp b b1 b2 true v32 v33 (.int .i64 m) v :=
  ⟨h.k1, h.s, h.p, h.gr, h.l32, h.l33, fun _ => ⟨m, rfl⟩⟩
theorem GdS.start (k1 : g < w.heap.size) (hS : Src v A n c g) (hP : Own v w.heap.size 78 3 (.slice (some ⟨b, 0, none⟩) R.length cp) (R.map Part.cells)) (hG : w.grownBy v (some g)) : GdS w A n c g R cp b false false false v32 v33 v34 v.drew :=
  ⟨k1, hS.keep fun _ _ => rfl, hP, grown_drewN hG 1, nofun, nofun, nofun⟩
end
set_option maxRecDepth 100000 in
set_option maxHeartbeats 4000000 in
theorem l07Draw_c (A : Option Addr) (n c g : Nat) (w : World) (hS : Src w A n c g) : Calls Tryz.prog 31 #[.pointer (some ⟨g, 0, none⟩)] w (DPt A n c g w) := by
  have hG : w.grownBy w (some g) := World.grownBy.refl _ _
  have hlt := hS.lt
  unfold DPt
  go_enter Tryz.func31, Tryz.ntmps31
  go_wp2_with fail
  refine (l07Valid_c A n c g _ hS).mono ?_; rintro e w1 ⟨R, Ap, cp, rfl, ⟨hR1, hR2⟩, hP, hS, hg⟩
  have hG := hG.trans hg
  clear hg
  go_wp2_with fail
  refine (l01Next_c A n c g _ _ hS).mono ?_; rintro e w2 ⟨k0, rfl, ⟨ka, kb⟩, kd, hS, hg⟩
  have hP := hP.src hg hlt
  have hG := hG.trans hg
  clear hg
  obtain ⟨k, rfl⟩ := Int.eq_ofNat_of_zero_le ka
  have hk : k < R.length := by omega
  have hk2 : (k : Int) < R.length := by omega
  obtain ⟨b, off, hA, _, _⟩ := hP.sl.at_ (i := k) (by rw [List.length_map]; exact hk)
  subst hA
  obtain rfl := hP.off0 (i := k) (by rw [List.length_map]; exact hk)
  have hbg := hP.block_ge.1
  go_wp2_with fail
  refine (l01Next_c A n c g _ _ hS).mono ?_; rintro e w3 ⟨q, rfl, ⟨qa, qb⟩, qd, hS, hg⟩
  have hP := hP.src hg hlt
  have hG := hG.trans hg
  clear hg
  by_cases q0 : q = 0
  · subst q0
    go_wp2_with fail
    refine (l01Pick_n A n c g #[.int .i64 0, .int .i64 7, .int .i64 1, .int .i64 (-1)] 4 4 _ hS (by intro v hv; simp only [List.mem_cons, List.not_mem_nil, or_false] at hv; rcases hv with rfl | rfl | rfl | rfl; all_goals exact ⟨_, rfl, by omega, by omega⟩) rfl (by decide) (by decide)).mono ?_; rintro e w4 ⟨r, rfl, ⟨r1, r2⟩, hS, hg⟩
    have hP := hP.src hg hlt
    have hG := hG.trans hg
    clear hg
    obtain ⟨u2, x2⟩ := hP.cell (i := k) (j := 2) (by simpa using hk) (by omega)
    have f2 := hP.frozen (k * 3 + 2)
    obtain ⟨L', hL', hO'⟩ := (part_set hk hP r).2
    have hb4 := hP.block_ge.2
    go_wp2
    go_ret
    exact ⟨L', _, cp, by rw [hL']; rfl, by omega, by rw [hL']; exact hO', hS.far (by simp only; omega), grown_far hG (by simp only; omega)⟩
  · have q0' : (q == 0) = false := by simp [q0]
    by_cases q1 : q = 1
    · subst q1
      go_wp2_with fail
      refine wp_region_sink 13 (fun a0 fL bA v => ∃ v24 v25 v26 v27 v28 v29 v30 v31 v32 v33 v34 v35 v36 : Value, bA = ((((((((((((a0.put (some 24) v24).put (some 25) v25).put (some 26) v26).put (some 27) v27).put (some 28) v28).put (some 29) v29).put (some 30) v30).put (some 31) v31).put (some 32) v32).put (some 33) v33).put (some 34) v34).put (some 35) v35).put (some 36) v36 ∧ (GdS w A n c g R cp b (fL 8) (fL 9) (fL 10) v32 v33 v34 v) ∧ (fL 0 = true → v24 = .slice (some ⟨b, 0, none⟩) R.length cp) ∧ (fL 1 = true → v25 = .int .i64 (k : Int)) ∧ (fL 2 = true → v26 = .slice (some ⟨b, 0, none⟩) R.length cp) ∧ (fL 3 = true → v27 = .int .i64 (k : Int)) ∧ (fL 4 = true → v28 = .pointer (some ⟨b, k * 3, none⟩)) ∧ (fL 5 = true → v29 = .pointer (some ⟨b, k * 3 + 1, none⟩)) ∧ (fL 6 = true → v30 = .int .i64 R[k].to) ∧ (fL 7 = true → v31 = .pointer (some ⟨g, 0, none⟩)) ∧ (fL 8 = true → True) ∧ (fL 9 = true → True) ∧ (fL 10 = true → True) ∧ (fL 11 = true → v35 = .pointer (some ⟨b, k * 3, none⟩)) ∧ (fL 12 = true → v36 = .pointer (some ⟨b, k * 3 + 1, none⟩))) (by kernel_rfl) (by decide +kernel) ?_ ?_ ?_
      · exact ⟨undef, undef, undef, undef, undef, undef, undef, undef, undef, undef, undef, undef, undef, by simp only [Act.put, List.setIfInBounds_toArray, List.set_cons_zero, List.set_cons_succ], GdS.start hlt hS hP hG, nofun, nofun, nofun, nofun, nofun, nofun, nofun, nofun, nofun, nofun, nofun, nofun, nofun⟩
      · rintro fL bA v ⟨v24, v25, v26, v27, v28, v29, v30, v31, v32, v33, v34, v35, v36, rfl, hS, q0, q1, q2, q3, q4, q5, q6, q7, q8, q9, q10, q11, q12⟩ i hi hf o ho hall
        simp only [Act.put, List.setIfInBounds_toArray, List.set_cons_zero, List.set_cons_succ]
        have hn : i = 0 ∨ i = 1 ∨ i = 2 ∨ i = 3 ∨ i = 4 ∨ i = 5 ∨ i = 6 ∨ i = 7 ∨ i = 8 ∨ i = 9 ∨ i = 10 ∨ i = 11 ∨ i = 12 := by omega
        clear hi
        rcases hn with rfl | rfl | rfl | rfl | rfl | rfl | rfl | rfl | rfl | rfl | rfl | rfl | rfl
        · obtain rfl := Option.some.inj ho
          clear hall ho
          refine wpOp_step rfl (fun K hK => ?_)
          go_simp
          exact hK _ _ ⟨_, _, _, _, _, _, _, _, _, _, _, _, _, rfl, hS, fun _ => rfl, q1, q2, q3, q4, q5, q6, q7, fun _ => trivial, fun _ => trivial, fun _ => trivial, q11, q12⟩
        · obtain rfl := Option.some.inj ho
          clear hall ho
          refine wpOp_step rfl (fun K hK => ?_)
          go_simp
          exact hK _ _ ⟨_, _, _, _, _, _, _, _, _, _, _, _, _, rfl, hS, q0, fun _ => rfl, q2, q3, q4, q5, q6, q7, fun _ => trivial, fun _ => trivial, fun _ => trivial, q11, q12⟩
        · obtain rfl := Option.some.inj ho
          clear hall ho
          refine wpOp_step rfl (fun K hK => ?_)
          go_simp
          exact hK _ _ ⟨_, _, _, _, _, _, _, _, _, _, _, _, _, rfl, hS, q0, q1, fun _ => rfl, q3, q4, q5, q6, q7, fun _ => trivial, fun _ => trivial, fun _ => trivial, q11, q12⟩
        · obtain rfl := Option.some.inj ho
          clear hall ho
          refine wpOp_step rfl (fun K hK => ?_)
          go_simp
          exact hK _ _ ⟨_, _, _, _, _, _, _, _, _, _, _, _, _, rfl, hS, q0, q1, q2, fun _ => rfl, q4, q5, q6, q7, fun _ => trivial, fun _ => trivial, fun _ => trivial, q11, q12⟩
        · obtain rfl := Option.some.inj ho
          obtain rfl := q2 (hall ⟨2, .data⟩ (by simp) rfl)
          obtain rfl := q3 (hall ⟨3, .data⟩ (by simp) rfl)
          clear hall ho
          refine wpOp_step rfl (fun K hK => ?_)
          go_simp
          exact hK _ _ ⟨_, _, _, _, _, _, _, _, _, _, _, _, _, rfl, hS, q0, q1, fun _ => rfl, fun _ => rfl, fun _ => rfl, q5, q6, q7, fun _ => trivial, fun _ => trivial, fun _ => trivial, q11, q12⟩
        · obtain rfl := Option.some.inj ho
          obtain rfl := q4 (hall ⟨4, .data⟩ (by simp) rfl)
          clear hall ho
          refine wpOp_step rfl (fun K hK => ?_)
          go_simp
          exact hK _ _ ⟨_, _, _, _, _, _, _, _, _, _, _, _, _, rfl, hS, q0, q1, q2, q3, fun _ => rfl, fun _ => rfl, q6, q7, fun _ => trivial, fun _ => trivial, fun _ => trivial, q11, q12⟩
        · obtain rfl := Option.some.inj ho
          obtain rfl := q5 (hall ⟨5, .data⟩ (by simp) rfl)
          have y0 := hS.cell hk
          clear hall ho
          refine wpOp_step rfl (fun K hK => ?_)
          go_simp
          exact hK _ _ ⟨_, _, _, _, _, _, _, _, _, _, _, _, _, rfl, hS, q0, q1, q2, q3, q4, fun _ => rfl, fun _ => rfl, q7, fun _ => trivial, fun _ => trivial, fun _ => trivial, q11, q12⟩
        · obtain rfl := Option.some.inj ho
          clear hall ho
          refine wpOp_step rfl (fun K hK => ?_)
          go_simp
          exact hK _ _ ⟨_, _, _, _, _, _, _, _, _, _, _, _, _, rfl, hS, q0, q1, q2, q3, q4, q5, q6, fun _ => rfl, fun _ => trivial, fun _ => trivial, fun _ => trivial, q11, q12⟩
        · obtain rfl := Option.some.inj ho
          clear hall ho
          refine wpOp_step rfl (fun K hK => ?_)
          go_simp
          exact hK _ _ ⟨_, _, _, _, _, _, _, _, _, _, _, _, _, rfl, hS.mk1, q0, q1, q2, q3, q4, q5, q6, q7, fun _ => trivial, fun _ => trivial, fun _ => trivial, q11, q12⟩
        · obtain rfl := Option.some.inj ho
          obtain rfl := q7 (hall ⟨7, .data⟩ (by simp) rfl)
          have e8 : fL 8 = true := hall ⟨8, .data⟩ (by simp) rfl
          obtain ⟨bb, rfl, hB1, hn1⟩ := hS.l32 e8
          clear hall ho
          refine wpOp_step rfl (fun K hK => ?_)
          go_simp
          refine Calls.mono (l01Pick_c A n c g bb pickM 3 3 v hS.s hB1 hn1 (by unfold pickM; intro v hv; simp only [List.mem_cons, List.not_mem_nil, or_false] at hv; rcases hv with rfl | rfl | rfl; all_goals exact ⟨_, rfl, by omega, by omega⟩) rfl (by decide) (by decide)) ?_; rintro e w5 ⟨qq, rfl, ⟨qa1, qa2⟩, hS5, hg5⟩
          go_simp
          exact hK _ _ ⟨_, _, _, _, _, _, _, _, _, _, _, _, _, rfl, hS.pick qq hS5 hg5, q0, q1, q2, q3, q4, q5, q6, fun _ => rfl, fun _ => trivial, fun _ => trivial, fun _ => trivial, q11, q12⟩
        · obtain rfl := Option.some.inj ho
          obtain rfl := q6 (hall ⟨6, .data⟩ (by simp) rfl)
          have e9 : fL 9 = true := hall ⟨9, .data⟩ (by simp) rfl
          obtain ⟨qq, rfl⟩ := hS.l33 e9
          clear hall ho
          refine wpOp_step rfl (fun K hK => ?_)
          go_simp
          exact hK _ _ ⟨_, _, _, _, _, _, _, _, _, _, _, _, _, rfl, hS.add _, q0, q1, q2, q3, q4, q5, fun _ => rfl, q7, fun _ => trivial, fun _ => trivial, fun _ => trivial, q11, q12⟩
        · obtain rfl := Option.some.inj ho
          obtain rfl := q0 (hall ⟨0, .data⟩ (by simp) rfl)
          obtain rfl := q1 (hall ⟨1, .data⟩ (by simp) rfl)
          clear hall ho
          refine wpOp_step rfl (fun K hK => ?_)
          go_simp
          exact hK _ _ ⟨_, _, _, _, _, _, _, _, _, _, _, _, _, rfl, hS, fun _ => rfl, fun _ => rfl, q2, q3, q4, q5, q6, q7, fun _ => trivial, fun _ => trivial, fun _ => trivial, fun _ => rfl, q12⟩
        · obtain rfl := Option.some.inj ho
          obtain rfl := q11 (hall ⟨11, .data⟩ (by simp) rfl)
          clear hall ho
          refine wpOp_step rfl (fun K hK => ?_)
          go_simp
          exact hK _ _ ⟨_, _, _, _, _, _, _, _, _, _, _, _, _, rfl, hS, q0, q1, q2, q3, q4, q5, q6, q7, fun _ => trivial, fun _ => trivial, fun _ => trivial, fun _ => rfl, fun _ => rfl⟩
      · rintro fL bA v ⟨v24, v25, v26, v27, v28, v29, v30, v31, v32, v33, v34, v35, v36, rfl, hS, q0, q1, q2, q3, q4, q5, q6, q7, q8, q9, q10, q11, q12⟩ hall
        simp only [Act.put, List.setIfInBounds_toArray, List.set_cons_zero, List.set_cons_succ]
        obtain rfl := q0 (hall 0 (by omega))
        obtain rfl := q1 (hall 1 (by omega))
        obtain rfl := q2 (hall 2 (by omega))
        obtain rfl := q3 (hall 3 (by omega))
        obtain rfl := q4 (hall 4 (by omega))
        obtain rfl := q5 (hall 5 (by omega))
        obtain rfl := q6 (hall 6 (by omega))
        obtain rfl := q7 (hall 7 (by omega))
        have e8 : fL 8 = true := hall 8 (by omega)
        have e9 : fL 9 = true := hall 9 (by omega)
        have e10 : fL 10 = true := hall 10 (by omega)
        obtain rfl := q11 (hall 11 (by omega))
        obtain rfl := q12 (hall 12 (by omega))
        clear hall
        simp only [List.drop_succ_cons, List.drop_zero]
        obtain ⟨m, rfl⟩ := hS.l34 e10
        have hP := hS.p
        obtain ⟨u2, x2⟩ := hP.cell (i := k) (j := 1) (by simpa using hk) (by omega)
        have f2 := hP.frozen (k * 3 + 1)
        obtain ⟨L', hL', hO'⟩ := (part_set hk hP m).1
        have hb4 := hP.block_ge.2
        have hSs := hS.s
        have hGr := hS.gr
        go_wp2
        go_ret
        exact ⟨L', _, cp, by rw [hL']; rfl, by omega, by rw [hL']; exact hO', hSs.far (by simp only; omega), grown_far hGr (by simp only; omega)⟩
    · have q1' : (q == 1) = false := by simp [q1]
      by_cases q2 : q = 2
      · subst q2
        have hO' := hP.prefix_ (m := k) (by omega)
        have hle := hP.le_cap
        go_wp2
        go_ret
        have hlk : (R.take k).length = k := by rw [List.length_take]; omega
        exact ⟨R.take k, _, _, by rw [hlk]; rfl, by omega, by rw [hlk, List.map_take]; exact hO', hS, hG⟩
      · have q2' : (q == 2) = false := by simp [q2]
        go_wp2
        go_ret
        exact ⟨R, _, cp, rfl, by omega, hP, hS, hG⟩
end Go.Proofs.YtkjommcmeinkaaaGreat
