/- The reference's draw of a graduation. Condition: the code has at most 4096 bytes. -/
import Derived.Test.YtkjommcmeinkaaaGreatKRw20
import Derived.Test.YtkjommcmeinkaaaGreatKRw28
import Derived.Test.YtkjommcmeinkaaaGreatKRw29
import Derived.Test.YtkjommcmeinkaaaGreatKRw5
set_option linter.unusedSimpArgs false
namespace Go.Proofs.YtkjommcmeinkaaaGreat
open Go.RowKit
theorem Part.one {l : List Part} : ∀ y ∈ l.map Part.cells, ∀ u ∈ y, u.oneCell' = true := fun y hy u hu => by
  obtain ⟨x, _, rfl⟩ := List.mem_map.1 hy
  simp only [Part.cells, List.mem_cons, List.not_mem_nil, or_false] at hu
  rcases hu with rfl | rfl | rfl <;> rfl
theorem Own.litI {w : World} {base : Nat} {x : Int} (hb : base ≤ w.heap.size) : Own (w.alloc (.cells #[.int .i64 x] 2)) base 2 1 (.slice (some ⟨w.heap.size, 0, none⟩) 1 1) ([x].map ic) := by
  refine ⟨?_, by simp [ic]⟩
  have := World.ownsRow_lit (base := base) (e := 2) (size := 1) w #[.int .i64 x] 1 hb (by unfold maxLen; omega) (by simp)
  simpa [ic] using this
theorem grown_up {w a b : World} {g : Nat} {row : Option Nat} (h : w.grownBy a (some g)) (h' : a.grownBy b row) (hr : ∀ r, row = some r → w.heap.size ≤ r) : w.grownBy b (some g) :=
  ⟨h'.os.trans h.os, h'.tape.trans h.tape, h'.output.trans h.output, Nat.le_trans h.size h'.size, fun k hk hne => (h'.block k (Nat.lt_of_lt_of_le hk h.size) (fun e => by have := hr k e.symm; omega)).trans (h.block k hk hne)⟩
theorem Own.keepB {w w' : World} {base B k : Nat} {e : TypeId} {u v : Value} {xs : List (List Value)} (h : Own w base e k u xs) (hg : w.grownBy w' v.ownBlock) (hu : ∀ r, u.ownBlock = some r → r < B) (hv : ∀ r, v.ownBlock = some r → B ≤ r) : Own w' base e k u xs :=
  h.kept hg (by
    cases hu' : u.ownBlock with
    | none => exact .inl rfl
    | some r => exact .inr fun e => by have := hu r hu'; have := hv r e.symm; omega)
def pickL : Array Value := #[.int .i64 20, .int .i64 50, .int .i64 100, .int .i64 100, .int .i64 200, .int .i64 10]
/-- while a part is drawn and laid on -/
structure GvS (w : World) (A : Option Addr) (n c g B2 : Nat) (R : List Part) (Ap : Option Addr) (cp : Nat) (F : List Int) (cf b : Nat) (x0 x1 : Int) (b1 b2 b3 b4 : Bool) (v48 v49 v50 v51 : Value) (v : World) : Prop where
  k1 : g < w.heap.size
  k2 : w.heap.size ≤ B2
  k3 : B2 ≤ v.heap.size
  s : Src v A n c g
  p : Own v B2 78 3 (.slice Ap R.length cp) (R.map Part.cells)
  f : Own v w.heap.size 2 1 (.slice (some ⟨b, 0, none⟩) F.length cf) (F.map ic)
  gr : w.grownBy v (some g)
  l48 : b1 = true → ∃ bb, v48 = .slice (some ⟨bb, 0, none⟩) 6 6 ∧ Blk v bb 2 pickL ∧ bb ≠ g
  l49 : b2 = true → ∃ q : Int, v49 = .int .i64 q
  l50 : b3 = true → ∃ q : Int, b2 = true ∧ v49 = .int .i64 q ∧ v50 = .agg #[.int .i64 x0, .int .i64 x1, .int .i64 q]
  l51 : b4 = true → ∃ (q : Int) (bb : Nat), b3 = true ∧ v49 = .int .i64 q ∧ v51 = .slice (some ⟨bb, 0, none⟩) 1 1 ∧ Blk v bb 78 #[.int .i64 x0, .int .i64 x1, .int .i64 q] ∧ bb ≠ g
section
variable {w v v' : World} {A : Option Addr} {n c g B2 : Nat} {R : List Part} {Ap : Option Addr} {cp : Nat} {F : List Int} {cf b : Nat} {x0 x1 : Int} {b1 b2 b3 b4 : Bool} {v48 v49 v50 v51 : Value}
theorem GvS.cell {j : Nat} {x : Int} (h : GvS w A n c g B2 R Ap cp F cf b x0 x1 b1 b2 b3 b4 v48 v49 v50 v51 v) (hj : j < F.length) (hx : F[j] = x) : v.cell? ⟨b, j, none⟩ = some (.int .i64 x) := by
  obtain ⟨b', off', he, _, hc⟩ := h.f.sl.int hj
  cases he
  rw [Nat.zero_add, hx] at hc
  exact hc
theorem GvS.mk1 (h : GvS w A n c g B2 R Ap cp F cf b x0 x1 b1 b2 b3 b4 v48 v49 v50 v51 v) : GvS w A n c g B2 R Ap cp F cf b x0 x1 true b2 b3 b4 (.slice (some ⟨v.heap.size, 0, none⟩) 6 6) v49 v50 v51 (v.alloc (.cells pickL 2)) :=
  ⟨h.k1, h.k2, (by have := h.k3; simp; omega), h.s.alloc _, h.p.alloc _, h.f.alloc _, h.gr.trans (grown_alloc _ _), fun _ => ⟨_, rfl, Blk.new _ _ _, (by have := h.s.lt; omega)⟩, h.l49, h.l50, fun e => by
    obtain ⟨q, bb, h1, h2, h3, h4, h5⟩ := h.l51 e
    exact ⟨q, bb, h1, h2, h3, h4.alloc _, h5⟩⟩
theorem GvS.pick (h : GvS w A n c g B2 R Ap cp F cf b x0 x1 b1 b2 b3 b4 v48 v49 v50 v51 v) (hf : b2 = false) (q : Int) (hS : Src v' A n c g) (hg : v.grownBy v' (some g)) : GvS w A n c g B2 R Ap cp F cf b x0 x1 b1 true b3 b4 v48 (.int .i64 q) v50 v51 v' :=
  ⟨h.k1, h.k2, Nat.le_trans h.k3 hg.size, hS, h.p.src hg (Nat.lt_of_lt_of_le h.k1 h.k2), h.f.src hg h.k1, h.gr.trans hg, (fun e => by
    obtain ⟨bb, h1, h2, h3⟩ := h.l48 e
    exact ⟨bb, h1, h2.src hg h3, h3⟩), fun _ => ⟨q, rfl⟩, (fun e => by
    obtain ⟨_, h1, _⟩ := h.l50 e
    rw [hf] at h1; cases h1), (fun e => by
    obtain ⟨_, _, h1, _⟩ := h.l51 e
    obtain ⟨_, h1, _⟩ := h.l50 h1
    rw [hf] at h1; cases h1)⟩
theorem GvS.bld {q : Int} (h : GvS w A n c g B2 R Ap cp F cf b x0 x1 b1 b2 b3 b4 v48 (.int .i64 q) v50 v51 v) (hf : b3 = false) (e2 : b2 = true) : GvS w A n c g B2 R Ap cp F cf b x0 x1 b1 b2 true b4 v48 (.int .i64 q) (.agg #[.int .i64 x0, .int .i64 x1, .int .i64 q]) v51 v :=
  ⟨h.k1, h.k2, h.k3, h.s, h.p, h.f, h.gr, h.l48, h.l49, fun _ => ⟨q, e2, rfl, rfl⟩, fun e => by
    obtain ⟨_, _, h1, _⟩ := h.l51 e
    rw [hf] at h1; cases h1⟩
theorem GvS.mk2 {q : Int} (h : GvS w A n c g B2 R Ap cp F cf b x0 x1 b1 b2 b3 b4 v48 v49 v50 v51 v) (e3 : b3 = true) (h49 : v49 = .int .i64 q) : GvS w A n c g B2 R Ap cp F cf b x0 x1 b1 b2 b3 true v48 v49 v50 (.slice (some ⟨v.heap.size, 0, none⟩) 1 1) (v.alloc (.cells #[.int .i64 x0, .int .i64 x1, .int .i64 q] 78)) :=
  ⟨h.k1, h.k2, (by have := h.k3; simp; omega), h.s.alloc _, h.p.alloc _, h.f.alloc _, h.gr.trans (grown_alloc _ _), (fun e => by
    obtain ⟨bb, h1, h2, h3⟩ := h.l48 e
    exact ⟨bb, h1, h2.alloc _, h3⟩), h.l49, h.l50, fun _ => ⟨q, _, e3, h49, rfl, Blk.new _ _ _, by have := h.s.lt; omega⟩⟩
theorem GvS.start (k1 : g < w.heap.size) (k2 : w.heap.size ≤ B2) (k3 : B2 ≤ v.heap.size) (hS : Src v A n c g) (hP : Own v B2 78 3 (.slice Ap R.length cp) (R.map Part.cells)) (hF : Own v w.heap.size 2 1 (.slice (some ⟨b, 0, none⟩) F.length cf) (F.map ic)) (hG : w.grownBy v (some g)) : GvS w A n c g B2 R Ap cp F cf b x0 x1 false false false false v48 v49 v50 v51 v.drew :=
  ⟨k1, k2, k3, hS.keep fun _ _ => rfl, hP, hF, grown_drewN hG 1, nofun, nofun, nofun, nofun⟩
end
/-- a graduation, drawn -/
def DPt (A : Option Addr) (n c g : Nat) (w : World) (e : Ending) (w' : World) : Prop := ∃ (R : List Part) (A' : Option Addr) (c' : Nat), e = .returned (.slice A' R.length c') ∧ R.length ≤ 100 ∧ Own w' w.heap.size 78 3 (.slice A' R.length c') (R.map Part.cells) ∧ Src w' A n c g ∧ w.grownBy w' (some g)
/-- the same, not empty -/
def DPt1 (A : Option Addr) (n c g : Nat) (w : World) (e : Ending) (w' : World) : Prop := ∃ (R : List Part) (A' : Option Addr) (c' : Nat), e = .returned (.slice A' R.length c') ∧ (1 ≤ R.length ∧ R.length ≤ 100) ∧ Own w' w.heap.size 78 3 (.slice A' R.length c') (R.map Part.cells) ∧ Src w' A n c g ∧ w.grownBy w' (some g)
set_option maxRecDepth 100000 in
set_option maxHeartbeats 4000000 in
theorem l07Valid_c (A : Option Addr) (n c g : Nat) (w : World) (hS : Src w A n c g) : Calls Tryz.prog 60 #[.pointer (some ⟨g, 0, none⟩)] w (DPt1 A n c g w) := by
  obtain ⟨i0, hi, hz0, hz1, hz2⟩ := info_parts info_Int64
  obtain ⟨i1, hj, hy0, hy1, hy2⟩ := info_parts info_Part
  have hG : w.grownBy w (some g) := World.grownBy.refl _ _
  have hlt := hS.lt
  unfold DPt1
  go_enter Tryz.func60, Tryz.ntmps60
  go_wp2_with fail
  have hO : Own (w.alloc (.cells #[.int .i64 1000] 2)) w.heap.size 2 1 (.slice (some ⟨w.heap.size, 0, none⟩) 1 1) ([(1000 : Int)].map ic) := Own.litI (Nat.le_refl _)
  refine (l01Next_c A n c g _ _ (hS.alloc _)).mono ?_; rintro e w1 ⟨r, rfl, ⟨ra, rb⟩, rd, hS1, hg⟩
  have hO := hO.src hg (by omega)
  have hG := (grown_alloc (.cells #[.int .i64 1000] 2) (some g)).trans hg
  have gz := hG.size
  clear hg hS
  go_wp2_with fail
  go_loopw [3, 4] (fun v nn wr => ∃ (E : List Int) (m : Int), nn = .int .i64 m ∧ (1200 ≤ m ∧ m ≤ 40000) ∧ (1 ≤ E.length ∧ E.length ≤ 12) ∧ Own wr w.heap.size 2 1 v (E.map ic) ∧ Src wr A n c g ∧ w.grownBy wr (some g)) (fun _ nn _ => (40000 - intOf nn).toNat)
  case atStart => exact ⟨[1000], _, rfl, by omega, by simp, hO, hS1, hG⟩
  case round =>
    clear hO hS1 hG gz
    obtain ⟨E, m, rfl, hm, ⟨hE1, hE2⟩, hO, hS, hG⟩ := hrel
    have gz := hG.size
    obtain ⟨Ae, ce, hv, hle⟩ := hO.form
    rw [List.length_map] at hv
    by_cases hm9 : m < 10000
    · have hcap : E.length < 12 ∨ ¬ E.length < 12 := Nat.lt_or_ge _ _ |>.imp id Nat.not_lt.2
      rcases hcap with hcap | hcap
      · have hc' : (E.length : Int) < 12 := by omega
        subst hv
        go_wp2_with (at_builtin; refine wpList_append_rows _ rfl _ _ _ rfl w.heap.size 2 i0 _ 1 8 Tryz.underlying37 hi hz0 hz1 hz2 rfl (by omega) _ _ rfl (hO.alloc _) _ _ _ _ ([m].map ic) rfl rfl (Sl.of_blk (Blk.new' _ _ _ rfl) _ rfl (by simp [ic])) (ic_one (x := [m])) (by simp; unfold maxLen; omega) (by simp; omega) (by simp; omega) ?_; intro v1 w2 hO3 hg3 hat3)
        have hS3 := (hS.alloc (.cells #[.int .i64 m] 2)).grown hg3 (fun r hr => by have := hO.ownGe r hr; omega)
        have hG3 : w.grownBy w2 (some g) := grown_up (hG.trans (grown_alloc _ _)) hg3 (fun r hr => hO.ownGe r hr)
        refine (l01Next_c A n c g _ _ hS3).mono ?_; rintro e w3 ⟨q, rfl, ⟨qa, qb⟩, qd, hS, hg⟩
        have hO3 := hO3.src hg (by omega)
        have hG := hG3.trans hg
        clear hg
        go_wp2_with fail
        go_roundw
        case rel => exact ⟨E ++ [m], _, rfl, by omega, by simp; omega, by rw [List.map_append]; exact hO3, hS, hG⟩
        case measure => simp [intOf]; omega
      · have hc' : ¬ (E.length : Int) < 12 := by omega
        subst hv
        go_wp2_with fail
        refine (l01Next_c A n c g _ _ hS).mono ?_; rintro e w3 ⟨q, rfl, ⟨qa, qb⟩, qd, hS, hg⟩
        have hO3 := hO.src hg (by omega)
        have hG := hG.trans hg
        clear hg
        go_wp2_with fail
        go_roundw
        case rel => exact ⟨E, _, rfl, by omega, ⟨hE1, hE2⟩, hO3, hS, hG⟩
        case measure => simp [intOf]; omega
    · subst hv
      go_wp2_with (at_builtin; refine wpList_append_rows _ rfl _ _ _ rfl w.heap.size 2 i0 _ 1 8 Tryz.underlying37 hi hz0 hz1 hz2 rfl (by omega) _ _ rfl (hO.alloc _) _ _ _ _ ([(10000 : Int)].map ic) rfl rfl (Sl.of_blk (Blk.new' _ _ _ rfl) _ rfl (by simp [ic])) (ic_one (x := [(10000 : Int)])) (by simp; unfold maxLen; omega) (by simp; omega) (by simp; omega) ?_; intro v1 w2 hO3 hg3 hat3)
      have hS3 := (hS.alloc (.cells #[.int .i64 10000] 2)).grown hg3 (fun r hr => by have := hO.ownGe r hr; omega)
      have hG3 : w.grownBy w2 (some g) := grown_up (hG.trans (grown_alloc _ _)) hg3 (fun r hr => hO.ownGe r hr)
      clear hO hS hG hg3 hat3
      have hO : Own w2 w.heap.size 2 1 v1 ((E ++ [(10000 : Int)]).map ic) := by rw [List.map_append]; exact hO3
      clear hO3
      have hEE : (E ++ [(10000 : Int)]).length = E.length + 1 := by simp
      generalize hF : E ++ [(10000 : Int)] = F at *
      have hF1 : 2 ≤ F.length ∧ F.length ≤ 13 := by omega
      clear hF hEE
      have hfb : ∀ r, v1.ownBlock = some r → r < w2.heap.size := fun r hr => (hO.1.lt r hr).2
      obtain ⟨Af, cf, hv, _⟩ := hO.form
      rw [List.length_map] at hv
      subst hv
      have hB2 := hG3.size
      have hP : Own (w2.alloc (.cells #[] 78)) w2.heap.size 78 3 (.slice (some ⟨w2.heap.size, 0, none⟩) 0 0) (([] : List Part).map Part.cells) := Own.empty (Nat.le_refl _)
      have hF := hO.alloc (.cells #[] 78)
      have hS := hS3.alloc (.cells #[] 78)
      have hG := hG3.trans (grown_alloc (.cells #[] 78) (some g))
      have hBz : w2.heap.size ≤ (w2.alloc (.cells #[] 78)).heap.size := by simp
      clear hO hS3 hG3
      go_wp2_with fail
      generalize w2.alloc (.cells #[] 78) = w3 at *
      generalize w2.heap.size = B2 at *
      go_loopw [5, 6] (fun v ii wr => ∃ (R : List Part) (j : Nat), ii = .int .i64 ((j : Int) + 1) ∧ j = R.length ∧ j + 1 ≤ F.length ∧ B2 ≤ wr.heap.size ∧ Own wr B2 78 3 v (R.map Part.cells) ∧ Own wr w.heap.size 2 1 (.slice Af F.length cf) (F.map ic) ∧ Src wr A n c g ∧ w.grownBy wr (some g)) (fun _ ii _ => F.length - (intOf ii).toNat)
      case atStart => exact ⟨[], 0, rfl, rfl, by omega, hBz, hP, hF, hS, hG⟩
      case round =>
        clear hP hF hS hG hBz
        obtain ⟨R, j, rfl, hjR, hjF, hBz, hP, hF, hS, hG⟩ := hrel
        have gz := hG.size
        obtain ⟨Ap, cp, hv, hle⟩ := hP.form
        rw [List.length_map] at hv
        subst hv
        by_cases hlt1 : j + 1 < F.length
        · have hlt' : (j : Int) + 1 < F.length := by omega
          obtain ⟨b, off, hAf, hbB, hc1⟩ := hF.sl.int hlt1
          subst hAf
          obtain rfl := hF.off0 (i := j) (by simp; omega)
          clear hc1
          have hj0 : j < F.length := by omega
          generalize hx0 : F[j] = x0
          generalize hx1 : F[j + 1] = x1
          have hv1 : IntKind.i64.wrap (j : Int) = j := IntWalk.i64_in _ (by omega)
          have hv3 : (j : Int) < F.length := by omega
          have hv5 : IntKind.i64.wrap ((j : Int) + 1) = j + 1 := IntWalk.i64_in _ (by omega)
          have HjR := Lib.hid hjR; clear hjR
          have hR13 : R.length ≤ 13 := by have := HjR.out; omega
          go_wp2_with fail
          (try rw [decide_eq_true hlt'])
          refine wp_region_sink 15 (fun a0 fL bA v => ∃ v37 v38 v39 v40 v41 v42 v43 v44 v45 v46 v47 v48 v49 v50 v51 : Value, bA = ((((((((((((((a0.put (some 37) v37).put (some 38) v38).put (some 39) v39).put (some 40) v40).put (some 41) v41).put (some 42) v42).put (some 43) v43).put (some 44) v44).put (some 45) v45).put (some 46) v46).put (some 47) v47).put (some 48) v48).put (some 49) v49).put (some 50) v50).put (some 51) v51 ∧ (GvS w A n c g B2 R Ap cp F cf b x0 x1 (fL 11) (fL 12) (fL 13) (fL 14) v48 v49 v50 v51 v) ∧ (fL 0 = true → v37 = .slice Ap R.length cp) ∧ (fL 1 = true → v38 = .slice (some ⟨b, 0, none⟩) F.length cf) ∧ (fL 2 = true → v39 = .int .i64 ((j : Int) + 1)) ∧ (fL 3 = true → v40 = .int .i64 (j : Int)) ∧ (fL 4 = true → v41 = .pointer (some ⟨b, j, none⟩)) ∧ (fL 5 = true → v42 = .int .i64 x0) ∧ (fL 6 = true → v43 = .slice (some ⟨b, 0, none⟩) F.length cf) ∧ (fL 7 = true → v44 = .int .i64 ((j : Int) + 1)) ∧ (fL 8 = true → v45 = .pointer (some ⟨b, j + 1, none⟩)) ∧ (fL 9 = true → v46 = .int .i64 x1) ∧ (fL 10 = true → v47 = .pointer (some ⟨g, 0, none⟩)) ∧ (fL 11 = true → True) ∧ (fL 12 = true → True) ∧ (fL 13 = true → True) ∧ (fL 14 = true → True)) (by kernel_rfl) (by decide +kernel) ?_ ?_ ?_
          · exact ⟨_, _, _, _, _, _, _, _, _, _, _, _, _, _, _, put_more (put_more (put_more (put_more (put_more (put_more (put_more (put_more (put_more (put_more (put_more (put_more (put_more (put_more (put_more (rfl) 37) 38) 39) 40) 41) 42) 43) 44) 45) 46) 47) 48) 49) 50) 51, GvS.start hlt hB2 hBz hS hP hF hG, nofun, nofun, nofun, nofun, nofun, nofun, nofun, nofun, nofun, nofun, nofun, nofun, nofun, nofun, nofun⟩
          · rintro fL bA v ⟨v37, v38, v39, v40, v41, v42, v43, v44, v45, v46, v47, v48, v49, v50, v51, rfl, hS, q0, q1, q2, q3, q4, q5, q6, q7, q8, q9, q10, q11, q12, q13, q14⟩ i hi hf o ho hall
            simp only [Act.put, List.setIfInBounds_toArray, List.set_cons_zero, List.set_cons_succ]
            have hn : i = 0 ∨ i = 1 ∨ i = 2 ∨ i = 3 ∨ i = 4 ∨ i = 5 ∨ i = 6 ∨ i = 7 ∨ i = 8 ∨ i = 9 ∨ i = 10 ∨ i = 11 ∨ i = 12 ∨ i = 13 ∨ i = 14 := by omega
            clear hi
            rcases hn with rfl | rfl | rfl | rfl | rfl | rfl | rfl | rfl | rfl | rfl | rfl | rfl | rfl | rfl | rfl
            · obtain rfl := Option.some.inj ho
              clear hall ho
              refine wpOp_step rfl (fun K hK => ?_)
              go_simp
              exact hK _ _ ⟨_, _, _, _, _, _, _, _, _, _, _, _, _, _, _, rfl, hS, fun _ => rfl, q1, q2, q3, q4, q5, q6, q7, q8, q9, q10, fun _ => trivial, fun _ => trivial, fun _ => trivial, fun _ => trivial⟩
            · obtain rfl := Option.some.inj ho
              clear hall ho
              refine wpOp_step rfl (fun K hK => ?_)
              go_simp
              exact hK _ _ ⟨_, _, _, _, _, _, _, _, _, _, _, _, _, _, _, rfl, hS, q0, fun _ => rfl, q2, q3, q4, q5, q6, q7, q8, q9, q10, fun _ => trivial, fun _ => trivial, fun _ => trivial, fun _ => trivial⟩
            · obtain rfl := Option.some.inj ho
              clear hall ho
              refine wpOp_step rfl (fun K hK => ?_)
              go_simp
              exact hK _ _ ⟨_, _, _, _, _, _, _, _, _, _, _, _, _, _, _, rfl, hS, q0, q1, fun _ => rfl, q3, q4, q5, q6, q7, q8, q9, q10, fun _ => trivial, fun _ => trivial, fun _ => trivial, fun _ => trivial⟩
            · obtain rfl := Option.some.inj ho
              obtain rfl := q2 (hall ⟨2, .data⟩ (by simp) rfl)
              clear hall ho
              refine wpOp_step rfl (fun K hK => ?_)
              go_simp
              exact hK _ _ ⟨_, _, _, _, _, _, _, _, _, _, _, _, _, _, _, rfl, hS, q0, q1, fun _ => rfl, fun _ => rfl, q4, q5, q6, q7, q8, q9, q10, fun _ => trivial, fun _ => trivial, fun _ => trivial, fun _ => trivial⟩
            · obtain rfl := Option.some.inj ho
              obtain rfl := q1 (hall ⟨1, .data⟩ (by simp) rfl)
              obtain rfl := q3 (hall ⟨3, .data⟩ (by simp) rfl)
              clear hall ho
              refine wpOp_step rfl (fun K hK => ?_)
              go_simp
              exact hK _ _ ⟨_, _, _, _, _, _, _, _, _, _, _, _, _, _, _, rfl, hS, q0, fun _ => rfl, q2, fun _ => rfl, fun _ => rfl, q5, q6, q7, q8, q9, q10, fun _ => trivial, fun _ => trivial, fun _ => trivial, fun _ => trivial⟩
            · obtain rfl := Option.some.inj ho
              obtain rfl := q4 (hall ⟨4, .data⟩ (by simp) rfl)
              have y0 := hS.cell hj0 hx0
              clear hall ho
              refine wpOp_step rfl (fun K hK => ?_)
              go_simp
              exact hK _ _ ⟨_, _, _, _, _, _, _, _, _, _, _, _, _, _, _, rfl, hS, q0, q1, q2, q3, fun _ => rfl, fun _ => rfl, q6, q7, q8, q9, q10, fun _ => trivial, fun _ => trivial, fun _ => trivial, fun _ => trivial⟩
            · obtain rfl := Option.some.inj ho
              clear hall ho
              refine wpOp_step rfl (fun K hK => ?_)
              go_simp
              exact hK _ _ ⟨_, _, _, _, _, _, _, _, _, _, _, _, _, _, _, rfl, hS, q0, q1, q2, q3, q4, q5, fun _ => rfl, q7, q8, q9, q10, fun _ => trivial, fun _ => trivial, fun _ => trivial, fun _ => trivial⟩
            · obtain rfl := Option.some.inj ho
              clear hall ho
              refine wpOp_step rfl (fun K hK => ?_)
              go_simp
              exact hK _ _ ⟨_, _, _, _, _, _, _, _, _, _, _, _, _, _, _, rfl, hS, q0, q1, q2, q3, q4, q5, q6, fun _ => rfl, q8, q9, q10, fun _ => trivial, fun _ => trivial, fun _ => trivial, fun _ => trivial⟩
            · obtain rfl := Option.some.inj ho
              obtain rfl := q6 (hall ⟨6, .data⟩ (by simp) rfl)
              obtain rfl := q7 (hall ⟨7, .data⟩ (by simp) rfl)
              clear hall ho
              refine wpOp_step rfl (fun K hK => ?_)
              go_simp
              exact hK _ _ ⟨_, _, _, _, _, _, _, _, _, _, _, _, _, _, _, rfl, hS, q0, q1, q2, q3, q4, q5, fun _ => rfl, fun _ => rfl, fun _ => rfl, q9, q10, fun _ => trivial, fun _ => trivial, fun _ => trivial, fun _ => trivial⟩
            · obtain rfl := Option.some.inj ho
              obtain rfl := q8 (hall ⟨8, .data⟩ (by simp) rfl)
              have y1 := hS.cell hlt1 hx1
              clear hall ho
              refine wpOp_step rfl (fun K hK => ?_)
              go_simp
              exact hK _ _ ⟨_, _, _, _, _, _, _, _, _, _, _, _, _, _, _, rfl, hS, q0, q1, q2, q3, q4, q5, q6, q7, fun _ => rfl, fun _ => rfl, q10, fun _ => trivial, fun _ => trivial, fun _ => trivial, fun _ => trivial⟩
            · obtain rfl := Option.some.inj ho
              clear hall ho
              refine wpOp_step rfl (fun K hK => ?_)
              go_simp
              exact hK _ _ ⟨_, _, _, _, _, _, _, _, _, _, _, _, _, _, _, rfl, hS, q0, q1, q2, q3, q4, q5, q6, q7, q8, q9, fun _ => rfl, fun _ => trivial, fun _ => trivial, fun _ => trivial, fun _ => trivial⟩
            · obtain rfl := Option.some.inj ho
              clear hall ho
              refine wpOp_step rfl (fun K hK => ?_)
              go_simp
              exact hK _ _ ⟨_, _, _, _, _, _, _, _, _, _, _, _, _, _, _, rfl, hS.mk1, q0, q1, q2, q3, q4, q5, q6, q7, q8, q9, q10, fun _ => trivial, fun _ => trivial, fun _ => trivial, fun _ => trivial⟩
            · obtain rfl := Option.some.inj ho
              obtain rfl := q10 (hall ⟨10, .data⟩ (by simp) rfl)
              have e11 : fL 11 = true := hall ⟨11, .data⟩ (by simp) rfl
              obtain ⟨b1, rfl, hB1, hn1⟩ := hS.l48 e11
              clear hall ho
              refine wpOp_step rfl (fun K hK => ?_)
              go_simp
              refine Calls.mono (l01Pick_c A n c g b1 pickL 6 6 v hS.s hB1 hn1 (by unfold pickL; intro v hv; simp only [List.mem_cons, List.not_mem_nil, or_false] at hv; rcases hv with rfl | rfl | rfl | rfl | rfl | rfl; all_goals exact ⟨_, rfl, by omega, by omega⟩) rfl (by decide) (by decide)) ?_; rintro e w5 ⟨qq, rfl, ⟨qa1, qa2⟩, hS5, hg5⟩
              go_simp
              exact hK _ _ ⟨_, _, _, _, _, _, _, _, _, _, _, _, _, _, _, rfl, hS.pick hf qq hS5 hg5, q0, q1, q2, q3, q4, q5, q6, q7, q8, q9, fun _ => rfl, fun _ => trivial, fun _ => trivial, fun _ => trivial, fun _ => trivial⟩
            · obtain rfl := Option.some.inj ho
              obtain rfl := q5 (hall ⟨5, .data⟩ (by simp) rfl)
              obtain rfl := q9 (hall ⟨9, .data⟩ (by simp) rfl)
              have e12 : fL 12 = true := hall ⟨12, .data⟩ (by simp) rfl
              obtain ⟨q, rfl⟩ := hS.l49 e12
              clear hall ho
              refine wpOp_step rfl (fun K hK => ?_)
              go_simp
              exact hK _ _ ⟨_, _, _, _, _, _, _, _, _, _, _, _, _, _, _, rfl, hS.bld hf e12, q0, q1, q2, q3, q4, fun _ => rfl, q6, q7, q8, fun _ => rfl, q10, fun _ => trivial, fun _ => trivial, fun _ => trivial, fun _ => trivial⟩
            · obtain rfl := Option.some.inj ho
              have e13 : fL 13 = true := hall ⟨13, .data⟩ (by simp) rfl
              obtain ⟨q, _, rfl, rfl⟩ := hS.l50 e13
              clear hall ho
              refine wpOp_step rfl (fun K hK => ?_)
              go_simp
              exact hK _ _ ⟨_, _, _, _, _, _, _, _, _, _, _, _, _, _, _, rfl, hS.mk2 e13 rfl, q0, q1, q2, q3, q4, q5, q6, q7, q8, q9, q10, fun _ => trivial, fun _ => trivial, fun _ => trivial, fun _ => trivial⟩
          · rintro fL bA v ⟨v37, v38, v39, v40, v41, v42, v43, v44, v45, v46, v47, v48, v49, v50, v51, rfl, hS, q0, q1, q2, q3, q4, q5, q6, q7, q8, q9, q10, q11, q12, q13, q14⟩ hall
            simp only [Act.put, List.setIfInBounds_toArray, List.set_cons_zero, List.set_cons_succ]
            obtain rfl := q0 (hall 0 (by omega))
            obtain rfl := q1 (hall 1 (by omega))
            obtain rfl := q2 (hall 2 (by omega))
            obtain rfl := q3 (hall 3 (by omega))
            obtain rfl := q4 (hall 4 (by omega))
            obtain rfl := q5 (hall 5 (by omega))
            obtain rfl := q6 (hall 6 (by omega))
            obtain rfl := q7 (hall 7 (by omega))
            obtain rfl := q8 (hall 8 (by omega))
            obtain rfl := q9 (hall 9 (by omega))
            obtain rfl := q10 (hall 10 (by omega))
            have e11 : fL 11 = true := hall 11 (by omega)
            have e12 : fL 12 = true := hall 12 (by omega)
            have e13 : fL 13 = true := hall 13 (by omega)
            have e14 : fL 14 = true := hall 14 (by omega)
            clear hall
            simp only [List.drop_succ_cons, List.drop_zero]
            obtain ⟨q, bb, _, rfl, rfl, hB3, _⟩ := hS.l51 e14
            go_wp2_with (at_builtin; refine wpList_append_rows _ rfl _ _ _ rfl B2 78 i1 _ 3 24 Tryz.underlying34 hj hy0 hy1 hy2 rfl (by omega) _ _ rfl hS.p _ _ _ _ ([(⟨x0, x1, q⟩ : Part)].map Part.cells) rfl rfl (Sl.of_blk hB3 _ rfl (by simp [Part.cells])) (Part.one (l := [⟨x0, x1, q⟩])) (by simp; unfold maxLen; omega) (by simp; omega) (by have := hS.k3; omega) ?_; intro v1 w6 hP6 hg6 hat6)
            have hS6 := hS.s.grown hg6 (fun r hr => by have := hS.p.ownGe r hr; omega)
            have hG6 : w.grownBy w6 (some g) := grown_up hS.gr hg6 (fun r hr => by have := hS.p.ownGe r hr; omega)
            have hF6 := hS.f.keepB hg6 hfb (fun r hr => hS.p.ownGe r hr)
            go_roundw
            case rel => exact ⟨R ++ [⟨x0, x1, q⟩], j + 1, by go_num, (by have := HjR.out; simp; omega), by omega, (by have := hS.k3; have := hg6.size; omega), by rw [List.map_append]; exact hP6, hF6, hS6, hG6⟩
            case measure => simp [intOf]; omega
        · have hlt' : ¬ (j : Int) + 1 < F.length := by omega
          go_wp2
          go_ret
          exact ⟨R, Ap, cp, rfl, by omega, hP.mono hB2, hS, hG⟩
end Go.Proofs.YtkjommcmeinkaaaGreat
