/- The laws' comparisons of lists, walked. No condition beyond the length. The law on rows in plain words: an ordered row has no double marks; a missing mark is not in the row; a misprint is a tick away from its place. No condition. The size test of the laws on drawn arguments. No condition beyond the length. -/
import Derived.Laws.StructEq
import Derived.Test.YtkjommcmeinkaaaGreatKRw15
import Derived.Test.YtkjommcmeinkaaaGreatKRw18
import Derived.Test.YtkjommcmeinkaaaGreatKRw19
import Derived.Test.YtkjommcmeinkaaaGreatKRw2
import Derived.Test.YtkjommcmeinkaaaGreatKRw20
import Derived.Test.YtkjommcmeinkaaaGreatKRw40
import Derived.Test.YtkjommcmeinkaaaGreatKRw41
import Derived.Test.YtkjommcmeinkaaaGreatKRw42
set_option linter.unusedSimpArgs false
namespace Go.Proofs.YtkjommcmeinkaaaGreat
open Go.RowKit
set_option maxRecDepth 100000 in
theorem likeInts_c (A A' : Option Addr) (c c' : Nat) (l : List Int) (w : World) (hl : l.length ≤ 140737488351232) (hs : Sl w w.heap.size 1 A (l.map ic)) (hs' : Sl w w.heap.size 1 A' (l.map ic)) :
   Calls Tryz.prog 17 #[.slice A l.length c, .slice A' l.length c'] w fun e w' => e = .returned (.bool true) ∧ Below w.heap.size w w' := by
  go_enter Tryz.func17, Tryz.ntmps17
  go_wp2_with fail
  go_loopw [5] (fun i wr => ∃ k : Nat, k ≤ l.length ∧ i = .int .i64 k ∧ Below w.heap.size w wr) (fun i _ => l.length - (intOf i).toNat)
  case atStart => exact ⟨0, Nat.zero_le _, rfl, Below.refl _ _⟩
  case round =>
    obtain ⟨k, hk, rfl, hb⟩ := hrel
    by_cases hlt : k < l.length
    · obtain ⟨b, off, rfl, hbB, hc⟩ := hs.int hlt
      obtain ⟨b', off', rfl, hbB', hc'⟩ := hs'.int hlt
      have c0 : wr.cell? ⟨b, off + k, none⟩ = some (.int .i64 l[k]) := by rw [hb.cell hbB]; exact hc
      have d0 : wr.cell? ⟨b', off' + k, none⟩ = some (.int .i64 l[k]) := by rw [hb.cell hbB']; exact hc'
      clear hc hc'
      go_wp2_with fail
      go_quiet (fail)
      go_wp2
      go_roundw
      case rel => exact ⟨k + 1, by omega, by go_num, (by repeat (first | with_reducible exact hb | with_reducible apply below_drewN' | with_reducible apply Below.drew | (with_reducible refine Below.alloc ?_ (by first | omega | (simp; omega) | simp | (have := (hb).size; omega) | (have := (hb).size; simp; omega)) _) | (with_reducible refine Below.setCell ?_ (by first | omega | (simp; omega) | simp | (have := (hb).size; omega) | (have := (hb).size; simp; omega)) _) | exact hb))⟩
      case measure => simp [intOf]; omega
    · have : k = l.length := by omega
      subst this
      go_wp2
      go_ret
      exact ⟨rfl, hb⟩
set_option maxRecDepth 100000 in
theorem hasInt_c (A : Option Addr) (c : Nat) (l : List Int) (x : Int) (w : World) (hl : l.length ≤ 140737488351232) (hx : x ∈ l) (hs : Sl w w.heap.size 1 A (l.map ic)) :
   Calls Tryz.prog 18 #[.slice A l.length c, .int .i64 x] w fun e w' => e = .returned (.bool true) ∧ Below w.heap.size w w' := by
  have hx' := Lib.hid hx; clear hx
  go_enter Tryz.func18, Tryz.ntmps18
  go_wp2_with fail
  go_loopw [5] (fun i wr => ∃ k : Nat, k ≤ l.length ∧ i = .int .i64 k ∧ Below w.heap.size w wr ∧ Hid (x ∉ l.take k)) (fun i _ => l.length - (intOf i).toNat)
  case atStart => exact ⟨0, Nat.zero_le _, rfl, Below.refl _ _, (show x ∉ l.take 0 by simp)⟩
  case round =>
    obtain ⟨k, hk, rfl, hb, hno⟩ := hrel
    by_cases hlt : k < l.length
    · obtain ⟨b, off, rfl, hbB, hc⟩ := hs.int hlt
      have c0 : wr.cell? ⟨b, off + k, none⟩ = some (.int .i64 l[k]) := by rw [hb.cell hbB]; exact hc
      have hnx : l.take (k + 1) = l.take k ++ [l[k]] := List.take_succ_eq_append_getElem hlt
      have Hnx := Lib.hid hnx; clear hnx hc
      generalize l[k] = y at *
      by_cases he : y = x
      · subst he
        go_wp2
        go_ret
        exact ⟨rfl, hb⟩
      · have hno2 : Hid (x ∉ l.take (k + 1)) := by
          unfold Hid
          rw [Hnx.out, List.mem_append, List.mem_singleton]
          rintro (h | h)
          · exact hno.out h
          · exact he h.symm
        go_wp2
        go_roundw
        case rel => exact ⟨k + 1, by omega, by go_num, hb, hno2⟩
        case measure => simp [intOf]; omega
    · exfalso
      have : k = l.length := by omega
      rw [this] at hno
      exact hno.out (by rw [List.take_length]; exact hx'.out)
end Go.Proofs.YtkjommcmeinkaaaGreat
namespace Go.Proofs.YtkjommcmeinkaaaGreat
open Go.RowKit
theorem cnt_one {l : List Tick} (h : l.Pairwise fun a b => a.mark < b.mark) (n : Int) : cntMark l n ≤ 1 := by
  induction l with
  | nil => simp [cntMark]
  | cons a r ih =>
    rw [List.pairwise_cons] at h
    unfold cntMark at ih ⊢
    rw [List.countP_cons]
    by_cases e : a.mark = n
    · have h0 : r.countP (fun t => t.mark == n) = 0 := by
        rw [List.countP_eq_zero]
        intro t ht
        have := h.1 t ht
        simp only [beq_iff_eq]
        omega
      rw [h0]
      split <;> omega
    · have := ih h.2
      rw [if_neg (by simpa using e)]
      exact this
theorem ord_pair {s : Int} {l : List Tick} (h : ordTo s l (l.length - 1) = true) : l.Pairwise fun a b => a.mark < b.mark := by
  have hadj : ∀ (i : Nat) (hi : i + 1 < l.length), l[i].mark < l[i + 1].mark := fun i hi => by
    cases ha : adjOK s l[i] l[i + 1] with
    | false => rw [ordTo_false s l i hi ha] at h; cases h
    | true =>
      unfold adjOK at ha
      rw [Bool.and_eq_true, decide_eq_true_eq] at ha
      exact ha.1
  have hall : ∀ (d i : Nat) (hi : i + d + 1 < l.length), l[i].mark < l[i + d + 1].mark := by
    intro d
    induction d with
    | zero => intro i hi; exact hadj i hi
    | succ d ih =>
      intro i hi
      exact Int.lt_trans (ih i (by omega)) (hadj (i + d + 1) (by omega))
  rw [List.pairwise_iff_getElem]
  intro i j hi hj hij
  obtain ⟨d, rfl⟩ : ∃ d, j = i + d + 1 := ⟨j - i - 1, by omega⟩
  exact hall d i hj
theorem dbl_none {s : Int} {l : List Tick} (h1 : (ordRes s l).1 = true) : rowCode l = 0 ∧ dblR l = [] := by
  unfold ordRes at h1
  split at h1
  · rename_i h0
    refine ⟨h0, ?_⟩
    split at h1
    · unfold dblR
      rw [if_pos h0]
      unfold dblL dblTo
      rw [List.filter_eq_nil_iff]
      intro a _
      unfold dblF
      have := cnt_one (ord_pair h1) a
      rw [decide_eq_true_eq]
      omega
    · cases h1
  · cases h1
theorem miss_not {g : List Part} {l : List Tick} {a b : Int} {t : Tick} (ht : t ∈ l) : t.mark ∉ missR g l a b := by
  unfold missR
  split
  · intro h
    unfold missL at h
    rw [List.mem_filter] at h
    have h2 := h.2
    have : 0 < cntMark l t.mark := by
      unfold cntMark
      rw [List.countP_pos_iff]
      exact ⟨t, ht, by simp⟩
    rw [decide_eq_true this] at h2
    cases h2
  · simp
theorem mis_away {s n tol : Int} {t : Tick} (h : (imRes s n t tol).2 = 0) : (pdRes s n t).2 = 0 ∧ (imRes s n t tol).1 = decide (tol < max (pdRes s n t).1 (-(pdRes s n t).1)) ∧ (-2199023255552 ≤ (pdRes s n t).1 ∧ (pdRes s n t).1 ≤ 2199023255552) := by
  unfold imRes at h ⊢
  split at h
  · rename_i h0
    obtain ⟨hs, hn, ht, hmk, hp⟩ := im_ok h0
    have hp0 : printCode s n [t] 0 = 0 := by
      unfold printCode rowCode
      simp [tickOK, inB_true.2 hs, inB_true.2 hn, inB_true.2 (show (0 : Int) ≤ 0 ∧ (0 : Int) ≤ 200 by omega), inB_true.2 hmk, inB_true.2 hp]
    unfold pdRes
    rw [if_pos h0, if_pos hp0]
    exact ⟨rfl, rfl, away_bd s n t.mark t.place hmk hn hp⟩
  · rename_i h0; exact absurd h h0
set_option maxRecDepth 100000 in
theorem hasIntN_c (A : Option Addr) (c : Nat) (l : List Int) (x : Int) (w : World) (hl : l.length ≤ 140737488351232) (hx : x ∉ l) (hs : Sl w w.heap.size 1 A (l.map ic)) :
   Calls Tryz.prog 18 #[.slice A l.length c, .int .i64 x] w fun e w' => e = .returned (.bool false) ∧ Below w.heap.size w w' := by
  have hx' := Lib.hid hx; clear hx
  go_enter Tryz.func18, Tryz.ntmps18
  go_wp2_with fail
  go_loopw [5] (fun i wr => ∃ k : Nat, k ≤ l.length ∧ i = .int .i64 k ∧ Below w.heap.size w wr) (fun i _ => l.length - (intOf i).toNat)
  case atStart => exact ⟨0, Nat.zero_le _, rfl, Below.refl _ _⟩
  case round =>
    obtain ⟨k, hk, rfl, hb⟩ := hrel
    by_cases hlt : k < l.length
    · obtain ⟨b, off, rfl, hbB, hc⟩ := hs.int hlt
      have c0 : wr.cell? ⟨b, off + k, none⟩ = some (.int .i64 l[k]) := by rw [hb.cell hbB]; exact hc
      have he : ¬ l[k] = x := fun e => hx'.out (by rw [← e]; exact List.getElem_mem hlt)
      clear hc
      generalize l[k] = y at *
      go_wp2
      go_roundw
      case rel => exact ⟨k + 1, by omega, by go_num, hb⟩
      case measure => simp [intOf]; omega
    · go_wp2
      go_ret
      exact ⟨rfl, hb⟩
end Go.Proofs.YtkjommcmeinkaaaGreat
namespace Go.Proofs.YtkjommcmeinkaaaGreat
open Go.RowKit
theorem big_c (A : Option Addr) (n c : Nat) (w : World) (hn : n ≤ 140737488351232) : Calls Tryz.prog 4 #[.slice A n c] w fun e w' => e = .returned (.bool (decide (4096 < n))) ∧ w = w' := by
  go_enter Tryz.func4, Tryz.ntmps4
  go_wp2
  go_ret
  exact ⟨ret_bool (by simp; omega), rfl⟩
end Go.Proofs.YtkjommcmeinkaaaGreat
