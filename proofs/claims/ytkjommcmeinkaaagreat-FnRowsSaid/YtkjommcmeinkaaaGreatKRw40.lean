/- DoubleMarks: the program's and the reference's. No condition beyond the list's length. -/
import Derived.Test.YtkjommcmeinkaaaGreatKRw33
import Derived.Test.YtkjommcmeinkaaaGreatKRw39
set_option linter.unusedSimpArgs false
namespace Go.Proofs.YtkjommcmeinkaaaGreat
open Go.Shelf Go.RowKit Go.Lib
def dblF (l : List Tick) (n : Int) : Bool := decide (1 < cntMark l n)
def dblTo (l : List Tick) (k : Nat) : List Int := ((List.range k).map fun i : Nat => 1000 + (i : Int)).filter (dblF l)
def dblL (l : List Tick) : List Int := dblTo l 9000
def dblR (l : List Tick) : List Int := if rowCode l = 0 then dblL l else []
def dblM (l : List Tick) (k : Nat) : List Int := ((l.take k).map (·.mark)).filter (dblF l)
theorem dblTo_next (l : List Tick) (k : Nat) : dblTo l (k + 1) = dblTo l k ++ (if dblF l (1000 + (k : Int)) then [1000 + (k : Int)] else []) := by
  unfold dblTo
  rw [List.range_succ, List.map_append, List.filter_append]
  congr 1
  cases h : dblF l (1000 + (k : Int)) <;> simp [h]
theorem dblTo_len (l : List Tick) (k : Nat) : (dblTo l k).length ≤ k := by
  unfold dblTo
  exact Nat.le_trans (List.length_filter_le _ _) (by simp)
theorem dblM_next (l : List Tick) {k : Nat} (hk : k < l.length) : dblM l (k + 1) = dblM l k ++ (if dblF l l[k].mark then [l[k].mark] else []) := by
  unfold dblM
  rw [List.take_succ_eq_append_getElem hk, List.map_append, List.filter_append]
  congr 1
  cases h : dblF l l[k].mark <;> simp [h]
theorem dblM_len (l : List Tick) (k : Nat) : (dblM l k).length ≤ l.length := by
  unfold dblM
  exact Nat.le_trans (List.length_filter_le _ _) (by simp; omega)
theorem dblR_len (l : List Tick) : (dblR l).length ≤ 9000 := by
  unfold dblR
  split
  · exact dblTo_len l 9000
  · simp
theorem dbl_eq {l : List Tick} (h : l.all tickOK = true) : Lib.compact (sortI (dblM l l.length)) = dblL l := by
  refine strict_one swoI totI (compact_strict totI swoI (sortI_sorted _)) ?_ fun x => ?_
  · unfold dblL dblTo LStrict
    refine List.Pairwise.filter _ ?_
    rw [List.pairwise_map]
    exact List.pairwise_lt_range.imp fun h => by simp [ltI]; omega
  · rw [compact_mem, (sortI_perm _).mem_iff]
    unfold dblL dblTo dblM
    rw [List.take_length, List.mem_filter, List.mem_filter, List.mem_map, List.mem_map]
    constructor
    · rintro ⟨⟨t, ht, rfl⟩, hf⟩
      have hb := (tick_bd (List.all_eq_true.1 h t ht)).1
      exact ⟨⟨(t.mark - 1000).toNat, List.mem_range.2 (by omega), by omega⟩, hf⟩
    · rintro ⟨⟨i, hi, rfl⟩, hf⟩
      refine ⟨?_, hf⟩
      have hc : 0 < cntMark l (1000 + (i : Int)) := by
        have := of_decide_eq_true hf
        omega
      obtain ⟨t, ht, he⟩ := List.countP_pos_iff.1 hc
      exact ⟨t, ht, by simpa using he⟩
set_option maxRecDepth 100000 in
set_option maxHeartbeats 1000000 in
theorem implDouble_c (A : Option Addr) (c : Nat) (l : List Tick) (w : World) (hl : l.length ≤ 140737488351232) (hs : Sl w w.heap.size 3 A (l.map Tick.cells)) :
    Calls Tryz.prog 15 #[.slice A l.length c] w (PostRows 2 1 (dblR l).length ((dblR l).map ic) (rowCode l) w) := by
  have hC := checkRow_c A c l w hl hs
  by_cases h0 : rowCode l = 0
  · obtain ⟨h40, hok⟩ := rowCode_ok h0
    have HR : Hid (dblR l = Lib.compact (sortI (dblM l l.length))) := by unfold Hid dblR; rw [if_pos h0, dbl_eq hok]
    have HC := Lib.hid h0
    rw [h0] at hC
    have hC := Lib.hid hC
    clear h0 hok
    obtain ⟨i0, hi, hz0, hz1, hz2⟩ := info_parts info_Int64
    go_enter Tryz.func15, Tryz.ntmps15
    go_wp2_with (go_at_call 28; refine hC.out.mono ?_; rintro e w1 ⟨rfl, hb1⟩)
    have hb1s := hb1.size
    go_loopw [5, 16] (fun v i wr => ∃ k : Nat, k ≤ l.length ∧ i = .int .i64 k ∧ Below w.heap.size w wr ∧ Own wr w1.heap.size 2 1 v ((dblM l k).map ic) ∧ w1.heap.size ≤ wr.heap.size) (fun _ i _ => l.length - (intOf i).toNat)
    case atStart => exact ⟨0, Nat.zero_le _, rfl, hb1.alloc hb1s _, by simpa [dblM] using Own.empty (e := 2) (k := 1) (w := w1) (Nat.le_refl _), by simp⟩
    case round =>
      obtain ⟨k, hk, rfl, hb, hO, hbase⟩ := hrel
      have hbs := hb.size
      by_cases hlt : k < l.length
      · have hs0 := hs
        obtain ⟨b, off, rfl, bB, cc⟩ := hs.at_ (i := k) (by simpa using hlt)
        simp only [List.getElem_map] at cc
        have c0 : wr.cell? ⟨b, off + k * 3, none⟩ = some (.int .i64 l[k].mark) := by rw [hb.cell bB]; exact cc 0 _ rfl
        have c1 : wr.cell? ⟨b, off + k * 3 + 1, none⟩ = some (.int .i64 l[k].place) := by rw [hb.cell bB]; exact cc 1 _ rfl
        have c2 : wr.cell? ⟨b, off + k * 3 + 2, none⟩ = some (.int .i64 l[k].height) := by rw [hb.cell bB]; exact cc 2 _ rfl
        clear cc
        have hlen := dblM_len l k
        have hnx := Lib.hid (dblM_next l hlt)
        have hlen' := Lib.hid hlen
        clear hlen
        have hHM := Lib.hid (fun W n h => hasMark_c (some ⟨b, off, none⟩) c l n W hl h)
        have hF : dblF l l[k].mark = decide (1 < cntMark l l[k].mark) := rfl
        have hcnt := cnt_le l l[k].mark
        generalize l[k] = t at *
        obtain ⟨tm, tp, th⟩ := t
        simp only at c0 c1 c2 hnx hF hcnt
        have Bt := Blk.new wr 25 #[.int .i64 tm, .int .i64 tp, .int .i64 th]
        have hB1 := hb.alloc hbs (.cells #[.int .i64 tm, .int .i64 tp, .int .i64 th] 25)
        have hO1 := hO.alloc (.cells #[.int .i64 tm, .int .i64 tp, .int .i64 th] 25)
        have hHM' := Lib.hid (hHM.out (wr.alloc (.cells #[.int .i64 tm, .int .i64 tp, .int .i64 th] 25)) tm ((hs0.below hB1).more hB1.size))
        have z1 : wr.heap.size < (wr.alloc (.cells #[.int .i64 tm, .int .i64 tp, .int .i64 th] 25)).heap.size := by simp
        clear hs0 hHM
        cases hq : decide (1 < cntMark l tm)
        · rw [hq] at hF
          have hq' : ¬ 1 < cntMark l tm := of_decide_eq_false hq
          have HF := Lib.hid hF
          clear hF hq
          generalize cntMark l tm = q at *
          go_wp2_with (go_at_call 38; refine hHM'.out.mono ?_; rintro e w2 ⟨rfl, hb2⟩)
          go_roundw
          case rel => exact ⟨k + 1, by omega, by go_num, hB1.trans (hb2.mono hB1.size), by rw [hnx.out, HF.out]; simpa using hO1.below hb2, by have := hb2.size; omega⟩
          case measure => simp [intOf]; omega
        · rw [hq] at hF
          have hq' : 1 < cntMark l tm := of_decide_eq_true hq
          have HF := Lib.hid hF
          clear hF hq
          generalize cntMark l tm = q at *
          go_wp2_with (first | (go_at_call 38; refine hHM'.out.mono ?_; rintro e w2 ⟨rfl, hb2⟩; have hO2 := hO1.below hb2; have hB2 := hB1.trans (hb2.mono hB1.size); have Bt2 := Bt.below hb2 z1; have x0 : w2.cell? ⟨wr.heap.size, 0, none⟩ = some (.int .i64 tm) := Bt2.cell 0; have z2 := hb2.size) | (at_builtin; refine wpList_append_rows _ rfl _ _ _ rfl w1.heap.size 2 i0 _ 1 8 Tryz.underlying37 hi hz0 hz1 hz2 rfl (by omega) _ _ rfl (hO2.alloc _) _ _ _ _ [ic tm] rfl rfl (Sl.of_blk (Blk.new' _ _ _ rfl) _ rfl (by simp [ic])) (ic_one (x := [tm])) (by simp; have := hlen'.out; unfold maxLen; omega) (by simp; have := hlen'.out; omega) (by simp; omega) ?_; intro v1 w3 hO3 hg3 hat3))
          go_roundw
          case rel => exact ⟨k + 1, by omega, by go_num, below_app (hB2.alloc hB2.size _) hg3 (by simp; omega) (fun g hg => Nat.le_trans hb1s (hO2.ownGe g hg)), by rw [hnx.out, HF.out, if_pos rfl, List.map_append]; exact hO3, by have := hg3.size; simp at this; omega⟩
          case measure => simp [intOf]; omega
      · have : k = l.length := by omega
        subst this
        have hlM := dblM_len l l.length
        obtain ⟨A', c', rfl, _⟩ := hO.form
        rw [List.length_map] at hO ⊢
        go_wp2_with (first
          | (go_at_call 43; refine (sortI_c w1.heap.size A' c' (dblM l l.length) wr (by omega) hO).mono ?_; rintro e w4 ⟨rfl, hO4, hb4⟩)
          | (go_at_call 44; refine (by have h := compactI_c w1.heap.size A' c' (sortI (dblM l l.length)) w4 (by rw [sortI_len]; omega) (by rw [sortI_len]; exact hO4); rw [sortI_len] at h; exact h : Calls Tryz.prog 44 #[.slice A' (dblM l l.length).length c'] w4 _).mono ?_; rintro e w5 ⟨rfl, hO5, hb5⟩))
        go_ret2
        rw [HR.out, HC.out]
        exact ⟨A', c', rfl, hO5.mono hb1s, (hb.trans (hb4.mono hb1s)).trans (hb5.mono hb1s)⟩
  · have HR : Hid (dblR l = []) := by unfold Hid dblR; rw [if_neg h0]
    have hn : (rowCode l != 0) = true := by simp [h0]
    clear h0
    generalize rowCode l = q at *
    have hC := Lib.hid hC
    go_enter Tryz.func15, Tryz.ntmps15
    go_wp2_with (go_at_call 28; refine hC.out.mono ?_; rintro e w1 ⟨rfl, hb1⟩)
    go_ret2
    rw [HR.out]
    exact ⟨none, 0, rfl, Own.nil_, hb1⟩
set_option maxRecDepth 100000 in
set_option maxHeartbeats 1000000 in
theorem specDouble_c (A : Option Addr) (c : Nat) (l : List Tick) (w : World) (hl : l.length ≤ 140737488351232) (hs : Sl w w.heap.size 3 A (l.map Tick.cells)) :
    Calls Tryz.prog 16 #[.slice A l.length c] w (PostRows 2 1 (dblR l).length ((dblR l).map ic) (rowCode l) w) := by
  have hC := l29Row_c A c l w hl hs
  by_cases h0 : rowCode l = 0
  · obtain ⟨h40, hok⟩ := rowCode_ok h0
    have HR : Hid (dblR l = dblTo l 9000) := by unfold Hid dblR; rw [if_pos h0]; rfl
    have HC := Lib.hid h0
    rw [h0] at hC
    have hC := Lib.hid hC
    clear h0 hok
    obtain ⟨i0, hi, hz0, hz1, hz2⟩ := info_parts info_Int64
    go_enter Tryz.func16, Tryz.ntmps16
    go_wp2_with (go_at_call 40; refine hC.out.mono ?_; rintro e w1 ⟨rfl, hb1⟩)
    have hb1s := hb1.size
    go_loopw [5, 6] (fun v i wr => ∃ k : Nat, k ≤ 9000 ∧ i = .int .i64 (1000 + (k : Int)) ∧ Below w.heap.size w wr ∧ Own wr w1.heap.size 2 1 v ((dblTo l k).map ic) ∧ w1.heap.size ≤ wr.heap.size) (fun _ i _ => 10000 - (intOf i).toNat)
    case atStart => exact ⟨0, Nat.zero_le _, rfl, hb1.alloc hb1s _, by simpa [dblTo] using Own.empty (e := 2) (k := 1) (w := w1) (Nat.le_refl _), by simp⟩
    case round =>
      obtain ⟨k, hk, rfl, hb, hO, hbase⟩ := hrel
      have hbs := hb.size
      have hlen := dblTo_len l k
      have hnx := Lib.hid (dblTo_next l k)
      have hlen' := Lib.hid hlen
      clear hlen
      by_cases hlt : k < 9000
      · have hcn := fun j (hj : j < l.length) => Lib.hid (cnt_next l (1000 + (k : Int)) hj)
        have hcl := fun j => cnt_le (l.take j) (1000 + (k : Int))
        have hF : dblF l (1000 + (k : Int)) = decide (1 < cntMark l (1000 + (k : Int))) := rfl
        have HF := Lib.hid hF
        clear hF
        obtain ⟨n, hn⟩ : ∃ n, n = 1000 + (k : Int) := ⟨_, rfl⟩
        rw [← hn] at hcn hcl HF hnx
        have hnk : n = 1000 + (k : Int) := hn
        have hn1 : n < 10000 := by omega
        have hn0 : 1000 ≤ n := by omega
        rw [← hn]
        have HN := Lib.hid hn
        clear hn hnk
        have HCL := Lib.hid hcl
        clear hcl
        go_wp2_with fail
        go_loopw [7, 8] (fun v i wr => ∃ j : Nat, j ≤ l.length ∧ i = .int .i64 j ∧ v = .int .i64 (cntMark (l.take j) n) ∧ Below w.heap.size w wr ∧ Own wr w1.heap.size 2 1 u5 ((dblTo l k).map ic) ∧ w1.heap.size ≤ wr.heap.size) (fun _ i _ => l.length - (intOf i).toNat)
        case atStart => exact ⟨0, Nat.zero_le _, rfl, by simp [cntMark], hb, hO, hbase⟩
        case round =>
          clear hb hO hbase hbs
          obtain ⟨j, hj, rfl, rfl, hb, hO, hbase⟩ := hrel
          have hbs := hb.size
          have hcb := HCL.out j
          rw [List.length_take] at hcb
          by_cases hjl : j < l.length
          · obtain ⟨rb, roff, rfl, hrB, rcc⟩ := hs.at_ (i := j) (by simpa using hjl)
            simp only [List.getElem_map] at rcc
            have r0 : wr.cell? ⟨rb, roff + j * 3, none⟩ = some (.int .i64 l[j].mark) := by rw [hb.cell hrB]; exact rcc 0 _ rfl
            clear rcc
            have hcj := hcn j hjl
            generalize cntMark (l.take j) n = q at *
            by_cases he : l[j].mark = n
            · have he' : (l[j].mark == n) = true := by simp [he]
              have He := Lib.hid he
              clear he
              go_wp2
              go_roundw
              case rel => exact ⟨j + 1, by omega, by go_num, by rw [hcj.out, if_pos He.out]; go_num, hb, hO, hbase⟩
              case measure => simp [intOf]; omega
            · have he' : (l[j].mark == n) = false := by simp [he]
              have He := Lib.hid he
              clear he
              go_wp2
              go_roundw
              case rel => exact ⟨j + 1, by omega, by go_num, by rw [hcj.out, if_neg He.out]; go_num, hb, hO, hbase⟩
              case measure => simp [intOf]; omega
          · have : j = l.length := by omega
            subst this
            rw [List.take_length] at *
            cases hq : decide (1 < cntMark l n)
            · have hq' : ¬ 1 < cntMark l n := of_decide_eq_false hq
              rw [hq] at HF
              clear hq
              generalize cntMark l n = q at *
              go_wp2_with fail
              go_roundw
              case rel => exact ⟨k + 1, by omega, by rw [HN.out]; first | go_num | (congr 1; omega), hb, by rw [hnx.out, HF.out]; simpa using hO, hbase⟩
              case measure => simp [intOf]; omega
            · have hq' : 1 < cntMark l n := of_decide_eq_true hq
              rw [hq] at HF
              clear hq
              generalize cntMark l n = q at *
              go_wp2_with (at_builtin; refine wpList_append_rows _ rfl _ _ _ rfl w1.heap.size 2 i0 _ 1 8 Tryz.underlying37 hi hz0 hz1 hz2 rfl (by omega) _ _ rfl (hO.alloc _) _ _ _ _ [ic n] rfl rfl (Sl.of_blk (Blk.new' _ _ _ rfl) _ rfl (by simp [ic])) (ic_one (x := [n])) (by simp; have := hlen'.out; unfold maxLen; omega) (by simp; have := hlen'.out; omega) (by simp; omega) ?_; intro v1 w3 hO3 hg3 hat3)
              go_roundw
              case rel => exact ⟨k + 1, by omega, by rw [HN.out]; first | go_num | (congr 1; omega), below_app (hb.alloc hbs _) hg3 (by simp; omega) (fun g hg => Nat.le_trans hb1s (hO.ownGe g hg)), by rw [hnx.out, HF.out, if_pos rfl, List.map_append]; exact hO3, by have := hg3.size; simp at this; omega⟩
              case measure => simp [intOf]; omega
      · have : k = 9000 := by omega
        subst this
        obtain ⟨A', c', rfl, _⟩ := hO.form
        go_wp2
        go_ret2
        rw [HR.out, HC.out]
        exact ⟨A', c', by simp, by simpa using hO.mono hb1s, hb⟩
  · have HR : Hid (dblR l = []) := by unfold Hid dblR; rw [if_neg h0]
    have hn : (rowCode l != 0) = true := by simp [h0]
    clear h0
    generalize rowCode l = q at *
    have hC := Lib.hid hC
    go_enter Tryz.func16, Tryz.ntmps16
    go_wp2_with (go_at_call 40; refine hC.out.mono ?_; rintro e w1 ⟨rfl, hb1⟩)
    go_ret2
    rw [HR.out]
    exact ⟨none, 0, rfl, Own.nil_, hb1⟩
end Go.Proofs.YtkjommcmeinkaaaGreat
