/- Whether moves are a plan of a chain: both sides. Conditions: the rule, the chain and the moves are valid. -/
import Derived.Test.YtednjmldjbndhaaGreatKEy32
import Derived.Test.YtednjmldjbndhaaGreatKEy33
set_option linter.unusedSimpArgs false
set_option linter.unusedVariables false
namespace Go.Proofs.YtednjmldjbndhaaGreat
open Go.RowKit
/-- a valid chain, as it lies -/
structure ChOK (w : World) (A3 : Option Addr) (c3 : Nat) (l3 : List Term) : Prop where
  a : l3.all termOK = true
  n : l3.length ≤ 6
  k : l3.length ≤ c3
  s : Sl w w.heap.size 3 A3 (l3.map Term.cells)
theorem ChOK.later {w W : World} {A3 : Option Addr} {c3 : Nat} {l3 : List Term} (R : ChOK w A3 c3 l3) (hW : Below w.heap.size w W) : ChOK W A3 c3 l3 := ⟨R.a, R.n, R.k, (R.s.below hW).more hW.size⟩
theorem runR_cu (l1 l2 : List Int) : ∀ (l : List Move) (s0 : Int × Int), (-1048576 ≤ s0.2 ∧ s0.2 ≤ 1048576) → l.all moveB = true → -1048576 ≤ (runR l1 l2 s0 l).1.2 ∧ (runR l1 l2 s0 l).1.2 ≤ 1048576
  | [], _, h, _ => h
  | m :: r, s0, h, ha => by
    unfold runR
    split
    · rename_i hs
      have := setB_true.1 (step_ok hs)
      exact runR_cu l1 l2 r _ ⟨by omega, by omega⟩ (by simp only [List.all_cons, Bool.and_eq_true] at ha; exact ha.2)
    · exact h
set_option maxRecDepth 100000 in
set_option maxHeartbeats 2000000 in
theorem implIsPlanFor_c (L : Int) (A1 : Option Addr) (c1 : Nat) (l1 : List Int) (A2 : Option Addr) (c2 : Nat) (l2 : List Int) (A3 : Option Addr) (c3 : Nat) (l3 : List Term) (A : Option Addr) (c : Nat) (l : List Move) (w : World) (R : RuOK w L A1 c1 l1 A2 c2 l2) (T : ChOK w A3 c3 l3) (hp : planCode L l1 l2 l3 = 0) (M : MvOK w A l) :
    Calls Tryz.prog 38 #[.agg #[.int .i64 L, .slice A1 l1.length c1, .slice A2 l2.length c2], .slice A3 l3.length c3, .slice A l.length c] w fun e w' => e = .returned (.tuple #[.bool (planB l1 l2 l3 l), .int .i64 0]) ∧ Below w.heap.size w w' := by
  have hW : Below w.heap.size w (w.alloc (.cells #[.int .i64 L, .slice A1 l1.length c1, .slice A2 l2.length c2] 26)) := (by repeat (first | with_reducible exact Below.refl _ _ | with_reducible apply below_drewN' | with_reducible apply Below.drew | (with_reducible refine Below.alloc ?_ (by first | omega | (simp; omega) | simp | (have := (Below.refl _ _).size; omega) | (have := (Below.refl _ _).size; simp; omega)) _) | (with_reducible refine Below.setCell ?_ (by first | omega | (simp; omega) | simp | (have := (Below.refl _ _).size; omega) | (have := (Below.refl _ _).size; simp; omega)) _) | exact Below.refl _ _))
  have B0 := Blk.new w 26 #[.int .i64 L, .slice A1 l1.length c1, .slice A2 l2.length c2]
  have HC := Lib.hid (have Q := R.later hW; checkPlan_c L A1 c1 l1 A2 c2 l2 A3 c3 l3 _ Q.h1 Q.h2 (by have := T.n; omega) Q.k1 Q.k2 Q.s1 Q.s2 (T.later hW).s)
  rw [hp] at HC
  have HM := Lib.hid (fun W (h : Below w.heap.size w W) => runMoves_c L A1 c1 l1 A2 c2 l2 A c l W (R.later h) (M.later h))
  have HP := Lib.hid (fun d t W (h : 1000 ≤ d ∧ d ≤ 9999) => pointOf_c d t W h)
  have hall := Lib.hid T.a
  have hs3 := Lib.hid T.s
  have hn3 := T.n
  have hbd := Lib.hid (fun k hk => sumP_bd T.a k hk)
  have hnx := Lib.hid (fun k hk => sumP_succ l3 (k := k) hk)
  have hs0 : sumP l3 0 = 0 := rfl
  have hrs := runR_cu l1 l2 l (0, 0) (by decide) M.a
  clear R T M
  unfold planB
  generalize runR l1 l2 (0, 0) l = rr at *
  obtain ⟨⟨ra, rb⟩, n⟩ := rr
  simp only at HM hrs ⊢
  have hrbb : Hid (-1048576 ≤ rb ∧ rb ≤ 1048576) := Lib.hid hrs
  clear hrs
  by_cases hn : n = l.length
  · rw [decide_eq_true hn]
    simp only [if_pos hn] at HM
    simp only [Bool.true_and]
    have HM := Lib.hid HM.out
    go_enter Tryz.func38, Tryz.ntmps38
    go_wp2_with fail
    generalize (w.alloc (.cells #[.int .i64 L, .slice A1 l1.length c1, .slice A2 l2.length c2] 26)) = W at *
    refine Calls.mono HC.out ?_; rintro e w1 ⟨rfl, hb1⟩
    have hW1 := hW.trans (hb1.mono hW.size)
    have C0 := B0.below hb1 B0.lt
    have r0 : w1.cell? ⟨w.heap.size, 0, none⟩ = some (.int .i64 L) := C0.cell 0
    have r1 : w1.cell? ⟨w.heap.size, 1, none⟩ = some (.slice A1 l1.length c1) := C0.cell 1
    have r2 : w1.cell? ⟨w.heap.size, 2, none⟩ = some (.slice A2 l2.length c2) := C0.cell 2
    clear B0 hW hb1 HC
    go_wp2_with fail
    refine Calls.mono (HM.out w1 hW1) ?_; rintro e w2 ⟨rfl, hb2⟩
    have hW2 := hW1.trans (hb2.mono hW1.size)
    have hW3 : Below w.heap.size w (w2.alloc (.cells #[.int .i64 ra, .int .i64 rb] 104)) := (by repeat (first | with_reducible exact hW2 | with_reducible apply below_drewN' | with_reducible apply Below.drew | (with_reducible refine Below.alloc ?_ (by first | omega | (simp; omega) | simp | (have := (hW2).size; omega) | (have := (hW2).size; simp; omega)) _) | (with_reducible refine Below.setCell ?_ (by first | omega | (simp; omega) | simp | (have := (hW2).size; omega) | (have := (hW2).size; simp; omega)) _) | exact hW2))
    have D9 := Blk.new w2 104 #[.int .i64 ra, .int .i64 rb]
    clear r0 r1 r2 C0 hW1 hb2 HM hW2
    go_wp2_with fail
    generalize w2.alloc (.cells #[.int .i64 ra, .int .i64 rb] 104) = w3 at *
    generalize w2.heap.size = g9 at *
    go_loopw [11, 31] (fun o i wr => ∃ k : Nat, k ≤ l3.length ∧ i = .int .i64 k ∧ o = .int .i64 (sumP l3 k) ∧ Below w.heap.size w wr ∧ Blk wr g9 104 #[.int .i64 ra, .int .i64 rb]) (fun _ i _ => l3.length - (intOf i).toNat)
    case atStart => exact ⟨0, Nat.zero_le _, rfl, by rw [hs0], hW3, D9⟩
    case round =>
      clear hW3 D9 hs0
      obtain ⟨k, hk, rfl, rfl, hB, D9⟩ := hrel
      obtain ⟨hb1, hb2⟩ := hbd.out k hk
      by_cases hlt : k < l3.length
      · obtain ⟨bt, off, rfl, hbB, hc⟩ := (hs3.out.below hB).at_ (i := k) (by rw [List.length_map]; exact hlt)
        simp only [List.getElem_map] at hc
        have htm := (fig_bd (List.all_eq_true.1 hall.out l3[k] (List.getElem_mem hlt))).1
        have hnk := hnx.out k hlt
        simp only [Term.fig] at htm
        unfold ptT at hnk
        generalize l3[k] = tm at *
        obtain ⟨d, tn, dv⟩ := tm
        simp only at htm hnk
        have y0 : wr.cell? ⟨bt, off + k * 3, none⟩ = some (.int .i64 d) := hc 0 _ rfl
        have y1 : wr.cell? ⟨bt, off + k * 3 + 1, none⟩ = some (.int .i64 tn) := hc 1 _ rfl
        have y2 : wr.cell? ⟨bt, off + k * 3 + 2, none⟩ = some (.bool dv) := hc 2 _ rfl
        have hz := hB.size
        have hcall := Lib.hid (HP.out d tn (wr.alloc (.cells #[.int .i64 d, .int .i64 tn, .bool dv] 100)) htm)
        have hpb := pointC_bd htm
        generalize pointC d = pd at *
        generalize hsk : sumP l3 k = sk at *
        have Hnk := Lib.hid hnk
        have hB2 : Below w.heap.size w (wr.alloc (.cells #[.int .i64 d, .int .i64 tn, .bool dv] 100)) := (by repeat (first | with_reducible exact hB | with_reducible apply below_drewN' | with_reducible apply Below.drew | (with_reducible refine Below.alloc ?_ (by first | omega | (simp; omega) | simp | (have := (hB).size; omega) | (have := (hB).size; simp; omega)) _) | (with_reducible refine Below.setCell ?_ (by first | omega | (simp; omega) | simp | (have := (hB).size; omega) | (have := (hB).size; simp; omega)) _) | exact hB))
        have D92 := D9.alloc (.cells #[.int .i64 d, .int .i64 tn, .bool dv] 100)
        clear hc hnk hsk hB D9
        cases dv with
        | true =>
          go_wp2_with fail
          refine Calls.mono hcall.out ?_; rintro e w5 ⟨rfl, hb5⟩
          have hB3 := hB2.trans (hb5.mono hB2.size)
          have D93 := D92.below hb5 D92.lt
          clear hB2 D92 hb5 y0 y1 y2 hcall
          go_wp2_with fail
          go_roundw
          case rel => exact ⟨k + 1, by omega, by go_num, by rw [Hnk.out]; simp; omega, hB3, D93⟩
          case measure => simp [intOf]; omega
        | false =>
          go_wp2_with fail
          refine Calls.mono hcall.out ?_; rintro e w5 ⟨rfl, hb5⟩
          have hB3 := hB2.trans (hb5.mono hB2.size)
          have D93 := D92.below hb5 D92.lt
          clear hB2 D92 hb5 y0 y1 y2 hcall
          go_wp2_with fail
          go_roundw
          case rel => exact ⟨k + 1, by omega, by go_num, by rw [Hnk.out]; simp, hB3, D93⟩
          case measure => simp [intOf]; omega
      · have hke : k = l3.length := by omega
        have p1 : wr.cell? ⟨g9, 1, none⟩ = some (.int .i64 rb) := D9.cell 1
        have Hke := Lib.hid hke
        have hrb := hrbb.out
        clear hke
        go_wp2_with (go_at_call 87; refine (modulo_c _ _ _ (by omega) (by omega)).mono ?_; rintro e w' ⟨rfl, rfl⟩)
        go_ret2
        exact ⟨by rw [← Hke.out]; rfl, hB⟩
  · rw [decide_eq_false hn]
    simp only [if_neg hn] at HM
    simp only [Bool.false_and]
    have HM := Lib.hid HM.out
    go_enter Tryz.func38, Tryz.ntmps38
    go_wp2_with fail
    generalize (w.alloc (.cells #[.int .i64 L, .slice A1 l1.length c1, .slice A2 l2.length c2] 26)) = W at *
    refine Calls.mono HC.out ?_; rintro e w1 ⟨rfl, hb1⟩
    have hW1 := hW.trans (hb1.mono hW.size)
    have C0 := B0.below hb1 B0.lt
    have r0 : w1.cell? ⟨w.heap.size, 0, none⟩ = some (.int .i64 L) := C0.cell 0
    have r1 : w1.cell? ⟨w.heap.size, 1, none⟩ = some (.slice A1 l1.length c1) := C0.cell 1
    have r2 : w1.cell? ⟨w.heap.size, 2, none⟩ = some (.slice A2 l2.length c2) := C0.cell 2
    clear B0 hW hb1 HC
    go_wp2_with fail
    refine Calls.mono (HM.out w1 hW1) ?_; rintro e w2 ⟨rfl, hb2⟩
    have hW2 := hW1.trans (hb2.mono hW1.size)
    clear hb2
    go_wp2
    go_ret2
    exact ⟨rfl, (by repeat (first | with_reducible exact hW2 | with_reducible apply below_drewN' | with_reducible apply Below.drew | (with_reducible refine Below.alloc ?_ (by first | omega | (simp; omega) | simp | (have := (hW2).size; omega) | (have := (hW2).size; simp; omega)) _) | (with_reducible refine Below.setCell ?_ (by first | omega | (simp; omega) | simp | (have := (hW2).size; omega) | (have := (hW2).size; simp; omega)) _) | exact hW2))⟩
end Go.Proofs.YtednjmldjbndhaaGreat
