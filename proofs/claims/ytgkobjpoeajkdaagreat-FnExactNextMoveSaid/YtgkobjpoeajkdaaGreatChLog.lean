/- The logarithm of a chain, the program's and the reference's. Condition: the chain is valid. -/
import Derived.Test.YtgkobjpoeajkdaaGreatSum
import Derived.Test.YtgkobjpoeajkdaaGreatChain
namespace Go.Proofs.YtgkobjpoeajkdaaGreat
open Go.RowKit
def chainStep (s : Int × Int) (t : Term) : Int × Int := if t.div then (s.1 - figHi t.digits t.tens, s.2 - figLo t.digits t.tens) else (s.1 + figLo t.digits t.tens, s.2 + figHi t.digits t.tens)
def chainTo (l : List Term) (k : Nat) : Int × Int := (l.take k).foldl chainStep (0, 0)
theorem chainTo_succ (l : List Term) {k : Nat} (hk : k < l.length) : chainTo l (k + 1) = chainStep (chainTo l k) l[k] := by
  unfold chainTo
  rw [List.take_succ_eq_append_getElem hk, List.foldl_append]
  rfl
theorem term_bd {t : Term} (h : termOK t = true) : (1000 ≤ t.digits ∧ t.digits ≤ 9999) ∧ (-30 ≤ t.tens ∧ t.tens ≤ 30) := fig_bd (f := t.fig) h
theorem chainTo_bd {l : List Term} (h : l.all termOK = true) {k : Nat} (hk : k ≤ l.length) : (-(33554432 * (k : Int)) ≤ (chainTo l k).1 ∧ (chainTo l k).1 ≤ 33554432 * (k : Int)) ∧ (-(33554432 * (k : Int)) ≤ (chainTo l k).2 ∧ (chainTo l k).2 ≤ 33554432 * (k : Int)) := by
  induction k with
  | zero => simp [chainTo]
  | succ k ih =>
    have ih := ih (by omega)
    rw [chainTo_succ l (by omega)]
    have hb := term_bd (List.all_eq_true.1 h l[k] (List.getElem_mem _))
    have := figLo_bd hb.1 hb.2
    unfold chainStep
    split
    · simp only; omega
    · simp only; omega
theorem chainTo_one {l : List Term} (h : 0 < l.length) (hd : firstDiv l = false) : chainTo l 1 = (figLo l[0].digits l[0].tens, figHi l[0].digits l[0].tens) := by
  rw [chainTo_succ l h]
  rw [firstDiv_eq h] at hd
  unfold chainStep chainTo
  rw [hd]
  simp
set_option maxRecDepth 100000 in
set_option maxHeartbeats 1000000 in
theorem l13Log_c (A : Option Addr) (c : Nat) (l : List Term) (w : World) (h1 : 0 < l.length) (h6 : l.length ≤ 6) (hok : l.all termOK = true) (hd : firstDiv l = false) (hs : Sl w w.heap.size 3 A (l.map Term.cells)) :
    Calls Tryz.prog 172 #[.slice A l.length c] w fun e w' => e = .returned (.agg #[.int .i64 (chainTo l l.length).1, .int .i64 (chainTo l l.length).2]) ∧ Below w.heap.size w w' := by
  have hs0 := hs
  have Hone := Lib.hid (chainTo_one h1 hd)
  have hb0 := term_bd (List.all_eq_true.1 hok l[0] (List.getElem_mem _))
  have HF := fun W => l03Figure_c ⟨l[0].digits, l[0].tens⟩ W hb0.1 hb0.2
  unfold Figure.agg at HF
  have HF := fun W => Lib.hid (HF W)
  have Hok := Lib.hid hok; clear hok hd
  obtain ⟨b, off, rfl, hbB, hc⟩ := hs.at_ (i := 0) (by simpa using h1)
  simp only [List.getElem_map] at hc
  have c0 : w.cell? ⟨b, off, none⟩ = some (.int .i64 l[0].digits) := by have := hc 0 _ rfl; simpa using this
  have c1 : w.cell? ⟨b, off + 1, none⟩ = some (.int .i64 l[0].tens) := by have := hc 1 _ rfl; simpa using this
  have h1I : (0 : Int) < (l.length : Int) := by omega
  clear hc hs
  simp only [figLo, figHi] at Hone
  generalize l[0] = t0 at *
  go_enter Tryz.func172, Tryz.ntmps172
  go_wp2_with fail
  refine (HF _).out.mono ?_; rintro e w1 ⟨rfl, hb1⟩
  have hB1 : Below w.heap.size w w1 := ((Below.refl _ _).alloc (Nat.le_refl _) _).trans (hb1.mono (by simp))
  have Br := (Blk.new w 201 #[.int .i64 0, .int .i64 0]).below hb1 (by simp)
  have hz1 := hB1.size
  have hz1' := Br.lt
  clear c0 c1 HF
  go_wp2_with fail
  go_loopw [4] (fun i wr => ∃ k : Nat, 1 ≤ k ∧ k ≤ l.length ∧ i = .int .i64 k ∧ Below w.heap.size w wr ∧ Blk wr w.heap.size 201 #[.int .i64 0, .int .i64 0] ∧ Blk wr w1.heap.size 201 #[.int .i64 (chainTo l k).1, .int .i64 (chainTo l k).2]) (fun i _ => l.length - (intOf i).toNat)
  case atStart => exact ⟨1, Nat.le_refl _, h1, rfl, (by repeat (first | with_reducible exact hB1 | with_reducible apply below_drewN' | with_reducible apply Below.drew | (with_reducible refine Below.alloc ?_ (by first | omega | (simp; omega) | simp) _) | (with_reducible refine Below.setCell ?_ (by first | omega | (simp; omega) | simp) _) | exact hB1)), Br.alloc _, by rw [Hone.out]; exact Blk.new _ _ _⟩
  case round =>
    obtain ⟨k, hk1, hk, rfl, hb, Brr, Bg⟩ := hrel
    by_cases hlt : k < l.length
    · obtain ⟨b', off', hA, hbB', hc⟩ := hs0.at_ (i := k) (by simpa using hlt)
      obtain ⟨rfl, rfl⟩ : b = b' ∧ off = off' := by simpa using hA
      clear hA
      simp only [List.getElem_map] at hc
      have c0 : wr.cell? ⟨b, off + k * 3, none⟩ = some (.int .i64 l[k].digits) := by rw [hb.cell hbB]; exact hc 0 _ rfl
      have c1 : wr.cell? ⟨b, off + k * 3 + 1, none⟩ = some (.int .i64 l[k].tens) := by rw [hb.cell hbB]; exact hc 1 _ rfl
      have c2 : wr.cell? ⟨b, off + k * 3 + 2, none⟩ = some (.bool l[k].div) := by rw [hb.cell hbB]; exact hc 2 _ rfl
      clear hc
      have hbk := term_bd (List.all_eq_true.1 Hok.out l[k] (List.getElem_mem _))
      have hfb := figLo_bd hbk.1 hbk.2
      have hcb := chainTo_bd Hok.out hk
      have Hnx := Lib.hid (chainTo_succ l hlt)
      have HF := fun W => l03Figure_c ⟨l[k].digits, l[k].tens⟩ W hbk.1 hbk.2
      unfold Figure.agg at HF
      have HF : ∀ W, Calls Tryz.prog 211 #[.agg #[.int .i64 l[k].digits, .int .i64 l[k].tens]] W fun e w' => e = .returned (.agg #[.int .i64 (figLo l[k].digits l[k].tens), .int .i64 (figHi l[k].digits l[k].tens)]) ∧ Below W.heap.size W w' := HF
      unfold chainStep at Hnx
      generalize figLo l[k].digits l[k].tens = fl at *
      generalize figHi l[k].digits l[k].tens = fh at *
      generalize chainTo l k = s at *
      obtain ⟨s1, s2⟩ := s
      simp only at Hnx hcb Bg
      have HF := fun W => Lib.hid (HF W)
      generalize l[k] = t at *
      obtain ⟨td, tt, tv⟩ := t
      simp only at Hnx c0 c1 c2 HF
      have hzr := hb.size
      have hbw : b < wr.heap.size := by omega
      have hzg := Bg.lt
      go_wp2_with fail
      refine (HF _).out.mono ?_; rintro e w2 ⟨rfl, hb2⟩
      have hB2 := hb.trans (hb2.mono hzr)
      have Br2 := Brr.below hb2 Brr.lt
      have Bg2 := Bg.below hb2 Bg.lt
      have d2 : w2.cell? ⟨b, off + k * 3 + 2, none⟩ = some (.bool tv) := (hb2.cell (p := ⟨b, off + k * 3 + 2, none⟩) hbw).trans c2
      have y0 : w2.cell? ⟨w1.heap.size, 0, none⟩ = some (.int .i64 s1) := Bg2.cell 0
      have y1 : w2.cell? ⟨w1.heap.size, 1, none⟩ = some (.int .i64 s2) := Bg2.cell 1
      have hz2 := hB2.size
      have hzg2 := Bg2.lt
      have hz2' := hb2.size
      have hbw2 : b < w2.heap.size := by omega
      have hne2 : b ≠ w2.heap.size := by omega
      have hneg : w1.heap.size ≠ w2.heap.size := by omega
      have e2 : (w2.alloc (.cells #[.int .i64 fl, .int .i64 fh] 201)).cell? ⟨b, off + k * 3 + 2, none⟩ = some (.bool tv) := (World.cell?_alloc_lt w2 _ _ hbw2).trans d2
      clear c0 c1 c2
      cases tv with
      | true =>
        simp only [if_true] at Hnx
        go_wp2_with fail
        refine (l03Sub_c s1 s2 fl fh _ (by omega) (by omega) (by omega) (by omega)).mono ?_; rintro e w3 ⟨rfl, hb3⟩
        have hB3 : Below w.heap.size w w3 := Below.trans ((by repeat (first | with_reducible exact hB2 | with_reducible apply below_drewN' | with_reducible apply Below.drew | (with_reducible refine Below.alloc ?_ (by first | omega | (simp; omega) | simp) _) | (with_reducible refine Below.setCell ?_ (by first | omega | (simp; omega) | simp) _) | exact hB2))) (hb3.mono (by simp; omega))
        have Br3 := (Br2.alloc (.cells #[.int .i64 fl, .int .i64 fh] 201)).below hb3 (by simp; omega)
        have Bg3 := (Bg2.alloc (.cells #[.int .i64 fl, .int .i64 fh] 201)).below hb3 (by simp; omega)
        have z0 : w3.cell? ⟨w1.heap.size, 0, none⟩ = some (.int .i64 s1) := Bg3.cell 0
        have z1 : w3.cell? ⟨w1.heap.size, 1, none⟩ = some (.int .i64 s2) := Bg3.cell 1
        have zf0 : w3.frozen? ⟨w1.heap.size, 0, none⟩ = false := Bg3.frozen 0
        have zf1 : w3.frozen? ⟨w1.heap.size, 1, none⟩ = false := Bg3.frozen 1
        go_wp2
        go_roundw
        case rel => exact ⟨k + 1, by omega, by omega, by go_num, (hB3.setCell (p := ⟨w1.heap.size, 0, none⟩) hz1 _).setCell (p := ⟨w1.heap.size, 1, none⟩) hz1 _, (Br3.far (p := ⟨w1.heap.size, 0, none⟩) (by simp; omega) _).far (p := ⟨w1.heap.size, 1, none⟩) (by simp; omega) _, by rw [Hnx.out]; exact (Bg3.two0 (u := .int .i64 (s1 - fh))).two1 (u := .int .i64 (s2 - fl))⟩
        case measure => simp [intOf]; omega
      | false =>
        simp only [Bool.false_eq_true, if_false] at Hnx
        go_wp2_with fail
        refine (l03Add_c s1 s2 fl fh _ (by omega) (by omega) (by omega) (by omega)).mono ?_; rintro e w3 ⟨rfl, hb3⟩
        have hB3 : Below w.heap.size w w3 := Below.trans ((by repeat (first | with_reducible exact hB2 | with_reducible apply below_drewN' | with_reducible apply Below.drew | (with_reducible refine Below.alloc ?_ (by first | omega | (simp; omega) | simp) _) | (with_reducible refine Below.setCell ?_ (by first | omega | (simp; omega) | simp) _) | exact hB2))) (hb3.mono (by simp; omega))
        have Br3 := (Br2.alloc (.cells #[.int .i64 fl, .int .i64 fh] 201)).below hb3 (by simp; omega)
        have Bg3 := (Bg2.alloc (.cells #[.int .i64 fl, .int .i64 fh] 201)).below hb3 (by simp; omega)
        have z0 : w3.cell? ⟨w1.heap.size, 0, none⟩ = some (.int .i64 s1) := Bg3.cell 0
        have z1 : w3.cell? ⟨w1.heap.size, 1, none⟩ = some (.int .i64 s2) := Bg3.cell 1
        have zf0 : w3.frozen? ⟨w1.heap.size, 0, none⟩ = false := Bg3.frozen 0
        have zf1 : w3.frozen? ⟨w1.heap.size, 1, none⟩ = false := Bg3.frozen 1
        go_wp2
        go_roundw
        case rel => exact ⟨k + 1, by omega, by omega, by go_num, (hB3.setCell (p := ⟨w1.heap.size, 0, none⟩) hz1 _).setCell (p := ⟨w1.heap.size, 1, none⟩) hz1 _, (Br3.far (p := ⟨w1.heap.size, 0, none⟩) (by simp; omega) _).far (p := ⟨w1.heap.size, 1, none⟩) (by simp; omega) _, by rw [Hnx.out]; exact (Bg3.two0 (u := .int .i64 (s1 + fl))).two1 (u := .int .i64 (s2 + fh))⟩
        case measure => simp [intOf]; omega
    · have : k = l.length := by omega
      subst this
      have z0 : wr.cell? ⟨w1.heap.size, 0, none⟩ = some (.int .i64 (chainTo l l.length).1) := Bg.cell 0
      have z1 : wr.cell? ⟨w1.heap.size, 1, none⟩ = some (.int .i64 (chainTo l l.length).2) := Bg.cell 1
      have r0 : wr.cell? ⟨w.heap.size, 0, none⟩ = some (.int .i64 0) := Brr.cell 0
      have r1 : wr.cell? ⟨w.heap.size, 1, none⟩ = some (.int .i64 0) := Brr.cell 1
      have rf0 : wr.frozen? ⟨w.heap.size, 0, none⟩ = false := Brr.frozen 0
      have rf1 : wr.frozen? ⟨w.heap.size, 1, none⟩ = false := Brr.frozen 1
      have _rz := Brr.lt
      clear hs0
      go_wp2
      refine bodyPost_ret (v := .agg #[.int .i64 (chainTo l l.length).1, .int .i64 (chainTo l l.length).2]) (by simp [results, Tryz.results172, go_sem, r0, r1]) rfl ⟨rfl, (by repeat (first | with_reducible exact hb | with_reducible apply below_drewN' | with_reducible apply Below.drew | (with_reducible refine Below.alloc ?_ (by first | omega | (simp; omega) | simp) _) | (with_reducible refine Below.setCell ?_ (by first | omega | (simp; omega) | simp) _) | exact hb))⟩
end Go.Proofs.YtgkobjpoeajkdaaGreat
