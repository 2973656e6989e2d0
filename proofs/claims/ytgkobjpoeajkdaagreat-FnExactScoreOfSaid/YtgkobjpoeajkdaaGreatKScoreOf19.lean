/- The figure of a chain: the program's and the reference's. Condition: the chain is valid. Whether a figure is within a plan's span: the program's and the reference's. Conditions: the exercise and the figure are valid. -/
import Derived.Test.YtgkobjpoeajkdaaGreatKScoreOf8
import Derived.Test.YtgkobjpoeajkdaaGreatKScoreOf14
import Derived.Test.YtgkobjpoeajkdaaGreatKScoreOf16
import Derived.Test.YtgkobjpoeajkdaaGreatKScoreOf18
namespace Go.Proofs.YtgkobjpoeajkdaaGreat
open Go.RowKit
def stepQ (f : Figure) (t : Term) : Figure × Int := if t.div then divQ f ⟨t.digits, t.tens⟩ else mulQ f ⟨t.digits, t.tens⟩
def chFig : Figure → List Term → Figure × Int
  | f, [] => (f, 0)
  | f, t :: l => if (stepQ f t).2 = 0 then chFig (stepQ f t).1 l else (⟨0, 0⟩, (stepQ f t).2)
def chainFig : List Term → Figure × Int
  | [] => (⟨0, 0⟩, 0)
  | t :: l => chFig ⟨t.digits, t.tens⟩ l
theorem stepQ_ok {f : Figure} {t : Term} (h : (stepQ f t).2 = 0) : figOK (stepQ f t).1 = true := by
  unfold stepQ divQ mulQ at *
  split at h
  · rename_i h1
    rw [if_pos h1]
    exact limR_ok h
  · rename_i h1
    rw [if_neg h1]
    exact limR_ok h
theorem chFig_step {f : Figure} {D : List Term} {k : Nat} (h : k < D.length) : chFig f (D.drop k) = if (stepQ f D[k]).2 = 0 then chFig (stepQ f D[k]).1 (D.drop (k + 1)) else (⟨0, 0⟩, (stepQ f D[k]).2) := by
  rw [List.drop_eq_getElem_cons h]
  rfl
theorem chFig_end {f : Figure} {D : List Term} : chFig f (D.drop D.length) = (f, 0) := by
  rw [List.drop_length]
  rfl
theorem chainFig_eq {l : List Term} (h : 0 < l.length) : chainFig l = chFig ⟨l[0].digits, l[0].tens⟩ (l.drop 1) := by
  match l, h with
  | t :: l, _ => rfl
set_option maxRecDepth 100000 in
set_option maxHeartbeats 1000000 in
theorem implChainFigure_c (A : Option Addr) (c : Nat) (l : List Term) (w : World) (hl : chainB l = true) (hk : l.length ≤ c) (hs : Sl w w.heap.size 3 A (l.map Term.cells)) :
    Calls Tryz.prog 142 #[.slice A l.length c] w fun e w' => e = .returned (.tuple #[(chainFig l).1.agg, .int .i64 (chainFig l).2]) ∧ Below w.heap.size w w' := by
  obtain ⟨k1, k2, k3, _⟩ := chainB_parts hl
  have HI : ∀ W, Below w.heap.size w W → Hid (Calls Tryz.prog 159 #[.slice A l.length c] W fun e w' => e = .returned (.bool true) ∧ Below W.heap.size W w') := fun W hW => by
    have := implIsChain_c A c l W (by omega) ((hs.below hW).more hW.size)
    rw [hl] at this
    exact this
  have hW : Below w.heap.size w (w.alloc (.cells #[.int .i64 0, .int .i64 0] 65)) := (by repeat (first | with_reducible exact Below.refl _ _ | with_reducible apply below_drewN' | with_reducible apply Below.drew | (with_reducible refine Below.alloc ?_ (by first | omega | (simp; omega) | simp) _) | (with_reducible refine Below.setCell ?_ (by first | omega | (simp; omega) | simp) _) | exact Below.refl _ _))
  have R0 := Blk.new w 65 #[.int .i64 0, .int .i64 0]
  obtain ⟨b, off, hA, hbB, hc⟩ := hs.at_ (i := 0) (by simpa using k1)
  simp only [List.getElem_map] at hc
  have c0 : w.cell? ⟨b, off, none⟩ = some (.int .i64 l[0].digits) := by have := hc 0 _ rfl; simpa using this
  have c1 : w.cell? ⟨b, off + 1, none⟩ = some (.int .i64 l[0].tens) := by have := hc 1 _ rfl; simpa using this
  clear hc
  have hrun : ∀ W, (Instr.slice 33 (.slice A l.length c) (some (.int .i64 1)) none none).run Tryz.prog W = .ok (.slice (if c = 1 then A else A.map (·.add (1 * 3))) (l.length - 1) (c - 1)) W := fun W => run_slice_at (P := Tryz.prog) W 33 118 3 Tryz.underlying33 (fun _ => by kernel_rfl) A l.length c 1 (by omega) hk ⟨b, off, hA⟩
  have hdr := hs.drop (m := 1) (cap := c) (by simp; omega) (by simp; omega)
  rw [← List.map_drop] at hdr
  obtain ⟨AD, hAD⟩ : ∃ AD, AD = (if c = 1 then A else A.map (·.add (1 * 3))) := ⟨_, rfl⟩
  rw [← hAD] at hdr
  simp only [← hAD] at hrun
  clear hAD
  subst hA
  have hDl : l.length - 1 = (l.drop 1).length := by simp
  have hDall : ∀ k (h : k < (l.drop 1).length), figOK ⟨(l.drop 1)[k].digits, (l.drop 1)[k].tens⟩ = true := fun k h => List.all_eq_true.1 k3 _ (List.mem_of_mem_drop (List.getElem_mem h))
  have hf0 : figOK ⟨l[0].digits, l[0].tens⟩ = true := List.all_eq_true.1 k3 l[0] (List.getElem_mem k1)
  have hst := Lib.hid (chainFig_eq k1)
  have h6 : (l.drop 1).length ≤ 5 := by simp; omega
  rw [hDl] at hrun
  clear k2 k3 hs
  generalize l.drop 1 = D at *
  generalize chainFig l = R at *
  have h0I : (0 : Int) < (l.length : Int) := by omega
  generalize l[0].digits = d0 at *
  generalize l[0].tens = t0 at *
  have hDall := Lib.hid hDall
  have HDR := Lib.hid hdr
  clear hdr hDl
  go_enter Tryz.func142, Tryz.ntmps142
  go_wp2_with fail
  refine Calls.mono (HI _ hW).out ?_; rintro e w1 ⟨rfl, hb1⟩
  generalize (w.alloc (.cells #[.int .i64 0, .int .i64 0] 65)) = W at *
  have hW1 := hW.trans (hb1.mono hW.size)
  have R1 := R0.below hb1 R0.lt
  have y0 : w1.cell? ⟨b, off, none⟩ = some (.int .i64 d0) := by rw [hW1.cell hbB]; exact c0
  have y1 : w1.cell? ⟨b, off + 1, none⟩ = some (.int .i64 t0) := by rw [hW1.cell hbB]; exact c1
  have hz1 := R1.lt
  have hbB1 : b < w1.heap.size := by omega
  have F2 := Blk.new w1 65 #[.int .i64 d0, .int .i64 t0]
  have R2 := R1.alloc (.cells #[.int .i64 d0, .int .i64 t0] 65)
  have hW2 : Below w.heap.size w (w1.alloc (.cells #[.int .i64 d0, .int .i64 t0] 65)) := (by repeat (first | with_reducible exact hW1 | with_reducible apply below_drewN' | with_reducible apply Below.drew | (with_reducible refine Below.alloc ?_ (by first | omega | (simp; omega) | simp) _) | (with_reducible refine Below.setCell ?_ (by first | omega | (simp; omega) | simp) _) | exact hW1))
  clear hW R0 hb1 HI c0 c1
  go_wp2_with fail
  generalize w1.alloc (.cells #[.int .i64 d0, .int .i64 t0] 65) = w2 at *
  generalize w1.heap.size = g at *
  clear y0 y1
  go_loopw [19] (fun i wr => ∃ (k : Nat) (f : Figure), k ≤ D.length ∧ i = .int .i64 k ∧ figOK f = true ∧ Below w.heap.size w wr ∧ Blk wr w.heap.size 65 #[.int .i64 0, .int .i64 0] ∧ Blk wr g 65 #[.int .i64 f.digits, .int .i64 f.tens] ∧ Hid (R = chFig f (D.drop k))) (fun i _ => D.length - (intOf i).toNat)
  case atStart => exact ⟨0, ⟨d0, t0⟩, Nat.zero_le _, rfl, hf0, hW2, R2, F2, by rw [List.drop_zero]; exact hst⟩
  case round =>
    clear F2 R2 hW2 hst
    obtain ⟨k, ⟨fd, ft⟩, hk, rfl, hf, hb, Rr, Fr, hch⟩ := hrel
    simp only at Fr
    have hzr := hb.size
    by_cases hlt : k < D.length
    · obtain ⟨b2, off2, rfl, hbB2, hc⟩ := HDR.out.at_ (i := k) (by simpa using hlt)
      simp only [List.getElem_map] at hc
      have c0 : wr.cell? ⟨b2, off2 + k * 3, none⟩ = some (.int .i64 D[k].digits) := by rw [hb.cell hbB2]; exact hc 0 _ rfl
      have c1 : wr.cell? ⟨b2, off2 + k * 3 + 1, none⟩ = some (.int .i64 D[k].tens) := by rw [hb.cell hbB2]; exact hc 1 _ rfl
      have c2 : wr.cell? ⟨b2, off2 + k * 3 + 2, none⟩ = some (.bool D[k].div) := by rw [hb.cell hbB2]; exact hc 2 _ rfl
      clear hc
      have HM := fun W => implMulF_c ⟨fd, ft⟩ ⟨D[k].digits, D[k].tens⟩ W hf (hDall.out k hlt)
      have HV := fun W => implDivF_c ⟨fd, ft⟩ ⟨D[k].digits, D[k].tens⟩ W hf (hDall.out k hlt)
      have Hnx := Lib.hid (chFig_step (f := ⟨fd, ft⟩) hlt)
      have Hok := Lib.hid (@stepQ_ok ⟨fd, ft⟩ D[k])
      generalize D[k] = t at *
      obtain ⟨td, tt, tv⟩ := t
      have BT := Blk.new wr 118 #[.int .i64 td, .int .i64 tt, .bool tv]
      have F3 := Fr.alloc (.cells #[.int .i64 td, .int .i64 tt, .bool tv] 118)
      have R3 := Rr.alloc (.cells #[.int .i64 td, .int .i64 tt, .bool tv] 118)
      have hB3 : Below w.heap.size w (wr.alloc (.cells #[.int .i64 td, .int .i64 tt, .bool tv] 118)) := (by repeat (first | with_reducible exact hb | with_reducible apply below_drewN' | with_reducible apply Below.drew | (with_reducible refine Below.alloc ?_ (by first | omega | (simp; omega) | simp) _) | (with_reducible refine Below.setCell ?_ (by first | omega | (simp; omega) | simp) _) | exact hb))
      simp only at c0 c1 c2 HM HV
      clear hf
      cases tv with
      | true =>
        have hq : stepQ ⟨fd, ft⟩ ⟨td, tt, true⟩ = divQ ⟨fd, ft⟩ ⟨td, tt⟩ := if_pos rfl
        rw [hq] at Hnx Hok
        clear hq
        generalize divQ ⟨fd, ft⟩ ⟨td, tt⟩ = s at *
        obtain ⟨⟨sd, st⟩, sc⟩ := s
        unfold Figure.agg at HV
        simp only at HV Hnx Hok
        have HQ := fun W => Lib.hid (HV W)
        clear HM HV
        have x0 : (wr.alloc (.cells #[.int .i64 td, .int .i64 tt, .bool true] 118)).cell? ⟨wr.heap.size, 0, none⟩ = some (.int .i64 td) := BT.cell 0
        have x1 : (wr.alloc (.cells #[.int .i64 td, .int .i64 tt, .bool true] 118)).cell? ⟨wr.heap.size, 1, none⟩ = some (.int .i64 tt) := BT.cell 1
        have y0 : (wr.alloc (.cells #[.int .i64 td, .int .i64 tt, .bool true] 118)).cell? ⟨g, 0, none⟩ = some (.int .i64 fd) := F3.cell 0
        have y1 : (wr.alloc (.cells #[.int .i64 td, .int .i64 tt, .bool true] 118)).cell? ⟨g, 1, none⟩ = some (.int .i64 ft) := F3.cell 1
        go_wp2_with fail
        generalize (wr.alloc (.cells #[.int .i64 td, .int .i64 tt, .bool true] 118)) = W3 at *
        refine Calls.mono (HQ _).out ?_; rintro e w5 ⟨rfl, hb5⟩
        have F5 := F3.below hb5 F3.lt
        have R5 := R3.below hb5 R3.lt
        have hB5 := hB3.trans (hb5.mono hB3.size)
        clear x0 x1 y0 y1 c0 c1 c2 F3 R3 BT hB3 hb5
        have z0 : w5.cell? ⟨g, 0, none⟩ = some (.int .i64 fd) := F5.cell 0
        have z1 : w5.cell? ⟨g, 1, none⟩ = some (.int .i64 ft) := F5.cell 1
        have zf0 := F5.frozen 0
        have zf1 := F5.frozen 1
        have r0 : w5.cell? ⟨w.heap.size, 0, none⟩ = some (.int .i64 0) := R5.cell 0
        have r1 : w5.cell? ⟨w.heap.size, 1, none⟩ = some (.int .i64 0) := R5.cell 1
        have rf0 := R5.frozen 0
        have rf1 := R5.frozen 1
        have zg := F5.lt
        have hne : ¬ g = w.heap.size := by omega
        have hne' : ¬ w.heap.size = g := by omega
        have hB7 : Below w.heap.size w ((w5.setCell ⟨g, 0, none⟩ (.int .i64 sd)).setCell ⟨g, 1, none⟩ (.int .i64 st)) := (by repeat (first | with_reducible exact hB5 | with_reducible apply below_drewN' | with_reducible apply Below.drew | (with_reducible refine Below.alloc ?_ (by first | omega | (simp; omega) | simp) _) | (with_reducible refine Below.setCell ?_ (by first | omega | (simp; omega) | simp) _) | exact hB5))
        by_cases h0 : sc = 0
        · have hn := Hnx.out
          rw [if_pos h0] at hn
          have hn : Hid (R = chFig ⟨sd, st⟩ (D.drop (k + 1))) := hch.out.trans hn
          have hk2 := Hok.out h0
          have h0' : (sc != 0) = false := by simp [h0]
          clear Hok h0
          go_wp2
          go_roundw
          case rel => exact ⟨k + 1, ⟨sd, st⟩, by omega, by go_num, hk2, hB7, (R5.far (by simp only; omega) _).far (by simp only; omega) _, (F5.two0).two1, hn⟩
          case measure => simp [intOf]; omega
        · have hn := Hnx.out
          rw [if_neg h0] at hn
          have hn : Hid (R = (⟨0, 0⟩, sc)) := hch.out.trans hn
          have h0' : (sc != 0) = true := by simp [h0]
          clear Hok h0
          go_wp2
          refine bodyPost_ret (v := .tuple #[.agg #[.int .i64 0, .int .i64 0], .int .i64 sc]) (by simp [results, Tryz.results142, go_sem, r0, r1]) rfl ⟨by rw [hn.out]; rfl, (by repeat (first | with_reducible exact hB7 | with_reducible apply below_drewN' | with_reducible apply Below.drew | (with_reducible refine Below.alloc ?_ (by first | omega | (simp; omega) | simp) _) | (with_reducible refine Below.setCell ?_ (by first | omega | (simp; omega) | simp) _) | exact hB7))⟩
      | false =>
        have hq : stepQ ⟨fd, ft⟩ ⟨td, tt, false⟩ = mulQ ⟨fd, ft⟩ ⟨td, tt⟩ := if_neg (by simp)
        rw [hq] at Hnx Hok
        clear hq
        generalize mulQ ⟨fd, ft⟩ ⟨td, tt⟩ = s at *
        obtain ⟨⟨sd, st⟩, sc⟩ := s
        unfold Figure.agg at HM
        simp only at HM Hnx Hok
        have HQ := fun W => Lib.hid (HM W)
        clear HM HV
        have x0 : (wr.alloc (.cells #[.int .i64 td, .int .i64 tt, .bool false] 118)).cell? ⟨wr.heap.size, 0, none⟩ = some (.int .i64 td) := BT.cell 0
        have x1 : (wr.alloc (.cells #[.int .i64 td, .int .i64 tt, .bool false] 118)).cell? ⟨wr.heap.size, 1, none⟩ = some (.int .i64 tt) := BT.cell 1
        have y0 : (wr.alloc (.cells #[.int .i64 td, .int .i64 tt, .bool false] 118)).cell? ⟨g, 0, none⟩ = some (.int .i64 fd) := F3.cell 0
        have y1 : (wr.alloc (.cells #[.int .i64 td, .int .i64 tt, .bool false] 118)).cell? ⟨g, 1, none⟩ = some (.int .i64 ft) := F3.cell 1
        go_wp2_with fail
        generalize (wr.alloc (.cells #[.int .i64 td, .int .i64 tt, .bool false] 118)) = W3 at *
        refine Calls.mono (HQ _).out ?_; rintro e w5 ⟨rfl, hb5⟩
        have F5 := F3.below hb5 F3.lt
        have R5 := R3.below hb5 R3.lt
        have hB5 := hB3.trans (hb5.mono hB3.size)
        clear x0 x1 y0 y1 c0 c1 c2 F3 R3 BT hB3 hb5
        have z0 : w5.cell? ⟨g, 0, none⟩ = some (.int .i64 fd) := F5.cell 0
        have z1 : w5.cell? ⟨g, 1, none⟩ = some (.int .i64 ft) := F5.cell 1
        have zf0 := F5.frozen 0
        have zf1 := F5.frozen 1
        have r0 : w5.cell? ⟨w.heap.size, 0, none⟩ = some (.int .i64 0) := R5.cell 0
        have r1 : w5.cell? ⟨w.heap.size, 1, none⟩ = some (.int .i64 0) := R5.cell 1
        have rf0 := R5.frozen 0
        have rf1 := R5.frozen 1
        have zg := F5.lt
        have hne : ¬ g = w.heap.size := by omega
        have hne' : ¬ w.heap.size = g := by omega
        have hB7 : Below w.heap.size w ((w5.setCell ⟨g, 0, none⟩ (.int .i64 sd)).setCell ⟨g, 1, none⟩ (.int .i64 st)) := (by repeat (first | with_reducible exact hB5 | with_reducible apply below_drewN' | with_reducible apply Below.drew | (with_reducible refine Below.alloc ?_ (by first | omega | (simp; omega) | simp) _) | (with_reducible refine Below.setCell ?_ (by first | omega | (simp; omega) | simp) _) | exact hB5))
        by_cases h0 : sc = 0
        · have hn := Hnx.out
          rw [if_pos h0] at hn
          have hn : Hid (R = chFig ⟨sd, st⟩ (D.drop (k + 1))) := hch.out.trans hn
          have hk2 := Hok.out h0
          have h0' : (sc != 0) = false := by simp [h0]
          clear Hok h0
          go_wp2
          go_roundw
          case rel => exact ⟨k + 1, ⟨sd, st⟩, by omega, by go_num, hk2, hB7, (R5.far (by simp only; omega) _).far (by simp only; omega) _, (F5.two0).two1, hn⟩
          case measure => simp [intOf]; omega
        · have hn := Hnx.out
          rw [if_neg h0] at hn
          have hn : Hid (R = (⟨0, 0⟩, sc)) := hch.out.trans hn
          have h0' : (sc != 0) = true := by simp [h0]
          clear Hok h0
          go_wp2
          refine bodyPost_ret (v := .tuple #[.agg #[.int .i64 0, .int .i64 0], .int .i64 sc]) (by simp [results, Tryz.results142, go_sem, r0, r1]) rfl ⟨by rw [hn.out]; rfl, (by repeat (first | with_reducible exact hB7 | with_reducible apply below_drewN' | with_reducible apply Below.drew | (with_reducible refine Below.alloc ?_ (by first | omega | (simp; omega) | simp) _) | (with_reducible refine Below.setCell ?_ (by first | omega | (simp; omega) | simp) _) | exact hB7))⟩
    · have : k = D.length := by omega
      subst this
      have z0 : wr.cell? ⟨g, 0, none⟩ = some (.int .i64 fd) := Fr.cell 0
      have z1 : wr.cell? ⟨g, 1, none⟩ = some (.int .i64 ft) := Fr.cell 1
      have r0 : wr.cell? ⟨w.heap.size, 0, none⟩ = some (.int .i64 0) := Rr.cell 0
      have r1 : wr.cell? ⟨w.heap.size, 1, none⟩ = some (.int .i64 0) := Rr.cell 1
      have rf0 := Rr.frozen 0
      have rf1 := Rr.frozen 1
      have hn : Hid (R = (⟨fd, ft⟩, 0)) := hch.out.trans chFig_end
      have _rz := Rr.lt
      go_wp2
      refine bodyPost_ret (v := .tuple #[.agg #[.int .i64 fd, .int .i64 ft], .int .i64 0]) (by simp [results, Tryz.results142, go_sem, r0, r1]) rfl ⟨by rw [hn.out]; rfl, (by repeat (first | with_reducible exact hb | with_reducible apply below_drewN' | with_reducible apply Below.drew | (with_reducible refine Below.alloc ?_ (by first | omega | (simp; omega) | simp) _) | (with_reducible refine Below.setCell ?_ (by first | omega | (simp; omega) | simp) _) | exact hb))⟩
set_option maxRecDepth 100000 in
set_option maxHeartbeats 1000000 in
theorem specChainFigure_c (A : Option Addr) (c : Nat) (l : List Term) (w : World) (hl : chainB l = true) (hs : Sl w w.heap.size 3 A (l.map Term.cells)) :
    Calls Tryz.prog 139 #[.slice A l.length c] w fun e w' => e = .returned (.tuple #[(chainFig l).1.agg, .int .i64 (chainFig l).2]) ∧ Below w.heap.size w w' := by
  obtain ⟨k1, k2, k3, _⟩ := chainB_parts hl
  have HI : ∀ W, Below w.heap.size w W → Hid (Calls Tryz.prog 190 #[.slice A l.length c] W fun e w' => e = .returned (.bool true) ∧ Below W.heap.size W w') := fun W hW => by
    have := specIsChain_c A c l W (by omega) ((hs.below hW).more hW.size)
    rw [hl] at this
    exact this
  have hW : Below w.heap.size w (w.alloc (.cells #[.int .i64 0, .int .i64 0] 65)) := (by repeat (first | with_reducible exact Below.refl _ _ | with_reducible apply below_drewN' | with_reducible apply Below.drew | (with_reducible refine Below.alloc ?_ (by first | omega | (simp; omega) | simp) _) | (with_reducible refine Below.setCell ?_ (by first | omega | (simp; omega) | simp) _) | exact Below.refl _ _))
  have R0 := Blk.new w 65 #[.int .i64 0, .int .i64 0]
  have HS := Lib.hid hs
  obtain ⟨b, off, rfl, hbB, hc⟩ := hs.at_ (i := 0) (by simpa using k1)
  simp only [List.getElem_map] at hc
  have c0 : w.cell? ⟨b, off, none⟩ = some (.int .i64 l[0].digits) := by have := hc 0 _ rfl; simpa using this
  have c1 : w.cell? ⟨b, off + 1, none⟩ = some (.int .i64 l[0].tens) := by have := hc 1 _ rfl; simpa using this
  clear hc hs
  have hall := Lib.hid (show ∀ k (h : k < l.length), figOK ⟨l[k].digits, l[k].tens⟩ = true from fun k h => List.all_eq_true.1 k3 _ (List.getElem_mem h))
  have hf0 := hall.out 0 k1
  have hst := Lib.hid (chainFig_eq k1)
  clear k3
  generalize chainFig l = R at *
  have h0I : (0 : Int) < (l.length : Int) := by omega
  generalize l[0].digits = d0 at *
  generalize l[0].tens = t0 at *
  go_enter Tryz.func139, Tryz.ntmps139
  go_wp2_with fail
  refine Calls.mono (HI _ hW).out ?_; rintro e w1 ⟨rfl, hb1⟩
  generalize (w.alloc (.cells #[.int .i64 0, .int .i64 0] 65)) = W at *
  have hW1 := hW.trans (hb1.mono hW.size)
  have R1 := R0.below hb1 R0.lt
  have y0 : w1.cell? ⟨b, off, none⟩ = some (.int .i64 d0) := by rw [hW1.cell hbB]; exact c0
  have y1 : w1.cell? ⟨b, off + 1, none⟩ = some (.int .i64 t0) := by rw [hW1.cell hbB]; exact c1
  have hz1 := R1.lt
  have hbB1 : b < w1.heap.size := by omega
  have F2 := Blk.new w1 65 #[.int .i64 d0, .int .i64 t0]
  have R2 := R1.alloc (.cells #[.int .i64 d0, .int .i64 t0] 65)
  have hW2 : Below w.heap.size w (w1.alloc (.cells #[.int .i64 d0, .int .i64 t0] 65)) := (by repeat (first | with_reducible exact hW1 | with_reducible apply below_drewN' | with_reducible apply Below.drew | (with_reducible refine Below.alloc ?_ (by first | omega | (simp; omega) | simp) _) | (with_reducible refine Below.setCell ?_ (by first | omega | (simp; omega) | simp) _) | exact hW1))
  clear hW R0 hb1 HI c0 c1
  go_wp2_with fail
  generalize w1.alloc (.cells #[.int .i64 d0, .int .i64 t0] 65) = w2 at *
  generalize w1.heap.size = g at *
  clear y0 y1
  go_loopw [5] (fun i wr => ∃ (k : Nat) (f : Figure), (1 ≤ k ∧ k ≤ l.length) ∧ i = .int .i64 k ∧ figOK f = true ∧ Below w.heap.size w wr ∧ Blk wr w.heap.size 65 #[.int .i64 0, .int .i64 0] ∧ Blk wr g 65 #[.int .i64 f.digits, .int .i64 f.tens] ∧ Hid (R = chFig f (l.drop k))) (fun i _ => l.length - (intOf i).toNat)
  case atStart => exact ⟨1, ⟨d0, t0⟩, ⟨by omega, by omega⟩, rfl, hf0, hW2, R2, F2, hst⟩
  case round =>
    clear F2 R2 hW2 hst
    obtain ⟨k, ⟨fd, ft⟩, hk, rfl, hf, hb, Rr, Fr, hch⟩ := hrel
    obtain ⟨hk1, hk⟩ := hk
    simp only at Fr
    have hzr := hb.size
    by_cases hlt : k < l.length
    · obtain ⟨b2, off2, he, hbB2, hc⟩ := HS.out.at_ (i := k) (by simpa using hlt)
      simp only [Option.some.injEq, Addr.mk.injEq, and_true] at he
      obtain ⟨rfl, rfl⟩ := he
      simp only [List.getElem_map] at hc
      have HCE : ∀ (v : World), Below wr.heap.size wr v → ∀ j u, l[k].cells[j]? = some u → v.cell? ⟨b, off + k * 3 + j, none⟩ = some u := fun v hv j u h => by rw [hv.cell (Nat.lt_of_lt_of_le hbB2 hb.size), hb.cell hbB2]; exact hc j u h
      clear hc
      have HM := fun W => specMulF_c ⟨fd, ft⟩ ⟨l[k].digits, l[k].tens⟩ W hf (hall.out k hlt)
      have HV := fun W => specDivF_c ⟨fd, ft⟩ ⟨l[k].digits, l[k].tens⟩ W hf (hall.out k hlt)
      have Hnx := Lib.hid (chFig_step (f := ⟨fd, ft⟩) hlt)
      have Hok := Lib.hid (@stepQ_ok ⟨fd, ft⟩ l[k])
      generalize l[k] = t at *
      obtain ⟨td, tt, tv⟩ := t
      simp only at HCE HM HV
      have HCE := Lib.hid HCE
      clear hf
      have hqd : stepQ ⟨fd, ft⟩ ⟨td, tt, true⟩ = divQ ⟨fd, ft⟩ ⟨td, tt⟩ := if_pos rfl
      have hqm : stepQ ⟨fd, ft⟩ ⟨td, tt, false⟩ = mulQ ⟨fd, ft⟩ ⟨td, tt⟩ := if_neg (by simp)
      generalize divQ ⟨fd, ft⟩ ⟨td, tt⟩ = sd at *
      generalize mulQ ⟨fd, ft⟩ ⟨td, tt⟩ = sm at *
      obtain ⟨⟨dd, dt⟩, dc⟩ := sd
      obtain ⟨⟨md, mt⟩, mc⟩ := sm
      have hqd := Lib.hid hqd
      have hqm := Lib.hid hqm
      unfold Figure.agg at HM HV
      simp only at HM HV
      have HM := fun W => Lib.hid (HM W)
      have HV := fun W => Lib.hid (HV W)
      have k0 : (0 : Int) ≤ (k : Int) := by omega
      have kl : (k : Int) < (l.length : Int) := by omega
      go_wp2_with fail
      refine wp_region_all (fun a0 fL bA v => ∃ v23 v24 v25 v26 v27 v28 v29 v22 v30 v31 v6 v7 : Value, bA = (((((((((((a0.put (some 23) v23).put (some 24) v24).put (some 25) v25).put (some 26) v26).put (some 27) v27).put (some 28) v28).put (some 29) v29).put (some 22) v22).put (some 30) v30).put (some 31) v31).put (some 6) v6).put (some 7) v7 ∧ (AlT 65 wr (fL 10) (fL 11) v6 (.int .i64 md) (.int .i64 mt) v) ∧ (fL 0 = true → v23 = .agg #[.int .i64 fd, .int .i64 ft]) ∧ (fL 1 = true → v24 = .slice (some ⟨b, off, none⟩) l.length c) ∧ (fL 2 = true → v25 = .int .i64 k) ∧ (fL 3 = true → v26 = .pointer (some ⟨b, off + k * 3, none⟩)) ∧ (fL 4 = true → v27 = .pointer (some ⟨b, off + k * 3, none⟩)) ∧ (fL 5 = true → v28 = .agg #[.int .i64 td, .int .i64 tt]) ∧ (fL 6 = true → v29 = .tuple #[.agg #[.int .i64 md, .int .i64 mt], .int .i64 mc]) ∧ (fL 7 = true → v22 = .tuple #[.agg #[.int .i64 md, .int .i64 mt], .int .i64 mc]) ∧ (fL 8 = true → v30 = .agg #[.int .i64 md, .int .i64 mt]) ∧ (fL 9 = true → v31 = .int .i64 mc) ∧ (fL 10 = true → True) ∧ (fL 12 = true → v7 = .int .i64 mc)) (by kernel_rfl) (by decide +kernel) ?_ ?_ ?_
      · exact ⟨_, _, _, _, _, _, _, _, _, _, _, _, put_more (put_more (put_more (put_more (put_more (put_more (put_more (put_more (put_more (put_more (put_more (put_more (rfl) 23) 24) 25) 26) 27) 28) 29) 22) 30) 31) 6) 7, AlT.init, nofun, nofun, nofun, nofun, nofun, nofun, nofun, nofun, nofun, nofun, nofun, nofun⟩
      · rintro fL bA v ⟨v23, v24, v25, v26, v27, v28, v29, v22, v30, v31, v6, v7, rfl, hS, q0, q1, q2, q3, q4, q5, q6, q7, q8, q9, q10, q12⟩ i hi hf o ho hall
        simp only [Act.put, List.setIfInBounds_toArray, List.set_cons_zero, List.set_cons_succ]
        simp only [List.length_cons, List.length_nil] at hi
        have hn : i = 0 ∨ i = 1 ∨ i = 2 ∨ i = 3 ∨ i = 4 ∨ i = 5 ∨ i = 6 ∨ i = 7 ∨ i = 8 ∨ i = 9 ∨ i = 10 ∨ i = 11 ∨ i = 12 := by omega
        clear hi
        rcases hn with rfl | rfl | rfl | rfl | rfl | rfl | rfl | rfl | rfl | rfl | rfl | rfl | rfl
        · obtain rfl := Option.some.inj ho
          have E := Fr.below hS.hb Fr.lt
          have y0 : v.cell? ⟨g, 0, none⟩ = some (.int .i64 fd) := E.cell 0
          have y1 : v.cell? ⟨g, 1, none⟩ = some (.int .i64 ft) := E.cell 1
          clear hall ho
          refine wpOp_step rfl (fun K hK => ?_)
          go_simp
          exact hK _ _ ⟨_, _, _, _, _, _, _, _, _, _, _, _, rfl, hS, fun _ => rfl, q1, q2, q3, q4, q5, q6, q7, q8, q9, fun _ => trivial, q12⟩
        · obtain rfl := Option.some.inj ho
          clear hall ho
          refine wpOp_step rfl (fun K hK => ?_)
          go_simp
          exact hK _ _ ⟨_, _, _, _, _, _, _, _, _, _, _, _, rfl, hS, q0, fun _ => rfl, q2, q3, q4, q5, q6, q7, q8, q9, fun _ => trivial, q12⟩
        · obtain rfl := Option.some.inj ho
          clear hall ho
          refine wpOp_step rfl (fun K hK => ?_)
          go_simp
          exact hK _ _ ⟨_, _, _, _, _, _, _, _, _, _, _, _, rfl, hS, q0, q1, fun _ => rfl, q3, q4, q5, q6, q7, q8, q9, fun _ => trivial, q12⟩
        · obtain rfl := Option.some.inj ho
          obtain rfl := q1 (hall ⟨1, .data⟩ (by simp) rfl)
          obtain rfl := q2 (hall ⟨2, .data⟩ (by simp) rfl)
          clear hall ho
          refine wpOp_step rfl (fun K hK => ?_)
          go_simp
          exact hK _ _ ⟨_, _, _, _, _, _, _, _, _, _, _, _, rfl, hS, q0, fun _ => rfl, fun _ => rfl, fun _ => rfl, q4, q5, q6, q7, q8, q9, fun _ => trivial, q12⟩
        · obtain rfl := Option.some.inj ho
          obtain rfl := q3 (hall ⟨3, .data⟩ (by simp) rfl)
          clear hall ho
          refine wpOp_step rfl (fun K hK => ?_)
          go_simp
          exact hK _ _ ⟨_, _, _, _, _, _, _, _, _, _, _, _, rfl, hS, q0, q1, q2, fun _ => rfl, fun _ => rfl, q5, q6, q7, q8, q9, fun _ => trivial, q12⟩
        · obtain rfl := Option.some.inj ho
          obtain rfl := q4 (hall ⟨4, .data⟩ (by simp) rfl)
          have y0 : v.cell? ⟨b, off + k * 3, none⟩ = some (.int .i64 td) := HCE.out v hS.hb 0 _ rfl
          have y1 : v.cell? ⟨b, off + k * 3 + 1, none⟩ = some (.int .i64 tt) := HCE.out v hS.hb 1 _ rfl
          clear hall ho
          refine wpOp_step rfl (fun K hK => ?_)
          go_simp
          exact hK _ _ ⟨_, _, _, _, _, _, _, _, _, _, _, _, rfl, hS, q0, q1, q2, q3, fun _ => rfl, fun _ => rfl, q6, q7, q8, q9, fun _ => trivial, q12⟩
        · obtain rfl := Option.some.inj ho
          obtain rfl := q0 (hall ⟨0, .data⟩ (by simp) rfl)
          obtain rfl := q5 (hall ⟨5, .data⟩ (by simp) rfl)
          clear hall ho
          refine wpOp_step rfl (fun K hK => ?_)
          go_simp
          refine Calls.mono ((HM v).out) ?_; rintro e w1 ⟨rfl, hb1⟩
          go_simp
          exact hK _ _ ⟨_, _, _, _, _, _, _, _, _, _, _, _, rfl, hS.below hb1, fun _ => rfl, q1, q2, q3, q4, fun _ => rfl, fun _ => rfl, q7, q8, q9, fun _ => trivial, q12⟩
        · obtain rfl := Option.some.inj ho
          obtain rfl := q6 (hall ⟨6, .data⟩ (by simp) rfl)
          clear hall ho
          refine wpOp_step rfl (fun K hK => ?_)
          go_simp
          exact hK _ _ ⟨_, _, _, _, _, _, _, _, _, _, _, _, rfl, hS, q0, q1, q2, q3, q4, q5, fun _ => rfl, fun _ => rfl, q8, q9, fun _ => trivial, q12⟩
        · obtain rfl := Option.some.inj ho
          obtain rfl := q7 (hall ⟨7, .data⟩ (by simp) rfl)
          clear hall ho
          refine wpOp_step rfl (fun K hK => ?_)
          go_simp
          exact hK _ _ ⟨_, _, _, _, _, _, _, _, _, _, _, _, rfl, hS, q0, q1, q2, q3, q4, q5, q6, fun _ => rfl, fun _ => rfl, q9, fun _ => trivial, q12⟩
        · obtain rfl := Option.some.inj ho
          obtain rfl := q7 (hall ⟨7, .data⟩ (by simp) rfl)
          clear hall ho
          refine wpOp_step rfl (fun K hK => ?_)
          go_simp
          exact hK _ _ ⟨_, _, _, _, _, _, _, _, _, _, _, _, rfl, hS, q0, q1, q2, q3, q4, q5, q6, fun _ => rfl, q8, fun _ => rfl, fun _ => trivial, q12⟩
        · obtain rfl := Option.some.inj ho
          clear hall ho
          refine wpOp_step rfl (fun K hK => ?_)
          go_simp
          exact hK _ _ ⟨_, _, _, _, _, _, _, _, _, _, _, _, rfl, hS.new hf, q0, q1, q2, q3, q4, q5, q6, q7, q8, q9, fun _ => trivial, q12⟩
        · obtain rfl := Option.some.inj ho
          have e10 : fL 10 = true := hall ⟨10, .data⟩ (by simp) rfl
          obtain rfl := q8 (hall ⟨8, .data⟩ (by simp) rfl)
          obtain ⟨gb, x0, x1, rfl, Bb, hgb, _⟩ := hS.blk e10
          have y0 : v.cell? ⟨gb, 0, none⟩ = some x0 := Bb.cell 0
          have y1 : v.cell? ⟨gb, 1, none⟩ = some x1 := Bb.cell 1
          have yf0 := Bb.frozen 0
          have yf1 := Bb.frozen 1
          clear hall ho
          refine wpOp_step rfl (fun K hK => ?_)
          go_simp
          exact hK _ _ ⟨_, _, _, _, _, _, _, _, _, _, _, _, rfl, hS.set e10 Bb hgb, q0, q1, q2, q3, q4, q5, q6, q7, fun _ => rfl, q9, fun _ => trivial, q12⟩
        · obtain rfl := Option.some.inj ho
          obtain rfl := q9 (hall ⟨9, .data⟩ (by simp) rfl)
          clear hall ho
          refine wpOp_step rfl (fun K hK => ?_)
          go_simp
          exact hK _ _ ⟨_, _, _, _, _, _, _, _, _, _, _, _, rfl, hS, q0, q1, q2, q3, q4, q5, q6, q7, q8, fun _ => rfl, fun _ => trivial, fun _ => rfl⟩
      · rintro fL bA v ⟨v23, v24, v25, v26, v27, v28, v29, v22, v30, v31, v6, v7, rfl, hS, q0, q1, q2, q3, q4, q5, q6, q7, q8, q9, q10, q12⟩ hall
        simp only [Act.put, List.setIfInBounds_toArray, List.set_cons_zero, List.set_cons_succ]
        simp only [List.length_cons, List.length_nil] at hall
        obtain rfl := q0 (hall 0 (by omega))
        obtain rfl := q1 (hall 1 (by omega))
        obtain rfl := q2 (hall 2 (by omega))
        obtain rfl := q3 (hall 3 (by omega))
        obtain rfl := q4 (hall 4 (by omega))
        obtain rfl := q5 (hall 5 (by omega))
        obtain rfl := q6 (hall 6 (by omega))
        obtain rfl := q7 (hall 7 (by omega))
        obtain rfl := q8 (hall 8 (by omega))
        obtain rfl := q9 (hall 9 (by omega))
        have e10 : fL 10 = true := hall 10 (by omega)
        obtain rfl := q12 (hall 12 (by omega))
        have e11 : fL 11 = true := hall 11 (by omega)
        clear hall
        obtain ⟨gn, x0, x1, rfl, Nn, hgn, hxy⟩ := hS.blk e10
        obtain ⟨rfl, rfl⟩ := hxy e11
        have hB2 := hS.hb
        clear hxy hS HM
        have y2 : v.cell? ⟨b, off + k * 3 + 2, none⟩ = some (.bool tv) := HCE.out v hB2 2 _ rfl
        cases tv with
        | false =>
          have Hnx := Hnx.out
          rw [hqm.out] at Hnx Hok
          simp only at Hnx Hok
          have hB3 := hb.trans (hB2.mono hb.size)
          have F3 := Fr.below hB2 Fr.lt
          have R3 := Rr.below hB2 Rr.lt
          clear HV hqd hqm
          have z0 : v.cell? ⟨g, 0, none⟩ = some (.int .i64 fd) := F3.cell 0
          have z1 : v.cell? ⟨g, 1, none⟩ = some (.int .i64 ft) := F3.cell 1
          have zf0 := F3.frozen 0
          have zf1 := F3.frozen 1
          have n0 : v.cell? ⟨gn, 0, none⟩ = some (.int .i64 md) := Nn.cell 0
          have n1 : v.cell? ⟨gn, 1, none⟩ = some (.int .i64 mt) := Nn.cell 1
          have r0 : v.cell? ⟨w.heap.size, 0, none⟩ = some (.int .i64 0) := R3.cell 0
          have r1 : v.cell? ⟨w.heap.size, 1, none⟩ = some (.int .i64 0) := R3.cell 1
          have rf0 := R3.frozen 0
          have rf1 := R3.frozen 1
          have zg := F3.lt
          have hB7 : Below w.heap.size w ((v.setCell ⟨g, 0, none⟩ (.int .i64 md)).setCell ⟨g, 1, none⟩ (.int .i64 mt)) := (by repeat (first | with_reducible exact hB3 | with_reducible apply below_drewN' | with_reducible apply Below.drew | (with_reducible refine Below.alloc ?_ (by first | omega | (simp; omega) | simp) _) | (with_reducible refine Below.setCell ?_ (by first | omega | (simp; omega) | simp) _) | exact hB3))
          by_cases h0 : mc = 0
          · rw [if_pos h0] at Hnx
            have hn : Hid (R = chFig ⟨md, mt⟩ (l.drop (k + 1))) := hch.out.trans Hnx
            have hk2 := Hok.out h0
            have h0' : (mc != 0) = false := by simp [h0]
            clear Hok h0 Hnx
            go_wp2
            go_roundw
            case rel => exact ⟨k + 1, ⟨md, mt⟩, ⟨by omega, by omega⟩, by go_num, hk2, hB7, (R3.far (by simp only; omega) _).far (by simp only; omega) _, (F3.two0).two1, hn⟩
            case measure => simp [intOf]; omega
          · rw [if_neg h0] at Hnx
            have hn : Hid (R = (⟨0, 0⟩, mc)) := hch.out.trans Hnx
            have h0' : (mc != 0) = true := by simp [h0]
            clear Hok h0 Hnx
            go_wp2
            refine bodyPost_ret (v := .tuple #[.agg #[.int .i64 0, .int .i64 0], .int .i64 mc]) (by simp [results, Tryz.results139, go_sem, r0, r1]) rfl ⟨by rw [hn.out]; rfl, (by repeat (first | with_reducible exact hB3 | with_reducible apply below_drewN' | with_reducible apply Below.drew | (with_reducible refine Below.alloc ?_ (by first | omega | (simp; omega) | simp) _) | (with_reducible refine Below.setCell ?_ (by first | omega | (simp; omega) | simp) _) | exact hB3))⟩
        | true =>
          have Hnx := Hnx.out
          rw [hqd.out] at Hnx Hok
          simp only at Hnx Hok
          have Hnx := Lib.hid Hnx
          clear hqd hqm
          go_wp2_with fail
          have hA0 : AlT 65 wr true false (.pointer (some ⟨gn, 0, none⟩)) (.int .i64 dd) (.int .i64 dt) v := ⟨hB2, fun _ => ⟨gn, _, _, rfl, Nn, hgn, nofun⟩, nofun⟩
          clear hB2 Nn
          generalize v = v2 at *
          refine wp_region_all (fun a0 fL bA v => ∃ v38 v39 v40 v41 v42 v43 v44 v37 v45 v46 v7 : Value, bA = ((((((((((a0.put (some 38) v38).put (some 39) v39).put (some 40) v40).put (some 41) v41).put (some 42) v42).put (some 43) v43).put (some 44) v44).put (some 37) v37).put (some 45) v45).put (some 46) v46).put (some 7) v7 ∧ (AlT 65 wr true (fL 10) (.pointer (some ⟨gn, 0, none⟩)) (.int .i64 dd) (.int .i64 dt) v) ∧ (fL 0 = true → v38 = .agg #[.int .i64 fd, .int .i64 ft]) ∧ (fL 1 = true → v39 = .slice (some ⟨b, off, none⟩) l.length c) ∧ (fL 2 = true → v40 = .int .i64 k) ∧ (fL 3 = true → v41 = .pointer (some ⟨b, off + k * 3, none⟩)) ∧ (fL 4 = true → v42 = .pointer (some ⟨b, off + k * 3, none⟩)) ∧ (fL 5 = true → v43 = .agg #[.int .i64 td, .int .i64 tt]) ∧ (fL 6 = true → v44 = .tuple #[.agg #[.int .i64 dd, .int .i64 dt], .int .i64 dc]) ∧ (fL 7 = true → v37 = .tuple #[.agg #[.int .i64 dd, .int .i64 dt], .int .i64 dc]) ∧ (fL 8 = true → v45 = .agg #[.int .i64 dd, .int .i64 dt]) ∧ (fL 9 = true → v46 = .int .i64 dc) ∧ (fL 11 = true → v7 = .int .i64 dc)) (by kernel_rfl) (by decide +kernel) ?_ ?_ ?_
          · exact ⟨_, _, _, _, _, _, _, _, _, _, _, put_more (put_more (put_more (put_more (put_more (put_more (put_more (put_more (put_more (put_more (put_more (rfl) 38) 39) 40) 41) 42) 43) 44) 37) 45) 46) 7, ⟨hA0.hb.drew, hA0.blk, nofun⟩, nofun, nofun, nofun, nofun, nofun, nofun, nofun, nofun, nofun, nofun, nofun⟩
          · rintro fL bA v ⟨v38, v39, v40, v41, v42, v43, v44, v37, v45, v46, v7, rfl, hS, q0, q1, q2, q3, q4, q5, q6, q7, q8, q9, q11⟩ i hi hf o ho hall
            simp only [Act.put, List.setIfInBounds_toArray, List.set_cons_zero, List.set_cons_succ]
            simp only [List.length_cons, List.length_nil] at hi
            have hn : i = 0 ∨ i = 1 ∨ i = 2 ∨ i = 3 ∨ i = 4 ∨ i = 5 ∨ i = 6 ∨ i = 7 ∨ i = 8 ∨ i = 9 ∨ i = 10 ∨ i = 11 := by omega
            clear hi
            rcases hn with rfl | rfl | rfl | rfl | rfl | rfl | rfl | rfl | rfl | rfl | rfl | rfl
            · obtain rfl := Option.some.inj ho
              have E := Fr.below hS.hb Fr.lt
              have y0 : v.cell? ⟨g, 0, none⟩ = some (.int .i64 fd) := E.cell 0
              have y1 : v.cell? ⟨g, 1, none⟩ = some (.int .i64 ft) := E.cell 1
              clear hall ho
              refine wpOp_step rfl (fun K hK => ?_)
              go_simp
              exact hK _ _ ⟨_, _, _, _, _, _, _, _, _, _, _, rfl, hS, fun _ => rfl, q1, q2, q3, q4, q5, q6, q7, q8, q9, q11⟩
            · obtain rfl := Option.some.inj ho
              clear hall ho
              refine wpOp_step rfl (fun K hK => ?_)
              go_simp
              exact hK _ _ ⟨_, _, _, _, _, _, _, _, _, _, _, rfl, hS, q0, fun _ => rfl, q2, q3, q4, q5, q6, q7, q8, q9, q11⟩
            · obtain rfl := Option.some.inj ho
              clear hall ho
              refine wpOp_step rfl (fun K hK => ?_)
              go_simp
              exact hK _ _ ⟨_, _, _, _, _, _, _, _, _, _, _, rfl, hS, q0, q1, fun _ => rfl, q3, q4, q5, q6, q7, q8, q9, q11⟩
            · obtain rfl := Option.some.inj ho
              obtain rfl := q1 (hall ⟨1, .data⟩ (by simp) rfl)
              obtain rfl := q2 (hall ⟨2, .data⟩ (by simp) rfl)
              clear hall ho
              refine wpOp_step rfl (fun K hK => ?_)
              go_simp
              exact hK _ _ ⟨_, _, _, _, _, _, _, _, _, _, _, rfl, hS, q0, fun _ => rfl, fun _ => rfl, fun _ => rfl, q4, q5, q6, q7, q8, q9, q11⟩
            · obtain rfl := Option.some.inj ho
              obtain rfl := q3 (hall ⟨3, .data⟩ (by simp) rfl)
              clear hall ho
              refine wpOp_step rfl (fun K hK => ?_)
              go_simp
              exact hK _ _ ⟨_, _, _, _, _, _, _, _, _, _, _, rfl, hS, q0, q1, q2, fun _ => rfl, fun _ => rfl, q5, q6, q7, q8, q9, q11⟩
            · obtain rfl := Option.some.inj ho
              obtain rfl := q4 (hall ⟨4, .data⟩ (by simp) rfl)
              have y0 : v.cell? ⟨b, off + k * 3, none⟩ = some (.int .i64 td) := HCE.out v hS.hb 0 _ rfl
              have y1 : v.cell? ⟨b, off + k * 3 + 1, none⟩ = some (.int .i64 tt) := HCE.out v hS.hb 1 _ rfl
              clear hall ho
              refine wpOp_step rfl (fun K hK => ?_)
              go_simp
              exact hK _ _ ⟨_, _, _, _, _, _, _, _, _, _, _, rfl, hS, q0, q1, q2, q3, fun _ => rfl, fun _ => rfl, q6, q7, q8, q9, q11⟩
            · obtain rfl := Option.some.inj ho
              obtain rfl := q0 (hall ⟨0, .data⟩ (by simp) rfl)
              obtain rfl := q5 (hall ⟨5, .data⟩ (by simp) rfl)
              clear hall ho
              refine wpOp_step rfl (fun K hK => ?_)
              go_simp
              refine Calls.mono ((HV v).out) ?_; rintro e w1 ⟨rfl, hb1⟩
              go_simp
              exact hK _ _ ⟨_, _, _, _, _, _, _, _, _, _, _, rfl, hS.below hb1, fun _ => rfl, q1, q2, q3, q4, fun _ => rfl, fun _ => rfl, q7, q8, q9, q11⟩
            · obtain rfl := Option.some.inj ho
              obtain rfl := q6 (hall ⟨6, .data⟩ (by simp) rfl)
              clear hall ho
              refine wpOp_step rfl (fun K hK => ?_)
              go_simp
              exact hK _ _ ⟨_, _, _, _, _, _, _, _, _, _, _, rfl, hS, q0, q1, q2, q3, q4, q5, fun _ => rfl, fun _ => rfl, q8, q9, q11⟩
            · obtain rfl := Option.some.inj ho
              obtain rfl := q7 (hall ⟨7, .data⟩ (by simp) rfl)
              clear hall ho
              refine wpOp_step rfl (fun K hK => ?_)
              go_simp
              exact hK _ _ ⟨_, _, _, _, _, _, _, _, _, _, _, rfl, hS, q0, q1, q2, q3, q4, q5, q6, fun _ => rfl, fun _ => rfl, q9, q11⟩
            · obtain rfl := Option.some.inj ho
              obtain rfl := q7 (hall ⟨7, .data⟩ (by simp) rfl)
              clear hall ho
              refine wpOp_step rfl (fun K hK => ?_)
              go_simp
              exact hK _ _ ⟨_, _, _, _, _, _, _, _, _, _, _, rfl, hS, q0, q1, q2, q3, q4, q5, q6, fun _ => rfl, q8, fun _ => rfl, q11⟩
            · obtain rfl := Option.some.inj ho
              obtain rfl := q8 (hall ⟨8, .data⟩ (by simp) rfl)
              obtain ⟨gb, x0, x1, he, Bb, hgb, _⟩ := hS.blk rfl
              simp only [Value.pointer.injEq, Option.some.injEq, Addr.mk.injEq, and_true] at he
              subst he
              have y0 : v.cell? ⟨gn, 0, none⟩ = some x0 := Bb.cell 0
              have y1 : v.cell? ⟨gn, 1, none⟩ = some x1 := Bb.cell 1
              have yf0 := Bb.frozen 0
              have yf1 := Bb.frozen 1
              clear hall ho
              refine wpOp_step rfl (fun K hK => ?_)
              go_simp
              exact hK _ _ ⟨_, _, _, _, _, _, _, _, _, _, _, rfl, hS.set rfl Bb hgb, q0, q1, q2, q3, q4, q5, q6, q7, fun _ => rfl, q9, q11⟩
            · obtain rfl := Option.some.inj ho
              obtain rfl := q9 (hall ⟨9, .data⟩ (by simp) rfl)
              clear hall ho
              refine wpOp_step rfl (fun K hK => ?_)
              go_simp
              exact hK _ _ ⟨_, _, _, _, _, _, _, _, _, _, _, rfl, hS, q0, q1, q2, q3, q4, q5, q6, q7, q8, fun _ => rfl, fun _ => rfl⟩
          · rintro fL bA v ⟨v38, v39, v40, v41, v42, v43, v44, v37, v45, v46, v7, rfl, hS, q0, q1, q2, q3, q4, q5, q6, q7, q8, q9, q11⟩ hall
            simp only [Act.put, List.setIfInBounds_toArray, List.set_cons_zero, List.set_cons_succ]
            simp only [List.length_cons, List.length_nil] at hall
            obtain rfl := q0 (hall 0 (by omega))
            obtain rfl := q1 (hall 1 (by omega))
            obtain rfl := q2 (hall 2 (by omega))
            obtain rfl := q3 (hall 3 (by omega))
            obtain rfl := q4 (hall 4 (by omega))
            obtain rfl := q5 (hall 5 (by omega))
            obtain rfl := q6 (hall 6 (by omega))
            obtain rfl := q7 (hall 7 (by omega))
            obtain rfl := q8 (hall 8 (by omega))
            obtain rfl := q9 (hall 9 (by omega))
            obtain rfl := q11 (hall 11 (by omega))
            have e10 : fL 10 = true := hall 10 (by omega)
            clear hall
            obtain ⟨gb, x0, x1, he, Nn, _, hxy⟩ := hS.blk rfl
            simp only [Value.pointer.injEq, Option.some.injEq, Addr.mk.injEq, and_true] at he
            subst he
            obtain ⟨rfl, rfl⟩ := hxy e10
            have hB3 := hb.trans (hS.hb.mono hb.size)
            have F3 := Fr.below hS.hb Fr.lt
            have R3 := Rr.below hS.hb Rr.lt
            clear HV hS hxy hA0
            have z0 : v.cell? ⟨g, 0, none⟩ = some (.int .i64 fd) := F3.cell 0
            have z1 : v.cell? ⟨g, 1, none⟩ = some (.int .i64 ft) := F3.cell 1
            have zf0 := F3.frozen 0
            have zf1 := F3.frozen 1
            have n0 : v.cell? ⟨gn, 0, none⟩ = some (.int .i64 dd) := Nn.cell 0
            have n1 : v.cell? ⟨gn, 1, none⟩ = some (.int .i64 dt) := Nn.cell 1
            have r0 : v.cell? ⟨w.heap.size, 0, none⟩ = some (.int .i64 0) := R3.cell 0
            have r1 : v.cell? ⟨w.heap.size, 1, none⟩ = some (.int .i64 0) := R3.cell 1
            have rf0 := R3.frozen 0
            have rf1 := R3.frozen 1
            have zg := F3.lt
            have hB7 : Below w.heap.size w ((v.setCell ⟨g, 0, none⟩ (.int .i64 dd)).setCell ⟨g, 1, none⟩ (.int .i64 dt)) := (by repeat (first | with_reducible exact hB3 | with_reducible apply below_drewN' | with_reducible apply Below.drew | (with_reducible refine Below.alloc ?_ (by first | omega | (simp; omega) | simp) _) | (with_reducible refine Below.setCell ?_ (by first | omega | (simp; omega) | simp) _) | exact hB3))
            by_cases h0 : dc = 0
            · have Hnx := Hnx.out
              rw [if_pos h0] at Hnx
              have hn : Hid (R = chFig ⟨dd, dt⟩ (l.drop (k + 1))) := hch.out.trans Hnx
              have hk2 := Hok.out h0
              have h0' : (dc != 0) = false := by simp [h0]
              clear Hok h0 Hnx
              go_wp2
              go_roundw
              case rel => exact ⟨k + 1, ⟨dd, dt⟩, ⟨by omega, by omega⟩, by go_num, hk2, hB7, (R3.far (by simp only; omega) _).far (by simp only; omega) _, (F3.two0).two1, hn⟩
              case measure => simp [intOf]; omega
            · have Hnx := Hnx.out
              rw [if_neg h0] at Hnx
              have hn : Hid (R = (⟨0, 0⟩, dc)) := hch.out.trans Hnx
              have h0' : (dc != 0) = true := by simp [h0]
              clear Hok h0 Hnx
              go_wp2
              refine bodyPost_ret (v := .tuple #[.agg #[.int .i64 0, .int .i64 0], .int .i64 dc]) (by simp [results, Tryz.results139, go_sem, r0, r1]) rfl ⟨by rw [hn.out]; rfl, (by repeat (first | with_reducible exact hB3 | with_reducible apply below_drewN' | with_reducible apply Below.drew | (with_reducible refine Below.alloc ?_ (by first | omega | (simp; omega) | simp) _) | (with_reducible refine Below.setCell ?_ (by first | omega | (simp; omega) | simp) _) | exact hB3))⟩
    · have : k = l.length := by omega
      subst this
      have z0 : wr.cell? ⟨g, 0, none⟩ = some (.int .i64 fd) := Fr.cell 0
      have z1 : wr.cell? ⟨g, 1, none⟩ = some (.int .i64 ft) := Fr.cell 1
      have r0 : wr.cell? ⟨w.heap.size, 0, none⟩ = some (.int .i64 0) := Rr.cell 0
      have r1 : wr.cell? ⟨w.heap.size, 1, none⟩ = some (.int .i64 0) := Rr.cell 1
      have rf0 := Rr.frozen 0
      have rf1 := Rr.frozen 1
      have hn : Hid (R = (⟨fd, ft⟩, 0)) := hch.out.trans chFig_end
      have _rz := Rr.lt
      go_wp2
      refine bodyPost_ret (v := .tuple #[.agg #[.int .i64 fd, .int .i64 ft], .int .i64 0]) (by simp [results, Tryz.results139, go_sem, r0, r1]) rfl ⟨by rw [hn.out]; rfl, (by repeat (first | with_reducible exact hb | with_reducible apply below_drewN' | with_reducible apply Below.drew | (with_reducible refine Below.alloc ?_ (by first | omega | (simp; omega) | simp) _) | (with_reducible refine Below.setCell ?_ (by first | omega | (simp; omega) | simp) _) | exact hb))⟩
end Go.Proofs.YtgkobjpoeajkdaaGreat
namespace Go.Proofs.YtgkobjpoeajkdaaGreat
open Go.RowKit
def wOK (lo hi : Figure) (d : Int) (j : Nat) : Bool := leF lo ⟨d, (j : Int) - 30⟩ && leF ⟨d, (j : Int) - 30⟩ hi
/-- whether the digits lie within the span at some power of ten -/
def withinP (lo hi : Figure) (d : Int) : Bool := (List.range 61).any (wOK lo hi d)
theorem within_hit {lo hi : Figure} {d : Int} {j : Nat} (hj : j < 61) (h : wOK lo hi d j = true) : withinP lo hi d = true := List.any_eq_true.2 ⟨j, List.mem_range.2 hj, h⟩
theorem within_no {lo hi : Figure} {d : Int} (h : ∀ j, j < 61 → wOK lo hi d j = false) : withinP lo hi d = false := by
  unfold withinP
  rw [List.any_eq_false]
  intro j hj
  rw [h j (List.mem_range.1 hj)]
  simp
theorem wOK_lo {lo hi : Figure} {d : Int} {j : Nat} (h : (j : Int) - 30 < lo.tens) : wOK lo hi d j = false := by
  have : ¬ leF lo ⟨d, (j : Int) - 30⟩ = true := by
    rw [leF_iff]
    simp only
    omega
  unfold wOK
  rw [Bool.not_eq_true] at this
  rw [this]
  rfl
theorem wOK_hi {lo hi : Figure} {d : Int} {j : Nat} (h : hi.tens < (j : Int) - 30) : wOK lo hi d j = false := by
  have : ¬ leF ⟨d, (j : Int) - 30⟩ hi = true := by
    rw [leF_iff]
    simp only
    omega
  unfold wOK
  rw [Bool.not_eq_true] at this
  rw [this]
  simp
theorem spanC_ok {a b : Int} (h : spanC a b = 0) : figOK (spLoF a b) = true ∧ figOK (spHiF a b) = true := by
  unfold spLoF spHiF
  rw [if_pos h, if_pos h]
  unfold spanC at h
  split at h
  · split at h
    · rename_i h1
      rwa [Bool.and_eq_true] at h1
    · cases h
  · cases h
/-- what a valid exercise gives -/
theorem ex_parts {L : Int} {l1 l2 : List Int} {l : List Term} {p q r : Int} (h : exB L l1 l2 l p q r = true) : boundCode L l1 l2 l p q r = 0 ∧ exCode L l1 l2 l p q r = 0 ∧ figOK (exLoF L l1 l2 l p q r) = true ∧ figOK (exHiF L l1 l2 l p q r) = true ∧ spanC (spanLo L l p q r) (spanHi L l p q r) = 0 := by
  unfold exB at h
  have hc : exCode L l1 l2 l p q r = 0 := by simpa using h
  by_cases hb : boundCode L l1 l2 l p q r = 0
  · obtain ⟨x1, x2, x3⟩ := ex_ok hb
    have hs : spanC (spanLo L l p q r) (spanHi L l p q r) = 0 := by rw [← x3]; exact hc
    have := spanC_ok hs
    rw [x1, x2]
    exact ⟨hb, hc, this.1, this.2, hs⟩
  · rw [(ex_bad hb).2.2] at hc
    exact absurd hc hb
/-- what lies in the boxes -/
structure WiS (w0 : World) (L : Int) (A1 : Option Addr) (n1 c1 : Nat) (A2 : Option Addr) (n2 c2 : Nat) (p q r d t : Int) (v : World) : Prop where
  hb : Below w0.heap.size w0 v
  b4 : Blk v w0.heap.size 32 #[.int .i64 L, .slice A1 n1 c1, .slice A2 n2 c2]
  b6 : Blk v (w0.heap.size + 1) 34 #[.int .i64 p, .int .i64 q, .int .i64 r]
  b7 : Blk v (w0.heap.size + 1 + 1) 65 #[.int .i64 d, .int .i64 t]
section
variable {w0 v v' : World} {L : Int} {A1 : Option Addr} {n1 c1 : Nat} {A2 : Option Addr} {n2 c2 : Nat} {p q r d t : Int}
theorem WiS.below (h : WiS w0 L A1 n1 c1 A2 n2 c2 p q r d t v) (hb : Below v.heap.size v v') : WiS w0 L A1 n1 c1 A2 n2 c2 p q r d t v' :=
  ⟨h.hb.trans (hb.mono h.hb.size), h.b4.below hb h.b4.lt, h.b6.below hb h.b6.lt, h.b7.below hb h.b7.lt⟩
theorem WiS.init : WiS w0 L A1 n1 c1 A2 n2 c2 p q r d t (((w0.alloc (.cells #[.int .i64 L, .slice A1 n1 c1, .slice A2 n2 c2] 32)).alloc (.cells #[.int .i64 p, .int .i64 q, .int .i64 r] 34)).alloc (.cells #[.int .i64 d, .int .i64 t] 65)) :=
  ⟨(by repeat (first | with_reducible exact Below.refl _ _ | with_reducible apply below_drewN' | with_reducible apply Below.drew | (with_reducible refine Below.alloc ?_ (by first | omega | (simp; omega) | simp) _) | (with_reducible refine Below.setCell ?_ (by first | omega | (simp; omega) | simp) _) | exact Below.refl _ _)), ((Blk.new _ _ _).alloc _).alloc _, (Blk.new' _ _ _ (by simp)).alloc _, Blk.new' _ _ _ (by simp)⟩
end
set_option maxRecDepth 100000 in
set_option maxHeartbeats 2000000 in
theorem implIsWithin_c (L : Int) (A1 : Option Addr) (c1 : Nat) (l1 : List Int) (A2 : Option Addr) (c2 : Nat) (l2 : List Int) (A3 : Option Addr) (c3 : Nat) (l : List Term) (p q r : Int) (f : Figure) (w : World) (E : ExIn w A1 c1 l1 A2 c2 l2 A3 c3 l) (hx : exB L l1 l2 l p q r = true) (hf : figOK f = true) :
    Calls Tryz.prog 144 #[.agg #[.int .i64 L, .slice A1 l1.length c1, .slice A2 l2.length c2], .slice A3 l.length c3, .agg #[.int .i64 p, .int .i64 q, .int .i64 r], f.agg] w fun e w' =>
      e = .returned (.tuple #[.bool (withinP (exLoF L l1 l2 l p q r) (exHiF L l1 l2 l p q r) f.digits), .int .i64 0]) ∧ Below w.heap.size w w' := by
  obtain ⟨x1, x2, x3, x4, x5⟩ := ex_parts hx
  have hI := fun W => implIsFigure_c f W
  rw [hf] at hI
  have hP := fun (W : World) (hW : Below w.heap.size w W) => implPlanSpan_c L A1 c1 l1 A2 c2 l2 A3 c3 l p q r W (E.later hW)
  rw [x2] at hP
  clear hx x1 x2 x5 E
  generalize exLoF L l1 l2 l p q r = lo at *
  generalize exHiF L l1 l2 l p q r = hi at *
  have hfo := figOK_bd hf
  have hlo := figOK_bd x3
  have hhi := figOK_bd x4
  have HQ1 := fun (n : Int) W => compareFigures_c lo ⟨f.digits, n⟩ W
  have HQ2 := fun (n : Int) W => compareFigures_c ⟨f.digits, n⟩ hi W
  clear x3 x4 hf hfo
  obtain ⟨d, t⟩ := f
  obtain ⟨ld, lt⟩ := lo
  obtain ⟨hd, ht⟩ := hi
  unfold Figure.agg at hI HQ1 HQ2 ⊢
  simp only at hI hP hlo hhi HQ1 HQ2 ⊢
  have HI := fun W => Lib.hid (hI W)
  have HP := fun W hW => Lib.hid (hP W hW)
  have HQ1 := Lib.hid HQ1
  have HQ2 := Lib.hid HQ2
  clear hI hP
  obtain ⟨_, hlo3, hlo4⟩ := hlo
  obtain ⟨_, hhi3, hhi4⟩ := hhi
  have hS0 : WiS w L A1 l1.length c1 A2 l2.length c2 p q r d t _ := WiS.init
  go_enter Tryz.func144, Tryz.ntmps144
  go_wp2_with fail
  generalize (((w.alloc (.cells #[.int .i64 L, .slice A1 l1.length c1, .slice A2 l2.length c2] 32)).alloc (.cells #[.int .i64 p, .int .i64 q, .int .i64 r] 34)).alloc (.cells #[.int .i64 d, .int .i64 t] 65)) = W at *
  refine Calls.mono (HI _).out ?_; rintro e w1 ⟨rfl, hb1⟩
  have hS1 := hS0.below hb1
  clear hS0 hb1
  have y0 : w1.cell? ⟨w.heap.size, 0, none⟩ = some (.int .i64 L) := hS1.b4.cell 0
  have y1 : w1.cell? ⟨w.heap.size, 1, none⟩ = some (.slice A1 l1.length c1) := hS1.b4.cell 1
  have y2 : w1.cell? ⟨w.heap.size, 2, none⟩ = some (.slice A2 l2.length c2) := hS1.b4.cell 2
  have y3 : w1.cell? ⟨w.heap.size + 1, 0, none⟩ = some (.int .i64 p) := hS1.b6.cell 0
  have y4 : w1.cell? ⟨w.heap.size + 1, 1, none⟩ = some (.int .i64 q) := hS1.b6.cell 1
  have y5 : w1.cell? ⟨w.heap.size + 1, 2, none⟩ = some (.int .i64 r) := hS1.b6.cell 2
  go_wp2_with fail
  refine Calls.mono (HP _ hS1.hb).out ?_; rintro e w2 ⟨rfl, hb2⟩
  have hS2 := hS1.below hb2
  clear hS1 hb2 HI HP y0 y1 y2 y3 y4 y5
  have hbb : Below w2.heap.size w2 ((w2.alloc (.cells #[.int .i64 ld, .int .i64 lt] 65)).alloc (.cells #[.int .i64 hd, .int .i64 ht] 65)) := (by repeat (first | with_reducible exact Below.refl _ _ | with_reducible apply below_drewN' | with_reducible apply Below.drew | (with_reducible refine Below.alloc ?_ (by first | omega | (simp; omega) | simp) _) | (with_reducible refine Below.setCell ?_ (by first | omega | (simp; omega) | simp) _) | exact Below.refl _ _))
  have hS3 := hS2.below hbb
  have G0 := (Blk.new w2 65 #[.int .i64 ld, .int .i64 lt]).alloc (.cells #[.int .i64 hd, .int .i64 ht] 65)
  have H0 := Blk.new' (w2.alloc (.cells #[.int .i64 ld, .int .i64 lt] 65)) 65 #[.int .i64 hd, .int .i64 ht] (g := w2.heap.size + 1) (by simp)
  have z0 : ((w2.alloc (.cells #[.int .i64 ld, .int .i64 lt] 65)).alloc (.cells #[.int .i64 hd, .int .i64 ht] 65)).cell? ⟨w2.heap.size, 1, none⟩ = some (.int .i64 lt) := G0.cell 1
  go_wp2_with fail
  generalize ((w2.alloc (.cells #[.int .i64 ld, .int .i64 lt] 65)).alloc (.cells #[.int .i64 hd, .int .i64 ht] 65)) = w3 at *
  generalize w2.heap.size = g at *
  clear hS2 hbb
  clear z0
  go_loopw [13] (fun i wr => ∃ k : Nat, k ≤ 61 ∧ i = .int .i64 ((k : Int) - 30) ∧ Below w3.heap.size w3 wr ∧ Hid (∀ j, j < k → wOK ⟨ld, lt⟩ ⟨hd, ht⟩ d j = false)) (fun i _ => (31 - intOf i).toNat)
  case atStart =>
    refine ⟨(lt + 30).toNat, by omega, congrArg (Value.int .i64) (by omega), Below.refl _ _, fun j hj => wOK_lo (by simp only; omega)⟩
  case round =>
    obtain ⟨k, hk, rfl, hb, hno⟩ := hrel
    have hSr := hS3.below hb
    have Gr := G0.below hb G0.lt
    have Hr := H0.below hb H0.lt
    have hbv := hSr.hb
    have hS3' := hS3
    clear hS3 G0 H0
    have hn0 : -30 ≤ (k : Int) - 30 := by omega
    obtain ⟨n, hn⟩ : ∃ n : Int, n = (k : Int) - 30 := ⟨_, rfl⟩
    have hit := Lib.hid (@within_hit ⟨ld, lt⟩ ⟨hd, ht⟩ d k)
    have hnx : wOK ⟨ld, lt⟩ ⟨hd, ht⟩ d k = false → Hid (∀ j, j < k + 1 → wOK ⟨ld, lt⟩ ⟨hd, ht⟩ d j = false) := fun h j hj => by
      by_cases hjk : j < k
      · exact hno.out j hjk
      · obtain rfl : j = k := by omega
        exact h
    have hnx := Lib.hid hnx
    have hwk : Hid (wOK ⟨ld, lt⟩ ⟨hd, ht⟩ d k = (decide (cmpF ⟨ld, lt⟩ ⟨d, n⟩ ≤ 0) && decide (cmpF ⟨d, n⟩ ⟨hd, ht⟩ ≤ 0))) := by rw [hn]; rfl
    have hnk : Hid ((k : Int) = n + 30) := by unfold Hid; omega
    rw [← hn] at hn0 ⊢
    have hk1 : n ≤ 31 := by omega
    clear hn
    have zt : wr.cell? ⟨g + 1, 1, none⟩ = some (.int .i64 ht) := Hr.cell 1
    by_cases hlt : n ≤ ht
    · have h61 : Hid (k < 61) := by unfold Hid; have := hnk.out; omega
      have HQ1 := fun W => Lib.hid (HQ1.out n W)
      have HQ2 := fun W => Lib.hid (HQ2.out n W)
      generalize cmpF ⟨ld, lt⟩ ⟨d, n⟩ = x at *
      generalize cmpF ⟨d, n⟩ ⟨hd, ht⟩ = y at *
      have zd : wr.cell? ⟨w.heap.size + 1 + 1, 0, none⟩ = some (.int .i64 d) := hSr.b7.cell 0
      have hba : Below wr.heap.size wr (wr.alloc (.cells #[.int .i64 d, .int .i64 n] 65)) := (by repeat (first | with_reducible exact Below.refl _ _ | with_reducible apply below_drewN' | with_reducible apply Below.drew | (with_reducible refine Below.alloc ?_ (by first | omega | (simp; omega) | simp) _) | (with_reducible refine Below.setCell ?_ (by first | omega | (simp; omega) | simp) _) | exact Below.refl _ _))
      have hb3 := hb.trans (hba.mono hb.size)
      have Ga := Gr.alloc (.cells #[.int .i64 d, .int .i64 n] 65)
      have Ha := Hr.alloc (.cells #[.int .i64 d, .int .i64 n] 65)
      have Fa := Blk.new wr 65 #[.int .i64 d, .int .i64 n]
      have ga0 : (wr.alloc (.cells #[.int .i64 d, .int .i64 n] 65)).cell? ⟨g, 0, none⟩ = some (.int .i64 ld) := Ga.cell 0
      have ga1 : (wr.alloc (.cells #[.int .i64 d, .int .i64 n] 65)).cell? ⟨g, 1, none⟩ = some (.int .i64 lt) := Ga.cell 1
      have fa0 : (wr.alloc (.cells #[.int .i64 d, .int .i64 n] 65)).cell? ⟨wr.heap.size, 0, none⟩ = some (.int .i64 d) := Fa.cell 0
      have fa1 : (wr.alloc (.cells #[.int .i64 d, .int .i64 n] 65)).cell? ⟨wr.heap.size, 1, none⟩ = some (.int .i64 n) := Fa.cell 1
      clear Gr Hr
      go_wp2_with fail
      generalize wr.alloc (.cells #[.int .i64 d, .int .i64 n] 65) = wa at *
      refine Calls.mono (HQ1 _).out ?_; rintro e w5 ⟨rfl, hb5⟩
      have hb6 := hb3.trans (hb5.mono hb3.size)
      have hbv5 := (hS3'.below hb6).hb
      have H5 := Ha.below hb5 Ha.lt
      have F5 := Fa.below hb5 Fa.lt
      have h50 : w5.cell? ⟨g + 1, 0, none⟩ = some (.int .i64 hd) := H5.cell 0
      have h51 : w5.cell? ⟨g + 1, 1, none⟩ = some (.int .i64 ht) := H5.cell 1
      have f50 : w5.cell? ⟨wr.heap.size, 0, none⟩ = some (.int .i64 d) := F5.cell 0
      have f51 : w5.cell? ⟨wr.heap.size, 1, none⟩ = some (.int .i64 n) := F5.cell 1
      clear ga0 ga1 fa0 fa1 Ga Ha Fa hb3 hb5 zt zd hba
      by_cases hx : x ≤ 0
      · by_cases hy : y ≤ 0
        · have hw : Hid (withinP ⟨ld, lt⟩ ⟨hd, ht⟩ d = true) := hit.out h61.out (by rw [hwk.out, decide_eq_true hx, decide_eq_true hy]; rfl)
          go_wp2_with (go_at_call 163; refine Calls.mono (HQ2 _).out ?_; rintro e w7 ⟨rfl, hb7⟩; have hb8 := hbv5.trans (hb7.mono hbv5.size))
          refine bodyPost_ret (v := .tuple #[.bool true, .int .i64 0]) (by simp [results, Tryz.results144, go_sem]) rfl ⟨by rw [hw.out], (by repeat (first | with_reducible exact hb8 | with_reducible apply below_drewN' | with_reducible apply Below.drew | (with_reducible refine Below.alloc ?_ (by first | omega | (simp; omega) | simp) _) | (with_reducible refine Below.setCell ?_ (by first | omega | (simp; omega) | simp) _) | exact hb8))⟩
        · have hw := hnx.out (by rw [hwk.out, decide_eq_false hy]; simp)
          go_wp2_with (go_at_call 163; refine Calls.mono (HQ2 _).out ?_; rintro e w7 ⟨rfl, hb7⟩; have hb8 := hb6.trans (hb7.mono hb6.size))
          go_roundw
          case rel => exact ⟨k + 1, by have := h61.out; omega, congrArg (Value.int .i64) (by have := hnk.out; omega), (by repeat (first | with_reducible exact hb8 | with_reducible apply below_drewN' | with_reducible apply Below.drew | (with_reducible refine Below.alloc ?_ (by first | omega | (simp; omega) | simp) _) | (with_reducible refine Below.setCell ?_ (by first | omega | (simp; omega) | simp) _) | exact hb8)), hw⟩
          case measure => simp [intOf]; omega
      · have hw := hnx.out (by rw [hwk.out, decide_eq_false hx]; rfl)
        go_wp2
        go_roundw
        case rel => exact ⟨k + 1, by have := h61.out; omega, congrArg (Value.int .i64) (by have := hnk.out; omega), (by repeat (first | with_reducible exact hb6 | with_reducible apply below_drewN' | with_reducible apply Below.drew | (with_reducible refine Below.alloc ?_ (by first | omega | (simp; omega) | simp) _) | (with_reducible refine Below.setCell ?_ (by first | omega | (simp; omega) | simp) _) | exact hb6)), hw⟩
        case measure => simp [intOf]; omega
    · have hw : Hid (withinP ⟨ld, lt⟩ ⟨hd, ht⟩ d = false) := within_no fun j hj => by
        by_cases hjk : j < k
        · exact hno.out j hjk
        · have := hnk.out
          exact wOK_hi (by simp only; omega)
      go_wp2
      refine bodyPost_ret (v := .tuple #[.bool false, .int .i64 0]) (by simp [results, Tryz.results144, go_sem]) rfl ⟨by rw [hw.out], (by repeat (first | with_reducible exact hbv | with_reducible apply below_drewN' | with_reducible apply Below.drew | (with_reducible refine Below.alloc ?_ (by first | omega | (simp; omega) | simp) _) | (with_reducible refine Below.setCell ?_ (by first | omega | (simp; omega) | simp) _) | exact hbv))⟩
set_option maxRecDepth 100000 in
set_option maxHeartbeats 2000000 in
theorem specIsWithin_c (L : Int) (A1 : Option Addr) (c1 : Nat) (l1 : List Int) (A2 : Option Addr) (c2 : Nat) (l2 : List Int) (A3 : Option Addr) (c3 : Nat) (l : List Term) (p q r : Int) (f : Figure) (w : World) (E : ExIn w A1 c1 l1 A2 c2 l2 A3 c3 l) (hx : exB L l1 l2 l p q r = true) (hf : figOK f = true) :
    Calls Tryz.prog 140 #[.agg #[.int .i64 L, .slice A1 l1.length c1, .slice A2 l2.length c2], .slice A3 l.length c3, .agg #[.int .i64 p, .int .i64 q, .int .i64 r], f.agg] w fun e w' =>
      e = .returned (.tuple #[.bool (withinP (exLoF L l1 l2 l p q r) (exHiF L l1 l2 l p q r) f.digits), .int .i64 0]) ∧ Below w.heap.size w w' := by
  obtain ⟨x1, x2, x3, x4, x5⟩ := ex_parts hx
  have hI := fun W => specIsFigure_c f W
  rw [hf] at hI
  have hC := fun (W : World) (hW : Below w.heap.size w W) => l15Code_c L A1 c1 l1 A2 c2 l2 A3 c3 l p q r W E.h1 E.h2 E.h3 E.k1 E.k2 (E.later hW).s1 (E.later hW).s2 (E.later hW).s3
  rw [x1] at hC
  have HC := fun W hW => Lib.hid (hC W hW)
  clear hC
  obtain ⟨b1, b2, b3, b4, b5⟩ := bound_parts x1
  have hL := ruleB_len b1
  have hP := fun (W : World) (hW : Below w.heap.size w W) => l15Span_c L A1 c1 l1 A2 c2 l2 A3 c3 l p q r W ((E.later hW).rule b3 b4) b2 E.k3 (E.later hW).s3 hL b5
  rw [spanR_form, x5] at hP
  obtain ⟨y1, y2, y3⟩ := ex_ok x1
  rw [← y1, ← y2] at hP
  clear b1 b2 b3 b4 b5 hL y1 y2 y3
  clear hx x1 x2 x5 E
  generalize exLoF L l1 l2 l p q r = lo at *
  generalize exHiF L l1 l2 l p q r = hi at *
  have hfo := figOK_bd hf
  have hlo := figOK_bd x3
  have hhi := figOK_bd x4
  have HQ1 := fun (n : Int) (hn : -30 ≤ n ∧ n ≤ 30) W => l02Compare_c lo ⟨f.digits, n⟩ W x3 (by unfold figOK; rw [Bool.and_eq_true, inB_true, inB_true]; exact ⟨hfo.1, hn⟩)
  have HQ2 := fun (n : Int) (hn : -30 ≤ n ∧ n ≤ 30) W => l02Compare_c ⟨f.digits, n⟩ hi W (by unfold figOK; rw [Bool.and_eq_true, inB_true, inB_true]; exact ⟨hfo.1, hn⟩) x4
  clear x3 x4 hf hfo
  obtain ⟨d, t⟩ := f
  obtain ⟨ld, lt⟩ := lo
  obtain ⟨hd, ht⟩ := hi
  unfold Figure.agg at hI HQ1 HQ2 ⊢
  simp only at hI hP hlo hhi HQ1 HQ2 ⊢
  have HI := fun W => Lib.hid (hI W)
  have HP := fun W hW => Lib.hid (hP W hW)
  have HQ1 := Lib.hid HQ1
  have HQ2 := Lib.hid HQ2
  clear hI hP
  obtain ⟨_, hlo3, hlo4⟩ := hlo
  obtain ⟨_, hhi3, hhi4⟩ := hhi
  have hS0 : WiS w L A1 l1.length c1 A2 l2.length c2 p q r d t _ := WiS.init
  go_enter Tryz.func140, Tryz.ntmps140
  go_wp2_with fail
  generalize (((w.alloc (.cells #[.int .i64 L, .slice A1 l1.length c1, .slice A2 l2.length c2] 32)).alloc (.cells #[.int .i64 p, .int .i64 q, .int .i64 r] 34)).alloc (.cells #[.int .i64 d, .int .i64 t] 65)) = W at *
  refine Calls.mono (HC _ hS0.hb).out ?_; rintro e w0 ⟨rfl, hb0⟩
  have hS0 := hS0.below hb0
  have y6 : w0.cell? ⟨w.heap.size + 1 + 1, 0, none⟩ = some (.int .i64 d) := hS0.b7.cell 0
  have y7 : w0.cell? ⟨w.heap.size + 1 + 1, 1, none⟩ = some (.int .i64 t) := hS0.b7.cell 1
  clear hb0
  go_wp2_with fail
  clear y6 y7
  refine Calls.mono (HI _).out ?_; rintro e w1 ⟨rfl, hb1⟩
  have hS1 := hS0.below hb1
  clear hS0 hb1
  have y0 : w1.cell? ⟨w.heap.size, 0, none⟩ = some (.int .i64 L) := hS1.b4.cell 0
  have y1 : w1.cell? ⟨w.heap.size, 1, none⟩ = some (.slice A1 l1.length c1) := hS1.b4.cell 1
  have y2 : w1.cell? ⟨w.heap.size, 2, none⟩ = some (.slice A2 l2.length c2) := hS1.b4.cell 2
  have y3 : w1.cell? ⟨w.heap.size + 1, 0, none⟩ = some (.int .i64 p) := hS1.b6.cell 0
  have y4 : w1.cell? ⟨w.heap.size + 1, 1, none⟩ = some (.int .i64 q) := hS1.b6.cell 1
  have y5 : w1.cell? ⟨w.heap.size + 1, 2, none⟩ = some (.int .i64 r) := hS1.b6.cell 2
  go_wp2_with fail
  refine Calls.mono (HP _ hS1.hb).out ?_; rintro e w2 ⟨rfl, hb2⟩
  have hS2 := hS1.below hb2
  clear hS1 hb2 HI HP y0 y1 y2 y3 y4 y5
  have hbb : Below w2.heap.size w2 ((w2.alloc (.cells #[.int .i64 ld, .int .i64 lt] 65)).alloc (.cells #[.int .i64 hd, .int .i64 ht] 65)) := (by repeat (first | with_reducible exact Below.refl _ _ | with_reducible apply below_drewN' | with_reducible apply Below.drew | (with_reducible refine Below.alloc ?_ (by first | omega | (simp; omega) | simp) _) | (with_reducible refine Below.setCell ?_ (by first | omega | (simp; omega) | simp) _) | exact Below.refl _ _))
  have hS3 := hS2.below hbb
  have G0 := (Blk.new w2 65 #[.int .i64 ld, .int .i64 lt]).alloc (.cells #[.int .i64 hd, .int .i64 ht] 65)
  have H0 := Blk.new' (w2.alloc (.cells #[.int .i64 ld, .int .i64 lt] 65)) 65 #[.int .i64 hd, .int .i64 ht] (g := w2.heap.size + 1) (by simp)
  go_wp2_with fail
  generalize ((w2.alloc (.cells #[.int .i64 ld, .int .i64 lt] 65)).alloc (.cells #[.int .i64 hd, .int .i64 ht] 65)) = w3 at *
  generalize w2.heap.size = g at *
  clear hS2 hbb
  go_loopw [14] (fun i wr => ∃ k : Nat, k ≤ 61 ∧ i = .int .i64 ((k : Int) - 30) ∧ Below w3.heap.size w3 wr ∧ Hid (∀ j, j < k → wOK ⟨ld, lt⟩ ⟨hd, ht⟩ d j = false)) (fun i _ => (31 - intOf i).toNat)
  case atStart =>
    refine ⟨0, by omega, rfl, Below.refl _ _, fun j hj => by omega⟩
  case round =>
    obtain ⟨k, hk, rfl, hb, hno⟩ := hrel
    have hSr := hS3.below hb
    have Gr := G0.below hb G0.lt
    have Hr := H0.below hb H0.lt
    have hbv := hSr.hb
    have hS3' := hS3
    clear hS3 G0 H0
    have hn0 : -30 ≤ (k : Int) - 30 := by omega
    obtain ⟨n, hn⟩ : ∃ n : Int, n = (k : Int) - 30 := ⟨_, rfl⟩
    have hit := Lib.hid (@within_hit ⟨ld, lt⟩ ⟨hd, ht⟩ d k)
    have hnx : wOK ⟨ld, lt⟩ ⟨hd, ht⟩ d k = false → Hid (∀ j, j < k + 1 → wOK ⟨ld, lt⟩ ⟨hd, ht⟩ d j = false) := fun h j hj => by
      by_cases hjk : j < k
      · exact hno.out j hjk
      · obtain rfl : j = k := by omega
        exact h
    have hnx := Lib.hid hnx
    have hwk : Hid (wOK ⟨ld, lt⟩ ⟨hd, ht⟩ d k = (decide (cmpF ⟨ld, lt⟩ ⟨d, n⟩ ≤ 0) && decide (cmpF ⟨d, n⟩ ⟨hd, ht⟩ ≤ 0))) := by rw [hn]; rfl
    have hnk : Hid ((k : Int) = n + 30) := by unfold Hid; omega
    rw [← hn] at hn0 ⊢
    have hk1 : n ≤ 31 := by omega
    clear hn
    have zt : wr.cell? ⟨g + 1, 1, none⟩ = some (.int .i64 ht) := Hr.cell 1
    by_cases hlt : n ≤ 30
    · have h61 : Hid (k < 61) := by unfold Hid; have := hnk.out; omega
      have HQ1 := fun W => Lib.hid (HQ1.out n ⟨hn0, hlt⟩ W)
      have HQ2 := fun W => Lib.hid (HQ2.out n ⟨hn0, hlt⟩ W)
      generalize cmpF ⟨ld, lt⟩ ⟨d, n⟩ = x at *
      generalize cmpF ⟨d, n⟩ ⟨hd, ht⟩ = y at *
      have zd : wr.cell? ⟨w.heap.size + 1 + 1, 0, none⟩ = some (.int .i64 d) := hSr.b7.cell 0
      have hba : Below wr.heap.size wr (wr.alloc (.cells #[.int .i64 d, .int .i64 n] 65)) := (by repeat (first | with_reducible exact Below.refl _ _ | with_reducible apply below_drewN' | with_reducible apply Below.drew | (with_reducible refine Below.alloc ?_ (by first | omega | (simp; omega) | simp) _) | (with_reducible refine Below.setCell ?_ (by first | omega | (simp; omega) | simp) _) | exact Below.refl _ _))
      have hb3 := hb.trans (hba.mono hb.size)
      have Ga := Gr.alloc (.cells #[.int .i64 d, .int .i64 n] 65)
      have Ha := Hr.alloc (.cells #[.int .i64 d, .int .i64 n] 65)
      have Fa := Blk.new wr 65 #[.int .i64 d, .int .i64 n]
      have ga0 : (wr.alloc (.cells #[.int .i64 d, .int .i64 n] 65)).cell? ⟨g, 0, none⟩ = some (.int .i64 ld) := Ga.cell 0
      have ga1 : (wr.alloc (.cells #[.int .i64 d, .int .i64 n] 65)).cell? ⟨g, 1, none⟩ = some (.int .i64 lt) := Ga.cell 1
      have fa0 : (wr.alloc (.cells #[.int .i64 d, .int .i64 n] 65)).cell? ⟨wr.heap.size, 0, none⟩ = some (.int .i64 d) := Fa.cell 0
      have fa1 : (wr.alloc (.cells #[.int .i64 d, .int .i64 n] 65)).cell? ⟨wr.heap.size, 1, none⟩ = some (.int .i64 n) := Fa.cell 1
      clear Gr Hr
      go_wp2_with fail
      generalize wr.alloc (.cells #[.int .i64 d, .int .i64 n] 65) = wa at *
      refine Calls.mono (HQ1 _).out ?_; rintro e w5 ⟨rfl, hb5⟩
      have hb6 := hb3.trans (hb5.mono hb3.size)
      have hbv5 := (hS3'.below hb6).hb
      have H5 := Ha.below hb5 Ha.lt
      have F5 := Fa.below hb5 Fa.lt
      have h50 : w5.cell? ⟨g + 1, 0, none⟩ = some (.int .i64 hd) := H5.cell 0
      have h51 : w5.cell? ⟨g + 1, 1, none⟩ = some (.int .i64 ht) := H5.cell 1
      have f50 : w5.cell? ⟨wr.heap.size, 0, none⟩ = some (.int .i64 d) := F5.cell 0
      have f51 : w5.cell? ⟨wr.heap.size, 1, none⟩ = some (.int .i64 n) := F5.cell 1
      clear ga0 ga1 fa0 fa1 Ga Ha Fa hb3 hb5 zt zd hba
      by_cases hx : x ≤ 0
      · by_cases hy : y ≤ 0
        · have hw : Hid (withinP ⟨ld, lt⟩ ⟨hd, ht⟩ d = true) := hit.out h61.out (by rw [hwk.out, decide_eq_true hx, decide_eq_true hy]; rfl)
          go_wp2_with (go_at_call 141; refine Calls.mono (HQ2 _).out ?_; rintro e w7 ⟨rfl, hb7⟩; have hb8 := hbv5.trans (hb7.mono hbv5.size))
          refine bodyPost_ret (v := .tuple #[.bool true, .int .i64 0]) (by simp [results, Tryz.results140, go_sem]) rfl ⟨by rw [hw.out], (by repeat (first | with_reducible exact hb8 | with_reducible apply below_drewN' | with_reducible apply Below.drew | (with_reducible refine Below.alloc ?_ (by first | omega | (simp; omega) | simp) _) | (with_reducible refine Below.setCell ?_ (by first | omega | (simp; omega) | simp) _) | exact hb8))⟩
        · have hw := hnx.out (by rw [hwk.out, decide_eq_false hy]; simp)
          go_wp2_with (go_at_call 141; refine Calls.mono (HQ2 _).out ?_; rintro e w7 ⟨rfl, hb7⟩; have hb8 := hb6.trans (hb7.mono hb6.size))
          go_roundw
          case rel => exact ⟨k + 1, by have := h61.out; omega, congrArg (Value.int .i64) (by have := hnk.out; omega), (by repeat (first | with_reducible exact hb8 | with_reducible apply below_drewN' | with_reducible apply Below.drew | (with_reducible refine Below.alloc ?_ (by first | omega | (simp; omega) | simp) _) | (with_reducible refine Below.setCell ?_ (by first | omega | (simp; omega) | simp) _) | exact hb8)), hw⟩
          case measure => simp [intOf]; omega
      · have hw := hnx.out (by rw [hwk.out, decide_eq_false hx]; rfl)
        go_wp2
        go_roundw
        case rel => exact ⟨k + 1, by have := h61.out; omega, congrArg (Value.int .i64) (by have := hnk.out; omega), (by repeat (first | with_reducible exact hb6 | with_reducible apply below_drewN' | with_reducible apply Below.drew | (with_reducible refine Below.alloc ?_ (by first | omega | (simp; omega) | simp) _) | (with_reducible refine Below.setCell ?_ (by first | omega | (simp; omega) | simp) _) | exact hb6)), hw⟩
        case measure => simp [intOf]; omega
    · have hw : Hid (withinP ⟨ld, lt⟩ ⟨hd, ht⟩ d = false) := within_no fun j hj => by
        by_cases hjk : j < k
        · exact hno.out j hjk
        · have := hnk.out
          omega
      go_wp2
      refine bodyPost_ret (v := .tuple #[.bool false, .int .i64 0]) (by simp [results, Tryz.results140, go_sem]) rfl ⟨by rw [hw.out], (by repeat (first | with_reducible exact hbv | with_reducible apply below_drewN' | with_reducible apply Below.drew | (with_reducible refine Below.alloc ?_ (by first | omega | (simp; omega) | simp) _) | (with_reducible refine Below.setCell ?_ (by first | omega | (simp; omega) | simp) _) | exact hbv))⟩
end Go.Proofs.YtgkobjpoeajkdaaGreat
