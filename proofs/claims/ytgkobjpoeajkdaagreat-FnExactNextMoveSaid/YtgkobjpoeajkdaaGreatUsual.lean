/- The usual plan of a chain: the program's. Conditions: the rule has ScaleC on both parts; the chain is valid. -/
import Derived.Test.YtgkobjpoeajkdaaGreatPlanner4
import Derived.Lib.SliceRun
namespace Go.Proofs.YtgkobjpoeajkdaaGreat
open Go.RowKit
theorem run_slice_at {P : Program} (W : World) (t e : TypeId) (k : Nat) (ht : P.underlying t = some (.slice e)) (hz : ∀ w, (Go.sizeOf e).run P w = .ok k w) (A : Option Addr) (n cap lo : Nat) (h1 : lo ≤ n) (_ : n ≤ cap) (hA : ∃ b off, A = some ⟨b, off, none⟩) :
    (Instr.slice t (.slice A n cap) (some (.int .i64 (lo : Int))) none none).run P W = .ok (.slice (if cap = lo then A else A.map (·.add (lo * k))) (n - lo) (cap - lo)) W := by
  obtain ⟨b, off, rfl⟩ := hA
  have ht' : P.underlying t = some (.slice (P.elem t)) := by simp [Program.elem, ht]
  have he : P.elem t = e := by simp [Program.elem, ht]
  rw [run_slice_l W t _ _ _ ht' .i64 _ (by omega) (by omega), he, hz]
  by_cases h0 : cap = lo
  · simp [Result.andThen, sliced, h0]
  · simp [Result.andThen, sliced, h0]
theorem term_c {w0 : World} {A1 : Option Addr} {l1 : List Int} {A2 : Option Addr} {l2 : List Int} (R : RuleIn w0 A1 l1 A2 l2) (L : Int) (c1 c2 : Nat) (g : Nat) (p : PS) (mv : Value) (t : Term) (w : World)
    (P : PlAt w0 g L A1 l1.length c1 A2 l2.length c2 p mv w) (hg : w0.heap.size ≤ g) (hp : okP p) (ht : termOK t = true) (hr : p.ms.length ≤ 900) :
    Calls Tryz.prog 124 #[.pointer (some ⟨g, 0, none⟩), .agg #[.int .i64 t.digits, .int .i64 t.tens, .bool t.div]] w fun e w' => e = .returned (.tuple #[]) ∧ ∃ mv', PlAt w0 g L A1 l1.length c1 A2 l2.length c2 (termP p t) mv' w' ∧ Spare w w' g mv mv' := by
  obtain ⟨d, te, di⟩ := t
  obtain ⟨sh, cu, ms, en⟩ := p
  cases di with
  | true => exact termDiv_c R L c1 c2 g _ mv d te w P hg hp ht hr
  | false =>
    cases en with
    | false => exact termRest1_c R L c1 c2 g sh cu ms mv d te w P hg hp ht hr
    | true =>
      cases hf : fitsB sh d with
      | true => exact termFit_c R L c1 c2 g sh cu ms mv d te w P hg hp ht hr hf
      | false => exact termRest2_c R L c1 c2 g sh cu ms mv d te w P hg hp ht hr hf
/-- a plan's result: a new list of moves, and the setting -/
def PlanPost (ms : List Move) (sh cu : Int) (w : World) (e : Ending) (w' : World) : Prop :=
  ∃ A' c', e = .returned (.tuple #[.slice A' ms.length c', .agg #[.int .i64 sh, .int .i64 cu]]) ∧ Own w' w.heap.size 72 4 (.slice A' ms.length c') (ms.map Move.cells) ∧ Below w.heap.size w w'
set_option maxRecDepth 100000 in
set_option maxHeartbeats 2000000 in
theorem usualPlan_c (L : Int) (A1 : Option Addr) (c1 : Nat) (l1 : List Int) (A2 : Option Addr) (c2 : Nat) (l2 : List Int) (A3 : Option Addr) (c3 : Nat) (l : List Term) (w : World) (R : RuleIn w A1 l1 A2 l2)
    (h0 : 0 < l.length) (h6 : l.length ≤ 6) (hc3 : l.length ≤ c3) (hall : l.all termOK = true) (hs : Sl w w.heap.size 3 A3 (l.map Term.cells)) :
    Calls Tryz.prog 69 #[.agg #[.int .i64 L, .slice A1 l1.length c1, .slice A2 l2.length c2], .slice A3 l.length c3] w (PlanPost (usualP l).ms (usualP l).sh (usualP l).cu w) := by
  have Heq := Lib.hid (usualP_eq h0)
  have Hfold := Lib.hid (fun k (h1 : 1 ≤ k) (hk : k ≤ l.length) => okP_fold hall h1 hk)
  have Hall := Lib.hid (fun k (hk : k < l.length) => List.all_eq_true.1 hall l[k] (List.getElem_mem hk))
  have hfb := (term_bd (Hall.out 0 h0)).1
  obtain ⟨b, off, hA, hbB, hc⟩ := hs.at_ (i := 0) (by simpa using h0)
  simp only [List.getElem_map] at hc
  have c0 : w.cell? ⟨b, off, none⟩ = some (.int .i64 l[0].digits) := by have := hc 0 _ rfl; simpa using this
  have c1' : w.cell? ⟨b, off + 1, none⟩ = some (.int .i64 l[0].tens) := by have := hc 1 _ rfl; simpa using this
  clear hc hall
  have hrun : ∀ W, (Instr.slice 33 (.slice A3 l.length c3) (some (.int .i64 1)) none none).run Tryz.prog W = .ok (.slice (if c3 = 1 then A3 else A3.map (·.add (1 * 3))) (l.length - 1) (c3 - 1)) W := fun W => run_slice_at (P := Tryz.prog) W 33 118 3 Tryz.underlying33 (fun _ => by kernel_rfl) A3 l.length c3 1 (by omega) hc3 ⟨b, off, hA⟩
  have hdr := hs.drop (m := 1) (cap := c3) (by simp; omega) (by simp; omega)
  obtain ⟨AD, hAD⟩ : ∃ AD, AD = (if c3 = 1 then A3 else A3.map (·.add (1 * 3))) := ⟨_, rfl⟩
  rw [← hAD] at hdr
  simp only [← hAD] at hrun
  clear hAD
  subst hA
  have HDR := Lib.hid hdr
  clear hdr hs
  have h0I : (0 : Int) < (l.length : Int) := by omega
  have hd0 : (l[0]).digits = l[0].digits := rfl
  have P0 : PlAt w (w.heap.size + 1 + 1) L A1 l1.length c1 A2 l2.length c2 ⟨0, 0, [], false⟩ (.slice none 0 0) (((w.alloc (.cells #[.int .i64 L, .slice A1 l1.length c1, .slice A2 l2.length c2] 32)).alloc (.cells #[.int .i64 0, .int .i64 0] 110)).alloc (.cells #[.int .i64 L, .slice A1 l1.length c1, .slice A2 l2.length c2, .int .i64 0, .int .i64 0, .slice none 0 0, .bool false] 162)) :=
    ⟨(by repeat (first | with_reducible exact Below.refl _ _ | with_reducible apply below_drewN' | with_reducible apply Below.drew | (with_reducible refine Below.alloc ?_ (by first | omega | (simp; omega) | simp) _) | (with_reducible refine Below.setCell ?_ (by first | omega | (simp; omega) | simp) _) | exact Below.refl _ _)), Blk.new' _ _ _ (by simp), Own.nil_⟩
  have B50 : Blk (((w.alloc (.cells #[.int .i64 L, .slice A1 l1.length c1, .slice A2 l2.length c2] 32)).alloc (.cells #[.int .i64 0, .int .i64 0] 110)).alloc (.cells #[.int .i64 L, .slice A1 l1.length c1, .slice A2 l2.length c2, .int .i64 0, .int .i64 0, .slice none 0 0, .bool false] 162)) (w.heap.size + 1) 110 #[.int .i64 0, .int .i64 0] := (Blk.new' _ _ _ (by simp)).alloc _
  have HD := fun W PW => Lib.hid (doP_c R L c1 c2 (w.heap.size + 1 + 1) ⟨0, 0, [], false⟩ (.slice none 0 0) 0 l[0].digits l[0].tens W PW (by omega) (by omega) (by simp only; omega) (fun _ => hfb) (by simp))
  have Hh : Hid (mvP ⟨0, 0, [], false⟩ 0 l[0].digits l[0].tens false = foldP (headP l[0]) l 1) := by unfold Hid; rw [foldP_one]; rfl
  generalize l[0].digits = d0 at *
  generalize l[0].tens = t0 at *
  have hbB1 : b < w.heap.size + 1 := by omega
  have hbB2 : b < w.heap.size + 1 + 1 := by omega
  have hbB2' : b < w.heap.size + 2 := by omega
  go_enter Tryz.func69, Tryz.ntmps69
  go_wp2_with fail
  generalize (((w.alloc (.cells #[.int .i64 L, .slice A1 l1.length c1, .slice A2 l2.length c2] 32)).alloc (.cells #[.int .i64 0, .int .i64 0] 110)).alloc (.cells #[.int .i64 L, .slice A1 l1.length c1, .slice A2 l2.length c2, .int .i64 0, .int .i64 0, .slice none 0 0, .bool false] 162)) = W at *
  refine Calls.mono (HD W P0).out ?_; rintro e w1 ⟨rfl, mv1, P1, hS1⟩
  have P1 : PlAt w (w.heap.size + 1 + 1) L A1 l1.length c1 A2 l2.length c2 (foldP (headP l[0]) l 1) mv1 w1 := by rw [← Hh.out]; exact P1
  obtain ⟨B51, n51⟩ := hS1.blk B50 (by omega) (by simp [Value.ownBlock])
  clear P0 B50 hS1 HD c0 c1' Hh hfb
  go_wp2_with fail
  go_loopw [21] (fun i wr => ∃ (k : Nat) (mv : Value), k ≤ l.length - 1 ∧ i = .int .i64 k ∧ PlAt w (w.heap.size + 1 + 1) L A1 l1.length c1 A2 l2.length c2 (foldP (headP l[0]) l (k + 1)) mv wr ∧ Blk wr (w.heap.size + 1) 110 #[.int .i64 0, .int .i64 0] ∧ some (w.heap.size + 1) ≠ mv.ownBlock) (fun i _ => l.length - (intOf i).toNat)
  case atStart => exact ⟨0, mv1, Nat.zero_le _, rfl, P1, B51, n51⟩
  case round =>
    clear P1 B51 n51
    obtain ⟨k, mv, hk, rfl, P, B5, n5⟩ := hrel
    by_cases hlt : k < l.length - 1
    · have hlt' : k + 1 < l.length := by omega
      obtain ⟨b', off', rfl, hbB', hc'⟩ := HDR.out.at_ (i := k) (by simp; omega)
      simp only [List.getElem_drop, List.getElem_map] at hc'
      have hidx : 1 + k = k + 1 := by omega
      have e0 : wr.cell? ⟨b', off' + k * 3, none⟩ = some (.int .i64 (l[k + 1]).digits) := by rw [P.hb.cell hbB']; have := hc' 0 _ rfl; simpa only [hidx, Nat.add_zero] using this
      have e1 : wr.cell? ⟨b', off' + k * 3 + 1, none⟩ = some (.int .i64 (l[k + 1]).tens) := by rw [P.hb.cell hbB']; have := hc' 1 _ rfl; simpa only [hidx] using this
      have e2 : wr.cell? ⟨b', off' + k * 3 + 2, none⟩ = some (.bool (l[k + 1]).div) := by rw [P.hb.cell hbB']; have := hc' 2 _ rfl; simpa only [hidx] using this
      clear hc'
      obtain ⟨hok, hln⟩ := Hfold.out (k + 1) (by omega) (by omega)
      have HT := fun (W : World) (PW : PlAt w (w.heap.size + 1 + 1) L A1 l1.length c1 A2 l2.length c2 (foldP (headP l[0]) l (k + 1)) mv W) => Lib.hid (term_c R L c1 c2 (w.heap.size + 1 + 1) (foldP (headP l[0]) l (k + 1)) mv l[k + 1] W PW (by omega) hok (Hall.out (k + 1) hlt') (by omega))
      have Hnx := Lib.hid (foldP_succ (headP l[0]) l (k := k + 1) (by omega) hlt')
      have hltI : (k : Int) < ((l.length - 1 : Nat) : Int) := by omega
      have hwr := P.hb.size
      have hbw : b' < wr.heap.size := by omega
      clear hok hln
      generalize l[k + 1] = tk at *
      go_wp2_with fail
      have hba : Below wr.heap.size wr (wr.alloc (.cells #[.int .i64 tk.digits, .int .i64 tk.tens, .bool tk.div] 118)) := (Below.refl _ _).alloc (Nat.le_refl _) _
      have Pa := P.below hba
      have B5a := B5.below hba B5.lt
      clear e0 e1 e2 P B5 hba
      generalize wr.alloc (.cells #[.int .i64 tk.digits, .int .i64 tk.tens, .bool tk.div] 118) = w2 at *
      refine Calls.mono (HT w2 Pa).out ?_; rintro e w3 ⟨rfl, mv3, P3, hS3⟩
      obtain ⟨B53, n53⟩ := hS3.blk B5a (by omega) n5
      go_wp2
      go_roundw
      case rel => exact ⟨k + 1, mv3, by omega, by go_num, by rw [Hnx.out]; exact P3, B53, n53⟩
      case measure => simp [intOf]; omega
    · have hkl : k + 1 = l.length := by omega
      have hkn : k = l.length - 1 := by omega
      obtain ⟨hok, hln⟩ := Hfold.out l.length (by omega) (by omega)
      rw [hkl] at P
      have HT := fun (W : World) (PW : PlAt w (w.heap.size + 1 + 1) L A1 l1.length c1 A2 l2.length c2 (foldP (headP l[0]) l l.length) mv W) => Lib.hid (toCursor_c R L c1 c2 (w.heap.size + 1 + 1) (foldP (headP l[0]) l l.length) mv W PW (by omega) hok.1 (by omega))
      rw [← Heq.out] at HT
      have hnlt : ¬ (k : Int) < ((l.length - 1 : Nat) : Int) := by omega
      clear hok hln hkl hkn
      go_wp2_with fail
      refine Calls.mono (HT wr P).out ?_; rintro e w3 ⟨rfl, mv3, P3, hS3⟩
      obtain ⟨B53, n53⟩ := hS3.blk B5 (by omega) n5
      clear HT P B5 hS3 n5
      generalize usualP l = q at *
      obtain ⟨A', c', rfl, hc'⟩ := P3.own.form
      generalize hnn : (q.ms.map Move.cells).length = nn at *
      have hI : w3.drew.cell? ⟨w.heap.size + 1 + 1, 3, none⟩ = some (.int .i64 q.sh) ∧ w3.drew.cell? ⟨w.heap.size + 1 + 1, 4, none⟩ = some (.int .i64 q.cu) ∧ w3.drew.cell? ⟨w.heap.size + 1 + 1, 5, none⟩ = some (.slice A' nn c') := ⟨P3.bp.cell 3, P3.bp.cell 4, P3.bp.cell 5⟩
      have z0 : w3.cell? ⟨w.heap.size + 1, 0, none⟩ = some (.int .i64 0) := B53.cell 0
      have z1 : w3.cell? ⟨w.heap.size + 1, 1, none⟩ = some (.int .i64 0) := B53.cell 1
      have zf0 := B53.frozen 0
      have zf1 := B53.frozen 1
      have y0 : w3.drew.cell? ⟨w.heap.size + 1, 0, none⟩ = some (.int .i64 0) := z0
      have y1 : w3.drew.cell? ⟨w.heap.size + 1, 1, none⟩ = some (.int .i64 0) := z1
      have yf0 : w3.drew.frozen? ⟨w.heap.size + 1, 0, none⟩ = false := zf0
      have yf1 : w3.drew.frozen? ⟨w.heap.size + 1, 1, none⟩ = false := zf1
      have Bp := (P3.bp.far (p := ⟨w.heap.size + 1, 0, none⟩) (by simp) (.int .i64 q.sh)).far (p := ⟨w.heap.size + 1, 1, none⟩) (by simp) (.int .i64 q.cu)
      have hI2 : ((w3.setCell ⟨w.heap.size + 1, 0, none⟩ (.int .i64 q.sh)).setCell ⟨w.heap.size + 1, 1, none⟩ (.int .i64 q.cu)).drew.cell? ⟨w.heap.size + 1 + 1, 3, none⟩ = some (.int .i64 q.sh) ∧ ((w3.setCell ⟨w.heap.size + 1, 0, none⟩ (.int .i64 q.sh)).setCell ⟨w.heap.size + 1, 1, none⟩ (.int .i64 q.cu)).drew.cell? ⟨w.heap.size + 1 + 1, 4, none⟩ = some (.int .i64 q.cu) ∧ ((w3.setCell ⟨w.heap.size + 1, 0, none⟩ (.int .i64 q.sh)).setCell ⟨w.heap.size + 1, 1, none⟩ (.int .i64 q.cu)).drew.cell? ⟨w.heap.size + 1 + 1, 5, none⟩ = some (.slice A' nn c') := ⟨Bp.cell 3, Bp.cell 4, Bp.cell 5⟩
      clear Bp
      go_wp2_with fail
      go_region_held3 (fun w' => w'.cell? ⟨w.heap.size + 1 + 1, 3, none⟩ = some (.int .i64 q.sh) ∧ w'.cell? ⟨w.heap.size + 1 + 1, 4, none⟩ = some (.int .i64 q.cu) ∧ w'.cell? ⟨w.heap.size + 1 + 1, 5, none⟩ = some (.slice A' nn c')) (first | with_reducible exact hI | with_reducible assumption | with_reducible exact hI2) (fail)
      have hO4 : Own ((w3.setCell ⟨w.heap.size + 1, 0, none⟩ (.int .i64 q.sh)).setCell ⟨w.heap.size + 1, 1, none⟩ (.int .i64 q.cu)) w.heap.size 72 4 (.slice A' nn c') (q.ms.map Move.cells) := P3.own.kept (grownBy_stores [_, _] 0 (World.grownBy.refl _ _)) (.inr (Ne.symm n53))
      have hnn' : nn = q.ms.length := by rw [← hnn, List.length_map]
      have hb3 := P3.hb
      clear hI hI2 P3 hnn
      subst hnn'
      go_wp2
      refine bodyPost_ret (v := .tuple #[.slice A' q.ms.length c', .agg #[.int .i64 q.sh, .int .i64 q.cu]]) (by simp [results, Tryz.results69, go_sem, z0, z1]) rfl ⟨A', c', rfl, hO4, (by repeat (first | with_reducible exact hb3 | with_reducible apply below_drewN' | with_reducible apply Below.drew | (with_reducible refine Below.alloc ?_ (by first | omega | (simp; omega) | simp) _) | (with_reducible refine Below.setCell ?_ (by first | omega | (simp; omega) | simp) _) | exact hb3))⟩
end Go.Proofs.YtgkobjpoeajkdaaGreat
