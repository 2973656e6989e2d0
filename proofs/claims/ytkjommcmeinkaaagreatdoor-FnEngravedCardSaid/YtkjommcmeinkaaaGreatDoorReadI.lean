/- ReadProgram, the program's. Conditions: the text's length; what the library's variables hold. -/
import Derived.Test.YtkjommcmeinkaaaGreatDoorReadP
import Derived.Test.YtkjommcmeinkaaaGreatDoorInv
import Derived.Deep.MidRow
namespace Go.Proofs.YtkjommcmeinkaaaGreatDoor
open Go.RowKit
set_option linter.unusedSimpArgs false
theorem info_Strk : (Tryz.prog.info? 35).map (fun i => (i.zero, i.size, i.bytes)) = some (some (.agg #[.int .i64 0, .int .i64 0, .int .i64 0]), 3, 24) := by kernel_rfl
theorem stroke_one {L : List Stroke} : ∀ y ∈ L.map Stroke.cells, ∀ u ∈ y, u.oneCell' = true := fun y hy u hu => by
  obtain ⟨x, _, rfl⟩ := List.mem_map.1 hy
  simp only [Stroke.cells, List.mem_cons, List.not_mem_nil, or_false] at hu
  rcases hu with rfl | rfl | rfl <;> rfl
theorem Sl.blkK {w : World} {g : Nat} {t : TypeId} {x : Stroke} (h : Blk w g t #[.int .i64 x.tool, .int .i64 x.place, .int .i64 x.long]) : Sl w (g + 1) 3 (some ⟨g, 0, none⟩) ([x].map Stroke.cells) :=
  Sl.of_blk h _ rfl (by intro y hy; simp only [List.map_cons, List.map_nil, List.mem_singleton] at hy; subst hy; rfl)
/-- a slice of strokes that grows -/
structure AppK (w : World) (xs : List Stroke) (V : Value) (wr : World) : Prop where
  hb : Below w.heap.size w wr
  o : Own wr w.heap.size 35 3 V (xs.map Stroke.cells)
section
variable {w : World} {xs ys : List Stroke} {V V' : Value} {wr w2 : World}
theorem AppK.below (h : AppK w xs V wr) (hb : Below wr.heap.size wr w2) : AppK w xs V w2 := ⟨h.hb.trans (hb.mono h.hb.size), h.o.below hb⟩
theorem AppK.alloc (h : AppK w xs V wr) (ob : Obj) : AppK w xs V (wr.alloc ob) := h.below ((Below.refl _ _).alloc (Nat.le_refl _) ob)
theorem AppK.app (h : AppK w xs V wr) (hg : wr.grownBy w2 V.ownBlock) (h2 : Own w2 w.heap.size 35 3 V' (xs.map Stroke.cells ++ ys.map Stroke.cells)) : AppK w (xs ++ ys) V' w2 := ⟨below_app h.hb hg h.hb.size h.o.ownGe, by rw [List.map_append]; exact h2⟩
end
def RdP (L : List Stroke) (code : Int) (w : World) (e : Ending) (w' : World) : Prop := ∃ A c, e = .returned (.tuple #[.slice A L.length c, .int .i64 code]) ∧ Own w' w.heap.size 35 3 (.slice A L.length c) (L.map Stroke.cells) ∧ Below w.heap.size w w'
/-- a word read so far -/
theorem wordF_cons (f : List UInt8 → Option Int) (tl : UInt8 → Option Int) {c : UInt8} {r : List UInt8} {t : Int} (ht : tl c = some t) : (okN f (splitC 46 r) = false ∨ (splitC 46 r).length ≠ 2 → wordF f tl (c :: r) = none) ∧
    (okN f (splitC 46 r) = true → (splitC 46 r).length = 2 → ∃ m n, valsN f (splitC 46 r) = [m, n] ∧ wordF f tl (c :: r) = some ⟨t, m, n⟩) := by
  unfold wordF
  simp only [ht]
  generalize splitC 46 r = ws
  match ws with
  | [] => exact ⟨fun _ => rfl, fun _ h => by simp at h⟩
  | [a] => exact ⟨fun _ => rfl, fun _ h => by simp at h⟩
  | a :: b :: d :: e => exact ⟨fun _ => rfl, fun _ h => by simp at h⟩
  | [a, b] =>
    refine ⟨fun h => ?_, fun h _ => ?_⟩
    · rcases h with h | h
      · simp only [okN, List.all_cons, List.all_nil, Bool.and_true] at h
        cases ha : f a with
        | none => simp [ha]
        | some m => cases hb : f b with
          | none => simp [ha, hb]
          | some n => rw [ha, hb] at h; cases h
      · simp at h
    · simp only [okN, List.all_cons, List.all_nil, Bool.and_true, Bool.and_eq_true] at h
      cases ha : f a with
      | none => rw [ha] at h; cases h.1
      | some m => cases hb : f b with
        | none => rw [hb] at h; cases h.2
        | some n => exact ⟨m, n, by simp [valsN, ha, hb], by simp [ha, hb]⟩
theorem wordF_no {f : List UInt8 → Option Int} {tl : UInt8 → Option Int} {c : UInt8} {r : List UInt8} (h : tl c = none) : wordF f tl (c :: r) = none := by
  unfold wordF
  simp only [h]
theorem hasPre_c (x p : List UInt8) (w : World) : Calls Tryz.prog 30 #[.string (bs x), .string (bs p)] w fun e w' => e = .returned (.bool (p.isPrefixOf x)) ∧ w' = w :=
  (Any.strings_HasPrefix Tryz.layPre (bs x) (bs p) w).mono fun e w' ⟨h1, h2⟩ => ⟨by rw [h1, bs_data, bs_data]; rfl, h2⟩
/-- while a word's two numbers are laid into a stroke -/
structure RpS (w0 : World) (t m n : Int) (bl off : Nat) (b7 b9 : Bool) (v : World) : Prop where
  hb : Below w0.heap.size w0 v
  b : Blk v w0.heap.size 35 #[.int .i64 t, .int .i64 (bif b7 then m else 0), .int .i64 (bif b9 then n else 0)]
  c : v.cell? ⟨bl, off, none⟩ = some (.int .i64 m) ∧ v.cell? ⟨bl, off + 1, none⟩ = some (.int .i64 n)
theorem RpS.s7 {w0 : World} {t m n : Int} {bl off : Nat} {b7 b9 : Bool} {v : World} (h : RpS w0 t m n bl off b7 b9 v) (hn : w0.heap.size < bl) : RpS w0 t m n bl off true b9 (v.setCell ⟨w0.heap.size, 1, none⟩ (.int .i64 m)) :=
  ⟨Below.setCell h.hb (Nat.le_refl _) _, h.b.set_ 1 _, (World.cell?_setCell_far _ _ _ _ (by simp only; omega)).trans h.c.1, (World.cell?_setCell_far _ _ _ _ (by simp only; omega)).trans h.c.2⟩
theorem RpS.s9 {w0 : World} {t m n : Int} {bl off : Nat} {b7 b9 : Bool} {v : World} (h : RpS w0 t m n bl off b7 b9 v) (hn : w0.heap.size < bl) : RpS w0 t m n bl off b7 true (v.setCell ⟨w0.heap.size, 2, none⟩ (.int .i64 n)) :=
  ⟨Below.setCell h.hb (Nat.le_refl _) _, h.b.set_ 2 _, (World.cell?_setCell_far _ _ _ _ (by simp only; omega)).trans h.c.1, (World.cell?_setCell_far _ _ _ _ (by simp only; omega)).trans h.c.2⟩
set_option maxRecDepth 100000 in
set_option maxHeartbeats 2000000 in
theorem implRead_c (s : List UInt8) (w : World) (hl : s.length ≤ 1048576) (L : LwP w) : Calls Tryz.prog 9 #[.string (bs s)] w (RdP (readL s) (readC s) w) := by
  by_cases hs0 : s = []
  · subst hs0
    rw [read_empty.1, read_empty.2]
    have hq : ((bs []).toList == (⟨#[]⟩ : ByteArray).toList) = true := by rw [show bs [] = ⟨#[]⟩ from rfl]; simp
    have hq2 : (bs []).toList.isEmpty = true := by rw [ByteArray.toList_eq, bs_data]; rfl
    generalize bs [] = S at *
    go_enter Tryz.func9, Tryz.ntmps9
    go_wp2
    go_ret2
    exact ⟨none, 0, rfl, Own.nil_, Below.refl _ _⟩
  · obtain ⟨ii, hi, hz0, hz1, hz2⟩ := info_parts info_Strk
    have hq : ((bs s).toList == (⟨#[]⟩ : ByteArray).toList) = false := by
      rw [show (⟨#[]⟩ : ByteArray) = bs [] from rfl, bs_beq]
      exact decide_eq_false hs0
    have hq2 : (bs s).toList.isEmpty = false := by rw [ByteArray.toList_eq, bs_data, List.isEmpty_eq_false_iff]; exact hs0
    have HP : Hid (∀ W, Below w.heap.size w W → LwP W) := Lib.hid (fun W h => L.below h)
    obtain ⟨hpl, hpx⟩ := pieces_len (b := 32) s
    have HC := Lib.hid (fun W (hW : Below w.heap.size w W) => split_b 32 s W hl (HP.out W hW).m)
    have hbad := Lib.hid (fun k hk h => read_bad hs0 (g := wordF numI tlI) (fun _ => rfl) (k := k) hk h)
    have hgood := Lib.hid (fun L h hc => read_good hs0 (g := wordF numI tlI) (fun _ => rfl) (L := L) h hc)
    have hcode := Lib.hid (fun L h hc => read_code hs0 (g := wordF numI tlI) (fun _ => rfl) (L := L) h hc)
    generalize splitC 32 s = ws at *
    have hwl : ws.length ≤ 1048577 := by omega
    have HN := Lib.hid (fun r W (h : r.length ≤ 1048576) hW => numbers_c 46 r W h (HP.out W hW))
    have hpx2 := Lib.hid (fun k (hk : k < ws.length) => hpx _ (List.getElem_mem hk))
    have htk : Hid (ws.take ws.length = ws) := Lib.hid List.take_length
    have hnx := Lib.hid (fun k (hk : k < ws.length) (M : List Stroke) (x : Stroke) (h : (ws.take k).map (wordF numI tlI) = M.map some) (h2 : wordF numI tlI ws[k] = some x) => (by
      rw [List.take_succ_eq_append_getElem hk, List.map_append, List.map_append, h, List.map_singleton, h2]; rfl : (ws.take (k + 1)).map (wordF numI tlI) = (M ++ [x]).map some))
    clear hpx L hs0
    generalize readL s = RL at *
    generalize readC s = RC at *
    generalize bs s = S at *
    go_enter Tryz.func9, Tryz.ntmps9
    have L0 : AppK w [] (.slice (some ⟨w.heap.size, 0, none⟩) 0 0) (w.alloc (.cells #[] 35)) := ⟨(by repeat (first | with_reducible exact Below.refl _ _ | with_reducible apply below_drewN' | with_reducible apply Below.drew | (with_reducible refine Below.alloc ?_ (by first | omega | (simp; omega) | simp | (have := (Below.refl _ _).size; omega) | (have := (Below.refl _ _).size; simp; omega)) _) | (with_reducible refine Below.setCell ?_ (by first | omega | (simp; omega) | simp | (have := (Below.refl _ _).size; omega) | (have := (Below.refl _ _).size; simp; omega)) _) | exact Below.refl _ _)), Own.empty (Nat.le_refl _)⟩
    go_wp2_with fail
    refine Calls.mono (HC.out _ L0.hb) ?_; rintro e w1 ⟨g, rfl, hgs, hG, hb1⟩
    replace L0 := L0.below hb1
    have hne0 : (Value.slice (some ⟨w.heap.size, 0, none⟩) 0 0).ownBlock ≠ some g := fun e => by
      have e2 : w.heap.size = g := by simpa [Value.ownBlock] using e
      rw [← e2] at hgs
      simp at hgs
      omega
    clear hb1 hgs
    go_wp2_with fail
    go_loopw [4, 16] (fun o i wr => ∃ (k : Nat) (M : List Stroke), k ≤ ws.length ∧ i = .int .i64 k ∧ M.length = k ∧ Hid ((ws.take k).map (wordF numI tlI) = M.map some) ∧ AppK w M o wr ∧ Blk wr g 9 ((ws.map bs).map Value.string).toArray ∧ o.ownBlock ≠ some g) (fun _ i _ => ws.length - (intOf i).toNat)
    case atStart => exact ⟨0, [], Nat.zero_le _, rfl, rfl, Lib.hid (by simp), L0, hG, hne0⟩
    case round =>
      clear L0 hG hne0
      obtain ⟨k, M, hk, rfl, hMk, hM, hL, hG, hne⟩ := hrel
      by_cases hlt : k < ws.length
      · have c0 : wr.cell? ⟨g, k, none⟩ = some (.string (bs ws[k])) := blk_txt hG hlt
        have hgl := hG.lt
        have hb2 := Lib.hid (hbad.out k hlt)
        have hn2 := Lib.hid (fun x h2 => hnx.out k hlt M x hM.out h2)
        have hxl := hpx2.out k hlt
        have HF := Lib.hid (fun p W => hasPre_c ws[k] p W)
        clear hbad hnx hpx2 hM
        replace hG := Lib.hid hG
        generalize hx : ws[k] = x at *
        clear hx
        cases x with
        | nil =>
          obtain ⟨hA, hB⟩ := hb2.out rfl
          subst hA hB
          generalize bs [] = X at *
          have hbw := hL.hb
          clear hL hG hb2 hn2 HN HP hgood hcode htk
          go_wp2_with (first | (go_at_call 30; refine Calls.mono (HF.out [70] _) ?_; rintro e w2 ⟨rfl, rfl⟩) | (go_at_call 30; refine Calls.mono (HF.out [66] _) ?_; rintro e w2 ⟨rfl, rfl⟩))
          go_ret2
          exact ⟨none, 0, rfl, Own.nil_, (by repeat (first | with_reducible exact hbw | with_reducible apply below_drewN' | with_reducible apply Below.drew | (with_reducible refine Below.alloc ?_ (by first | omega | (simp; omega) | simp | (have := (hbw).size; omega) | (have := (hbw).size; simp; omega)) _) | (with_reducible refine Below.setCell ?_ (by first | omega | (simp; omega) | simp | (have := (hbw).size; omega) | (have := (hbw).size; simp; omega)) _) | exact hbw))⟩
        | cons c r =>
          by_cases h70 : c = 70
          · subst h70
            have hR := Lib.hid (HN.out r)
            obtain ⟨w1, w2⟩ := wordF_cons numI tlI (c := 70) (r := r) (t := 1) rfl
            have hex : (bs (70 :: r)).extract 1 (r.length + 1) = bs r := by rw [bs_extract]; simp
            have hXs : (bs (70 :: r)).size = r.length + 1 := by rw [bs_size]; simp
            generalize wordF numI tlI (70 :: r) = wf at *
            generalize bs (70 :: r) = X at *
            have hrl : r.length ≤ 1048576 := by simp at hxl; omega
            have D0 := Blk.new wr 35 #[.int .i64 1, .int .i64 0, .int .i64 0]
            have hba : Below wr.heap.size wr (wr.alloc (.cells #[.int .i64 1, .int .i64 0, .int .i64 0] 35)) := (Below.refl _ _).alloc (Nat.le_refl _) _
            generalize splitC 46 r = pc at *
            generalize bs r = rb at *
            replace w1 := Lib.hid w1
            replace w2 := Lib.hid w2
            go_wp2_with (go_at_call 30; refine Calls.mono (HF.out [70] _) ?_; rintro e w2 ⟨rfl, rfl⟩)
            refine Calls.mono (hR.out _ hrl (hL.hb.trans (hba.mono hL.hb.size))) ?_; rintro e w3 hns
            rcases hns with ⟨hok, A3, c3, rfl, O3, hb3⟩ | ⟨hok, rfl, hb3⟩
            · by_cases h2 : pc.length = 2
              · obtain ⟨m, n, hv, hwf⟩ := w2.out hok h2
                rw [hv, h2] at O3
                obtain ⟨bl, off, rfl, hbl, hc0⟩ := O3.sl.at_ (i := 0) (by simp)
                obtain ⟨_, _, e2, _, hc1⟩ := O3.sl.at_ (i := 1) (by simp)
                obtain ⟨rfl, rfl⟩ : bl = _ ∧ off = _ := by simpa using e2
                have y0 : w3.cell? ⟨bl, off, none⟩ = some (.int .i64 m) := by have := hc0 0 _ rfl; simpa using this
                have y1 : w3.cell? ⟨bl, off + 1, none⟩ = some (.int .i64 n) := by have := hc1 0 _ rfl; simpa using this
                have hbg : wr.heap.size < bl := by have := O3.ownGe bl rfl; simp at this; omega
                have R0 : RpS wr 1 m n bl off false false w3 := ⟨hba.trans (hb3.mono hba.size), D0.below hb3 D0.lt, y0, y1⟩
                have hnx2 := Lib.hid (hn2.out _ hwf)
                have hpc : (pc.length : Int) = 2 := by omega
                clear hc0 hc1 e2 O3 hv hwf w1 w2 hb2 hn2 D0 hba hb3 y0 y1 hR HF HN c0
                go_wp2_with fail
                refine wp_region_all (fun a0 fL bA v => ∃ v42 v43 v44 v45 v46 v47 v48 v49 : Value, bA = (((((((a0.put (some 42) v42).put (some 43) v43).put (some 44) v44).put (some 45) v45).put (some 46) v46).put (some 47) v47).put (some 48) v48).put (some 49) v49 ∧ (RpS wr 1 m n bl off (fL 7) (fL 9) v) ∧ (fL 0 = true → v42 = .slice (some ⟨bl, off, none⟩) 2 c3) ∧ (fL 1 = true → v43 = .pointer (some ⟨bl, off, none⟩)) ∧ (fL 2 = true → v44 = .int .i64 m) ∧ (fL 3 = true → v45 = .slice (some ⟨bl, off, none⟩) 2 c3) ∧ (fL 4 = true → v46 = .pointer (some ⟨bl, off + 1, none⟩)) ∧ (fL 5 = true → v47 = .int .i64 n) ∧ (fL 6 = true → v48 = .pointer (some ⟨wr.heap.size, 1, none⟩)) ∧ (fL 8 = true → v49 = .pointer (some ⟨wr.heap.size, 2, none⟩))) (by kernel_rfl) (by decide +kernel) ?_ ?_ ?_
                · exact ⟨_, _, _, _, _, _, _, _, put_more (put_more (put_more (put_more (put_more (put_more (put_more (put_more (rfl) 42) 43) 44) 45) 46) 47) 48) 49, ⟨R0.hb.drew, R0.b, R0.c⟩, nofun, nofun, nofun, nofun, nofun, nofun, nofun, nofun⟩
                · rintro fL bA v ⟨v42, v43, v44, v45, v46, v47, v48, v49, rfl, hS, q0, q1, q2, q3, q4, q5, q6, q8⟩ i hi hf o ho hall
                  simp only [Act.put, List.setIfInBounds_toArray, List.set_cons_zero, List.set_cons_succ]
                  simp only [List.length_cons, List.length_nil] at hi
                  have hn : i = 0 ∨ i = 1 ∨ i = 2 ∨ i = 3 ∨ i = 4 ∨ i = 5 ∨ i = 6 ∨ i = 7 ∨ i = 8 ∨ i = 9 := by omega
                  clear hi
                  rcases hn with rfl | rfl | rfl | rfl | rfl | rfl | rfl | rfl | rfl | rfl
                  · obtain rfl := Option.some.inj ho
                    clear hall ho
                    refine wpOp_step rfl (fun K hK => ?_)
                    go_simp
                    exact hK _ _ ⟨_, _, _, _, _, _, _, _, rfl, hS, fun _ => rfl, q1, q2, q3, q4, q5, q6, q8⟩
                  · obtain rfl := Option.some.inj ho
                    obtain rfl := q0 (hall ⟨0, .data⟩ (by simp) rfl)
                    clear hall ho
                    refine wpOp_step rfl (fun K hK => ?_)
                    go_simp
                    exact hK _ _ ⟨_, _, _, _, _, _, _, _, rfl, hS, fun _ => rfl, fun _ => rfl, q2, q3, q4, q5, q6, q8⟩
                  · obtain rfl := Option.some.inj ho
                    obtain rfl := q1 (hall ⟨1, .data⟩ (by simp) rfl)
                    have y := hS.c.1
                    clear hall ho
                    refine wpOp_step rfl (fun K hK => ?_)
                    go_simp
                    exact hK _ _ ⟨_, _, _, _, _, _, _, _, rfl, hS, q0, fun _ => rfl, fun _ => rfl, q3, q4, q5, q6, q8⟩
                  · obtain rfl := Option.some.inj ho
                    clear hall ho
                    refine wpOp_step rfl (fun K hK => ?_)
                    go_simp
                    exact hK _ _ ⟨_, _, _, _, _, _, _, _, rfl, hS, q0, q1, q2, fun _ => rfl, q4, q5, q6, q8⟩
                  · obtain rfl := Option.some.inj ho
                    obtain rfl := q3 (hall ⟨3, .data⟩ (by simp) rfl)
                    clear hall ho
                    refine wpOp_step rfl (fun K hK => ?_)
                    go_simp
                    exact hK _ _ ⟨_, _, _, _, _, _, _, _, rfl, hS, q0, q1, q2, fun _ => rfl, fun _ => rfl, q5, q6, q8⟩
                  · obtain rfl := Option.some.inj ho
                    obtain rfl := q4 (hall ⟨4, .data⟩ (by simp) rfl)
                    have y := hS.c.2
                    clear hall ho
                    refine wpOp_step rfl (fun K hK => ?_)
                    go_simp
                    exact hK _ _ ⟨_, _, _, _, _, _, _, _, rfl, hS, q0, q1, q2, q3, fun _ => rfl, fun _ => rfl, q6, q8⟩
                  · obtain rfl := Option.some.inj ho
                    clear hall ho
                    refine wpOp_step rfl (fun K hK => ?_)
                    go_simp
                    exact hK _ _ ⟨_, _, _, _, _, _, _, _, rfl, hS, q0, q1, q2, q3, q4, q5, fun _ => rfl, q8⟩
                  · obtain rfl := Option.some.inj ho
                    obtain rfl := q6 (hall ⟨6, .data⟩ (by simp) rfl)
                    obtain rfl := q2 (hall ⟨2, .data⟩ (by simp) rfl)
                    have f := hS.b.frozen 1
                    have y : v.cell? ⟨wr.heap.size, 1, none⟩ = some (.int .i64 (bif fL 7 then m else 0)) := hS.b.cell 1
                    clear hall ho
                    refine wpOp_step rfl (fun K hK => ?_)
                    go_simp
                    exact hK _ _ ⟨_, _, _, _, _, _, _, _, rfl, hS.s7 hbg, q0, q1, fun _ => rfl, q3, q4, q5, fun _ => rfl, q8⟩
                  · obtain rfl := Option.some.inj ho
                    clear hall ho
                    refine wpOp_step rfl (fun K hK => ?_)
                    go_simp
                    exact hK _ _ ⟨_, _, _, _, _, _, _, _, rfl, hS, q0, q1, q2, q3, q4, q5, q6, fun _ => rfl⟩
                  · obtain rfl := Option.some.inj ho
                    obtain rfl := q8 (hall ⟨8, .data⟩ (by simp) rfl)
                    obtain rfl := q5 (hall ⟨5, .data⟩ (by simp) rfl)
                    have f := hS.b.frozen 2
                    have y : v.cell? ⟨wr.heap.size, 2, none⟩ = some (.int .i64 (bif fL 9 then n else 0)) := hS.b.cell 2
                    clear hall ho
                    refine wpOp_step rfl (fun K hK => ?_)
                    go_simp
                    exact hK _ _ ⟨_, _, _, _, _, _, _, _, rfl, hS.s9 hbg, q0, q1, q2, q3, q4, fun _ => rfl, q6, fun _ => rfl⟩
                · rintro fL bA v ⟨v42, v43, v44, v45, v46, v47, v48, v49, rfl, hS, q0, q1, q2, q3, q4, q5, q6, q8⟩ hall
                  simp only [Act.put, List.setIfInBounds_toArray, List.set_cons_zero, List.set_cons_succ]
                  simp only [List.length_cons, List.length_nil] at hall
                  obtain rfl := q0 (hall 0 (by omega))
                  obtain rfl := q1 (hall 1 (by omega))
                  obtain rfl := q2 (hall 2 (by omega))
                  obtain rfl := q3 (hall 3 (by omega))
                  obtain rfl := q4 (hall 4 (by omega))
                  obtain rfl := q5 (hall 5 (by omega))
                  obtain rfl := q6 (hall 6 (by omega))
                  obtain rfl := q8 (hall 8 (by omega))
                  have e7 : fL 7 = true := hall 7 (by omega)
                  have e9 : fL 9 = true := hall 9 (by omega)
                  clear hall
                  have B := hS.b
                  rw [e7, e9] at B
                  simp only [cond_true] at B
                  have hbv := hS.hb
                  have hLv := hL.below hbv
                  have hA := hLv.alloc (.cells #[.int .i64 1, .int .i64 m, .int .i64 n] 35)
                  have hGv := (hG.out.below hbv hgl).alloc (.cells #[.int .i64 1, .int .i64 m, .int .i64 n] 35)
                  have z0 : v.cell? ⟨wr.heap.size, 0, none⟩ = some (.int .i64 1) := B.cell 0
                  have z1 : v.cell? ⟨wr.heap.size, 1, none⟩ = some (.int .i64 m) := B.cell 1
                  have z2 : v.cell? ⟨wr.heap.size, 2, none⟩ = some (.int .i64 n) := B.cell 2
                  have hgv : g < v.heap.size := Nat.lt_of_lt_of_le hgl hbv.size
                  have hMl : M.length ≤ 1048577 := by omega
                  replace hMk := Lib.hid hMk
                  replace hMl := Lib.hid hMl
                  replace hGv := Lib.hid hGv
                  clear hS R0 B hL hG hLv hbv hex hXs
                  go_wp2_with (at_builtin; refine wpList_append_rows _ rfl _ _ _ rfl w.heap.size 35 ii _ 3 24 Tryz.underlying24 hi hz0 hz1 hz2 rfl (by omega) _ _ rfl hA.o _ _ _ _ ([⟨1, m, n⟩].map Stroke.cells) rfl rfl (Sl.blkK (x := ⟨1, m, n⟩) (Blk.new' _ _ _ rfl)) stroke_one (by simp only [List.length_map]; have := hMl.out; unfold maxLen; omega) (by simp only [List.length_map]; have := hMl.out; omega) (hA.hb.size) ?_; intro v1 w4 hO2 hg2 hat; have hL2 := hA.app hg2 hO2)
                  have hG3 := (hg2.block g hGv.out.lt (fun e => hne e.symm)).trans hGv.out
                  have hne3 : v1.ownBlock ≠ some g := by
                    rcases hat with e | e
                    · rw [e]; exact hne
                    · rw [e]
                      intro e2
                      have e3 : v.heap.size + 1 = g := by simpa using e2
                      omega
                  go_roundw
                  case rel => exact ⟨k + 1, M ++ [⟨1, m, n⟩], by omega, by go_num, by rw [List.length_append, hMk.out]; rfl, hnx2, hL2, hG3, hne3⟩
                  case measure => simp [intOf]; omega
              · have hpc : ((pc.length : Int) == 2) = false := by simpa using (by omega : ¬ (pc.length : Int) = 2)
                obtain ⟨hA, hB⟩ := hb2.out (w1.out (.inr h2))
                subst hA hB
                have hbw := (hL.hb.trans (hba.mono hL.hb.size)).trans (hb3.mono (hL.hb.trans (hba.mono hL.hb.size)).size)
                clear hL hG hb2 hn2 HN HP hgood hcode htk w1 w2 hR HF hba hb3 O3
                go_wp2
                go_ret2
                exact ⟨none, 0, rfl, Own.nil_, hbw⟩
            · obtain ⟨hA, hB⟩ := hb2.out (w1.out (.inl hok))
              subst hA hB
              have hbw := (hL.hb.trans (hba.mono hL.hb.size)).trans (hb3.mono (hL.hb.trans (hba.mono hL.hb.size)).size)
              clear hL hG hb2 hn2 HN HP hgood hcode htk w1 w2 hR HF hba hb3
              go_wp2
              go_ret2
              exact ⟨none, 0, rfl, Own.nil_, hbw⟩
          by_cases h66 : c = 66
          · subst h66
            have hR := Lib.hid (HN.out r)
            obtain ⟨w1, w2⟩ := wordF_cons numI tlI (c := 66) (r := r) (t := 2) rfl
            have hex : (bs (66 :: r)).extract 1 (r.length + 1) = bs r := by rw [bs_extract]; simp
            have hXs : (bs (66 :: r)).size = r.length + 1 := by rw [bs_size]; simp
            generalize wordF numI tlI (66 :: r) = wf at *
            generalize bs (66 :: r) = X at *
            have hrl : r.length ≤ 1048576 := by simp at hxl; omega
            have D0 := Blk.new wr 35 #[.int .i64 2, .int .i64 0, .int .i64 0]
            have hba : Below wr.heap.size wr (wr.alloc (.cells #[.int .i64 2, .int .i64 0, .int .i64 0] 35)) := (Below.refl _ _).alloc (Nat.le_refl _) _
            generalize splitC 46 r = pc at *
            generalize bs r = rb at *
            replace w1 := Lib.hid w1
            replace w2 := Lib.hid w2
            go_wp2_with (first | (go_at_call 30; refine Calls.mono (HF.out [70] _) ?_; rintro e w2 ⟨rfl, rfl⟩) | (go_at_call 30; refine Calls.mono (HF.out [66] _) ?_; rintro e w2 ⟨rfl, rfl⟩))
            refine Calls.mono (hR.out _ hrl (hL.hb.trans (hba.mono hL.hb.size))) ?_; rintro e w3 hns
            rcases hns with ⟨hok, A3, c3, rfl, O3, hb3⟩ | ⟨hok, rfl, hb3⟩
            · by_cases h2 : pc.length = 2
              · obtain ⟨m, n, hv, hwf⟩ := w2.out hok h2
                rw [hv, h2] at O3
                obtain ⟨bl, off, rfl, hbl, hc0⟩ := O3.sl.at_ (i := 0) (by simp)
                obtain ⟨_, _, e2, _, hc1⟩ := O3.sl.at_ (i := 1) (by simp)
                obtain ⟨rfl, rfl⟩ : bl = _ ∧ off = _ := by simpa using e2
                have y0 : w3.cell? ⟨bl, off, none⟩ = some (.int .i64 m) := by have := hc0 0 _ rfl; simpa using this
                have y1 : w3.cell? ⟨bl, off + 1, none⟩ = some (.int .i64 n) := by have := hc1 0 _ rfl; simpa using this
                have hbg : wr.heap.size < bl := by have := O3.ownGe bl rfl; simp at this; omega
                have R0 : RpS wr 2 m n bl off false false w3 := ⟨hba.trans (hb3.mono hba.size), D0.below hb3 D0.lt, y0, y1⟩
                have hnx2 := Lib.hid (hn2.out _ hwf)
                have hpc : (pc.length : Int) = 2 := by omega
                clear hc0 hc1 e2 O3 hv hwf w1 w2 hb2 hn2 D0 hba hb3 y0 y1 hR HF HN c0
                go_wp2_with fail
                refine wp_region_all (fun a0 fL bA v => ∃ v42 v43 v44 v45 v46 v47 v48 v49 : Value, bA = (((((((a0.put (some 42) v42).put (some 43) v43).put (some 44) v44).put (some 45) v45).put (some 46) v46).put (some 47) v47).put (some 48) v48).put (some 49) v49 ∧ (RpS wr 2 m n bl off (fL 7) (fL 9) v) ∧ (fL 0 = true → v42 = .slice (some ⟨bl, off, none⟩) 2 c3) ∧ (fL 1 = true → v43 = .pointer (some ⟨bl, off, none⟩)) ∧ (fL 2 = true → v44 = .int .i64 m) ∧ (fL 3 = true → v45 = .slice (some ⟨bl, off, none⟩) 2 c3) ∧ (fL 4 = true → v46 = .pointer (some ⟨bl, off + 1, none⟩)) ∧ (fL 5 = true → v47 = .int .i64 n) ∧ (fL 6 = true → v48 = .pointer (some ⟨wr.heap.size, 1, none⟩)) ∧ (fL 8 = true → v49 = .pointer (some ⟨wr.heap.size, 2, none⟩))) (by kernel_rfl) (by decide +kernel) ?_ ?_ ?_
                · exact ⟨_, _, _, _, _, _, _, _, put_more (put_more (put_more (put_more (put_more (put_more (put_more (put_more (rfl) 42) 43) 44) 45) 46) 47) 48) 49, ⟨R0.hb.drew, R0.b, R0.c⟩, nofun, nofun, nofun, nofun, nofun, nofun, nofun, nofun⟩
                · rintro fL bA v ⟨v42, v43, v44, v45, v46, v47, v48, v49, rfl, hS, q0, q1, q2, q3, q4, q5, q6, q8⟩ i hi hf o ho hall
                  simp only [Act.put, List.setIfInBounds_toArray, List.set_cons_zero, List.set_cons_succ]
                  simp only [List.length_cons, List.length_nil] at hi
                  have hn : i = 0 ∨ i = 1 ∨ i = 2 ∨ i = 3 ∨ i = 4 ∨ i = 5 ∨ i = 6 ∨ i = 7 ∨ i = 8 ∨ i = 9 := by omega
                  clear hi
                  rcases hn with rfl | rfl | rfl | rfl | rfl | rfl | rfl | rfl | rfl | rfl
                  · obtain rfl := Option.some.inj ho
                    clear hall ho
                    refine wpOp_step rfl (fun K hK => ?_)
                    go_simp
                    exact hK _ _ ⟨_, _, _, _, _, _, _, _, rfl, hS, fun _ => rfl, q1, q2, q3, q4, q5, q6, q8⟩
                  · obtain rfl := Option.some.inj ho
                    obtain rfl := q0 (hall ⟨0, .data⟩ (by simp) rfl)
                    clear hall ho
                    refine wpOp_step rfl (fun K hK => ?_)
                    go_simp
                    exact hK _ _ ⟨_, _, _, _, _, _, _, _, rfl, hS, fun _ => rfl, fun _ => rfl, q2, q3, q4, q5, q6, q8⟩
                  · obtain rfl := Option.some.inj ho
                    obtain rfl := q1 (hall ⟨1, .data⟩ (by simp) rfl)
                    have y := hS.c.1
                    clear hall ho
                    refine wpOp_step rfl (fun K hK => ?_)
                    go_simp
                    exact hK _ _ ⟨_, _, _, _, _, _, _, _, rfl, hS, q0, fun _ => rfl, fun _ => rfl, q3, q4, q5, q6, q8⟩
                  · obtain rfl := Option.some.inj ho
                    clear hall ho
                    refine wpOp_step rfl (fun K hK => ?_)
                    go_simp
                    exact hK _ _ ⟨_, _, _, _, _, _, _, _, rfl, hS, q0, q1, q2, fun _ => rfl, q4, q5, q6, q8⟩
                  · obtain rfl := Option.some.inj ho
                    obtain rfl := q3 (hall ⟨3, .data⟩ (by simp) rfl)
                    clear hall ho
                    refine wpOp_step rfl (fun K hK => ?_)
                    go_simp
                    exact hK _ _ ⟨_, _, _, _, _, _, _, _, rfl, hS, q0, q1, q2, fun _ => rfl, fun _ => rfl, q5, q6, q8⟩
                  · obtain rfl := Option.some.inj ho
                    obtain rfl := q4 (hall ⟨4, .data⟩ (by simp) rfl)
                    have y := hS.c.2
                    clear hall ho
                    refine wpOp_step rfl (fun K hK => ?_)
                    go_simp
                    exact hK _ _ ⟨_, _, _, _, _, _, _, _, rfl, hS, q0, q1, q2, q3, fun _ => rfl, fun _ => rfl, q6, q8⟩
                  · obtain rfl := Option.some.inj ho
                    clear hall ho
                    refine wpOp_step rfl (fun K hK => ?_)
                    go_simp
                    exact hK _ _ ⟨_, _, _, _, _, _, _, _, rfl, hS, q0, q1, q2, q3, q4, q5, fun _ => rfl, q8⟩
                  · obtain rfl := Option.some.inj ho
                    obtain rfl := q6 (hall ⟨6, .data⟩ (by simp) rfl)
                    obtain rfl := q2 (hall ⟨2, .data⟩ (by simp) rfl)
                    have f := hS.b.frozen 1
                    have y : v.cell? ⟨wr.heap.size, 1, none⟩ = some (.int .i64 (bif fL 7 then m else 0)) := hS.b.cell 1
                    clear hall ho
                    refine wpOp_step rfl (fun K hK => ?_)
                    go_simp
                    exact hK _ _ ⟨_, _, _, _, _, _, _, _, rfl, hS.s7 hbg, q0, q1, fun _ => rfl, q3, q4, q5, fun _ => rfl, q8⟩
                  · obtain rfl := Option.some.inj ho
                    clear hall ho
                    refine wpOp_step rfl (fun K hK => ?_)
                    go_simp
                    exact hK _ _ ⟨_, _, _, _, _, _, _, _, rfl, hS, q0, q1, q2, q3, q4, q5, q6, fun _ => rfl⟩
                  · obtain rfl := Option.some.inj ho
                    obtain rfl := q8 (hall ⟨8, .data⟩ (by simp) rfl)
                    obtain rfl := q5 (hall ⟨5, .data⟩ (by simp) rfl)
                    have f := hS.b.frozen 2
                    have y : v.cell? ⟨wr.heap.size, 2, none⟩ = some (.int .i64 (bif fL 9 then n else 0)) := hS.b.cell 2
                    clear hall ho
                    refine wpOp_step rfl (fun K hK => ?_)
                    go_simp
                    exact hK _ _ ⟨_, _, _, _, _, _, _, _, rfl, hS.s9 hbg, q0, q1, q2, q3, q4, fun _ => rfl, q6, fun _ => rfl⟩
                · rintro fL bA v ⟨v42, v43, v44, v45, v46, v47, v48, v49, rfl, hS, q0, q1, q2, q3, q4, q5, q6, q8⟩ hall
                  simp only [Act.put, List.setIfInBounds_toArray, List.set_cons_zero, List.set_cons_succ]
                  simp only [List.length_cons, List.length_nil] at hall
                  obtain rfl := q0 (hall 0 (by omega))
                  obtain rfl := q1 (hall 1 (by omega))
                  obtain rfl := q2 (hall 2 (by omega))
                  obtain rfl := q3 (hall 3 (by omega))
                  obtain rfl := q4 (hall 4 (by omega))
                  obtain rfl := q5 (hall 5 (by omega))
                  obtain rfl := q6 (hall 6 (by omega))
                  obtain rfl := q8 (hall 8 (by omega))
                  have e7 : fL 7 = true := hall 7 (by omega)
                  have e9 : fL 9 = true := hall 9 (by omega)
                  clear hall
                  have B := hS.b
                  rw [e7, e9] at B
                  simp only [cond_true] at B
                  have hbv := hS.hb
                  have hLv := hL.below hbv
                  have hA := hLv.alloc (.cells #[.int .i64 2, .int .i64 m, .int .i64 n] 35)
                  have hGv := (hG.out.below hbv hgl).alloc (.cells #[.int .i64 2, .int .i64 m, .int .i64 n] 35)
                  have z0 : v.cell? ⟨wr.heap.size, 0, none⟩ = some (.int .i64 2) := B.cell 0
                  have z1 : v.cell? ⟨wr.heap.size, 1, none⟩ = some (.int .i64 m) := B.cell 1
                  have z2 : v.cell? ⟨wr.heap.size, 2, none⟩ = some (.int .i64 n) := B.cell 2
                  have hgv : g < v.heap.size := Nat.lt_of_lt_of_le hgl hbv.size
                  have hMl : M.length ≤ 1048577 := by omega
                  replace hMk := Lib.hid hMk
                  replace hMl := Lib.hid hMl
                  replace hGv := Lib.hid hGv
                  clear hS R0 B hL hG hLv hbv hex hXs
                  go_wp2_with (at_builtin; refine wpList_append_rows _ rfl _ _ _ rfl w.heap.size 35 ii _ 3 24 Tryz.underlying24 hi hz0 hz1 hz2 rfl (by omega) _ _ rfl hA.o _ _ _ _ ([⟨2, m, n⟩].map Stroke.cells) rfl rfl (Sl.blkK (x := ⟨2, m, n⟩) (Blk.new' _ _ _ rfl)) stroke_one (by simp only [List.length_map]; have := hMl.out; unfold maxLen; omega) (by simp only [List.length_map]; have := hMl.out; omega) (hA.hb.size) ?_; intro v1 w4 hO2 hg2 hat; have hL2 := hA.app hg2 hO2)
                  have hG3 := (hg2.block g hGv.out.lt (fun e => hne e.symm)).trans hGv.out
                  have hne3 : v1.ownBlock ≠ some g := by
                    rcases hat with e | e
                    · rw [e]; exact hne
                    · rw [e]
                      intro e2
                      have e3 : v.heap.size + 1 = g := by simpa using e2
                      omega
                  go_roundw
                  case rel => exact ⟨k + 1, M ++ [⟨2, m, n⟩], by omega, by go_num, by rw [List.length_append, hMk.out]; rfl, hnx2, hL2, hG3, hne3⟩
                  case measure => simp [intOf]; omega
              · have hpc : ((pc.length : Int) == 2) = false := by simpa using (by omega : ¬ (pc.length : Int) = 2)
                obtain ⟨hA, hB⟩ := hb2.out (w1.out (.inr h2))
                subst hA hB
                have hbw := (hL.hb.trans (hba.mono hL.hb.size)).trans (hb3.mono (hL.hb.trans (hba.mono hL.hb.size)).size)
                clear hL hG hb2 hn2 HN HP hgood hcode htk w1 w2 hR HF hba hb3 O3
                go_wp2
                go_ret2
                exact ⟨none, 0, rfl, Own.nil_, hbw⟩
            · obtain ⟨hA, hB⟩ := hb2.out (w1.out (.inl hok))
              subst hA hB
              have hbw := (hL.hb.trans (hba.mono hL.hb.size)).trans (hb3.mono (hL.hb.trans (hba.mono hL.hb.size)).size)
              clear hL hG hb2 hn2 HN HP hgood hcode htk w1 w2 hR HF hba hb3
              go_wp2
              go_ret2
              exact ⟨none, 0, rfl, Own.nil_, hbw⟩
          · have hwn : wordF numI tlI (c :: r) = none := wordF_no (by unfold tlI; rw [if_neg h70, if_neg h66])
            obtain ⟨hA, hB⟩ := hb2.out hwn
            subst hA hB
            have p1 : List.isPrefixOf [70] (c :: r) = false := by simp [List.isPrefixOf]; exact fun e => h70 e.symm
            have p2 : List.isPrefixOf [66] (c :: r) = false := by simp [List.isPrefixOf]; exact fun e => h66 e.symm
            have HF1 := Lib.hid (fun W => (by have h := HF.out [70] W; rw [p1] at h; exact h : Calls Tryz.prog 30 #[.string (bs (c :: r)), .string (bs [70])] W fun e w' => e = .returned (.bool false) ∧ w' = W))
            have HF2 := Lib.hid (fun W => (by have h := HF.out [66] W; rw [p2] at h; exact h : Calls Tryz.prog 30 #[.string (bs (c :: r)), .string (bs [66])] W fun e w' => e = .returned (.bool false) ∧ w' = W))
            have hbw := hL.hb
            generalize bs (c :: r) = X at *
            clear hL hG hb2 hn2 HN HP hgood hcode htk p1 p2 h70 h66 HF
            go_wp2_with (first | (go_at_call 30; refine Calls.mono (HF1.out _) ?_; rintro e w2 ⟨rfl, rfl⟩) | (go_at_call 30; refine Calls.mono (HF2.out _) ?_; rintro e w2 ⟨rfl, rfl⟩))
            go_ret2
            exact ⟨none, 0, rfl, Own.nil_, (by repeat (first | with_reducible exact hbw | with_reducible apply below_drewN' | with_reducible apply Below.drew | (with_reducible refine Below.alloc ?_ (by first | omega | (simp; omega) | simp | (have := (hbw).size; omega) | (have := (hbw).size; simp; omega)) _) | (with_reducible refine Below.setCell ?_ (by first | omega | (simp; omega) | simp | (have := (hbw).size; omega) | (have := (hbw).size; simp; omega)) _) | exact hbw))⟩
      · have : k = ws.length := by omega
        subst this
        have hO := hL.o
        have hbw := hL.hb
        rw [htk.out] at hM
        have hMl : M.length ≤ 1048577 := by omega
        obtain ⟨A9, c9, hv, _⟩ := hO.form
        rw [List.length_map] at hv
        subst hv
        have HI := Lib.hid (implIsProgram_c A9 c9 M wr (by omega) hO.sl)
        clear hL hG hne hbad hnx HN HP
        replace hMk := Lib.hid hMk
        by_cases h0 : strokesCode M = 0
        · obtain ⟨rfl, rfl⟩ := hgood.out M hM.out h0
          rw [h0] at HI
          have hb0 : ((0 : Int) == 0) = true := rfl
          rw [hb0] at HI
          go_wp2_with fail
          refine Calls.mono HI.out ?_; rintro e w4 ⟨rfl, hb4⟩
          have hO4 := hO.below hb4
          go_wp2
          go_ret2
          exact ⟨A9, c9, rfl, hO4, hbw.trans (hb4.mono hbw.size)⟩
        · obtain ⟨rfl, rfl⟩ := hcode.out M hM.out h0
          have hb0 : (strokesCode M == 0) = false := by simpa using h0
          rw [hb0] at HI
          go_wp2_with fail
          refine Calls.mono HI.out ?_; rintro e w4 ⟨rfl, hb4⟩
          go_wp2
          go_ret2
          exact ⟨none, 0, rfl, Own.nil_, hbw.trans (hb4.mono hbw.size)⟩
end Go.Proofs.YtkjommcmeinkaaaGreatDoor
