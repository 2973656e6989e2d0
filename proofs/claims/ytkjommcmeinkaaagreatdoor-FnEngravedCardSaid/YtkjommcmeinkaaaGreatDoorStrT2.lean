/- ProgramText: both sides. Conditions: what the library's table holds; the lists' lengths. -/
import Derived.Test.YtkjommcmeinkaaaGreatDoorStrT
namespace Go.Proofs.YtkjommcmeinkaaaGreatDoor
open Go.RowKit
set_option linter.unusedSimpArgs false
theorem info_Str1 : (Tryz.prog.info? 9).map (fun i => (i.zero, i.size, i.bytes)) = some (some (.string ⟨#[]⟩), 1, 16) := by kernel_rfl
theorem str1_one {L : List (List UInt8)} : ∀ y ∈ L.map str1, ∀ u ∈ y, u.oneCell' = true := fun y hy u hu => by
  obtain ⟨x, _, rfl⟩ := List.mem_map.1 hy
  obtain rfl : u = .string (bs x) := by simpa [str1] using hu
  rfl
/-- a slice of one cell an element that grows -/
structure AppS (w : World) (e : TypeId) (xs : List (List Value)) (V : Value) (wr : World) : Prop where
  hb : Below w.heap.size w wr
  o : Own wr w.heap.size e 1 V xs
section
variable {w : World} {e : TypeId} {xs ys : List (List Value)} {V V' : Value} {wr w2 : World}
theorem AppS.below (h : AppS w e xs V wr) (hb : Below wr.heap.size wr w2) : AppS w e xs V w2 := ⟨h.hb.trans (hb.mono h.hb.size), h.o.below hb⟩
theorem AppS.alloc (h : AppS w e xs V wr) (ob : Obj) : AppS w e xs V (wr.alloc ob) := h.below ((Below.refl _ _).alloc (Nat.le_refl _) ob)
theorem AppS.app (h : AppS w e xs V wr) (hg : wr.grownBy w2 V.ownBlock) (h2 : Own w2 w.heap.size e 1 V' (xs ++ ys)) : AppS w e (xs ++ ys) V' w2 := ⟨below_app h.hb hg h.hb.size h.o.ownGe, h2⟩
end
theorem Sl.blk1 {w : World} {g : Nat} {t : TypeId} {x : List UInt8} (h : Blk w g t #[.string (bs x)]) : Sl w (g + 1) 1 (some ⟨g, 0, none⟩) ([x].map str1) :=
  Sl.of_blk h _ rfl (by intro y hy; simp only [List.map_cons, List.map_nil, List.mem_singleton] at hy; subst hy; rfl)
theorem extraJoin : Builder.Extra Tryz.prog Tryz.layJoin_ren where
  sizeBuilder := by kernel_rfl
  liesBuilder := by kernel_rfl
  t5 := Tryz.underlying5
  a5 := Tryz.isAgg5
  z5 := Tryz.sizeOf5
  v5 := Tryz.zeroValue5
  infoByte := by kernel_rfl
  cellsByte := by kernel_rfl
  sizeByte := by kernel_rfl
  neB5 := by decide
theorem join_own (A : Option Addr) (c base : Nat) (L : List (List UInt8)) (sep : List UInt8) (w : World) (hO : Own w base 9 1 (.slice A L.length c) (L.map str1)) (hN : L.length ≤ 140737488355328) (hlen : (joinC sep L).length ≤ 140737488355328) :
    Calls Tryz.prog 35 #[.slice A L.length c, .string (bs sep)] w fun e w' => e = .returned (.string (bs (joinC sep L))) ∧ Below w.heap.size w w' := by
  rw [← join_eq] at hlen ⊢
  cases L with
  | nil => exact (Any.strings_Join_none Tryz.layJoin extraJoin A c (bs sep) w).mono fun e w' ⟨h1, h2⟩ => ⟨h1, h2 ▸ Below.refl _ _⟩
  | cons x r =>
    have hs := hO.sl
    obtain ⟨_, b, off, rfl, hb, _⟩ := hs 0 (str1 x) rfl
    have hm : ((x :: r).map bs).map (·.data.toList) = x :: r := by
      rw [List.map_map]
      conv => rhs; rw [← List.map_id (x :: r)]
      exact List.map_congr_left fun y _ => bs_data y
    have h := Any.strings_Join Tryz.layJoin extraJoin b off c ((x :: r).map bs) (bs sep) w (fun j y hj => by
      rw [List.getElem?_map] at hj
      cases hx : (x :: r)[j]? with
      | none => rw [hx] at hj; cases hj
      | some z =>
        rw [hx] at hj
        obtain rfl : bs z = y := by simpa using hj
        obtain ⟨_, b', off', e, _, hc⟩ := hs j (str1 z) (by rw [List.getElem?_map, hx]; rfl)
        obtain ⟨rfl, rfl⟩ : b = b' ∧ off = off' := by simpa using e
        have := hc 0 _ rfl
        rwa [Nat.mul_one] at this) hb (by simpa using hN) (by
        obtain ⟨A', c', e, hc⟩ := hO.form
        obtain ⟨_, rfl⟩ : _ ∧ c = c' := by simpa using e
        simpa using hc) (by rw [hm, bs_data]; exact hlen)
    rw [hm, bs_data, List.length_map] at h
    exact h
theorem progR_cases (l : List Stroke) : (strokesCode l = 0 → progR l = joinC [32] (l.map strT) ∧ l.length ≤ 150 ∧ l.all strokeOK = true) ∧ (strokesCode l ≠ 0 → progR l = []) := by
  refine ⟨fun h => ⟨by unfold progR; rw [if_pos h]; rfl, ?_⟩, fun h => by unfold progR; rw [if_neg h]⟩
  unfold strokesCode at h
  by_cases h1 : l.all strokeOK = true
  · rw [if_pos h1] at h
    by_cases h2 : 150 < l.length
    · rw [if_pos h2] at h; cases h
    · exact ⟨by omega, h1⟩
  · rw [if_neg h1] at h
    cases h
theorem joinC_len {b : List UInt8} (hb : b.length = 1) : ∀ (L : List (List UInt8)), (∀ x ∈ L, x.length ≤ 16) → (joinC b L).length ≤ 17 * L.length
  | [], _ => by simp [joinC]
  | [x], h => by have := h x (by simp); simp [joinC]; omega
  | x :: y :: r, h => by
    have h1 := joinC_len hb (y :: r) (fun z hz => h z (List.mem_cons_of_mem _ hz))
    have h2 := h x List.mem_cons_self
    show (x ++ b ++ joinC b (y :: r)).length ≤ _
    simp only [List.length_append, List.length_cons] at h1 ⊢
    omega
theorem strTs_len {l : List Stroke} (h : l.all strokeOK = true) : ∀ x ∈ l.map strT, x.length ≤ 16 := fun x hx => by
  obtain ⟨s, hs, rfl⟩ := List.mem_map.1 hx
  exact strT_len (List.all_eq_true.1 h s hs)
set_option maxRecDepth 100000 in
set_option maxHeartbeats 1000000 in
theorem implProgramText_c (A : Option Addr) (c : Nat) (l : List Stroke) (w : World) (hl : l.length ≤ 140737488351232) (hs : Sl w w.heap.size 3 A (l.map Stroke.cells)) (hT : LwT w) :
    Calls Tryz.prog 12 #[.slice A l.length c] w fun e w' => e = .returned (.tuple #[.string (bs (progR l)), .int .i64 (strokesCode l)]) ∧ Below w.heap.size w w' := by
  have HC := Lib.hid (checkStrokes_c A c l w hl hs)
  obtain ⟨r1, r2⟩ := progR_cases l
  have HT : Hid (∀ W, Below w.heap.size w W → LwT W) := Lib.hid (fun W h => hT.below h)
  obtain ⟨ii, hi, hz0, hz1, hz2⟩ := info_parts info_Str1
  clear hT
  generalize progR l = R at *
  by_cases h0 : strokesCode l = 0
  · obtain ⟨hR, h150, hok⟩ := r1 h0
    rw [h0] at HC ⊢
    have hJ := Lib.hid (joinC_len (b := [32]) rfl _ (strTs_len hok))
    have hnx := Lib.hid (fun k (hk : k < l.length) => (by
      rw [List.take_succ_eq_append_getElem hk, List.map_append]; rfl : (l.take (k + 1)).map strT = (l.take k).map strT ++ [strT l[k]]))
    have HX := Lib.hid (fun k (hk : k < l.length) W h => strokeText_c l[k] W (List.all_eq_true.1 hok _ (List.getElem_mem hk)) (HT.out W h))
    replace hR := Lib.hid hR
    clear r1 r2 h0 hl hok
    go_enter Tryz.func12, Tryz.ntmps12
    go_wp2_with fail
    refine Calls.mono HC.out ?_; rintro e w1 ⟨rfl, hb1⟩
    have L0 : AppS w 9 (((l.take 0).map strT).map str1) (.slice (some ⟨w1.heap.size, 0, none⟩) 0 0) (w1.alloc (.cells #[] 9)) := ⟨(by repeat (first | with_reducible exact hb1 | with_reducible apply below_drewN' | with_reducible apply Below.drew | (with_reducible refine Below.alloc ?_ (by first | omega | (simp; omega) | simp | (have := (hb1).size; omega) | (have := (hb1).size; simp; omega)) _) | (with_reducible refine Below.setCell ?_ (by first | omega | (simp; omega) | simp | (have := (hb1).size; omega) | (have := (hb1).size; simp; omega)) _) | exact hb1)), by rw [List.take_zero]; exact Own.empty hb1.size⟩
    go_wp2_with fail
    go_loopw [5, 16] (fun o i wr => ∃ k : Nat, k ≤ l.length ∧ i = .int .i64 k ∧ AppS w 9 (((l.take k).map strT).map str1) o wr) (fun _ i _ => l.length - (intOf i).toNat)
    case atStart => exact ⟨0, Nat.zero_le _, rfl, L0⟩
    case round =>
      clear L0
      obtain ⟨k, hk, rfl, hL⟩ := hrel
      by_cases hlt : k < l.length
      · have hb := hL.hb
        have hnk := Lib.hid (hnx.out k hlt)
        have HK := Lib.hid (HX.out k hlt)
        have hkl : ((l.take k).map strT).length = k := by simp; omega
        obtain ⟨b, off, rfl, bB, cc⟩ := hs.at_ (i := k) (by simpa using hlt)
        simp only [List.getElem_map] at cc
        have c0 : wr.cell? ⟨b, off + k * 3, none⟩ = some (.int .i64 l[k].tool) := by rw [hb.cell bB]; exact cc 0 _ rfl
        have c1 : wr.cell? ⟨b, off + k * 3 + 1, none⟩ = some (.int .i64 l[k].place) := by rw [hb.cell bB]; exact cc 1 _ rfl
        have c2 : wr.cell? ⟨b, off + k * 3 + 2, none⟩ = some (.int .i64 l[k].long) := by rw [hb.cell bB]; exact cc 2 _ rfl
        clear cc
        have D0 := Blk.new wr 35 l[k].cells.toArray
        unfold Stroke.cells at D0
        unfold Stroke.agg at HK
        replace hL := hL.alloc (.cells #[.int .i64 l[k].tool, .int .i64 l[k].place, .int .i64 l[k].long] 35)
        replace hkl := Lib.hid hkl
        generalize ((l.take k).map strT) = P at *
        generalize strT l[k] = T at *
        generalize l[k].tool = t0 at *
        generalize l[k].place = p0 at *
        generalize l[k].long = l0 at *
        clear hb
        go_wp2_with (first | (go_at_call 34; refine Calls.mono (HK.out _ hL.hb) ?_; rintro e w2 ⟨rfl, hb2⟩; replace hL := (hL.below hb2).alloc (.cells #[.string (bs T)] 9)) | (at_builtin; refine wpList_append_rows _ rfl _ _ _ rfl w.heap.size 9 ii _ 1 16 Tryz.underlying49 hi hz0 hz1 hz2 rfl (by omega) _ _ rfl hL.o _ _ _ _ ([T].map str1) rfl rfl (Sl.blk1 (Blk.new' _ _ _ rfl)) str1_one (by simp only [List.length_map]; have := hkl.out; unfold maxLen; omega) (by simp only [List.length_map]; have := hkl.out; omega) (hL.hb.size) ?_; intro v1 w3 hO2 hg2 hat; have hL2 := hL.app hg2 hO2))
        go_roundw
        case rel => exact ⟨k + 1, by omega, by go_num, by rw [hnk.out, List.map_append]; exact hL2⟩
        case measure => simp [intOf]; omega
      · have : k = l.length := by omega
        subst this
        have hO := hL.o
        have hbw := hL.hb
        rw [List.take_length] at hO
        obtain ⟨A9, c9, hv, _⟩ := hO.form
        rw [List.length_map, List.length_map] at hv
        subst hv
        have H1 := join_own A9 c9 w.heap.size (l.map strT) [32] wr (by rw [List.length_map]; exact hO) (by simp; omega) (by have := hJ.out; rw [List.length_map] at this; omega)
        rw [List.length_map] at H1
        replace H1 := Lib.hid H1
        clear hL hO
        go_wp2_with (go_at_call 35; refine Calls.mono H1.out ?_; rintro e w4 ⟨rfl, hb4⟩)
        go_ret2
        exact ⟨by rw [hR.out]; rfl, hbw.trans (hb4.mono hbw.size)⟩
  · have hR := r2 h0
    subst hR
    have hne : (strokesCode l == 0) = false := by simpa using h0
    clear r1 r2 h0 hs hl
    generalize strokesCode l = cd at *
    go_enter Tryz.func12, Tryz.ntmps12
    go_wp2_with fail
    refine Calls.mono HC.out ?_; rintro e w1 ⟨rfl, hb1⟩
    go_wp2
    go_ret2
    exact ⟨rfl, hb1⟩
end Go.Proofs.YtkjommcmeinkaaaGreatDoor
