/- IsEngraved: the program's and the reference's. No condition beyond the lists' lengths. -/
import Derived.Test.YtdlipjgdkjdgnaaSortT
import Derived.Test.YtdlipjgdkjdgnaaStrokesOf
import Derived.Laws.StructEq
namespace Go.Proofs.Ytdlipjgdkjdgnaa
open Go.Shelf Go.RowKit Go.Lib Go.Sort
set_option maxRecDepth 100000 in
theorem neStroke (x y : Stroke) (w : World) : Sem.run Try.prog (binOp .neq 91 x.agg y.agg) w = .ok (.bool (decide (x ≠ y))) w := by
  have hS : Try.prog.underlying 91 = some (.struct (Try.prog.fieldsOf 91)) := by kernel_rfl
  have hp : Try.prog.stoodInHeld 91 = false := by kernel_rfl
  have u3 := Try.underlying2
  have a3 := Try.isAgg2
  have z3 := Try.sizeOf2
  obtain ⟨a, b, c⟩ := x
  obtain ⟨d, e, f⟩ := y
  have hd : decide ((⟨a, b, c⟩ : Stroke) ≠ ⟨d, e, f⟩) = !(decide (a = d) && (decide (b = e) && decide (c = f))) := by
    rw [Bool.eq_iff_iff]; simp [Stroke.mk.injEq]
  rw [hd]
  clear hd
  unfold Stroke.agg
  by_cases h1 : a = d <;> by_cases h2 : b = e <;> by_cases h3 : c = f
  all_goals
    rw [run_neq_struct, show (10000 : Nat) = 9999 + 1 from rfl, run_equalIn_agg w 9999 91 _ _ hS hp]
    simp only [Program.fieldsOf, Try.underlying91]
    go_simp
theorem take_ne {α : Type} {l m : List α} {k : Nat} (hk : k < l.length) (hk' : k < m.length) (h : l[k] ≠ m[k]) : l ≠ m := fun e => by subst e; exact h rfl
theorem take_eq {α : Type} {l m : List α} {k : Nat} (hk : k < l.length) (hk' : k < m.length) (h : l[k] = m[k]) (ht : l.take k = m.take k) : l.take (k + 1) = m.take (k + 1) := by
  rw [List.take_succ_eq_append_getElem hk, List.take_succ_eq_append_getElem hk', ht, h]
set_option maxRecDepth 100000 in
set_option maxHeartbeats 1000000 in
theorem equalSt_c (A A' : Option Addr) (c c' : Nat) (l m : List Stroke) (w : World) (hl : l.length ≤ 1000000) (hs : Sl w w.heap.size 3 A (l.map Stroke.cells)) (hs' : Sl w w.heap.size 3 A' (m.map Stroke.cells)) :
    Calls Try.prog 79 #[.slice A l.length c, .slice A' m.length c'] w fun e w' => e = .returned (.bool (decide (l = m))) ∧ RowKit.Below w.heap.size w w' := by
  by_cases hn : l.length = m.length
  · have Hn := Lib.hid hn
    rw [← hn]
    clear hn
    have hGt : Try.prog.eqGuardType Try.prog.depth 91 = false := by kernel_rfl
    go_enter Try.func79, Try.ntmps79
    go_wp2_with fail
    go_loopw [13] (fun i wr => ∃ k : Nat, k ≤ l.length ∧ i = .int .i64 k ∧ Hid (l.take k = m.take k) ∧ RowKit.Below w.heap.size w wr) (fun i _ => l.length - (intOf i).toNat)
    case atStart => exact ⟨0, Nat.zero_le _, rfl, (show l.take 0 = m.take 0 by simp), RowKit.Below.refl _ _⟩
    case round =>
      obtain ⟨k, hk, rfl, hT, hb⟩ := hrel
      by_cases hlt : k < l.length
      · have hltm : k < m.length := by rw [← Hn.out]; exact hlt
        obtain ⟨b, off, rfl, hbB, hc⟩ := hs.at_ (i := k) (by simpa using hlt)
        obtain ⟨b', off', rfl, hbB', hc'⟩ := hs'.at_ (i := k) (by simpa using hltm)
        simp only [List.getElem_map] at hc hc'
        have c0 : wr.cell? ⟨b, off + k * 3, none⟩ = some (.int .i64 l[k].tool) := by rw [hb.cell hbB]; exact hc 0 _ rfl
        have c1 : wr.cell? ⟨b, off + k * 3 + 1, none⟩ = some (.int .i64 l[k].place) := by rw [hb.cell hbB]; exact hc 1 _ rfl
        have c2 : wr.cell? ⟨b, off + k * 3 + 2, none⟩ = some (.int .i64 l[k].long) := by rw [hb.cell hbB]; exact hc 2 _ rfl
        have d0 : wr.cell? ⟨b', off' + k * 3, none⟩ = some (.int .i64 m[k].tool) := by rw [hb.cell hbB']; exact hc' 0 _ rfl
        have d1 : wr.cell? ⟨b', off' + k * 3 + 1, none⟩ = some (.int .i64 m[k].place) := by rw [hb.cell hbB']; exact hc' 1 _ rfl
        have d2 : wr.cell? ⟨b', off' + k * 3 + 2, none⟩ = some (.int .i64 m[k].long) := by rw [hb.cell hbB']; exact hc' 2 _ rfl
        clear hc hc'
        have hne := neStroke l[k] m[k]
        have k0 : (0 : Int) ≤ (k : Int) := by omega
        have k1 : (k : Int) < (l.length : Int) := by omega
        by_cases he : l[k] = m[k]
        · have hd : decide (l[k] ≠ m[k]) = false := decide_eq_false (by simp [he])
          rw [hd] at hne
          have hT2 := Lib.hid (take_eq hlt hltm he hT.out)
          clear hd he
          unfold Stroke.agg at hne
          generalize l[k] = x at *
          generalize m[k] = y at *
          go_wp2_with fail
          go_quiet (fail)
          go_wp2
          go_roundw
          case rel => exact ⟨k + 1, by omega, by go_num, hT2, by first | exact below_drewN' hb _ | exact hb.drew⟩
          case measure => simp [intOf]; omega
        · have hd : decide (l[k] ≠ m[k]) = true := decide_eq_true he
          rw [hd] at hne
          have hT2 := Lib.hid (take_ne hlt hltm he)
          clear hd he
          unfold Stroke.agg at hne
          generalize l[k] = x at *
          generalize m[k] = y at *
          go_wp2_with fail
          go_quiet (fail)
          go_wp2
          go_ret
          exact ⟨ret_bool (decide_eq_false hT2.out).symm, by first | exact below_drewN' hb _ | exact hb.drew⟩
      · have hkl : k = l.length := by omega
        subst hkl
        have he : l = m := by
          have := hT.out
          rw [List.take_length, Hn.out, List.take_length] at this
          exact this
        have He := Lib.hid he
        clear he
        go_wp2
        go_ret
        exact ⟨ret_bool (decide_eq_true He.out).symm, hb⟩
  · have hne : ((l.length : Int) != (m.length : Int)) = true := by simp; omega
    have he : l ≠ m := fun e => hn (by rw [e])
    have He := Lib.hid he
    clear he hn
    go_enter Try.func79, Try.ntmps79
    go_wp2_with fail
    go_ret
    exact ⟨ret_bool (decide_eq_false He.out).symm, RowKit.Below.refl _ _⟩
theorem sortFuncSt_c (base : Nat) (A : Option Addr) (c : Nat) (l : List Stroke) (w : World) (hl : l.length ≤ 1000000) (hO : Own w base 91 3 (.slice A l.length c) (l.map Stroke.cells)) :
    Calls Try.prog 107 #[.slice A l.length c, .func (.func 108) #[] #[]] w fun e w' => e = .returned (.tuple #[]) ∧ Own w' base 91 3 (.slice A l.length c) ((sortOrd l).map Stroke.cells) ∧ RowKit.Below base w w' := by
  rcases hO.1.2 with ⟨hv, h0⟩ | ⟨g, cap, cur, hv, _⟩
  · simp only [Value.slice.injEq] at hv
    obtain ⟨rfl, hl0, rfl⟩ := hv
    obtain rfl : l = [] := List.eq_nil_of_length_eq_zero hl0
    have h := AnyF.slices_SortFunc_none (P := Try.prog) { Try.laySF with } none 0 (.func (.func 108) #[] #[]) w
    change Calls Try.prog 107 _ _ _ at h
    refine h.mono fun e w' ⟨he, hw⟩ => ?_
    subst hw
    exact ⟨he, by simpa [sortOrd] using hO, RowKit.Below.refl _ _⟩
  · simp only [Value.slice.injEq] at hv
    obtain ⟨rfl, _, rfl⟩ := hv
    have eg : ∀ args w, (callFunc 108 args).run Try.prog w = .ok (.enter 108 args) w := enters_of Try.func108 (by kernel_rfl) rfl
    have R := strokeRow hO
    have hcmp : CmpLays Try.prog 108 #[] Stroke.cells 3 cfOrd g 0 l.toArray.size w := fun m os dk' _ x y => (by rw [Array.append_empty]; exact ordClo_c x y _)
    have h := AnyQ.slices_SortFunc_total Try.laySF 3 (fun _ => by kernel_rfl) (fun _ => by kernel_rfl) Stroke.cells R.hk R.h1 cfOrd swoOrd 108 #[] g 0 c l.toArray w eg hcmp R.hH R.hblk (by simp; omega) totOrd
    change Calls Try.prog 107 _ _ _ at h
    rw [List.size_toArray] at h
    refine h.mono fun e w' ⟨he, n, os, hw⟩ => ?_
    have hS : SWK Stroke.cells 3 w g 0 (sortOrd l).toArray w' := ⟨n, os, by rw [hw]; rfl⟩
    have hlen : (sortOrd l).length = l.length := (List.mergeSort_perm _ _).length_eq
    exact ⟨he, own_sorted (enc := Stroke.cells) (k := 3) (fun _ => rfl) hO hlen hS, sort_below hO.block_ge.1 hO.block_ge.2 hS⟩
theorem sortOrd_len (l : List Stroke) : (sortOrd l).length = l.length := (List.mergeSort_perm _ _).length_eq
theorem inOrder_c (A : Option Addr) (c : Nat) (l : List Stroke) (w : World) (hl : l.length ≤ 1000000) (hs : Sl w w.heap.size 3 A (l.map Stroke.cells)) :
    Calls Try.prog 80 #[.slice A l.length c] w fun e w' => ∃ A' c', e = .returned (.slice A' (sortOrd l).length c') ∧ Own w' w.heap.size 91 3 (.slice A' (sortOrd l).length c') ((sortOrd l).map Stroke.cells) ∧ RowKit.Below w.heap.size w w' := by
  have hC := Lib.hid (cloneStroke_c A c l w (by omega) hs)
  rw [sortOrd_len]
  go_enter Try.func80, Try.ntmps80
  go_wp2_with (first
    | (go_at_call 70; refine hC.out.mono ?_; rintro e w2 ⟨A2, c2, rfl, hO2, hb2⟩)
    | (go_at_call 107; refine (sortFuncSt_c w.heap.size A2 c2 l w2 hl hO2).mono ?_; rintro e w3 ⟨rfl, hO3, hb3⟩))
  go_ret
  exact ⟨A2, c2, rfl, hO3, hb2.trans hb3⟩
/-! ### the plain law: both ways of sorting tell the same -/
theorem sorts_iff (l m : List Stroke) : (sortOrd l = sortOrd m) ↔ (sortSt l = sortSt m) := by
  have p1 : ∀ x : List Stroke, (sortOrd x).Perm x := fun x => List.mergeSort_perm _ _
  have p2 : ∀ x : List Stroke, (sortSt x).Perm x := fun x => List.mergeSort_perm _ _
  have s : ∀ (cf : Stroke → Stroke → Int), SWO (ltOf cf) → ∀ x : List Stroke, LSorted (ltOf cf) (x.mergeSort fun a b => !ltOf cf b a) := fun cf hO x => by
    have h := List.pairwise_mergeSort (le := fun a b => !ltOf cf b a) (fun a b c h1 h2 => by
      simp only [Bool.not_eq_true'] at *
      exact hO.ntrans _ _ _ h2 h1) (fun a b => by
      cases h : ltOf cf b a
      · simp
      · simp [SWO.asymmA hO h]) x
    exact h.imp fun h => by simpa using h
  constructor
  · intro h
    have hp : (sortSt l).Perm m := (p2 l).trans ((p1 l).symm.trans (h ▸ p1 m))
    exact sorted_one swoSort totSort (s cfSort swoSort l) hp
  · intro h
    have hp : (sortOrd l).Perm m := (p1 l).trans ((p2 l).symm.trans (h ▸ p2 m))
    exact sorted_one swoOrd totOrd (s cfOrd swoOrd l) hp
end Go.Proofs.Ytdlipjgdkjdgnaa
