/- SortStrokes: the reference's sort. Condition: strokes whose tool is one of the two. -/
import Derived.Test.YtkjommcmeinkaaaGreatDoorCmpSt
import Derived.Test.YtkjommcmeinkaaaGreatDoorOwnSort
import Derived.Test.YtkjommcmeinkaaaGreatDoorStrokes
import Derived.Test.YtkjommcmeinkaaaGreatDoorCloneStroke
namespace Go.Proofs.YtkjommcmeinkaaaGreatDoor
open Go.RowKit Go.Sort
def befB (x y : Stroke) : Bool := if x.tool ≠ y.tool then decide (x.tool < y.tool) else if x.place ≠ y.place then (decide (x.place < y.place) == decide (x.tool = 1)) else decide (x.long < y.long)
theorem befB_lt {x y : Stroke} (h : x.tool = 1 ∨ x.tool = 2) : befB x y = ltOf cfSort x y := by
  rw [Bool.eq_iff_iff, ltSort_t]
  unfold befB StrokeLt
  split
  · simp only [decide_eq_true_eq]; omega
  · split
    · simp only [beq_iff_eq, decide_eq_decide]; omega
    · simp only [decide_eq_true_eq]; omega
set_option maxRecDepth 100000 in
theorem l32Before_c (x y : Stroke) (w : World) : Calls Tryz.prog 44 #[x.agg, y.agg] w fun e w' => e = .returned (.bool (befB x y)) ∧ Below w.heap.size w w' := by
  obtain ⟨a, b, c⟩ := x
  obtain ⟨d, e, f⟩ := y
  unfold Stroke.agg
  have hB : Below w.heap.size w ((w.alloc (.cells #[.int .i64 a, .int .i64 b, .int .i64 c] 35)).alloc (.cells #[.int .i64 d, .int .i64 e, .int .i64 f] 35)) := (by repeat (first | with_reducible exact Below.refl _ _ | with_reducible apply below_drewN' | with_reducible apply Below.drew | (with_reducible refine Below.alloc ?_ (by first | omega | (simp; omega) | simp | (have := (Below.refl _ _).size; omega) | (have := (Below.refl _ _).size; simp; omega)) _) | (with_reducible refine Below.setCell ?_ (by first | omega | (simp; omega) | simp | (have := (Below.refl _ _).size; omega) | (have := (Below.refl _ _).size; simp; omega)) _) | exact Below.refl _ _))
  by_cases h1 : a = d
  · by_cases h2 : b = e
    · have h1' : (a != d) = false := by simp [h1]
      have h2' : (b != e) = false := by simp [h2]
      have e1 : befB ⟨a, b, c⟩ ⟨d, e, f⟩ = decide (c < f) := by unfold befB; rw [if_neg (by simpa using h1), if_neg (by simpa using h2)]
      have E1 := Lib.hid e1
      clear h1 h2 e1
      go_enter Tryz.func44, Tryz.ntmps44
      go_wp2
      go_ret
      exact ⟨ret_bool E1.out.symm, hB⟩
    · have h1' : (a != d) = false := by simp [h1]
      have h2' : (b != e) = true := by simp [h2]
      have e1 : befB ⟨a, b, c⟩ ⟨d, e, f⟩ = (decide (b < e) == decide (a = 1)) := by unfold befB; rw [if_neg (by simpa using h1), if_pos (by simpa using h2)]
      have E1 := Lib.hid e1
      clear h1 h2 e1
      by_cases h3 : b < e
      · have d3 : decide (b < e) = true := decide_eq_true h3
        by_cases h4 : a = 1
        · have h4' : (a == 1) = true := by simp [h4]
          have E2 := Lib.hid (show (decide (b < e) == decide (a = 1)) = true by rw [d3, decide_eq_true h4]; rfl)
          clear h4
          go_enter Tryz.func44, Tryz.ntmps44
          go_wp2
          go_ret
          exact ⟨ret_bool (E1.out.trans E2.out).symm, hB⟩
        · have h4' : (a == 1) = false := by simp [h4]
          have E2 := Lib.hid (show (decide (b < e) == decide (a = 1)) = false by rw [d3, decide_eq_false h4]; rfl)
          clear h4
          go_enter Tryz.func44, Tryz.ntmps44
          go_wp2
          go_ret
          exact ⟨ret_bool (E1.out.trans E2.out).symm, hB⟩
      · have d3 : decide (b < e) = false := decide_eq_false h3
        by_cases h4 : a = 1
        · have h4' : (a == 1) = true := by simp [h4]
          have E2 := Lib.hid (show (decide (b < e) == decide (a = 1)) = false by rw [d3, decide_eq_true h4]; rfl)
          clear h4
          go_enter Tryz.func44, Tryz.ntmps44
          go_wp2
          go_ret
          exact ⟨ret_bool (E1.out.trans E2.out).symm, hB⟩
        · have h4' : (a == 1) = false := by simp [h4]
          have E2 := Lib.hid (show (decide (b < e) == decide (a = 1)) = true by rw [d3, decide_eq_false h4]; rfl)
          clear h4
          go_enter Tryz.func44, Tryz.ntmps44
          go_wp2
          go_ret
          exact ⟨ret_bool (E1.out.trans E2.out).symm, hB⟩
  · have h1' : (a != d) = true := by simp [h1]
    have e1 : befB ⟨a, b, c⟩ ⟨d, e, f⟩ = decide (a < d) := by unfold befB; rw [if_pos (by simpa using h1)]
    have E1 := Lib.hid e1
    clear h1 e1
    go_enter Tryz.func44, Tryz.ntmps44
    go_wp2
    go_ret
    exact ⟨ret_bool E1.out.symm, hB⟩
/-! ### the plain law: an insertion at the right place keeps a list sorted -/
section
variable {α : Type} {lt : α → α → Bool}
def LSorted (lt : α → α → Bool) (l : List α) : Prop := l.Pairwise fun x y => lt y x = false
/-- where x is laid in -/
def insAt (lt : α → α → Bool) (x : α) (l : List α) (at_ : Nat) : Prop := at_ ≤ l.length ∧ (∀ h : at_ - 1 < l.length, 0 < at_ → lt x l[at_ - 1] = false) ∧ (∀ j (h : j < l.length), at_ ≤ j → lt x l[j] = true)
theorem ins_sorted (hS : SWO lt) {x : α} {l : List α} {p : Nat} (hl : LSorted lt l) (h : insAt lt x l p) : LSorted lt (l.take p ++ [x] ++ l.drop p) := by
  obtain ⟨h1, h2, h3⟩ := h
  unfold LSorted at *
  have hp : ((l.take p) ++ (l.drop p)).Pairwise fun x y => lt y x = false := by rw [List.take_append_drop]; exact hl
  rw [List.pairwise_append] at hp
  obtain ⟨p1, p2, p3⟩ := hp
  have before : ∀ y ∈ l.take p, lt x y = false := fun y hy => by
    obtain ⟨i, hi, rfl⟩ := List.getElem_of_mem hy
    rw [List.getElem_take]
    have hil : i < p := by have := hi; rw [List.length_take] at this; omega
    have hlast := h2 (by omega) (by omega)
    rcases Nat.lt_or_ge i (p - 1) with hlt | hge
    · have hpw := List.pairwise_iff_getElem.1 hl i (p - 1) (by omega) (by omega) hlt
      exact hS.ntrans _ _ _ hlast hpw
    · have : i = p - 1 := by omega
      subst this; exact hlast
  have behind : ∀ y ∈ l.drop p, lt y x = false := fun y hy => by
    obtain ⟨i, hi, rfl⟩ := List.getElem_of_mem hy
    rw [List.getElem_drop]
    have hi' : p + i < l.length := by rw [List.length_drop] at hi; omega
    exact SWO.asymmA hS (h3 (p + i) hi' (by omega))
  rw [List.append_assoc, List.pairwise_append]
  refine ⟨p1, ?_, ?_⟩
  · rw [List.singleton_append, List.pairwise_cons]
    exact ⟨behind, p2⟩
  · intro a ha b hb
    rw [List.singleton_append, List.mem_cons] at hb
    rcases hb with rfl | hb
    · exact before a ha
    · exact p3 a ha b hb
theorem ins_perm {x : α} {l m : List α} {p : Nat} (hp : l.Perm m) : (l.take p ++ [x] ++ l.drop p).Perm (m ++ [x]) := by
  have h1 : (l.take p ++ [x] ++ l.drop p).Perm (l.take p ++ l.drop p ++ [x]) := by
    rw [List.append_assoc, List.append_assoc]
    exact List.Perm.append_left _ List.perm_append_comm
  rw [List.take_append_drop] at h1
  exact h1.trans (hp.append_right _)
/-- there is one sorted permutation -/
theorem sorted_one [Inhabited α] (hS : SWO lt) (hT : ∀ x y, lt x y = false → lt y x = false → x = y) {l m : List α} (h : LSorted lt l) (hp : l.Perm m) : l = m.mergeSort (fun x y => !lt y x) := by
  have hl : l.length = m.length := hp.length_eq
  have := sorted_unique_holds hS hT m.toArray l.toArray ⟨by simp [hl], fun i hi => by
    rcases hi with hi | hi
    · omega
    · rw [getElem!_neg _ i (by simp at hi ⊢; omega), getElem!_neg _ i (by simp at hi ⊢; omega)], by
    simp only [Array.toList_extract, List.extract_eq_take_drop, List.drop_zero, Nat.sub_zero]
    rw [List.take_of_length_le (by simp [hl]), List.take_of_length_le (by simp)]
    exact hp⟩ (fun i j hi hij hj => by
      have hj' : j < l.length := by simp at hj; omega
      rw [getElem!_pos _ j (by simpa using hj'), getElem!_pos _ i (by simp; omega)]
      simpa using List.pairwise_iff_getElem.1 h i j (by omega) hj' hij)
  simpa using this
theorem lsorted_of [Inhabited α] {d : Array α} (h : SortedIn lt 0 d.size d) : LSorted lt d.toList := by
  unfold LSorted
  rw [List.pairwise_iff_getElem]
  intro i j hi hj hij
  have := h i j (Nat.zero_le _) hij (by simpa using hj)
  rw [getElem!_pos _ j (by simpa using hj), getElem!_pos _ i (by simpa using hi)] at this
  simpa using this
end
def sortSt (l : List Stroke) : List Stroke := l.mergeSort (fun x y => !ltOf cfSort y x)
def sortOrd (l : List Stroke) : List Stroke := l.mergeSort (fun x y => !ltOf cfOrd y x)
theorem Stroke.oneD {l : List Stroke} {m : Nat} : ∀ y ∈ (l.map Stroke.cells).drop m, ∀ u ∈ y, u.oneCell' = true := fun y hy => Stroke.one y (List.mem_of_mem_drop hy)
theorem Stroke.oneT {l : List Stroke} {m : Nat} : ∀ y ∈ (l.map Stroke.cells).take m, ∀ u ∈ y, u.oneCell' = true := fun y hy => Stroke.one y (List.mem_of_mem_take hy)
theorem block_lt {w : World} {b o : Nat} {v : Value} (h : w.cell? ⟨b, o, none⟩ = some v) : b < w.heap.size := by
  rcases Nat.lt_or_ge b w.heap.size with hlt | hge
  · exact hlt
  · unfold World.cell? at h
    rw [Array.getElem?_eq_none hge] at h
    cases h
theorem below_keepc {B : Nat} {W w2 : World} (hb : Below B W w2) {b o : Nat} {v : Value} (hc : W.cell? ⟨b, o, none⟩ = some v) (hB : W.heap.size ≤ B := by exact Nat.le_refl _) : w2.cell? ⟨b, o, none⟩ = some v := by
  rw [hb.cell (show b < B from Nat.lt_of_lt_of_le (block_lt hc) hB)]; exact hc
theorem belX_alloc {B : Nat} {w0 w : World} {X : Prop} (h : RowKit.Below B w0 w ∧ X) (o : Obj) (hB : B ≤ w0.heap.size) : RowKit.Below B w0 (w.alloc o) := h.1.alloc (Nat.le_trans hB h.1.size) _
theorem belX {B : Nat} {w0 w : World} {X : Prop} (h : RowKit.Below B w0 w ∧ X) : RowKit.Below B w0 w := h.1
theorem run_slice_fromK {P : Program} (W : World) (t e : TypeId) (k : Nat) (ht : P.underlying t = some (.slice e)) (hz : ∀ w, (Go.sizeOf e).run P w = .ok k w) (g n cap lo : Nat) (h1 : lo ≤ n) (_ : n ≤ cap) :
    (Instr.slice t (.slice (some ⟨g, 0, none⟩) n cap) (some (.int .i64 (lo : Int))) none none).run P W = .ok (.slice (if cap = lo then some ⟨g, 0, none⟩ else (some (⟨g, 0, none⟩ : Addr)).map (·.add (lo * k))) (n - lo) (cap - lo)) W := by
  have ht' : P.underlying t = some (.slice (P.elem t)) := by simp [Program.elem, ht]
  have he : P.elem t = e := by simp [Program.elem, ht]
  rw [run_slice_l W t _ _ _ ht' .i64 _ (by omega) (by omega), he, hz]
  by_cases h0 : cap = lo
  · simp [Result.andThen, sliced, h0]
  · simp [Result.andThen, sliced, h0]
theorem Own.of_empty {w : World} {base n : Nat} {e : TypeId} {k : Nat} (h : Blk w n e #[]) (hb : base ≤ n) : Own w base e k (.slice (some ⟨n, 0, none⟩) 0 0) [] :=
  ⟨⟨by simp, .inr ⟨n, 0, #[], rfl, hb, h, Nat.le_refl _, Nat.zero_le _, by simp, by simp⟩⟩, by simp⟩
theorem Own.some_ {w : World} {base : Nat} {e : TypeId} {k : Nat} {v : Value} {xs : List (List Value)} (h : Own w base e k v xs) (hx : 0 < xs.length) : ∃ g c, v = .slice (some ⟨g, 0, none⟩) xs.length c := by
  rcases h.1.2 with ⟨_, h0⟩ | ⟨g, cap, cur, rfl, _⟩
  · omega
  · exact ⟨g, cap, rfl⟩
theorem base_le {w w' : World} (h : w.heap.size ≤ w'.heap.size) (o : Obj) : w.heap.size ≤ (w'.alloc o).heap.size := by simp; omega
def SortInv (l R : List Stroke) (k : Nat) : Prop := LSorted (ltOf cfSort) R ∧ R.Perm (l.take k)
theorem SortInv.next {l R : List Stroke} {k p : Nat} (h : SortInv l R k) (hk : k < l.length) (hi : insAt (ltOf cfSort) l[k] R p) : SortInv l (R.take p ++ [l[k]] ++ R.drop p) (k + 1) :=
  ⟨ins_sorted swoSort h.1 hi, by rw [List.take_succ_eq_append_getElem hk]; exact ins_perm h.2⟩
set_option maxRecDepth 100000 in
set_option maxHeartbeats 2000000 in
theorem l32Sorted_c (A : Option Addr) (c : Nat) (l : List Stroke) (w : World) (hl : l.length ≤ 1000000) (ht : ∀ x ∈ l, x.tool = 1 ∨ x.tool = 2) (hs : Sl w w.heap.size 3 A (l.map Stroke.cells)) :
    Calls Tryz.prog 26 #[.slice A l.length c] w fun e w' => ∃ A' c', e = .returned (.slice A' (sortSt l).length c') ∧ Own w' w.heap.size 35 3 (.slice A' (sortSt l).length c') ((sortSt l).map Stroke.cells) ∧ Below w.heap.size w w' := by
  obtain ⟨i0, hi, hz0, hz1, hz2⟩ := info_parts info_Stroke
  have HT := Lib.hid ht
  clear ht
  go_enter Tryz.func26, Tryz.ntmps26
  go_wp2_with fail
  go_loopw [3, 4] (fun v i wr => ∃ (k : Nat) (R : List Stroke), k ≤ l.length ∧ i = .int .i64 k ∧ R.length = k ∧ (∃ g c, v = .slice (some ⟨g, 0, none⟩) R.length c) ∧ Hid (SortInv l R k) ∧ Own wr w.heap.size 35 3 v (R.map Stroke.cells) ∧ Below w.heap.size w wr) (fun _ i _ => l.length - (intOf i).toNat)
  case atStart => exact ⟨0, [], Nat.zero_le _, rfl, rfl, ⟨_, _, rfl⟩, (show SortInv l [] 0 from ⟨List.Pairwise.nil, by simp⟩), by simpa using Own.empty (e := 35) (k := 3) (w := w) (Nat.le_refl _), (by repeat (first | with_reducible exact Below.refl _ _ | with_reducible apply below_drewN' | with_reducible apply Below.drew | (with_reducible refine Below.alloc ?_ (by first | omega | (simp; omega) | simp | (have := (Below.refl _ _).size; omega) | (have := (Below.refl _ _).size; simp; omega)) _) | (with_reducible refine Below.setCell ?_ (by first | omega | (simp; omega) | simp | (have := (Below.refl _ _).size; omega) | (have := (Below.refl _ _).size; simp; omega)) _) | exact Below.refl _ _))⟩
  case round =>
    obtain ⟨k, R, hk, rfl, hRk, ⟨g, Rc, hv⟩, hinv, hO, hb⟩ := hrel
    have hbs := hb.size
    by_cases hlt : k < l.length
    · obtain ⟨b, off, rfl, bB, cc⟩ := hs.at_ (i := k) (by simpa using hlt)
      simp only [List.getElem_map] at cc
      have q0 : ∀ wq : World, Below w.heap.size w wq → wq.cell? ⟨b, off + k * 3, none⟩ = some (.int .i64 l[k].tool) ∧ wq.cell? ⟨b, off + k * 3 + 1, none⟩ = some (.int .i64 l[k].place) ∧ wq.cell? ⟨b, off + k * 3 + 2, none⟩ = some (.int .i64 l[k].long) := fun wq hq =>
        ⟨by rw [hq.cell bB]; exact cc 0 _ rfl, by rw [hq.cell bB]; exact cc 1 _ rfl, by rw [hq.cell bB]; exact cc 2 _ rfl⟩
      clear cc
      have Q0 := Lib.hid q0
      clear q0
      have htx := HT.out l[k] (List.getElem_mem hlt)
      have hnext := fun p (h : insAt (ltOf cfSort) l[k] R p) => Lib.hid (hinv.out.next hlt h)
      subst hv
      have hRc := hO.le_cap
      have HRk := Lib.hid hRk
      clear hRk
      have HTX := Lib.hid htx
      clear htx
      generalize hx : l[k] = x at *
      have HX := Lib.hid hx
      clear hx
      obtain ⟨xt, xp, xl⟩ := x
      have hRl : R.length ≤ 1000000 := by have := HRk.out; omega
      go_wp2_with fail
      go_loopw [5] (fun p wr => ∃ q : Nat, q ≤ R.length ∧ p = .int .i64 q ∧ Hid (∀ j (h : j < R.length), q ≤ j → ltOf cfSort ⟨xt, xp, xl⟩ R[j] = true) ∧ Own wr w.heap.size 35 3 (.slice (some ⟨g, 0, none⟩) R.length Rc) (R.map Stroke.cells) ∧ Below w.heap.size w wr) (fun p _ => (intOf p).toNat)
      case atStart => exact ⟨R.length, Nat.le_refl _, rfl, (show ∀ j (h : j < R.length), R.length ≤ j → _ from fun j h h' => by omega), hO, hb⟩
      case round =>
        clear hO hb hbs
        obtain ⟨q, hq, rfl, hge, hO, hb⟩ := hrel
        have hbs := hb.size
        by_cases hq0 : 0 < q
        · obtain ⟨p, rfl⟩ : ∃ p, q = p + 1 := ⟨q - 1, by omega⟩
          obtain ⟨g', goff, hgA, hgB, hgc⟩ := hO.sl.at_ (i := p) (by simp; omega)
          simp only [Option.some.injEq, Addr.mk.injEq, and_true] at hgA
          obtain ⟨rfl, rfl⟩ := hgA
          simp only [List.getElem_map, Nat.zero_add] at hgc
          have y0 : wr.cell? ⟨g, p * 3, none⟩ = some (.int .i64 R[p].tool) := hgc 0 _ rfl
          have y1 : wr.cell? ⟨g, p * 3 + 1, none⟩ = some (.int .i64 R[p].place) := hgc 1 _ rfl
          have y2 : wr.cell? ⟨g, p * 3 + 2, none⟩ = some (.int .i64 R[p].long) := hgc 2 _ rfl
          clear hgc
          obtain ⟨c0, c1, c2⟩ := Q0.out _ hb
          have zb : b < wr.heap.size := by omega
          have zg : g < wr.heap.size := hO.block_ge.2
          have hbef := fun W => l32Before_c ⟨xt, xp, xl⟩ R[p] W
          rw [befB_lt HTX.out] at hbef
          have k0 : (0 : Int) ≤ (k : Int) := by omega
          have k1 : (k : Int) < (l.length : Int) := by omega
          have p0 : (0 : Int) ≤ (p : Int) := by omega
          have p1 : (p : Int) < (R.length : Int) := by omega
          have p2 : (p : Int) + 1 - 1 = (p : Int) := by omega
          have p3 : IntKind.i64.wrap ((p : Int) + 1 - 1) = (p : Int) := by rw [IntKind.wrap_i64]; omega
          have p4 : IntKind.i64.wrap (p : Int) = (p : Int) := by rw [IntKind.wrap_i64]; omega
          have p5 : (0 : Int) < (p : Int) + 1 := by omega
          have hge' := fun j (h : j < R.length) (h' : p ≤ j) (hp : ltOf cfSort ⟨xt, xp, xl⟩ R[p] = true) => Lib.hid (show ltOf cfSort ⟨xt, xp, xl⟩ R[j] = true by
            rcases Nat.lt_or_ge p j with hh | hh
            · exact hge.out j h (by omega)
            · have : p = j := by omega
              subst this; exact hp)
          have hI0 := fun (hp : ltOf cfSort ⟨xt, xp, xl⟩ R[p] = false) => Lib.hid (show insAt (ltOf cfSort) ⟨xt, xp, xl⟩ R (p + 1) from ⟨hq, fun _ _ => by simpa using hp, hge.out⟩)
          cases hL : ltOf cfSort ⟨xt, xp, xl⟩ R[p] with
          | true =>
            rw [hL] at hbef
            have hbef := fun W => Lib.hid (hbef W)
            have HG := fun j h h' => (hge' j h h' hL).out
            have HG := Lib.hid HG
            clear hge' hI0 hL
            unfold Stroke.agg at hbef
            generalize R[p] = y at *
            go_wp2_with fail
            go_region_held3 (fun w' => w'.cell? ⟨b, off + k * 3, none⟩ = some (.int .i64 xt) ∧ w'.cell? ⟨b, off + k * 3 + 1, none⟩ = some (.int .i64 xp) ∧ w'.cell? ⟨b, off + k * 3 + 2, none⟩ = some (.int .i64 xl) ∧ w'.cell? ⟨g, p * 3, none⟩ = some (.int .i64 y.tool) ∧ w'.cell? ⟨g, p * 3 + 1, none⟩ = some (.int .i64 y.place) ∧ w'.cell? ⟨g, p * 3 + 2, none⟩ = some (.int .i64 y.long)) (go_keep) (first | (go_at_call 44; refine (hbef _).out.mono ?_; rintro e w2 ⟨rfl, hb2⟩; have s0 := below_keepc hb2 (show wr.drew.cell? _ = _ from c0); have s1 := below_keepc hb2 (show wr.drew.cell? _ = _ from c1); have s2 := below_keepc hb2 (show wr.drew.cell? _ = _ from c2); have s3 := below_keepc hb2 (show wr.drew.cell? _ = _ from y0); have s4 := below_keepc hb2 (show wr.drew.cell? _ = _ from y1); have s5 := below_keepc hb2 (show wr.drew.cell? _ = _ from y2)))
            have hO2 : Own w2 _ _ _ _ _ := Own.below (show Own wr.drew _ _ _ _ _ from hO.drewN 1) hb2
            have hB2 : Below w.heap.size w w2 := (show Below w.heap.size w wr.drew from hb.drew).trans (hb2.mono hbs)
            go_wp2
            go_roundw
            case rel => exact ⟨p, by omega, by first | rfl | go_num, HG, hO2, hB2⟩
            case measure => first | (simp [intOf]; done) | (simp [intOf]; omega)
          | false =>
            rw [hL] at hbef
            have hbef := fun W => Lib.hid (hbef W)
            have hI := hI0 hL
            clear hge' hI0 hL
            unfold Stroke.agg at hbef
            generalize R[p] = y at *
            go_wp2_with fail
            go_region_held3 (fun w' => w'.cell? ⟨b, off + k * 3, none⟩ = some (.int .i64 xt) ∧ w'.cell? ⟨b, off + k * 3 + 1, none⟩ = some (.int .i64 xp) ∧ w'.cell? ⟨b, off + k * 3 + 2, none⟩ = some (.int .i64 xl) ∧ w'.cell? ⟨g, p * 3, none⟩ = some (.int .i64 y.tool) ∧ w'.cell? ⟨g, p * 3 + 1, none⟩ = some (.int .i64 y.place) ∧ w'.cell? ⟨g, p * 3 + 2, none⟩ = some (.int .i64 y.long)) (go_keep) (first | (go_at_call 44; refine (hbef _).out.mono ?_; rintro e w2 ⟨rfl, hb2⟩; have s0 := below_keepc hb2 (show wr.drew.cell? _ = _ from c0); have s1 := below_keepc hb2 (show wr.drew.cell? _ = _ from c1); have s2 := below_keepc hb2 (show wr.drew.cell? _ = _ from c2); have s3 := below_keepc hb2 (show wr.drew.cell? _ = _ from y0); have s4 := below_keepc hb2 (show wr.drew.cell? _ = _ from y1); have s5 := below_keepc hb2 (show wr.drew.cell? _ = _ from y2)))
            have hO2 : Own w2 _ _ _ _ _ := Own.below (show Own wr.drew _ _ _ _ _ from hO.drewN 1) hb2
            have hB2 : Below w.heap.size w w2 := (show Below w.heap.size w wr.drew from hb.drew).trans (hb2.mono hbs)
            clear hO hb hbs c0 c1 c2 y0 y1 y2 hb2 p0 p1 p2 p3 p4 p5 k0 k1 hbef hq0 hge
            have hO := hO2
            have hb := hB2
            clear hO2 hB2
            obtain ⟨q, hqp⟩ : ∃ q, q = p + 1 := ⟨_, rfl⟩
            have hqz : (p : Int) + 1 = (q : Int) := by omega
            rw [← hqp] at hI
            clear hqp
            have hbs := hb.size
            obtain ⟨c0, c1, c2⟩ := Q0.out _ hb
            have hsl := hO.sl
            have k0 : (0 : Int) ≤ (k : Int) := by omega
            have k1 : (k : Int) < (l.length : Int) := by omega
            have p0 : (0 : Int) ≤ (q : Int) := by omega
            have p1 : (q : Int) ≤ (R.length : Int) := by omega
            have p2 : (R.length : Int) ≤ (Rc : Int) := by omega
            have p3 : (q : Int) ≤ (Rc : Int) := by omega
            have p4 : (0 : Int) ≤ (R.length : Int) := by omega
            have HN := hnext q hI.out
            have hq' := hI.out.1
            have hlen1 : ((R.map Stroke.cells).take q).length = q := by simp; omega
            have hlen2 : ((R.map Stroke.cells).drop q).length = R.length - q := by simp
            have HL1 := Lib.hid hlen1
            have HL2 := Lib.hid hlen2
            clear hlen1 hlen2 hI
            have HSL := Lib.hid hsl
            clear hsl
            have hAll := Lib.hid (fun W (h : RowKit.Below w2.heap.size w2 W) => (⟨h, below_keepc h c0, below_keepc h c1, below_keepc h c2⟩ : RowKit.Below w2.heap.size w2 W ∧ W.cell? ⟨b, off + k * 3, none⟩ = some (.int .i64 xt) ∧ W.cell? ⟨b, off + k * 3 + 1, none⟩ = some (.int .i64 xp) ∧ W.cell? ⟨b, off + k * 3 + 2, none⟩ = some (.int .i64 xl)))
            have t1 := Lib.hid trivial
            have hrun := fun W => run_slice_fromK (P := Tryz.prog) W 24 35 3 Tryz.underlying24 (fun _ => by kernel_rfl) g R.length Rc q hq' (by omega)
            have hdr := HSL.out.drop (m := q) (cap := Rc) (by simp; omega) (by simp; omega)
            obtain ⟨AD, hAD⟩ : ∃ AD, AD = (if Rc = q then some (⟨g, 0, none⟩ : Addr) else (some (⟨g, 0, none⟩ : Addr)).map (·.add (q * 3))) := ⟨_, rfl⟩
            rw [← hAD] at hdr
            simp only [← hAD] at hrun
            have HDR := Lib.hid hdr
            clear hdr hAD
            go_wp2_with fail
            go_region_held3 (fun w' => RowKit.Below w2.heap.size w2 w' ∧ w'.cell? ⟨b, off + k * 3, none⟩ = some (.int .i64 xt) ∧ w'.cell? ⟨b, off + k * 3 + 1, none⟩ = some (.int .i64 xp) ∧ w'.cell? ⟨b, off + k * 3 + 2, none⟩ = some (.int .i64 xl))
              (first | exact hAll.out _ (RowKit.Below.drew (RowKit.Below.refl _ _)) | assumption | exact hAll.out _ (by assumption) | exact hAll.out _ (belX_alloc (by assumption) _ (Nat.le_refl _)) | fail)
              ((first | (have _t := t1; refine step_append_rows _ rfl _ _ _ (by rfl) w2.heap.size 35 i0 _ 3 24 Tryz.underlying24 hi hz0 hz1 hz2 rfl (by omega) _ [] (by rfl) (Own.of_empty (by first | exact Blk.new' _ _ _ (by simp) | exact (Blk.new' _ _ _ (by simp)).alloc _) (by simp)) w2.heap.size _ _ _ ((R.map Stroke.cells).take q) (by rfl) HL1.out ((HSL.out.below (belX (by assumption))).take q) Stroke.oneT (by simp; unfold maxLen; omega) (by simp; omega) (RowKit.Below.size (belX (by assumption))) ?_; intro v1 w3 hO3 hg3 hat3; have hb3 : RowKit.Below w2.heap.size w2 w3 := below_app (belX (by assumption)) hg3 (RowKit.Below.size (belX (by assumption))) (fun g hg => by simp [Value.ownBlock] at hg; omega); (try have BL1 : Blk w3 w2.heap.size 35 #[.int .i64 xt, .int .i64 xp, .int .i64 xl] := (hg3.block _ (by first | (simp; omega) | simp) (by simp [Value.ownBlock])).trans ((Blk.new' _ _ _ (by simp)).alloc _)); (try have BL1 : Blk w3 (w2.heap.size + 1) 35 #[.int .i64 xt, .int .i64 xp, .int .i64 xl] := (hg3.block _ (by first | (simp; omega) | simp) (by simp [Value.ownBlock])).trans (Blk.new' _ _ _ (by simp))); clear t1; have t2 := Lib.hid trivial) | (have _t := t2; refine step_append_rows _ rfl _ _ _ (by rfl) w2.heap.size 35 i0 _ 3 24 Tryz.underlying24 hi hz0 hz1 hz2 rfl (by omega) _ _ (by rfl) (by first | exact hO3 | exact hO3.alloc _) _ _ _ _ ([(⟨xt, xp, xl⟩ : Stroke)].map Stroke.cells) (by rfl) rfl (Sl.of_blk (by first | exact BL1 | exact Blk.new' _ _ _ (by first | rfl | simp)) _ rfl (by simp [Stroke.cells])) (Stroke.one (l := [⟨xt, xp, xl⟩])) (by simp; unfold maxLen; omega) (by simp; omega) (RowKit.Below.size (belX (by assumption))) ?_; intro v2 w4 hO4 hg4 hat4; have hb4 : RowKit.Below w2.heap.size w2 w4 := below_app (belX (by assumption)) hg4 (RowKit.Below.size (belX (by assumption))) hO3.ownGe; clear t2; have t3 := Lib.hid trivial) | (have _t := t3; refine step_append_rows _ rfl _ _ _ (by rfl) w2.heap.size 35 i0 _ 3 24 Tryz.underlying24 hi hz0 hz1 hz2 rfl (by omega) _ _ (by rfl) hO4 w2.heap.size _ _ _ ((R.map Stroke.cells).drop q) (by rfl) HL2.out (HDR.out.below (belX (by assumption))) Stroke.oneD (by simp; unfold maxLen; omega) (by simp; omega) (RowKit.Below.size (belX (by assumption))) ?_; intro v3 w5 hO5 hg5 hat5; have hb5 : RowKit.Below w2.heap.size w2 w5 := below_app (belX (by assumption)) hg5 (RowKit.Below.size (belX (by assumption))) hO4.ownGe; clear t3)))
            all_goals go_wp2
            all_goals
              have hrows : [] ++ (R.map Stroke.cells).take q ++ [(⟨xt, xp, xl⟩ : Stroke)].map Stroke.cells ++ (R.map Stroke.cells).drop q = (R.take q ++ [(⟨xt, xp, xl⟩ : Stroke)] ++ R.drop q).map Stroke.cells := by simp
              rw [hrows] at hO5
              obtain ⟨g5, c5, hv5⟩ := hO5.some_ (by simp; omega)
              have hlen5 : (R.take q ++ [(⟨xt, xp, xl⟩ : Stroke)] ++ R.drop q).length = k + 1 := by have := HRk.out; simp; omega
              clear hrows
              go_roundw
              case rel => exact ⟨k + 1, R.take q ++ [⟨xt, xp, xl⟩] ++ R.drop q, by omega, by go_num, hlen5, ⟨g5, c5, by rw [hv5]; simp⟩, HN, hO5.mono hbs, hb.trans (hb5.mono hbs)⟩
              case measure => simp [intOf]; omega
        · have hI := Lib.hid (show insAt (ltOf cfSort) ⟨xt, xp, xl⟩ R q from ⟨hq, fun _ h => by omega, hge.out⟩)
          have hd0 : decide ((q : Int) > 0) = false := decide_eq_false (by omega)
          have hd1 : decide ((0 : Int) < (q : Int)) = false := decide_eq_false (by omega)
          have hlz : ¬ (0 : Int) < (q : Int) := by omega
          go_wp2_with fail
          go_quiet (fail)
          have hO2 := hO.drewN nq
          have hB2 := below_drewN' hb nq
          generalize wr.drewN nq = w2 at *
          clear hO hb hbs hq0 hge hd0 hd1 hlz
          have hO := hO2
          have hb := hB2
          clear hO2 hB2
          have hbs := hb.size
          obtain ⟨c0, c1, c2⟩ := Q0.out _ hb
          have hsl := hO.sl
          have k0 : (0 : Int) ≤ (k : Int) := by omega
          have k1 : (k : Int) < (l.length : Int) := by omega
          have p0 : (0 : Int) ≤ (q : Int) := by omega
          have p1 : (q : Int) ≤ (R.length : Int) := by omega
          have p2 : (R.length : Int) ≤ (Rc : Int) := by omega
          have p3 : (q : Int) ≤ (Rc : Int) := by omega
          have p4 : (0 : Int) ≤ (R.length : Int) := by omega
          have HN := hnext q hI.out
          have hq' := hI.out.1
          have hlen1 : ((R.map Stroke.cells).take q).length = q := by simp; omega
          have hlen2 : ((R.map Stroke.cells).drop q).length = R.length - q := by simp
          have HL1 := Lib.hid hlen1
          have HL2 := Lib.hid hlen2
          clear hlen1 hlen2 hI
          have HSL := Lib.hid hsl
          clear hsl
          have hAll := Lib.hid (fun W (h : RowKit.Below w2.heap.size w2 W) => (⟨h, below_keepc h c0, below_keepc h c1, below_keepc h c2⟩ : RowKit.Below w2.heap.size w2 W ∧ W.cell? ⟨b, off + k * 3, none⟩ = some (.int .i64 xt) ∧ W.cell? ⟨b, off + k * 3 + 1, none⟩ = some (.int .i64 xp) ∧ W.cell? ⟨b, off + k * 3 + 2, none⟩ = some (.int .i64 xl)))
          have t1 := Lib.hid trivial
          have hrun := fun W => run_slice_fromK (P := Tryz.prog) W 24 35 3 Tryz.underlying24 (fun _ => by kernel_rfl) g R.length Rc q hq' (by omega)
          have hdr := HSL.out.drop (m := q) (cap := Rc) (by simp; omega) (by simp; omega)
          obtain ⟨AD, hAD⟩ : ∃ AD, AD = (if Rc = q then some (⟨g, 0, none⟩ : Addr) else (some (⟨g, 0, none⟩ : Addr)).map (·.add (q * 3))) := ⟨_, rfl⟩
          rw [← hAD] at hdr
          simp only [← hAD] at hrun
          have HDR := Lib.hid hdr
          clear hdr hAD
          go_wp2_with fail
          go_region_held3 (fun w' => RowKit.Below w2.heap.size w2 w' ∧ w'.cell? ⟨b, off + k * 3, none⟩ = some (.int .i64 xt) ∧ w'.cell? ⟨b, off + k * 3 + 1, none⟩ = some (.int .i64 xp) ∧ w'.cell? ⟨b, off + k * 3 + 2, none⟩ = some (.int .i64 xl))
            (first | exact hAll.out _ (RowKit.Below.drew (RowKit.Below.refl _ _)) | assumption | exact hAll.out _ (by assumption) | exact hAll.out _ (belX_alloc (by assumption) _ (Nat.le_refl _)) | fail)
            ((first | (have _t := t1; refine step_append_rows _ rfl _ _ _ (by rfl) w2.heap.size 35 i0 _ 3 24 Tryz.underlying24 hi hz0 hz1 hz2 rfl (by omega) _ [] (by rfl) (Own.of_empty (by first | exact Blk.new' _ _ _ (by simp) | exact (Blk.new' _ _ _ (by simp)).alloc _) (by simp)) w2.heap.size _ _ _ ((R.map Stroke.cells).take q) (by rfl) HL1.out ((HSL.out.below (belX (by assumption))).take q) Stroke.oneT (by simp; unfold maxLen; omega) (by simp; omega) (RowKit.Below.size (belX (by assumption))) ?_; intro v1 w3 hO3 hg3 hat3; have hb3 : RowKit.Below w2.heap.size w2 w3 := below_app (belX (by assumption)) hg3 (RowKit.Below.size (belX (by assumption))) (fun g hg => by simp [Value.ownBlock] at hg; omega); (try have BL1 : Blk w3 w2.heap.size 35 #[.int .i64 xt, .int .i64 xp, .int .i64 xl] := (hg3.block _ (by first | (simp; omega) | simp) (by simp [Value.ownBlock])).trans ((Blk.new' _ _ _ (by simp)).alloc _)); (try have BL1 : Blk w3 (w2.heap.size + 1) 35 #[.int .i64 xt, .int .i64 xp, .int .i64 xl] := (hg3.block _ (by first | (simp; omega) | simp) (by simp [Value.ownBlock])).trans (Blk.new' _ _ _ (by simp))); clear t1; have t2 := Lib.hid trivial) | (have _t := t2; refine step_append_rows _ rfl _ _ _ (by rfl) w2.heap.size 35 i0 _ 3 24 Tryz.underlying24 hi hz0 hz1 hz2 rfl (by omega) _ _ (by rfl) (by first | exact hO3 | exact hO3.alloc _) _ _ _ _ ([(⟨xt, xp, xl⟩ : Stroke)].map Stroke.cells) (by rfl) rfl (Sl.of_blk (by first | exact BL1 | exact Blk.new' _ _ _ (by first | rfl | simp)) _ rfl (by simp [Stroke.cells])) (Stroke.one (l := [⟨xt, xp, xl⟩])) (by simp; unfold maxLen; omega) (by simp; omega) (RowKit.Below.size (belX (by assumption))) ?_; intro v2 w4 hO4 hg4 hat4; have hb4 : RowKit.Below w2.heap.size w2 w4 := below_app (belX (by assumption)) hg4 (RowKit.Below.size (belX (by assumption))) hO3.ownGe; clear t2; have t3 := Lib.hid trivial) | (have _t := t3; refine step_append_rows _ rfl _ _ _ (by rfl) w2.heap.size 35 i0 _ 3 24 Tryz.underlying24 hi hz0 hz1 hz2 rfl (by omega) _ _ (by rfl) hO4 w2.heap.size _ _ _ ((R.map Stroke.cells).drop q) (by rfl) HL2.out (HDR.out.below (belX (by assumption))) Stroke.oneD (by simp; unfold maxLen; omega) (by simp; omega) (RowKit.Below.size (belX (by assumption))) ?_; intro v3 w5 hO5 hg5 hat5; have hb5 : RowKit.Below w2.heap.size w2 w5 := below_app (belX (by assumption)) hg5 (RowKit.Below.size (belX (by assumption))) hO4.ownGe; clear t3)))
          all_goals go_wp2
          all_goals
            have hrows : [] ++ (R.map Stroke.cells).take q ++ [(⟨xt, xp, xl⟩ : Stroke)].map Stroke.cells ++ (R.map Stroke.cells).drop q = (R.take q ++ [(⟨xt, xp, xl⟩ : Stroke)] ++ R.drop q).map Stroke.cells := by simp
            rw [hrows] at hO5
            obtain ⟨g5, c5, hv5⟩ := hO5.some_ (by simp; omega)
            have hlen5 : (R.take q ++ [(⟨xt, xp, xl⟩ : Stroke)] ++ R.drop q).length = k + 1 := by have := HRk.out; simp; omega
            clear hrows
            go_roundw
            case rel => exact ⟨k + 1, R.take q ++ [⟨xt, xp, xl⟩] ++ R.drop q, by omega, by go_num, hlen5, ⟨g5, c5, by rw [hv5]; simp⟩, HN, hO5.mono hbs, hb.trans (hb5.mono hbs)⟩
            case measure => simp [intOf]; omega
    · have hkl : k = l.length := by omega
      subst hkl
      have hR : R = sortSt l := by
        obtain ⟨h1, h2⟩ := hinv.out
        rw [List.take_length] at h2
        exact sorted_one swoSort totSort h1 h2
      subst hR
      obtain ⟨A', c', rfl, _⟩ := hO.form
      go_wp2
      go_ret
      exact ⟨A', c', by simp, by simpa using hO, hb⟩
end Go.Proofs.YtkjommcmeinkaaaGreatDoor
