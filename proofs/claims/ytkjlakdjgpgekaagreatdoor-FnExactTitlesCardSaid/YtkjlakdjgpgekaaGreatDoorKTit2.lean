/- Titles, the reference's: a title is put where it belongs if it is not there. Plain, and the walk. Conditions: the lengths. Slices of strings: the laws' comparison, marks and the marks' test. Conditions: the lengths. FnExactTitles: the walk. Conditions: what an argument always is. -/
import Derived.Deep.RegionHeld3
import Derived.Sort.Walk0
import Derived.Test.YtkjlakdjgpgekaaGreatDoorKOrg1
import Derived.Test.YtkjlakdjgpgekaaGreatDoorKOrg10
import Derived.Test.YtkjlakdjgpgekaaGreatDoorKOrg11
import Derived.Test.YtkjlakdjgpgekaaGreatDoorKTit1
set_option linter.unusedSimpArgs false
namespace Go.Proofs.YtkjlakdjgpgekaaGreatDoor
open Go.RowKit Go.Lib Go.Sort
/-- while a title's place is looked for from behind -/
structure Scan (R : List (List UInt8)) (t : List UInt8) (j q : Nat) (b : Bool) : Prop where
  jq : j ≤ q ∧ q ≤ R.length
  th : b = true ↔ t ∈ R.drop j
  hi : ∀ (i : Nat) (h : i < R.length), q ≤ i → ltStr t R[i] = true
  lo : ∀ (i : Nat) (h : i < R.length), j ≤ i → i < q → ltStr t R[i] = false
theorem Scan.init (R : List (List UInt8)) (t : List UInt8) : Scan R t R.length R.length false :=
  ⟨⟨Nat.le_refl _, Nat.le_refl _⟩, by simp, fun i h hq => by omega, fun i h h1 h2 => by omega⟩
theorem Scan.next {R : List (List UInt8)} {t : List UInt8} {j q : Nat} {b : Bool} (hs : LStrict ltStr R) (h : Scan R t (j + 1) q b) (hj : j < R.length) :
    Scan R t j (if ltStr t R[j] = true then j else q) (b || (R[j] == t)) := by
  have hd : R.drop j = R[j] :: R.drop (j + 1) := List.drop_eq_getElem_cons hj
  have hth : (b || (R[j] == t)) = true ↔ t ∈ R.drop j := by
    rw [hd, List.mem_cons, ← h.th, Bool.or_eq_true, beq_iff_eq]
    constructor
    · rintro (h1 | h1)
      · exact .inr h1
      · exact .inl h1.symm
    · rintro (h1 | h1)
      · exact .inr h1.symm
      · exact .inl h1
  by_cases hl : ltStr t R[j] = true
  · rw [if_pos hl]
    refine ⟨⟨Nat.le_refl _, by omega⟩, hth, fun i hi hq => ?_, fun i hi h1 h2 => by omega⟩
    rcases Nat.lt_or_ge j i with hji | hji
    · exact swo_ltStr.trans _ _ _ hl (List.pairwise_iff_getElem.1 hs j i hj hi hji)
    · obtain rfl : i = j := by omega
      exact hl
  · rw [if_neg hl]
    refine ⟨⟨by have := h.jq.1; omega, h.jq.2⟩, hth, h.hi, fun i hi h1 h2 => ?_⟩
    rcases Nat.lt_or_ge j i with hji | hji
    · exact h.lo i hi hji h2
    · obtain rfl : i = j := by omega
      simpa using hl
theorem Scan.there {R : List (List UInt8)} {t : List UInt8} {q : Nat} (h : Scan R t 0 q true) : t ∈ R := by simpa using h.th.1 rfl
theorem Scan.put {R : List (List UInt8)} {t : List UInt8} {q : Nat} (hs : LStrict ltStr R) (h : Scan R t 0 q false) : LStrict ltStr (R.take q ++ [t] ++ R.drop q) ∧ ∀ x, x ∈ R.take q ++ [t] ++ R.drop q ↔ x ∈ R ∨ x = t := by
  have hn : t ∉ R := fun hm => by
    have := h.th.2 (by simpa using hm)
    cases this
  have hlt : ∀ x ∈ R.take q, ltStr x t = true := fun x hx => by
    obtain ⟨i, hi, rfl⟩ := List.getElem_of_mem hx
    have hiq : i < q ∧ i < R.length := by rw [List.length_take] at hi; omega
    have h1 := h.lo i hiq.2 (Nat.zero_le _) hiq.1
    rw [List.getElem_take]
    cases h2 : ltStr R[i] t with
    | true => rfl
    | false => exact absurd (totS _ _ h1 h2 ▸ List.getElem_mem hiq.2) hn
  have hgt : ∀ x ∈ R.drop q, ltStr t x = true := fun x hx => by
    obtain ⟨i, hi, rfl⟩ := List.getElem_of_mem hx
    rw [List.getElem_drop]
    exact h.hi (q + i) (by simp at hi; omega) (by omega)
  have hp : R.Pairwise fun x y => ltStr x y = true := hs
  refine ⟨?_, fun x => ?_⟩
  · unfold LStrict
    rw [List.append_assoc, List.pairwise_append]
    have hsp : (R.take q ++ R.drop q).Pairwise fun x y => ltStr x y = true := by rw [List.take_append_drop]; exact hp
    rw [List.pairwise_append] at hsp
    refine ⟨hsp.1, ?_, fun a ha b hb => ?_⟩
    · rw [List.singleton_append, List.pairwise_cons]
      exact ⟨hgt, hsp.2.1⟩
    · rw [List.singleton_append, List.mem_cons] at hb
      rcases hb with rfl | hb
      · exact hlt a ha
      · exact hsp.2.2 a ha b hb
  · conv => rhs; rw [← List.take_append_drop q R]
    simp only [List.mem_append, List.mem_singleton]
    constructor
    · rintro ((h1 | h1) | h1)
      · exact .inl (.inl h1)
      · exact .inr h1
      · exact .inl (.inr h1)
    · rintro ((h1 | h1) | h1)
      · exact .inl (.inl h1)
      · exact .inr h1
      · exact .inl (.inr h1)
theorem strD {l : List (List UInt8)} {m : Nat} : ∀ y ∈ (l.map sc).drop m, ∀ u ∈ y, u.oneCell' = true := fun y hy => sc_one y (List.mem_of_mem_drop hy)
theorem strT {l : List (List UInt8)} {m : Nat} : ∀ y ∈ (l.map sc).take m, ∀ u ∈ y, u.oneCell' = true := fun y hy => sc_one y (List.mem_of_mem_take hy)
theorem block_lt {w : World} {b o : Nat} {v : Value} (h : w.cell? ⟨b, o, none⟩ = some v) : b < w.heap.size := by
  rcases Nat.lt_or_ge b w.heap.size with hlt | hge
  · exact hlt
  · unfold World.cell? at h
    rw [Array.getElem?_eq_none hge] at h
    cases h
theorem below_keepc {B : Nat} {W w2 : World} (hb : Below B W w2) {b o : Nat} {v : Value} (hc : W.cell? ⟨b, o, none⟩ = some v) (hB : W.heap.size ≤ B := by exact Nat.le_refl _) : w2.cell? ⟨b, o, none⟩ = some v := by
  rw [hb.cell (show b < B from Nat.lt_of_lt_of_le (block_lt hc) hB)]; exact hc
theorem belX_alloc {B : Nat} {w0 w : World} {X : Prop} (h : RowKit.Below B w0 w ∧ X) (o : Obj) (hB : B ≤ w0.heap.size) : RowKit.Below B w0 (w.alloc o) := h.1.alloc (Nat.le_trans hB h.1.size) _
theorem belX {B : Nat} {w0 w : World} {X : Prop} (h : RowKit.Below B w0 w ∧ X) : RowKit.Below B w0 w := h.1
theorem run_slice_fromK {P : Program} (W : World) (t e : TypeId) (k : Nat) (ht : P.underlying t = some (.slice e)) (hz : ∀ w, (Go.sizeOf e).run P w = .ok k w) (g n cap lo : Nat) (h1 : lo ≤ n) (_ : n ≤ cap) :
    (Instr.slice t (.slice (some ⟨g, 0, none⟩) n cap) (some (.int .i64 (lo : Int))) none none).run P W = .ok (.slice (if cap = lo then some ⟨g, 0, none⟩ else (some (⟨g, 0, none⟩ : Addr)).map (·.add (lo * k))) (n - lo) (cap - lo)) W := by
  have ht' : P.underlying t = some (.slice (P.elem t)) := by simp [Program.elem, ht]
  have he : P.elem t = e := by simp [Program.elem, ht]
  rw [run_slice_l W t _ _ _ ht' .i64 _ (by omega) (by omega), he, hz]
  by_cases h0 : cap = lo
  · simp [Result.andThen, sliced, h0]
  · simp [Result.andThen, sliced, h0]
theorem Own.of_empty {w : World} {base n : Nat} {e : TypeId} {k : Nat} (h : Blk w n e #[]) (hb : base ≤ n) : Own w base e k (.slice (some ⟨n, 0, none⟩) 0 0) [] :=
  ⟨⟨by simp, .inr ⟨n, 0, #[], rfl, hb, h, Nat.le_refl _, Nat.zero_le _, by simp, by simp⟩⟩, by simp⟩
theorem Own.some_ {w : World} {base : Nat} {e : TypeId} {k : Nat} {v : Value} {xs : List (List Value)} (h : Own w base e k v xs) (hx : 0 < xs.length) : ∃ g c, v = .slice (some ⟨g, 0, none⟩) xs.length c := by
  rcases h.1.2 with ⟨_, h0⟩ | ⟨g, cap, cur, rfl, _⟩
  · omega
  · exact ⟨g, cap, rfl⟩
set_option maxRecDepth 100000 in
set_option maxHeartbeats 8000000 in
theorem specTitles_c (A : Option Addr) (c : Nat) (es : List EnR) (w : World) (E : EnsIn w A es) (_hc : es.length ≤ c) :
    Calls Tryz.prog 30 #[.slice A es.length c] w (PostRows 9 1 (titR (ens es)).length ((titR (ens es)).map sc) (titC (ens es)) w) := by
  have hl := E.n
  have hs := E.s
  have HC := Lib.hid (specIsCat_c A c es w E)
  have hR : Hid ((catB (ens es) = false → titR (ens es) = []) ∧ titC (ens es) = (if catB (ens es) = true then 0 else 1)) := Lib.hid ⟨fun h => by unfold titR; rw [h]; rfl, rfl⟩
  have hof : Hid (catB (ens es) = true → ∀ R : List (List UInt8), LStrict ltStr R → (∀ x, x ∈ R ↔ x ∈ titles (ens es)) → R = titR (ens es)) := Lib.hid (fun hv R h1 h2 => titR_of hv h1 h2)
  have hds := Lib.hid (fun (k : Nat) (hk : k < es.length) => (by
    have h1 : k < (titles (ens es)).length := by rw [titles_len, ens_len]; exact hk
    rw [List.take_succ_eq_append_getElem h1]
    congr 1
    simp [titles, ens] : (titles (ens es)).take (k + 1) = (titles (ens es)).take k ++ [es[k].e.ti.data.toList]))
  have hall : Hid ((titles (ens es)).take es.length = titles (ens es)) := Lib.hid (by rw [List.take_of_length_le]; rw [titles_len, ens_len]; exact Nat.le_refl _)
  obtain ⟨ii, hi, hz0, hz1, hz2⟩ := info_parts info_Str
  clear E
  generalize titR (ens es) = RR at *
  generalize titC (ens es) = cd at *
  generalize titles (ens es) = T at *
  generalize catB (ens es) = cb at *
  cases cb with
  | false =>
    obtain ⟨hR1, rfl⟩ := hR.out
    obtain rfl := hR1 rfl
    go_enter Tryz.func30, Tryz.ntmps30
    go_wp2_with fail
    refine Calls.mono HC.out ?_; rintro x w1 ⟨rfl, hb1⟩
    go_wp2
    go_ret2
    exact ⟨none, 0, rfl, Own.nil_, hb1⟩
  | true =>
  obtain ⟨_, hR2⟩ := hR.out
  rw [if_pos rfl] at hR2
  subst hR2
  replace hof := Lib.hid (hof.out rfl)
  clear hR
  go_enter Tryz.func30, Tryz.ntmps30
  go_wp2_with fail
  refine Calls.mono HC.out ?_; rintro x w1 ⟨rfl, hb1⟩
  have L0 : AppL w 9 (([] : List (List UInt8)).map sc) (.slice (some ⟨w1.heap.size, 0, none⟩) 0 0) (w1.alloc (.cells #[] 9)) := ⟨(by repeat (first | with_reducible exact hb1 | with_reducible apply below_drewN' | with_reducible apply Below.drew | (with_reducible refine Below.alloc ?_ (by first | omega | (simp; omega) | simp | (have := (hb1).size; omega) | (have := (hb1).size; simp; omega)) _) | (with_reducible refine Below.setCell ?_ (by first | omega | (simp; omega) | simp | (have := (hb1).size; omega) | (have := (hb1).size; simp; omega)) _) | exact hb1)), Own.empty hb1.size⟩
  go_wp2_with fail
  go_loopw [4, 5] (fun o i wr => ∃ (k : Nat) (R : List (List UInt8)) (g4 c4 : Nat), k ≤ es.length ∧ i = .int .i64 k ∧ o = .slice (some ⟨g4, 0, none⟩) R.length c4 ∧ AppL w 9 (R.map sc) o wr ∧ R.length ≤ k ∧ Hid (LStrict ltStr R ∧ ∀ x, x ∈ R ↔ x ∈ T.take k)) (fun _ i _ => es.length - (intOf i).toNat)
  case atStart => exact ⟨0, [], _, 0, Nat.zero_le _, rfl, rfl, L0, Nat.le_refl _, Lib.hid ⟨List.Pairwise.nil, by simp⟩⟩
  case round =>
    clear L0
    obtain ⟨k, R, g4, c4, hk, rfl, rfl, hL, hRl, hI⟩ := hrel
    have hc4 := hL.o.le_cap
    by_cases hlt : k < es.length
    · have hnx := Lib.hid (hds.out k hlt)
      obtain ⟨b, off, rfl, hbB, hc'⟩ := hs.at_ (i := k) (by simpa using hlt)
      simp only [List.getElem_map] at hc'
      have HX : Hid (∀ W, Below w.heap.size w W → W.cell? ⟨b, off + k * 20, none⟩ = some (.string es[k].e.ti)) := Lib.hid (fun W hW => (hW.cell (p := ⟨b, off + k * 20, none⟩) hbB).trans (by simpa using hc' 0 _ rfl))
      clear hc'
      have k1 : (k : Int) < (es.length : Int) := by omega
      have k0 : (0 : Int) ≤ (k : Int) := by omega
      generalize es[k].e.ti = ti at *
      have hwr : IntKind.i64.wrap ((R.length : Int) - 1) = (R.length : Int) - 1 := IntWalk.i64_in _ (by omega)
      have hSc : Hid (Scan R ti.data.toList R.length R.length false) := Lib.hid (Scan.init _ _)
      go_wp2_with fail
      go_loopw [6, 7, 8] (fun a th i wr => ∃ (j q : Nat) (tb : Bool), a = .int .i64 q ∧ th = .bool tb ∧ i = .int .i64 ((j : Int) - 1) ∧ (j ≤ R.length ∧ q ≤ R.length) ∧ Hid (Scan R ti.data.toList j q tb) ∧ AppL w 9 (R.map sc) (.slice (some ⟨g4, 0, none⟩) R.length c4) wr) (fun _ _ i _ => (intOf i + 1).toNat)
      case atStart => exact ⟨R.length, R.length, false, rfl, rfl, rfl, ⟨Nat.le_refl _, Nat.le_refl _⟩, hSc, hL⟩
      case round =>
        clear hL hSc
        obtain ⟨j, q, tb, rfl, rfl, rfl, ⟨hj, hq⟩, hSc, hL⟩ := hrel
        by_cases hj0 : 0 < j
        · obtain ⟨j, rfl⟩ : ∃ j', j = j' + 1 := ⟨j - 1, by omega⟩
          have hje : (((j + 1 : Nat) : Int) - 1) = (j : Int) := by omega
          rw [hje]
          have hjl : j < R.length := by omega
          obtain ⟨b2, off2, hA2, hgl, y0⟩ := hL.o.sl.str hjl
          obtain ⟨rfl, rfl⟩ : g4 = b2 ∧ 0 = off2 := by simpa using hA2
          rw [Nat.zero_add] at y0
          clear hA2
          have hSn := Lib.hid (hSc.out.next hI.out.1 hjl)
          have x0 := HX.out _ hL.hb
          have hbl : b < wr.heap.size := Nat.lt_of_lt_of_le hbB hL.hb.size
          have hXe : (⟨R[j].toArray⟩ : ByteArray).toList = R[j] := ByteArray.toList_mk _
          have hTe : ti.toList = ti.data.toList := ByteArray.toList_eq ti
          have hbq : ((⟨R[j].toArray⟩ : ByteArray).toList == ti.toList) = (R[j] == ti.data.toList) := by rw [hXe, hTe]
          have hbl2 : Op.bytesLess ti.toList (⟨R[j].toArray⟩ : ByteArray).toList = ltStr ti.data.toList R[j] := by rw [hXe, hTe, bytesLess_eq]; rfl
          generalize (R[j] == ti.data.toList) = bq at *
          generalize ltStr ti.data.toList R[j] = bs at *
          generalize (⟨R[j].toArray⟩ : ByteArray) = X at *
          have j1 : (j : Int) < (R.length : Int) := by omega
          have j0 : (0 : Int) ≤ (j : Int) := by omega
          clear hXe hTe
          rcases tb with _ | _
          · rw [Bool.false_or] at hSn
            go_wp2_with fail
            refine wp_region_sink 13 (fun a0 fL bA v => ∃ v28 v29 v30 v31 v32 v33 v34 v35 v36 v37 v38 v39 v40 : Value, bA = ((((((((((((a0.put (some 28) v28).put (some 29) v29).put (some 30) v30).put (some 31) v31).put (some 32) v32).put (some 33) v33).put (some 34) v34).put (some 35) v35).put (some 36) v36).put (some 37) v37).put (some 38) v38).put (some 39) v39).put (some 40) v40 ∧ (Below wr.heap.size wr v) ∧ (fL 0 = true → v28 = .bool false) ∧ (fL 1 = true → v29 = .bool false) ∧ (fL 2 = true → v30 = .slice (some ⟨g4, 0, none⟩) R.length c4) ∧ (fL 3 = true → v31 = .int .i64 j) ∧ (fL 4 = true → v32 = .pointer (some ⟨g4, j, none⟩)) ∧ (fL 5 = true → v33 = .string X) ∧ (fL 6 = true → v34 = .slice (some ⟨b, off, none⟩) es.length c) ∧ (fL 7 = true → v35 = .int .i64 k) ∧ (fL 8 = true → v36 = .pointer (some ⟨b, off + k * 20, none⟩)) ∧ (fL 9 = true → v37 = .pointer (some ⟨b, off + k * 20, none⟩)) ∧ (fL 10 = true → v38 = .string ti) ∧ (fL 11 = true → v39 = .bool bq) ∧ (fL 12 = true → v40 = .bool bq)) (by kernel_rfl) (by decide +kernel) ?_ ?_ ?_
            · exact ⟨_, _, _, _, _, _, _, _, _, _, _, _, _, put_more (put_more (put_more (put_more (put_more (put_more (put_more (put_more (put_more (put_more (put_more (put_more (put_more (rfl) 28) 29) 30) 31) 32) 33) 34) 35) 36) 37) 38) 39) 40, (Below.refl _ _).drew, nofun, nofun, nofun, nofun, nofun, nofun, nofun, nofun, nofun, nofun, nofun, nofun, nofun⟩
            · rintro fL bA v ⟨v28, v29, v30, v31, v32, v33, v34, v35, v36, v37, v38, v39, v40, rfl, hS, q0, q1, q2, q3, q4, q5, q6, q7, q8, q9, q10, q11, q12⟩ i hi hf o ho hall
              simp only [Act.put, List.setIfInBounds_toArray, List.set_cons_zero, List.set_cons_succ]
              have hn : i = 0 ∨ i = 1 ∨ i = 2 ∨ i = 3 ∨ i = 4 ∨ i = 5 ∨ i = 6 ∨ i = 7 ∨ i = 8 ∨ i = 9 ∨ i = 10 ∨ i = 11 ∨ i = 12 := by omega
              clear hi
              rcases hn with rfl | rfl | rfl | rfl | rfl | rfl | rfl | rfl | rfl | rfl | rfl | rfl | rfl
              · obtain rfl := Option.some.inj ho
                clear hall ho
                refine wpOp_step rfl (fun K hK => ?_)
                go_simp
                exact hK _ _ ⟨_, _, _, _, _, _, _, _, _, _, _, _, _, rfl, hS, fun _ => rfl, q1, q2, q3, q4, q5, q6, q7, q8, q9, q10, q11, q12⟩
              · obtain rfl := Option.some.inj ho
                obtain rfl := q0 (hall ⟨0, .data⟩ (by simp) rfl)
                clear hall ho
                refine wpOp_step rfl (fun K hK => ?_)
                go_simp
                exact hK _ _ ⟨_, _, _, _, _, _, _, _, _, _, _, _, _, rfl, hS, fun _ => rfl, fun _ => rfl, q2, q3, q4, q5, q6, q7, q8, q9, q10, q11, q12⟩
              · obtain rfl := Option.some.inj ho
                obtain rfl := q1 (hall ⟨1, .guard⟩ (by simp) rfl)
                clear hall ho
                refine wpOp_step rfl (fun K hK => ?_)
                go_simp
                exact hK _ _ ⟨_, _, _, _, _, _, _, _, _, _, _, _, _, rfl, hS, q0, fun _ => rfl, fun _ => rfl, q3, q4, q5, q6, q7, q8, q9, q10, q11, q12⟩
              · obtain rfl := Option.some.inj ho
                obtain rfl := q1 (hall ⟨1, .guard⟩ (by simp) rfl)
                clear hall ho
                refine wpOp_step rfl (fun K hK => ?_)
                go_simp
                exact hK _ _ ⟨_, _, _, _, _, _, _, _, _, _, _, _, _, rfl, hS, q0, fun _ => rfl, q2, fun _ => rfl, q4, q5, q6, q7, q8, q9, q10, q11, q12⟩
              · obtain rfl := Option.some.inj ho
                obtain rfl := q2 (hall ⟨2, .data⟩ (by simp) rfl)
                obtain rfl := q3 (hall ⟨3, .data⟩ (by simp) rfl)
                obtain rfl := q1 (hall ⟨1, .guard⟩ (by simp) rfl)
                clear hall ho
                refine wpOp_step rfl (fun K hK => ?_)
                go_simp
                exact hK _ _ ⟨_, _, _, _, _, _, _, _, _, _, _, _, _, rfl, hS, q0, fun _ => rfl, fun _ => rfl, fun _ => rfl, fun _ => rfl, q5, q6, q7, q8, q9, q10, q11, q12⟩
              · obtain rfl := Option.some.inj ho
                obtain rfl := q4 (hall ⟨4, .data⟩ (by simp) rfl)
                obtain rfl := q1 (hall ⟨1, .guard⟩ (by simp) rfl)
                have z := (hS.cell (p := ⟨g4, j, none⟩) hgl).trans y0
                clear hall ho
                refine wpOp_step rfl (fun K hK => ?_)
                go_simp
                exact hK _ _ ⟨_, _, _, _, _, _, _, _, _, _, _, _, _, rfl, hS, q0, fun _ => rfl, q2, q3, fun _ => rfl, fun _ => rfl, q6, q7, q8, q9, q10, q11, q12⟩
              · obtain rfl := Option.some.inj ho
                obtain rfl := q1 (hall ⟨1, .guard⟩ (by simp) rfl)
                clear hall ho
                refine wpOp_step rfl (fun K hK => ?_)
                go_simp
                exact hK _ _ ⟨_, _, _, _, _, _, _, _, _, _, _, _, _, rfl, hS, q0, fun _ => rfl, q2, q3, q4, q5, fun _ => rfl, q7, q8, q9, q10, q11, q12⟩
              · obtain rfl := Option.some.inj ho
                obtain rfl := q1 (hall ⟨1, .guard⟩ (by simp) rfl)
                clear hall ho
                refine wpOp_step rfl (fun K hK => ?_)
                go_simp
                exact hK _ _ ⟨_, _, _, _, _, _, _, _, _, _, _, _, _, rfl, hS, q0, fun _ => rfl, q2, q3, q4, q5, q6, fun _ => rfl, q8, q9, q10, q11, q12⟩
              · obtain rfl := Option.some.inj ho
                obtain rfl := q6 (hall ⟨6, .data⟩ (by simp) rfl)
                obtain rfl := q7 (hall ⟨7, .data⟩ (by simp) rfl)
                obtain rfl := q1 (hall ⟨1, .guard⟩ (by simp) rfl)
                clear hall ho
                refine wpOp_step rfl (fun K hK => ?_)
                go_simp
                exact hK _ _ ⟨_, _, _, _, _, _, _, _, _, _, _, _, _, rfl, hS, q0, fun _ => rfl, q2, q3, q4, q5, fun _ => rfl, fun _ => rfl, fun _ => rfl, q9, q10, q11, q12⟩
              · obtain rfl := Option.some.inj ho
                obtain rfl := q8 (hall ⟨8, .data⟩ (by simp) rfl)
                obtain rfl := q1 (hall ⟨1, .guard⟩ (by simp) rfl)
                clear hall ho
                refine wpOp_step rfl (fun K hK => ?_)
                go_simp
                exact hK _ _ ⟨_, _, _, _, _, _, _, _, _, _, _, _, _, rfl, hS, q0, fun _ => rfl, q2, q3, q4, q5, q6, q7, fun _ => rfl, fun _ => rfl, q10, q11, q12⟩
              · obtain rfl := Option.some.inj ho
                obtain rfl := q9 (hall ⟨9, .data⟩ (by simp) rfl)
                obtain rfl := q1 (hall ⟨1, .guard⟩ (by simp) rfl)
                have z := (hS.cell (p := ⟨b, off + k * 20, none⟩) hbl).trans x0
                clear hall ho
                refine wpOp_step rfl (fun K hK => ?_)
                go_simp
                exact hK _ _ ⟨_, _, _, _, _, _, _, _, _, _, _, _, _, rfl, hS, q0, fun _ => rfl, q2, q3, q4, q5, q6, q7, q8, fun _ => rfl, fun _ => rfl, q11, q12⟩
              · obtain rfl := Option.some.inj ho
                obtain rfl := q5 (hall ⟨5, .data⟩ (by simp) rfl)
                obtain rfl := q10 (hall ⟨10, .data⟩ (by simp) rfl)
                obtain rfl := q1 (hall ⟨1, .guard⟩ (by simp) rfl)
                clear hall ho
                refine wpOp_step rfl (fun K hK => ?_)
                go_simp
                exact hK _ _ ⟨_, _, _, _, _, _, _, _, _, _, _, _, _, rfl, hS, q0, fun _ => rfl, q2, q3, q4, fun _ => rfl, q6, q7, q8, q9, fun _ => rfl, fun _ => rfl, q12⟩
              · obtain rfl := Option.some.inj ho
                obtain rfl := q1 (hall ⟨1, .data⟩ (by simp) rfl)
                obtain rfl := q11 (hall ⟨11, .data⟩ (by simp) rfl)
                clear hall ho
                refine wpOp_step rfl (fun K hK => ?_)
                go_simp
                exact hK _ _ ⟨_, _, _, _, _, _, _, _, _, _, _, _, _, rfl, hS, q0, fun _ => rfl, q2, q3, q4, q5, q6, q7, q8, q9, q10, fun _ => rfl, fun _ => rfl⟩
            · rintro fL bA v ⟨v28, v29, v30, v31, v32, v33, v34, v35, v36, v37, v38, v39, v40, rfl, hS, q0, q1, q2, q3, q4, q5, q6, q7, q8, q9, q10, q11, q12⟩ hall
              simp only [Act.put, List.setIfInBounds_toArray, List.set_cons_zero, List.set_cons_succ]
              obtain rfl := q0 (hall 0 (by omega))
              obtain rfl := q1 (hall 1 (by omega))
              obtain rfl := q2 (hall 2 (by omega))
              obtain rfl := q3 (hall 3 (by omega))
              obtain rfl := q4 (hall 4 (by omega))
              obtain rfl := q5 (hall 5 (by omega))
              obtain rfl := q6 (hall 6 (by omega))
              obtain rfl := q7 (hall 7 (by omega))
              obtain rfl := q8 (hall 8 (by omega))
              obtain rfl := q9 (hall 9 (by omega))
              obtain rfl := q10 (hall 10 (by omega))
              obtain rfl := q11 (hall 11 (by omega))
              obtain rfl := q12 (hall 12 (by omega))
              clear hall
              simp only [List.drop_succ_cons, List.drop_zero]
              have hLu := hL.below hS
              have y0' := (hS.cell (p := ⟨g4, j, none⟩) hgl).trans y0
              have x0' := (hS.cell (p := ⟨b, off + k * 20, none⟩) hbl).trans x0
              have hgu := Nat.lt_of_lt_of_le hgl hS.size
              have hbu := Nat.lt_of_lt_of_le hbl hS.size
              clear x0 y0 hS hL hgl hbl
              have x0 := x0'
              have y0 := y0'
              clear x0' y0'
              obtain ⟨u1, hnm⟩ : ∃ u, u = v := ⟨_, rfl⟩
              subst hnm
              go_wp2_with fail
              refine wp_region_all (fun a0 fL bA v => ∃ v41 v42 v43 v44 v45 v46 v47 v48 v49 v50 : Value, bA = (((((((((a0.put (some 41) v41).put (some 42) v42).put (some 43) v43).put (some 44) v44).put (some 45) v45).put (some 46) v46).put (some 47) v47).put (some 48) v48).put (some 49) v49).put (some 50) v50 ∧ (Below u1.heap.size u1 v) ∧ (fL 0 = true → v41 = .slice (some ⟨b, off, none⟩) es.length c) ∧ (fL 1 = true → v42 = .int .i64 k) ∧ (fL 2 = true → v43 = .pointer (some ⟨b, off + k * 20, none⟩)) ∧ (fL 3 = true → v44 = .pointer (some ⟨b, off + k * 20, none⟩)) ∧ (fL 4 = true → v45 = .string ti) ∧ (fL 5 = true → v46 = .slice (some ⟨g4, 0, none⟩) R.length c4) ∧ (fL 6 = true → v47 = .int .i64 j) ∧ (fL 7 = true → v48 = .pointer (some ⟨g4, j, none⟩)) ∧ (fL 8 = true → v49 = .string X) ∧ (fL 9 = true → v50 = .bool bs)) (by kernel_rfl) (by decide +kernel) ?_ ?_ ?_
              · exact ⟨_, _, _, _, _, _, _, _, _, _, put_more (put_more (put_more (put_more (put_more (put_more (put_more (put_more (put_more (put_more (rfl) 41) 42) 43) 44) 45) 46) 47) 48) 49) 50, (Below.refl _ _).drew, nofun, nofun, nofun, nofun, nofun, nofun, nofun, nofun, nofun, nofun⟩
              · rintro fL bA v ⟨v41, v42, v43, v44, v45, v46, v47, v48, v49, v50, rfl, hS, q0, q1, q2, q3, q4, q5, q6, q7, q8, q9⟩ i hi hf o ho hall
                simp only [Act.put, List.setIfInBounds_toArray, List.set_cons_zero, List.set_cons_succ]
                simp only [List.length_cons, List.length_nil] at hi
                have hn : i = 0 ∨ i = 1 ∨ i = 2 ∨ i = 3 ∨ i = 4 ∨ i = 5 ∨ i = 6 ∨ i = 7 ∨ i = 8 ∨ i = 9 := by omega
                clear hi
                rcases hn with rfl | rfl | rfl | rfl | rfl | rfl | rfl | rfl | rfl | rfl
                · obtain rfl := Option.some.inj ho
                  clear hall ho
                  refine wpOp_step rfl (fun K hK => ?_)
                  go_simp
                  exact hK _ _ ⟨_, _, _, _, _, _, _, _, _, _, rfl, hS, fun _ => rfl, q1, q2, q3, q4, q5, q6, q7, q8, q9⟩
                · obtain rfl := Option.some.inj ho
                  clear hall ho
                  refine wpOp_step rfl (fun K hK => ?_)
                  go_simp
                  exact hK _ _ ⟨_, _, _, _, _, _, _, _, _, _, rfl, hS, q0, fun _ => rfl, q2, q3, q4, q5, q6, q7, q8, q9⟩
                · obtain rfl := Option.some.inj ho
                  obtain rfl := q0 (hall ⟨0, .data⟩ (by simp) rfl)
                  obtain rfl := q1 (hall ⟨1, .data⟩ (by simp) rfl)
                  clear hall ho
                  refine wpOp_step rfl (fun K hK => ?_)
                  go_simp
                  exact hK _ _ ⟨_, _, _, _, _, _, _, _, _, _, rfl, hS, fun _ => rfl, fun _ => rfl, fun _ => rfl, q3, q4, q5, q6, q7, q8, q9⟩
                · obtain rfl := Option.some.inj ho
                  obtain rfl := q2 (hall ⟨2, .data⟩ (by simp) rfl)
                  clear hall ho
                  refine wpOp_step rfl (fun K hK => ?_)
                  go_simp
                  exact hK _ _ ⟨_, _, _, _, _, _, _, _, _, _, rfl, hS, q0, q1, fun _ => rfl, fun _ => rfl, q4, q5, q6, q7, q8, q9⟩
                · obtain rfl := Option.some.inj ho
                  obtain rfl := q3 (hall ⟨3, .data⟩ (by simp) rfl)
                  have z := (hS.cell (p := ⟨b, off + k * 20, none⟩) hbu).trans x0
                  clear hall ho
                  refine wpOp_step rfl (fun K hK => ?_)
                  go_simp
                  exact hK _ _ ⟨_, _, _, _, _, _, _, _, _, _, rfl, hS, q0, q1, q2, fun _ => rfl, fun _ => rfl, q5, q6, q7, q8, q9⟩
                · obtain rfl := Option.some.inj ho
                  clear hall ho
                  refine wpOp_step rfl (fun K hK => ?_)
                  go_simp
                  exact hK _ _ ⟨_, _, _, _, _, _, _, _, _, _, rfl, hS, q0, q1, q2, q3, q4, fun _ => rfl, q6, q7, q8, q9⟩
                · obtain rfl := Option.some.inj ho
                  clear hall ho
                  refine wpOp_step rfl (fun K hK => ?_)
                  go_simp
                  exact hK _ _ ⟨_, _, _, _, _, _, _, _, _, _, rfl, hS, q0, q1, q2, q3, q4, q5, fun _ => rfl, q7, q8, q9⟩
                · obtain rfl := Option.some.inj ho
                  obtain rfl := q5 (hall ⟨5, .data⟩ (by simp) rfl)
                  obtain rfl := q6 (hall ⟨6, .data⟩ (by simp) rfl)
                  clear hall ho
                  refine wpOp_step rfl (fun K hK => ?_)
                  go_simp
                  exact hK _ _ ⟨_, _, _, _, _, _, _, _, _, _, rfl, hS, q0, q1, q2, q3, q4, fun _ => rfl, fun _ => rfl, fun _ => rfl, q8, q9⟩
                · obtain rfl := Option.some.inj ho
                  obtain rfl := q7 (hall ⟨7, .data⟩ (by simp) rfl)
                  have z := (hS.cell (p := ⟨g4, j, none⟩) hgu).trans y0
                  clear hall ho
                  refine wpOp_step rfl (fun K hK => ?_)
                  go_simp
                  exact hK _ _ ⟨_, _, _, _, _, _, _, _, _, _, rfl, hS, q0, q1, q2, q3, q4, q5, q6, fun _ => rfl, fun _ => rfl, q9⟩
                · obtain rfl := Option.some.inj ho
                  obtain rfl := q4 (hall ⟨4, .data⟩ (by simp) rfl)
                  obtain rfl := q8 (hall ⟨8, .data⟩ (by simp) rfl)
                  clear hall ho
                  refine wpOp_step rfl (fun K hK => ?_)
                  go_simp
                  exact hK _ _ ⟨_, _, _, _, _, _, _, _, _, _, rfl, hS, q0, q1, q2, q3, fun _ => rfl, q5, q6, q7, fun _ => rfl, fun _ => rfl⟩
              · rintro fL bA v ⟨v41, v42, v43, v44, v45, v46, v47, v48, v49, v50, rfl, hS, q0, q1, q2, q3, q4, q5, q6, q7, q8, q9⟩ hall
                simp only [Act.put, List.setIfInBounds_toArray, List.set_cons_zero, List.set_cons_succ]
                simp only [List.length_cons, List.length_nil] at hall
                obtain rfl := q0 (hall 0 (by omega))
                obtain rfl := q1 (hall 1 (by omega))
                obtain rfl := q2 (hall 2 (by omega))
                obtain rfl := q3 (hall 3 (by omega))
                obtain rfl := q4 (hall 4 (by omega))
                obtain rfl := q5 (hall 5 (by omega))
                obtain rfl := q6 (hall 6 (by omega))
                obtain rfl := q7 (hall 7 (by omega))
                obtain rfl := q8 (hall 8 (by omega))
                obtain rfl := q9 (hall 9 (by omega))
                clear hall
                have hLv2 := hLu.below hS
                clear hS x0 y0 hLu
                cases bs with
                | true =>
                  rw [if_pos rfl] at hSn
                  go_wp2
                  go_roundw
                  case rel => exact ⟨j, j, _, rfl, rfl, by go_num, ⟨by omega, by omega⟩, hSn, hLv2⟩
                  case measure => first | (simp [intOf]; done) | (simp [intOf]; omega)
                | false =>
                  rw [if_neg (by simp)] at hSn
                  go_wp2
                  go_roundw
                  case rel => exact ⟨j, q, _, rfl, rfl, by go_num, ⟨by omega, by omega⟩, hSn, hLv2⟩
                  case measure => first | (simp [intOf]; done) | (simp [intOf]; omega)
          · rw [Bool.true_or] at hSn
            go_wp2_with fail
            refine wp_region_sink 13 (fun a0 fL bA v => ∃ v28 v29 v30 v31 v32 v33 v34 v35 v36 v37 v38 v39 v40 : Value, bA = ((((((((((((a0.put (some 28) v28).put (some 29) v29).put (some 30) v30).put (some 31) v31).put (some 32) v32).put (some 33) v33).put (some 34) v34).put (some 35) v35).put (some 36) v36).put (some 37) v37).put (some 38) v38).put (some 39) v39).put (some 40) v40 ∧ (Below wr.heap.size wr v) ∧ (fL 0 = true → v28 = .bool true) ∧ (fL 1 = true → v29 = .bool true) ∧ (fL 2 = true → v30 = undef) ∧ (fL 3 = true → v31 = undef) ∧ (fL 4 = true → v32 = undef) ∧ (fL 5 = true → v33 = undef) ∧ (fL 6 = true → v34 = undef) ∧ (fL 7 = true → v35 = undef) ∧ (fL 8 = true → v36 = undef) ∧ (fL 9 = true → v37 = undef) ∧ (fL 10 = true → v38 = undef) ∧ (fL 11 = true → v39 = undef) ∧ (fL 12 = true → v40 = .bool true)) (by kernel_rfl) (by decide +kernel) ?_ ?_ ?_
            · exact ⟨_, _, _, _, _, _, _, _, _, _, _, _, _, put_more (put_more (put_more (put_more (put_more (put_more (put_more (put_more (put_more (put_more (put_more (put_more (put_more (rfl) 28) 29) 30) 31) 32) 33) 34) 35) 36) 37) 38) 39) 40, (Below.refl _ _).drew, nofun, nofun, nofun, nofun, nofun, nofun, nofun, nofun, nofun, nofun, nofun, nofun, nofun⟩
            · rintro fL bA v ⟨v28, v29, v30, v31, v32, v33, v34, v35, v36, v37, v38, v39, v40, rfl, hS, q0, q1, q2, q3, q4, q5, q6, q7, q8, q9, q10, q11, q12⟩ i hi hf o ho hall
              simp only [Act.put, List.setIfInBounds_toArray, List.set_cons_zero, List.set_cons_succ]
              have hn : i = 0 ∨ i = 1 ∨ i = 2 ∨ i = 3 ∨ i = 4 ∨ i = 5 ∨ i = 6 ∨ i = 7 ∨ i = 8 ∨ i = 9 ∨ i = 10 ∨ i = 11 ∨ i = 12 := by omega
              clear hi
              rcases hn with rfl | rfl | rfl | rfl | rfl | rfl | rfl | rfl | rfl | rfl | rfl | rfl | rfl
              · obtain rfl := Option.some.inj ho
                clear hall ho
                refine wpOp_step rfl (fun K hK => ?_)
                go_simp
                exact hK _ _ ⟨_, _, _, _, _, _, _, _, _, _, _, _, _, rfl, hS, fun _ => rfl, q1, q2, q3, q4, q5, q6, q7, q8, q9, q10, q11, q12⟩
              · obtain rfl := Option.some.inj ho
                obtain rfl := q0 (hall ⟨0, .data⟩ (by simp) rfl)
                clear hall ho
                refine wpOp_step rfl (fun K hK => ?_)
                go_simp
                exact hK _ _ ⟨_, _, _, _, _, _, _, _, _, _, _, _, _, rfl, hS, fun _ => rfl, fun _ => rfl, q2, q3, q4, q5, q6, q7, q8, q9, q10, q11, q12⟩
              · obtain rfl := Option.some.inj ho
                obtain rfl := q1 (hall ⟨1, .guard⟩ (by simp) rfl)
                clear hall ho
                refine wpOp_step rfl (fun K hK => ?_)
                go_simp
                exact hK _ _ ⟨_, _, _, _, _, _, _, _, _, _, _, _, _, rfl, hS, q0, fun _ => rfl, fun _ => rfl, q3, q4, q5, q6, q7, q8, q9, q10, q11, q12⟩
              · obtain rfl := Option.some.inj ho
                obtain rfl := q1 (hall ⟨1, .guard⟩ (by simp) rfl)
                clear hall ho
                refine wpOp_step rfl (fun K hK => ?_)
                go_simp
                exact hK _ _ ⟨_, _, _, _, _, _, _, _, _, _, _, _, _, rfl, hS, q0, fun _ => rfl, q2, fun _ => rfl, q4, q5, q6, q7, q8, q9, q10, q11, q12⟩
              · obtain rfl := Option.some.inj ho
                obtain rfl := q2 (hall ⟨2, .data⟩ (by simp) rfl)
                obtain rfl := q3 (hall ⟨3, .data⟩ (by simp) rfl)
                obtain rfl := q1 (hall ⟨1, .guard⟩ (by simp) rfl)
                clear hall ho
                refine wpOp_step rfl (fun K hK => ?_)
                go_simp
                exact hK _ _ ⟨_, _, _, _, _, _, _, _, _, _, _, _, _, rfl, hS, q0, fun _ => rfl, fun _ => rfl, fun _ => rfl, fun _ => rfl, q5, q6, q7, q8, q9, q10, q11, q12⟩
              · obtain rfl := Option.some.inj ho
                obtain rfl := q4 (hall ⟨4, .data⟩ (by simp) rfl)
                obtain rfl := q1 (hall ⟨1, .guard⟩ (by simp) rfl)
                clear hall ho
                refine wpOp_step rfl (fun K hK => ?_)
                go_simp
                exact hK _ _ ⟨_, _, _, _, _, _, _, _, _, _, _, _, _, rfl, hS, q0, fun _ => rfl, q2, q3, fun _ => rfl, fun _ => rfl, q6, q7, q8, q9, q10, q11, q12⟩
              · obtain rfl := Option.some.inj ho
                obtain rfl := q1 (hall ⟨1, .guard⟩ (by simp) rfl)
                clear hall ho
                refine wpOp_step rfl (fun K hK => ?_)
                go_simp
                exact hK _ _ ⟨_, _, _, _, _, _, _, _, _, _, _, _, _, rfl, hS, q0, fun _ => rfl, q2, q3, q4, q5, fun _ => rfl, q7, q8, q9, q10, q11, q12⟩
              · obtain rfl := Option.some.inj ho
                obtain rfl := q1 (hall ⟨1, .guard⟩ (by simp) rfl)
                clear hall ho
                refine wpOp_step rfl (fun K hK => ?_)
                go_simp
                exact hK _ _ ⟨_, _, _, _, _, _, _, _, _, _, _, _, _, rfl, hS, q0, fun _ => rfl, q2, q3, q4, q5, q6, fun _ => rfl, q8, q9, q10, q11, q12⟩
              · obtain rfl := Option.some.inj ho
                obtain rfl := q6 (hall ⟨6, .data⟩ (by simp) rfl)
                obtain rfl := q7 (hall ⟨7, .data⟩ (by simp) rfl)
                obtain rfl := q1 (hall ⟨1, .guard⟩ (by simp) rfl)
                clear hall ho
                refine wpOp_step rfl (fun K hK => ?_)
                go_simp
                exact hK _ _ ⟨_, _, _, _, _, _, _, _, _, _, _, _, _, rfl, hS, q0, fun _ => rfl, q2, q3, q4, q5, fun _ => rfl, fun _ => rfl, fun _ => rfl, q9, q10, q11, q12⟩
              · obtain rfl := Option.some.inj ho
                obtain rfl := q8 (hall ⟨8, .data⟩ (by simp) rfl)
                obtain rfl := q1 (hall ⟨1, .guard⟩ (by simp) rfl)
                clear hall ho
                refine wpOp_step rfl (fun K hK => ?_)
                go_simp
                exact hK _ _ ⟨_, _, _, _, _, _, _, _, _, _, _, _, _, rfl, hS, q0, fun _ => rfl, q2, q3, q4, q5, q6, q7, fun _ => rfl, fun _ => rfl, q10, q11, q12⟩
              · obtain rfl := Option.some.inj ho
                obtain rfl := q9 (hall ⟨9, .data⟩ (by simp) rfl)
                obtain rfl := q1 (hall ⟨1, .guard⟩ (by simp) rfl)
                clear hall ho
                refine wpOp_step rfl (fun K hK => ?_)
                go_simp
                exact hK _ _ ⟨_, _, _, _, _, _, _, _, _, _, _, _, _, rfl, hS, q0, fun _ => rfl, q2, q3, q4, q5, q6, q7, q8, fun _ => rfl, fun _ => rfl, q11, q12⟩
              · obtain rfl := Option.some.inj ho
                obtain rfl := q5 (hall ⟨5, .data⟩ (by simp) rfl)
                obtain rfl := q10 (hall ⟨10, .data⟩ (by simp) rfl)
                obtain rfl := q1 (hall ⟨1, .guard⟩ (by simp) rfl)
                clear hall ho
                refine wpOp_step rfl (fun K hK => ?_)
                go_simp
                exact hK _ _ ⟨_, _, _, _, _, _, _, _, _, _, _, _, _, rfl, hS, q0, fun _ => rfl, q2, q3, q4, fun _ => rfl, q6, q7, q8, q9, fun _ => rfl, fun _ => rfl, q12⟩
              · obtain rfl := Option.some.inj ho
                obtain rfl := q1 (hall ⟨1, .data⟩ (by simp) rfl)
                obtain rfl := q11 (hall ⟨11, .data⟩ (by simp) rfl)
                clear hall ho
                refine wpOp_step rfl (fun K hK => ?_)
                go_simp
                exact hK _ _ ⟨_, _, _, _, _, _, _, _, _, _, _, _, _, rfl, hS, q0, fun _ => rfl, q2, q3, q4, q5, q6, q7, q8, q9, q10, fun _ => rfl, fun _ => rfl⟩
            · rintro fL bA v ⟨v28, v29, v30, v31, v32, v33, v34, v35, v36, v37, v38, v39, v40, rfl, hS, q0, q1, q2, q3, q4, q5, q6, q7, q8, q9, q10, q11, q12⟩ hall
              simp only [Act.put, List.setIfInBounds_toArray, List.set_cons_zero, List.set_cons_succ]
              obtain rfl := q0 (hall 0 (by omega))
              obtain rfl := q1 (hall 1 (by omega))
              obtain rfl := q2 (hall 2 (by omega))
              obtain rfl := q3 (hall 3 (by omega))
              obtain rfl := q4 (hall 4 (by omega))
              obtain rfl := q5 (hall 5 (by omega))
              obtain rfl := q6 (hall 6 (by omega))
              obtain rfl := q7 (hall 7 (by omega))
              obtain rfl := q8 (hall 8 (by omega))
              obtain rfl := q9 (hall 9 (by omega))
              obtain rfl := q10 (hall 10 (by omega))
              obtain rfl := q11 (hall 11 (by omega))
              obtain rfl := q12 (hall 12 (by omega))
              clear hall
              simp only [List.drop_succ_cons, List.drop_zero]
              have hLu := hL.below hS
              have y0' := (hS.cell (p := ⟨g4, j, none⟩) hgl).trans y0
              have x0' := (hS.cell (p := ⟨b, off + k * 20, none⟩) hbl).trans x0
              have hgu := Nat.lt_of_lt_of_le hgl hS.size
              have hbu := Nat.lt_of_lt_of_le hbl hS.size
              clear x0 y0 hS hL hgl hbl
              have x0 := x0'
              have y0 := y0'
              clear x0' y0'
              obtain ⟨u1, hnm⟩ : ∃ u, u = v := ⟨_, rfl⟩
              subst hnm
              go_wp2_with fail
              refine wp_region_all (fun a0 fL bA v => ∃ v41 v42 v43 v44 v45 v46 v47 v48 v49 v50 : Value, bA = (((((((((a0.put (some 41) v41).put (some 42) v42).put (some 43) v43).put (some 44) v44).put (some 45) v45).put (some 46) v46).put (some 47) v47).put (some 48) v48).put (some 49) v49).put (some 50) v50 ∧ (Below u1.heap.size u1 v) ∧ (fL 0 = true → v41 = .slice (some ⟨b, off, none⟩) es.length c) ∧ (fL 1 = true → v42 = .int .i64 k) ∧ (fL 2 = true → v43 = .pointer (some ⟨b, off + k * 20, none⟩)) ∧ (fL 3 = true → v44 = .pointer (some ⟨b, off + k * 20, none⟩)) ∧ (fL 4 = true → v45 = .string ti) ∧ (fL 5 = true → v46 = .slice (some ⟨g4, 0, none⟩) R.length c4) ∧ (fL 6 = true → v47 = .int .i64 j) ∧ (fL 7 = true → v48 = .pointer (some ⟨g4, j, none⟩)) ∧ (fL 8 = true → v49 = .string X) ∧ (fL 9 = true → v50 = .bool bs)) (by kernel_rfl) (by decide +kernel) ?_ ?_ ?_
              · exact ⟨_, _, _, _, _, _, _, _, _, _, put_more (put_more (put_more (put_more (put_more (put_more (put_more (put_more (put_more (put_more (rfl) 41) 42) 43) 44) 45) 46) 47) 48) 49) 50, (Below.refl _ _).drew, nofun, nofun, nofun, nofun, nofun, nofun, nofun, nofun, nofun, nofun⟩
              · rintro fL bA v ⟨v41, v42, v43, v44, v45, v46, v47, v48, v49, v50, rfl, hS, q0, q1, q2, q3, q4, q5, q6, q7, q8, q9⟩ i hi hf o ho hall
                simp only [Act.put, List.setIfInBounds_toArray, List.set_cons_zero, List.set_cons_succ]
                simp only [List.length_cons, List.length_nil] at hi
                have hn : i = 0 ∨ i = 1 ∨ i = 2 ∨ i = 3 ∨ i = 4 ∨ i = 5 ∨ i = 6 ∨ i = 7 ∨ i = 8 ∨ i = 9 := by omega
                clear hi
                rcases hn with rfl | rfl | rfl | rfl | rfl | rfl | rfl | rfl | rfl | rfl
                · obtain rfl := Option.some.inj ho
                  clear hall ho
                  refine wpOp_step rfl (fun K hK => ?_)
                  go_simp
                  exact hK _ _ ⟨_, _, _, _, _, _, _, _, _, _, rfl, hS, fun _ => rfl, q1, q2, q3, q4, q5, q6, q7, q8, q9⟩
                · obtain rfl := Option.some.inj ho
                  clear hall ho
                  refine wpOp_step rfl (fun K hK => ?_)
                  go_simp
                  exact hK _ _ ⟨_, _, _, _, _, _, _, _, _, _, rfl, hS, q0, fun _ => rfl, q2, q3, q4, q5, q6, q7, q8, q9⟩
                · obtain rfl := Option.some.inj ho
                  obtain rfl := q0 (hall ⟨0, .data⟩ (by simp) rfl)
                  obtain rfl := q1 (hall ⟨1, .data⟩ (by simp) rfl)
                  clear hall ho
                  refine wpOp_step rfl (fun K hK => ?_)
                  go_simp
                  exact hK _ _ ⟨_, _, _, _, _, _, _, _, _, _, rfl, hS, fun _ => rfl, fun _ => rfl, fun _ => rfl, q3, q4, q5, q6, q7, q8, q9⟩
                · obtain rfl := Option.some.inj ho
                  obtain rfl := q2 (hall ⟨2, .data⟩ (by simp) rfl)
                  clear hall ho
                  refine wpOp_step rfl (fun K hK => ?_)
                  go_simp
                  exact hK _ _ ⟨_, _, _, _, _, _, _, _, _, _, rfl, hS, q0, q1, fun _ => rfl, fun _ => rfl, q4, q5, q6, q7, q8, q9⟩
                · obtain rfl := Option.some.inj ho
                  obtain rfl := q3 (hall ⟨3, .data⟩ (by simp) rfl)
                  have z := (hS.cell (p := ⟨b, off + k * 20, none⟩) hbu).trans x0
                  clear hall ho
                  refine wpOp_step rfl (fun K hK => ?_)
                  go_simp
                  exact hK _ _ ⟨_, _, _, _, _, _, _, _, _, _, rfl, hS, q0, q1, q2, fun _ => rfl, fun _ => rfl, q5, q6, q7, q8, q9⟩
                · obtain rfl := Option.some.inj ho
                  clear hall ho
                  refine wpOp_step rfl (fun K hK => ?_)
                  go_simp
                  exact hK _ _ ⟨_, _, _, _, _, _, _, _, _, _, rfl, hS, q0, q1, q2, q3, q4, fun _ => rfl, q6, q7, q8, q9⟩
                · obtain rfl := Option.some.inj ho
                  clear hall ho
                  refine wpOp_step rfl (fun K hK => ?_)
                  go_simp
                  exact hK _ _ ⟨_, _, _, _, _, _, _, _, _, _, rfl, hS, q0, q1, q2, q3, q4, q5, fun _ => rfl, q7, q8, q9⟩
                · obtain rfl := Option.some.inj ho
                  obtain rfl := q5 (hall ⟨5, .data⟩ (by simp) rfl)
                  obtain rfl := q6 (hall ⟨6, .data⟩ (by simp) rfl)
                  clear hall ho
                  refine wpOp_step rfl (fun K hK => ?_)
                  go_simp
                  exact hK _ _ ⟨_, _, _, _, _, _, _, _, _, _, rfl, hS, q0, q1, q2, q3, q4, fun _ => rfl, fun _ => rfl, fun _ => rfl, q8, q9⟩
                · obtain rfl := Option.some.inj ho
                  obtain rfl := q7 (hall ⟨7, .data⟩ (by simp) rfl)
                  have z := (hS.cell (p := ⟨g4, j, none⟩) hgu).trans y0
                  clear hall ho
                  refine wpOp_step rfl (fun K hK => ?_)
                  go_simp
                  exact hK _ _ ⟨_, _, _, _, _, _, _, _, _, _, rfl, hS, q0, q1, q2, q3, q4, q5, q6, fun _ => rfl, fun _ => rfl, q9⟩
                · obtain rfl := Option.some.inj ho
                  obtain rfl := q4 (hall ⟨4, .data⟩ (by simp) rfl)
                  obtain rfl := q8 (hall ⟨8, .data⟩ (by simp) rfl)
                  clear hall ho
                  refine wpOp_step rfl (fun K hK => ?_)
                  go_simp
                  exact hK _ _ ⟨_, _, _, _, _, _, _, _, _, _, rfl, hS, q0, q1, q2, q3, fun _ => rfl, q5, q6, q7, fun _ => rfl, fun _ => rfl⟩
              · rintro fL bA v ⟨v41, v42, v43, v44, v45, v46, v47, v48, v49, v50, rfl, hS, q0, q1, q2, q3, q4, q5, q6, q7, q8, q9⟩ hall
                simp only [Act.put, List.setIfInBounds_toArray, List.set_cons_zero, List.set_cons_succ]
                simp only [List.length_cons, List.length_nil] at hall
                obtain rfl := q0 (hall 0 (by omega))
                obtain rfl := q1 (hall 1 (by omega))
                obtain rfl := q2 (hall 2 (by omega))
                obtain rfl := q3 (hall 3 (by omega))
                obtain rfl := q4 (hall 4 (by omega))
                obtain rfl := q5 (hall 5 (by omega))
                obtain rfl := q6 (hall 6 (by omega))
                obtain rfl := q7 (hall 7 (by omega))
                obtain rfl := q8 (hall 8 (by omega))
                obtain rfl := q9 (hall 9 (by omega))
                clear hall
                have hLv2 := hLu.below hS
                clear hS x0 y0 hLu
                cases bs with
                | true =>
                  rw [if_pos rfl] at hSn
                  go_wp2
                  go_roundw
                  case rel => exact ⟨j, j, _, rfl, rfl, by go_num, ⟨by omega, by omega⟩, hSn, hLv2⟩
                  case measure => first | (simp [intOf]; done) | (simp [intOf]; omega)
                | false =>
                  rw [if_neg (by simp)] at hSn
                  go_wp2
                  go_roundw
                  case rel => exact ⟨j, q, _, rfl, rfl, by go_num, ⟨by omega, by omega⟩, hSn, hLv2⟩
                  case measure => first | (simp [intOf]; done) | (simp [intOf]; omega)
        · obtain rfl : j = 0 := by omega
          rw [show (((0 : Nat) : Int) - 1) = -1 from rfl]
          have hmem : Hid (∀ x, x ∈ T.take (k + 1) ↔ x ∈ R ∨ x = ti.data.toList) := Lib.hid (fun x => by rw [hnx.out, List.mem_append, ← hI.out.2, List.mem_singleton])
          cases tb with
          | true =>
            have hI2 : Hid (LStrict ltStr R ∧ ∀ x, x ∈ R ↔ x ∈ T.take (k + 1)) := Lib.hid ⟨hI.out.1, fun x => by
              rw [hmem.out]
              exact ⟨.inl, fun h => h.elim id (fun e => e ▸ hSc.out.there)⟩⟩
            go_wp2
            go_roundw
            case rel => exact ⟨k + 1, R, g4, c4, by omega, by go_num, rfl, hL, by omega, hI2⟩
            case measure => first | (simp [intOf]; done) | (simp [intOf]; omega)
          | false =>
            have hput := hSc.out.put hI.out.1
            have HN : Hid (LStrict ltStr (R.take q ++ [ti.data.toList] ++ R.drop q) ∧ ∀ x, x ∈ R.take q ++ [ti.data.toList] ++ R.drop q ↔ x ∈ T.take (k + 1)) := Lib.hid ⟨hput.1, fun x => by rw [hput.2, hmem.out]⟩
            have c0 := HX.out _ hL.hb
            have hO := hL.o
            have hb := hL.hb
            have hsl := hO.sl
            have hbs := hb.size
            have hcap : R.length ≤ c4 := hc4
            have hlen1 : ((R.map sc).take q).length = q := by simp; omega
            have hlen2 : ((R.map sc).drop q).length = R.length - q := by simp
            have HL1 := Lib.hid hlen1
            have HL2 := Lib.hid hlen2
            have HRk := Lib.hid hRl
            have HSL := Lib.hid hsl
            obtain ⟨w2, hw2⟩ : ∃ u, u = wr := ⟨_, rfl⟩
            subst hw2
            clear hlen1 hlen2 hsl hput hSc hL
            have hAll := Lib.hid (fun W (h : RowKit.Below w2.heap.size w2 W) => (⟨h, below_keepc h c0⟩ : RowKit.Below w2.heap.size w2 W ∧ W.cell? ⟨b, off + k * 20, none⟩ = some (.string ti)))
            have t1 := Lib.hid trivial
            have p0 : (0 : Int) ≤ (q : Int) := by omega
            have p1 : (q : Int) ≤ (R.length : Int) := by omega
            have p2 : (R.length : Int) ≤ (c4 : Int) := by omega
            have p3 : (q : Int) ≤ (c4 : Int) := by omega
            have p4 : (0 : Int) ≤ (R.length : Int) := by omega
            have hrun := fun W => run_slice_fromK (P := Tryz.prog) W 62 9 1 Tryz.underlying62 (fun _ => by kernel_rfl) g4 R.length c4 q hq (by omega)
            have hrun2 := fun W => run_slice_to (P := Tryz.prog) W 62 9 1 Tryz.underlying62 (fun _ => by kernel_rfl) (some ⟨g4, 0, none⟩) R.length c4 q (by omega)
            have hdr := HSL.out.drop (m := q) (cap := c4) (by simp; omega) (by simp; omega)
            obtain ⟨AD, hAD⟩ : ∃ AD, AD = (if c4 = q then some (⟨g4, 0, none⟩ : Addr) else (some (⟨g4, 0, none⟩ : Addr)).map (·.add (q * 1))) := ⟨_, rfl⟩
            rw [← hAD] at hdr
            simp only [← hAD] at hrun
            have HDR := Lib.hid hdr
            clear hdr hAD
            go_wp2_with fail
            go_region_held3 (fun w' => RowKit.Below w2.heap.size w2 w' ∧ w'.cell? ⟨b, off + k * 20, none⟩ = some (.string ti))
              (first | exact hAll.out _ (RowKit.Below.drew (RowKit.Below.refl _ _)) | assumption | exact hAll.out _ (by assumption) | exact hAll.out _ (belX_alloc (by assumption) _ (Nat.le_refl _)) | fail)
              ((first | (have _t := t1; refine step_append_rows _ rfl _ _ _ (by rfl) w2.heap.size 9 ii _ 1 16 Tryz.underlying62 hi hz0 hz1 hz2 rfl (by omega) _ [] (by rfl) (Own.of_empty (by first | exact Blk.new' _ _ _ (by simp) | exact (Blk.new' _ _ _ (by simp)).alloc _) (by simp)) w2.heap.size _ _ _ ((R.map sc).take q) (by rfl) HL1.out ((HSL.out.below (belX (by assumption))).take q) strT (by simp; unfold maxLen; omega) (by simp; omega) (RowKit.Below.size (belX (by assumption))) ?_; intro v1 w3 hO3 hg3 hat3; have hb3 : RowKit.Below w2.heap.size w2 w3 := below_app (belX (by assumption)) hg3 (RowKit.Below.size (belX (by assumption))) (fun g hg => by simp [Value.ownBlock] at hg; omega); (try have BL1 : Blk w3 w2.heap.size 9 #[.string ti] := (hg3.block _ (by first | (simp; omega) | simp) (by simp [Value.ownBlock])).trans ((Blk.new' _ _ _ (by simp)).alloc _)); (try have BL1 : Blk w3 (w2.heap.size + 1) 9 #[.string ti] := (hg3.block _ (by first | (simp; omega) | simp) (by simp [Value.ownBlock])).trans (Blk.new' _ _ _ (by simp))); clear t1; have t2 := Lib.hid trivial) | (have _t := t2; refine step_append_rows _ rfl _ _ _ (by rfl) w2.heap.size 9 ii _ 1 16 Tryz.underlying62 hi hz0 hz1 hz2 rfl (by omega) _ _ (by rfl) (by first | exact hO3 | exact hO3.alloc _) _ _ _ _ ([ti.data.toList].map sc) (by rfl) rfl (Sl.of_blk (by first | exact BL1 | exact Blk.new' _ _ _ (by first | rfl | simp)) _ rfl (by intro y hy; simp only [List.map_cons, List.map_nil, List.mem_singleton] at hy; subst hy; rfl)) (sc_one (x := [ti.data.toList])) (by simp; unfold maxLen; omega) (by simp; omega) (RowKit.Below.size (belX (by assumption))) ?_; intro v2 w4 hO4 hg4 hat4; have hb4 : RowKit.Below w2.heap.size w2 w4 := below_app (belX (by assumption)) hg4 (RowKit.Below.size (belX (by assumption))) hO3.ownGe; clear t2; have t3 := Lib.hid trivial) | (have _t := t3; refine step_append_rows _ rfl _ _ _ (by rfl) w2.heap.size 9 ii _ 1 16 Tryz.underlying62 hi hz0 hz1 hz2 rfl (by omega) _ _ (by rfl) hO4 w2.heap.size _ _ _ ((R.map sc).drop q) (by rfl) HL2.out (HDR.out.below (belX (by assumption))) strD (by simp; unfold maxLen; omega) (by simp; omega) (RowKit.Below.size (belX (by assumption))) ?_; intro v3 w5 hO5 hg5 hat5; have hb5 : RowKit.Below w2.heap.size w2 w5 := below_app (belX (by assumption)) hg5 (RowKit.Below.size (belX (by assumption))) hO4.ownGe; clear t3)))
            all_goals go_wp2
            all_goals
              have hrows : [] ++ (R.map sc).take q ++ [ti.data.toList].map sc ++ (R.map sc).drop q = (R.take q ++ [ti.data.toList] ++ R.drop q).map sc := by simp
              rw [hrows] at hO5
              obtain ⟨g5, c5, hv5⟩ := hO5.some_ (by simp; omega)
              have hlen5 : (R.take q ++ [ti.data.toList] ++ R.drop q).length ≤ k + 1 := by have := HRk.out; simp; omega
              clear hrows
              go_roundw
              case rel => exact ⟨k + 1, R.take q ++ [ti.data.toList] ++ R.drop q, g5, c5, by omega, by go_num, by rw [hv5]; simp, ⟨hb.trans (hb5.mono hbs), hO5.mono hbs⟩, hlen5, HN⟩
              case measure => first | (simp [intOf]; done) | (simp [intOf]; omega)
    · have : k = es.length := by omega
      subst this
      obtain ⟨h1, h2⟩ := hI.out
      rw [hall.out] at h2
      obtain rfl := hof.out R h1 h2
      have hO := hL.o
      have hbw := hL.hb
      clear hL
      go_wp2
      go_ret2
      exact ⟨_, c4, rfl, hO, hbw⟩
end Go.Proofs.YtkjlakdjgpgekaaGreatDoor
namespace Go.Proofs.YtkjlakdjgpgekaaGreatDoor
open Go.RowKit
theorem grown_below {w w1 w2 : World} {r : Option Nat} (h : w.grownBy w1 r) (hb : Below w1.heap.size w1 w2) : w.grownBy w2 r :=
  ⟨hb.os.trans h.os, hb.tape.trans h.tape, hb.output.trans h.output, Nat.le_trans h.size hb.size, fun k hk hn => (hb.block k (Nat.lt_of_lt_of_le hk h.size)).trans (h.block k hk hn)⟩
set_option maxRecDepth 100000 in
theorem eqStrS_c (A A' : Option Addr) (c c' : Nat) (l : List (List UInt8)) (w : World) (hl : l.length ≤ 140737488351232) (hs : Sl w w.heap.size 1 A (l.map sc)) (hs' : Sl w w.heap.size 1 A' (l.map sc)) :
   Calls Tryz.prog 32 #[.slice A l.length c, .slice A' l.length c'] w fun e w' => e = .returned (.bool true) ∧ Below w.heap.size w w' := by
  go_enter Tryz.func32, Tryz.ntmps32
  go_wp2_with fail
  go_loopw [5] (fun i wr => ∃ k : Nat, k ≤ l.length ∧ i = .int .i64 k ∧ Below w.heap.size w wr) (fun i _ => l.length - (intOf i).toNat)
  case atStart => exact ⟨0, Nat.zero_le _, rfl, Below.refl _ _⟩
  case round =>
    obtain ⟨k, hk, rfl, hb⟩ := hrel
    by_cases hlt : k < l.length
    · obtain ⟨b, off, rfl, hbB, hc⟩ := hs.str hlt
      obtain ⟨b', off', rfl, hbB', hc'⟩ := hs'.str hlt
      have c0 : wr.cell? ⟨b, off + k, none⟩ = some (.string ⟨l[k].toArray⟩) := by rw [hb.cell hbB]; exact hc
      have d0 : wr.cell? ⟨b', off' + k, none⟩ = some (.string ⟨l[k].toArray⟩) := by rw [hb.cell hbB']; exact hc'
      clear hc hc'
      generalize (⟨l[k].toArray⟩ : ByteArray) = x at *
      have hx : (x.toList == x.toList) = true := by simp
      go_wp2_with fail
      go_quiet (fail)
      go_wp2
      go_roundw
      case rel => exact ⟨k + 1, by omega, by go_num, (by repeat (first | with_reducible exact hb | with_reducible apply below_drewN' | with_reducible apply Below.drew | (with_reducible refine Below.alloc ?_ (by first | omega | (simp; omega) | simp | (have := (hb).size; omega) | (have := (hb).size; simp; omega)) _) | (with_reducible refine Below.setCell ?_ (by first | omega | (simp; omega) | simp | (have := (hb).size; omega) | (have := (hb).size; simp; omega)) _) | exact hb))⟩
      case measure => simp [intOf]; omega
    · have : k = l.length := by omega
      subst this
      go_wp2
      go_ret
      exact ⟨rfl, hb⟩
def markStr (m : Int) (i : Nat) : List Value := [.string (markT (m + i))]
set_option maxRecDepth 100000 in
theorem markStrS_c (A : Option Addr) (c base : Nat) (m : Int) (xs : List (List Value)) (w : World) (hm : 0 ≤ m ∧ m ≤ 1000000000) (hl : xs.length ≤ 10000000) (hO : Own w base 9 1 (.slice A xs.length c) xs) :
    Calls Tryz.prog 33 #[.slice A xs.length c, .int .i64 m] w fun e w' => e = .returned (.int .i64 (m + xs.length)) ∧ Own w' base 9 1 (.slice A xs.length c) ((List.range xs.length).map (markStr m)) ∧ w.grownBy w' (Value.slice A xs.length c).ownBlock := by
  go_enter Tryz.func33, Tryz.ntmps33
  go_wp2_with fail
  go_loopw [1, 5] (fun q i wr => ∃ k : Nat, k ≤ xs.length ∧ i = .int .i64 k ∧ q = .int .i64 (m + k) ∧ w.grownBy wr (Value.slice A xs.length c).ownBlock ∧
      Own wr base 9 1 (.slice A xs.length c) ((List.range k).map (markStr m) ++ xs.drop k)) (fun _ i _ => xs.length - (intOf i).toNat)
  case atStart => exact ⟨0, Nat.zero_le _, rfl, by simp, World.grownBy.refl _ _, by simpa using hO⟩
  case round =>
    obtain ⟨k, hk, rfl, rfl, hg, hO1⟩ := hrel
    by_cases hlt : k < xs.length
    · have hkl : k < ((List.range k).map (markStr m) ++ xs.drop k).length := by simp; omega
      obtain ⟨_, b, off, rfl, _, _⟩ := hO1.sl k _ (List.getElem?_eq_getElem hkl)
      obtain rfl := hO1.off0 hkl
      have HT := Lib.hid (fun W => markText_c (m + k) W (by omega))
      clear hO
      go_wp2_with fail
      refine Calls.mono (HT.out _) ?_; rintro e w2 ⟨rfl, hb2⟩
      have hO2 := hO1.below hb2
      have hg2 : w.grownBy w2 (Value.slice (some ⟨b, 0, none⟩) xs.length c).ownBlock := grown_below hg hb2
      obtain ⟨v0, e0⟩ : ∃ v, w2.cell? ⟨b, k * 1, none⟩ = some v := hO2.cell (i := k) (j := 0) hkl (by omega)
      have f0 : w2.frozen? ⟨b, k * 1, none⟩ = false := hO2.frozen _
      rw [Nat.mul_one] at e0 f0
      clear hO1 hg hb2 HT
      have hst := Lib.hid (hO2.store (i := k) hkl (markStr m k) rfl)
      have hgs := Lib.hid (grownBy_stores (markStr m k) (k * 1) hg2)
      rw [marks_next _ hlt, Nat.mul_one] at hst
      rw [Nat.mul_one] at hgs
      unfold markStr at hst hgs
      have hmk : Hid (stores w2 b k [.string (markT (m + k))] = w2.setCell ⟨b, k, none⟩ (.string (markT (m + k)))) := Lib.hid rfl
      rw [hmk.out] at hst hgs
      generalize markT (m + k) = tx at *
      go_wp2
      go_roundw
      case rel =>
        refine ⟨k + 1, by omega, by go_num, ?_, hgs.out, hst.out⟩
        simp; omega
      case measure => simp [intOf]; omega
    · have : k = xs.length := by omega
      subst this
      go_wp2
      go_ret
      rw [List.drop_of_length_le (Nat.le_refl _), List.append_nil] at hO1
      exact ⟨rfl, hO1, hg⟩
set_option maxRecDepth 100000 in
theorem heldStrS_c (A : Option Addr) (n c : Nat) (m : Int) (w : World) (hm : 0 ≤ m ∧ m ≤ 1000000000) (hl : n ≤ 10000000) (hs : Sl w w.heap.size 1 A ((List.range n).map (markStr m))) :
    Calls Tryz.prog 34 #[.slice A n c, .int .i64 m] w fun e w' => e = .returned (.int .i64 (m + n)) ∧ Below w.heap.size w w' := by
  go_enter Tryz.func34, Tryz.ntmps34
  go_wp2_with fail
  go_loopw [1, 5] (fun q i wr => ∃ k : Nat, k ≤ n ∧ i = .int .i64 k ∧ q = .int .i64 (m + k) ∧ Below w.heap.size w wr) (fun _ i _ => n - (intOf i).toNat)
  case atStart => exact ⟨0, Nat.zero_le _, rfl, by simp, Below.refl _ _⟩
  case round =>
    obtain ⟨k, hk, rfl, rfl, hb⟩ := hrel
    by_cases hlt : k < n
    · obtain ⟨b, off, rfl, hbB, hc⟩ := hs.at_ (i := k) (by simpa using hlt)
      simp only [List.getElem_map, List.getElem_range] at hc
      have c0 : wr.cell? ⟨b, off + k, none⟩ = some (.string (markT (m + k))) := by rw [hb.cell hbB]; have := hc 0 _ rfl; simpa using this
      have HT := Lib.hid (fun W => markText_c (m + k) W (by omega))
      have hbl : b < wr.heap.size := Nat.lt_of_lt_of_le hbB hb.size
      clear hc
      generalize markT (m + k) = tx at *
      have hx : (tx.toList == tx.toList) = true := by simp
      go_wp2_with fail
      refine wp_region_sink 6 (fun a0 fL bA v => ∃ v12 v13 v14 v15 v16 v17 : Value, bA = (((((a0.put (some 12) v12).put (some 13) v13).put (some 14) v14).put (some 15) v15).put (some 16) v16).put (some 17) v17 ∧ (Below wr.heap.size wr v) ∧ (fL 0 = true → v12 = .slice (some ⟨b, off, none⟩) n c) ∧ (fL 1 = true → v13 = .int .i64 k) ∧ (fL 2 = true → v14 = .pointer (some ⟨b, off + k, none⟩)) ∧ (fL 3 = true → v15 = .string tx) ∧ (fL 4 = true → v16 = .int .i64 (m + k)) ∧ (fL 5 = true → v17 = .string tx)) (by kernel_rfl) (by decide +kernel) ?_ ?_ ?_
      · exact ⟨_, _, _, _, _, _, put_more (put_more (put_more (put_more (put_more (put_more (rfl) 12) 13) 14) 15) 16) 17, (Below.refl _ _).drew, nofun, nofun, nofun, nofun, nofun, nofun⟩
      · rintro fL bA v ⟨v12, v13, v14, v15, v16, v17, rfl, hS, q0, q1, q2, q3, q4, q5⟩ i hi hf o ho hall
        simp only [Act.put, List.setIfInBounds_toArray, List.set_cons_zero, List.set_cons_succ]
        have hn : i = 0 ∨ i = 1 ∨ i = 2 ∨ i = 3 ∨ i = 4 ∨ i = 5 := by omega
        clear hi
        rcases hn with rfl | rfl | rfl | rfl | rfl | rfl
        · obtain rfl := Option.some.inj ho
          clear hall ho
          refine wpOp_step rfl (fun K hK => ?_)
          go_simp
          exact hK _ _ ⟨_, _, _, _, _, _, rfl, hS, fun _ => rfl, q1, q2, q3, q4, q5⟩
        · obtain rfl := Option.some.inj ho
          clear hall ho
          refine wpOp_step rfl (fun K hK => ?_)
          go_simp
          exact hK _ _ ⟨_, _, _, _, _, _, rfl, hS, q0, fun _ => rfl, q2, q3, q4, q5⟩
        · obtain rfl := Option.some.inj ho
          obtain rfl := q0 (hall ⟨0, .data⟩ (by simp) rfl)
          obtain rfl := q1 (hall ⟨1, .data⟩ (by simp) rfl)
          clear hall ho
          refine wpOp_step rfl (fun K hK => ?_)
          go_simp
          exact hK _ _ ⟨_, _, _, _, _, _, rfl, hS, fun _ => rfl, fun _ => rfl, fun _ => rfl, q3, q4, q5⟩
        · obtain rfl := Option.some.inj ho
          obtain rfl := q2 (hall ⟨2, .data⟩ (by simp) rfl)
          have z := (hS.cell (p := ⟨b, off + k, none⟩) hbl).trans c0
          clear hall ho
          refine wpOp_step rfl (fun K hK => ?_)
          go_simp
          exact hK _ _ ⟨_, _, _, _, _, _, rfl, hS, q0, q1, fun _ => rfl, fun _ => rfl, q4, q5⟩
        · obtain rfl := Option.some.inj ho
          clear hall ho
          refine wpOp_step rfl (fun K hK => ?_)
          go_simp
          exact hK _ _ ⟨_, _, _, _, _, _, rfl, hS, q0, q1, q2, q3, fun _ => rfl, q5⟩
        · obtain rfl := Option.some.inj ho
          obtain rfl := q4 (hall ⟨4, .data⟩ (by simp) rfl)
          clear hall ho
          refine wpOp_step rfl (fun K hK => ?_)
          go_simp
          refine Calls.mono ((HT.out v)) ?_; rintro e w1 ⟨rfl, hb1⟩
          go_simp
          exact hK _ _ ⟨_, _, _, _, _, _, rfl, hS.trans (hb1.mono hS.size), q0, q1, q2, q3, fun _ => rfl, fun _ => rfl⟩
      · rintro fL bA v ⟨v12, v13, v14, v15, v16, v17, rfl, hS, q0, q1, q2, q3, q4, q5⟩ hall
        simp only [Act.put, List.setIfInBounds_toArray, List.set_cons_zero, List.set_cons_succ]
        obtain rfl := q0 (hall 0 (by omega))
        obtain rfl := q1 (hall 1 (by omega))
        obtain rfl := q2 (hall 2 (by omega))
        obtain rfl := q3 (hall 3 (by omega))
        obtain rfl := q4 (hall 4 (by omega))
        obtain rfl := q5 (hall 5 (by omega))
        clear hall
        simp only [List.drop_succ_cons, List.drop_zero]
        have hbv := hb.trans (hS.mono hb.size)
        go_wp2
        go_roundw
        case rel => exact ⟨k + 1, by omega, by go_num, by simp; omega, hbv⟩
        case measure => simp [intOf]; omega
    · have : k = n := by omega
      subst this
      go_wp2
      go_ret
      exact ⟨rfl, hb⟩
end Go.Proofs.YtkjlakdjgpgekaaGreatDoor
namespace Go.Proofs.YtkjlakdjgpgekaaGreatDoor
open Go.RowKit
set_option maxRecDepth 100000 in
set_option maxHeartbeats 4000000 in
theorem lawTitles_c (A : Option Addr) (c : Nat) (es : List EnR)  (w : World) (hn : es.length ≤ 140737488351232) (hi : ∀ x ∈ es, x.Laid w) (hs : Sl w w.heap.size 20 A (es.map EnR.cells)) :
    Calls Tryz.prog 7 #[.slice A es.length c] w fun e w' => e = .returned (.bool true) ∧ Below w.heap.size w w' := by
  have HZ := Lib.hid (szEnS_c A c es 1048576 w hn hi hs (by omega))
  have hE : Hid ((es.length ≤ 1048576 ∧ ∀ e ∈ es, e.e.short) → EnsIn w A es) := Lib.hid (fun h => ⟨h.1, hs, fun e he => EnLaid.en (hi e he) (h.2 e he)⟩)
  have HS := Lib.hid (fun (A2 : Option Addr) (c2 : Nat) (fs : List EnR) W (F : EnsIn W A2 fs) (hc : fs.length ≤ c2) (hl : fs.length = es.length) (he : ens fs = ens es) => (by have h := specTitles_c A2 c2 fs  W F hc; rw [he, hl] at h; exact h : Calls Tryz.prog 30 #[.slice A2 es.length c2] W (PostRows 9 1 (titR (ens es)).length ((titR (ens es)).map sc) (titC (ens es)) W)))
  have HM := Lib.hid (fun (A2 : Option Addr) (c2 : Nat) (fs : List EnR) W (F : EnsIn W A2 fs) (hc : fs.length ≤ c2) (hl : fs.length = es.length) (he : ens fs = ens es) => (by have h := implTitles_c A2 c2 fs  W F hc; rw [he, hl] at h; exact h : Calls Tryz.prog 31 #[.slice A2 es.length c2] W (PostRows 9 1 (titR (ens es)).length ((titR (ens es)).map sc) (titC (ens es)) W)))
  have hlen := titR_len (ens es)
  rw [ens_len] at hlen
  replace hlen := Lib.hid hlen
  clear hs hi
  generalize titR (ens es) = R at *
  generalize titC (ens es) = cd at *
  go_enter Tryz.func7, Tryz.ntmps7
  go_wp2_with fail
  refine Calls.mono HZ.out ?_; rintro e w1 ⟨⟨v, rfl, hv⟩, hb1⟩
  rcases hv with hv | ⟨hv0, _, hlen2⟩
  · go_wp2
    go_ret
    exact ⟨rfl, hb1⟩
  have hvn : ¬ v < 0 := by omega
  have E := Lib.hid (hE.out hlen2)
  have HT := Lib.hid (fun W (hW : Below w.heap.size w W) => toEnSO_c A c es W (E.out.later hW))
  have hRl : Hid (R.length ≤ 1048576) := Lib.hid (Nat.le_trans hlen.out E.out.n)
  clear hlen2 hE HZ hlen
  go_wp2_with fail
  refine Calls.mono (HT.out w1 hb1) ?_; rintro e w2 ⟨⟨v2, rfl, A2, c2, fs2, rfl, hl2, he2, hc2, F2, _, _, _⟩, hb2⟩
  have hW2 := hb1.trans (hb2.mono hb1.size)
  have H2 := Lib.hid (HS.out A2 c2 fs2 w2 F2 (by rw [hl2]; exact hc2) hl2 he2)
  clear hb1 hb2 F2 hl2 he2 HS
  go_wp2_with fail
  refine Calls.mono H2.out ?_; rintro e w3 ⟨Aw, cw, rfl, Ow, hb3⟩
  have hW3 := hW2.trans (hb3.mono hW2.size)
  have s23 := hb3.size
  have hOwl := own_lt' Ow
  clear hb3 H2
  go_wp2_with fail
  refine Calls.mono (HT.out w3 hW3) ?_; rintro e w4 ⟨⟨v4, rfl, A4, c4, fs4, rfl, hl4, he4, hc4, F4, O4, P4, D4⟩, hb4⟩
  have hW4 := hW3.trans (hb4.mono hW3.size)
  replace Ow := Ow.below hb4
  have s34 := hb4.size
  have H4 := Lib.hid (HM.out A4 c4 fs4 w4 F4 (by rw [hl4]; exact hc4) hl4 he4)
  replace P4 := Lib.hid P4
  replace D4 := Lib.hid D4
  replace F4 := Lib.hid F4
  replace O4 := Lib.hid O4
  replace hl4 := Lib.hid hl4
  replace he4 := Lib.hid he4
  clear hb4
  go_wp2_with fail
  refine Calls.mono H4.out ?_; rintro e w5 ⟨Ag, cg, rfl, Og, hb5⟩
  have hW5 := hW4.trans (hb5.mono hW4.size)
  replace Ow := Ow.below hb5
  have hB5 := hb5
  have hOgg := Og.ownGe
  clear hb5 H4
  go_wp2_with fail
  refine (eqStrS_c Ag Aw cg cw R w5 (by have := hRl.out; omega) Og.sl Ow.sl).mono ?_; rintro e w6 ⟨rfl, hb6⟩
  have hW6 := hW5.trans (hb6.mono hW5.size)
  replace Ow := Ow.below hb6
  replace Og := Og.below hb6
  replace hB5 := hB5.trans (hb6.mono hB5.size)
  clear hb6
  go_wp2_with fail
  refine Calls.mono (HT.out w6 hW6) ?_; rintro e w7 ⟨⟨v7, rfl, A7, c7, fs7, rfl, hl7, he7, hc7, F7, _, _, _⟩, hb7⟩
  have hW7 := hW6.trans (hb7.mono hW6.size)
  replace Ow := Ow.below hb7
  replace Og := Og.below hb7
  replace hB5 := hB5.trans (hb7.mono hB5.size)
  have H7 := eqEnS_c A4 A7 c4 c7 fs4 fs7 w7 (F4.out.later hB5) F7 (by rw [he4.out, he7])
  rw [hl4.out, hl7] at H7
  replace H7 := Lib.hid H7
  clear F7 hl7 he7 hb7
  go_wp2_with fail
  refine Calls.mono H7.out ?_; rintro e w8 ⟨rfl, hb8⟩
  have hW8 := hW7.trans (hb8.mono hW7.size)
  replace Ow := Ow.below hb8
  replace Og := Og.below hb8
  replace hB5 := hB5.trans (hb8.mono hB5.size)
  have H8 := markEnS_c A4 c4 fs4 w3.heap.size w4.heap.size 1 w4 w8 (by omega) F4.out (by rw [hl4.out]; exact O4.out) P4.out D4.out (Nat.le_refl _) hB5
  rw [hl4.out] at H8
  replace H8 := Lib.hid H8
  clear hb8 H7 F4 O4 P4 D4
  go_wp2_with fail
  refine Calls.mono H8.out ?_; rintro e w9 ⟨n9, rfl, hn9, hk9⟩
  have s3 := hW3.size
  replace Ow := Ow.kb hk9 (fun x hx => by have := hOwl x hx; unfold Nb; omega)
  replace Og := Og.kb hk9 (fun x hx => by have := hOgg x hx; unfold Nb; omega)
  have hW9 := below_kb hW8 hk9 hW8.size (fun k hk => by unfold Nb; omega)
  have hn9' : ¬ n9 < 0 := by omega
  clear hk9 H8 hW8 hB5
  go_wp2_with fail
  refine (eqStrS_c Ag Aw cg cw R w9 (by have := hRl.out; omega) Og.sl Ow.sl).mono ?_; rintro e w10 ⟨rfl, hb10⟩
  have hW10 := hW9.trans (hb10.mono hW9.size)
  replace Ow := Ow.below hb10
  replace Og := Og.below hb10
  clear hb10
  have HMk := markStrS_c Ag cg w4.heap.size 1 (R.map sc) w10 (by omega) (by have := hRl.out; simp; omega) (by simpa using Og)
  rw [List.length_map] at HMk
  replace HMk := Lib.hid HMk
  go_wp2_with fail
  refine Calls.mono HMk.out ?_; rintro e w11 ⟨rfl, Og', hg11⟩
  have hown : ∀ x, (Value.slice Ag R.length cg).ownBlock = some x → w4.heap.size ≤ x := Og'.ownGe
  replace Ow := Ow.kept hg11 (by
    cases hb : (Value.slice Aw R.length cw).ownBlock with
    | none => exact .inl rfl
    | some x => exact .inr (fun e => by have := hOwl x hb; have := hown x e.symm; omega))
  have hW11 := hW10.grown hg11 hW10.size (fun x hx => by have := hown x hx; have := hW4.size; omega)
  clear hg11 HMk Og
  have HH := Lib.hid (fun W (hs : Sl W W.heap.size 1 Ag ((List.range R.length).map (markStr 1))) => heldStrS_c Ag R.length cg 1 W (by omega) (by have := hRl.out; omega) hs)
  have H11 := Lib.hid (HH.out w11 Og'.sl)
  have hq0 : ¬ (1 + (R.length : Int)) < 0 := by omega
  go_wp2_with fail
  refine Calls.mono H11.out ?_; rintro e w11b ⟨rfl, hb11⟩
  replace hW11 := hW11.trans (hb11.mono hW11.size)
  replace Ow := Ow.below hb11
  replace Og' := Og'.below hb11
  clear H11 hb11
  go_wp2_with fail
  refine Calls.mono (HT.out w11b hW11) ?_; rintro e w12 ⟨⟨v12, rfl, A12, c12, fs12, rfl, hl12, he12, hc12, F12, _, _, _⟩, hb12⟩
  have hW12 := hW11.trans (hb12.mono hW11.size)
  replace Ow := Ow.below hb12
  replace Og' := Og'.below hb12
  have H12 := Lib.hid (HM.out A12 c12 fs12 w12 F12 (by rw [hl12]; exact hc12) hl12 he12)
  clear hb12 F12 hl12 he12 HM
  go_wp2_with fail
  refine Calls.mono H12.out ?_; rintro e w13 ⟨Ah, ch, rfl, Oh, hb13⟩
  have hW13 := hW12.trans (hb13.mono hW12.size)
  replace Ow := Ow.below hb13
  replace Og' := Og'.below hb13
  clear hb13 H12
  go_wp2_with fail
  refine (eqStrS_c Ah Aw ch cw R w13 (by have := hRl.out; omega) Oh.sl Ow.sl).mono ?_; rintro e w14 ⟨rfl, hb14⟩
  have hW14 := hW13.trans (hb14.mono hW13.size)
  replace Og' := Og'.below hb14
  clear hb14 Oh Ow
  have H14 := Lib.hid (HH.out w14 Og'.sl)
  go_wp2_with fail
  refine Calls.mono H14.out ?_; rintro e w15 ⟨rfl, hb15⟩
  have hW15 := hW14.trans (hb15.mono hW14.size)
  go_wp2
  go_ret
  exact ⟨rfl, hW15⟩
end Go.Proofs.YtkjlakdjgpgekaaGreatDoor
