/- Programs and their texts, sorted programs: what the law on engraving asks, in plain words. No condition of their own. A text slightly damaged, as the reference draws it; the draws of the law on programs and texts. Conditions: the lengths. The law's comparison of strokes, walked. No condition beyond the length. The law on programs and their texts: walked. Conditions: what the library's variables hold. -/
import Derived.Test.YtkjommcmeinkaaaGreatDoorReadP
import Derived.Test.YtkjommcmeinkaaaGreatDoorStrT3
import Derived.Test.YtkjommcmeinkaaaGreatDoorSortT
import Derived.Test.YtkjommcmeinkaaaGreatDoorWear
import Derived.Test.YtkjommcmeinkaaaGreatDoorDraw8
import Derived.Test.YtkjommcmeinkaaaGreatDoorInv
import Derived.Test.YtkjommcmeinkaaaGreatDoorEng
import Derived.Test.YtkjommcmeinkaaaGreatDoorReadS
import Derived.Test.YtkjommcmeinkaaaGreatDoorBig
namespace Go.Proofs.YtkjommcmeinkaaaGreatDoor
open Go.RowKit
theorem digs_free {u : Nat} {b : UInt8} (h : b.toNat < 48) : b ∉ Lib.decDigits u := fun hb => by
  have h1 := List.all_eq_true.1 (digs_dec u) b hb
  have h2 := digB_iff.1 h1
  omega
theorem itoa_free {v : Int} {b : UInt8} (h0 : 0 ≤ v) (h : b.toNat < 48) : b ∉ Lib.itoa v := by
  rw [itoa_nat h0]; exact digs_free h
theorem strT_read {s : Stroke} (h : strokeOK s = true) : wordF numI tlI (strT s) = some s := by
  obtain ⟨ht, hp, hl⟩ := strokeOK_bd h
  have e : strT s = (if s.tool = 2 then 66 else 70) :: (Lib.itoa s.place ++ 46 :: Lib.itoa s.long) := by simp [strT]
  have h1 : splitC 46 (Lib.itoa s.place ++ 46 :: Lib.itoa s.long) = [Lib.itoa s.place, Lib.itoa s.long] := by
    rw [splitC_at _ (itoa_free hp.1 (by decide)), splitC_none (itoa_free (by omega) (by decide))]
  have h2 : tlI (if s.tool = 2 then 66 else 70) = some s.tool := by
    unfold tlI
    by_cases h2 : s.tool = 2
    · rw [if_pos h2, if_neg (by decide), if_pos rfl, h2]
    · rw [if_neg h2, if_pos rfl]; congr 1; omega
  have h3 : numI (Lib.itoa s.place) = some s.place := numI_some.2 ⟨rfl, by omega, by omega⟩
  have h4 : numI (Lib.itoa s.long) = some s.long := numI_some.2 ⟨rfl, by omega, by omega⟩
  rw [e]
  unfold wordF
  simp only [h1, h2, h3, h4]
theorem text_read {l : List Stroke} (h : strokesCode l = 0) : readL (progT l) = l ∧ readC (progT l) = 0 := by
  obtain ⟨hok, hlen⟩ := strokesCode_ok h
  by_cases h0 : l = []
  · subst h0; exact read_empty
  · have hsp : splitC 32 (progT l) = l.map strT := by
      unfold progT
      refine split_join _ (by simpa using h0) ?_
      intro x hx
      obtain ⟨s, hs, rfl⟩ := List.mem_map.1 hx
      obtain ⟨_, hp, hl⟩ := strokeOK_bd (List.all_eq_true.1 hok s hs)
      unfold strT
      simp only [List.mem_append, List.mem_singleton, not_or]
      refine ⟨⟨⟨?_, itoa_free (by omega) (by decide)⟩, by decide⟩, itoa_free (by omega) (by decide)⟩
      split <;> decide
    have hne : progT l ≠ [] := by
      intro e
      rw [e] at hsp
      match l, h0 with
      | s :: r, _ => simp [splitC, strT] at hsp
    exact read_good hne (g := wordF numI tlI) (fun x => rfl) (by rw [hsp, List.map_map]; exact List.map_congr_left (fun s hs => strT_read (List.all_eq_true.1 hok s hs))) h
theorem word_text {x : List UInt8} {s : Stroke} (h : goodW (wordF numI tlI x) = some s) : strokeOK s = true ∧ strT s = x := by
  cases x with
  | nil => cases h
  | cons c r =>
    unfold wordF at h
    simp only at h
    have hj := join_split 46 r
    generalize splitC 46 r = ws at *
    match ws with
    | [] => cases htl : tlI c <;> rw [htl] at h <;> cases h
    | [a] => cases htl : tlI c <;> rw [htl] at h <;> cases h
    | a :: b :: d :: e => cases htl : tlI c <;> rw [htl] at h <;> cases h
    | [a, b] =>
      cases htl : tlI c with
      | none => rw [htl] at h; cases h
      | some t =>
        rw [htl] at h
        simp only at h
        cases ha : numI a with
        | none => rw [ha] at h; cases h
        | some m =>
          rw [ha] at h
          cases hb : numI b with
          | none => rw [hb] at h; cases h
          | some n =>
            rw [hb] at h
            simp only at h
            unfold goodW at h
            simp only at h
            split at h
            · rename_i hok
              obtain rfl := Option.some.inj h
              refine ⟨hok, ?_⟩
              obtain ⟨rfl, _⟩ := numI_some.1 ha
              obtain ⟨rfl, _⟩ := numI_some.1 hb
              have e : joinC [46] [Lib.itoa m, Lib.itoa n] = Lib.itoa m ++ [46] ++ Lib.itoa n := rfl
              rw [e] at hj
              rw [← hj]
              unfold strT
              unfold tlI at htl
              by_cases h1 : c = 70
              · rw [if_pos h1] at htl
                obtain rfl := Option.some.inj htl
                subst h1
                simp
              · rw [if_neg h1] at htl
                by_cases h2 : c = 66
                · rw [if_pos h2] at htl
                  obtain rfl := Option.some.inj htl
                  subst h2
                  simp
                · rw [if_neg h2] at htl; cases htl
            · cases h
theorem read_text {s : List UInt8} (h : readC s = 0) : strokesCode (readL s) = 0 ∧ progT (readL s) = s := by
  unfold readC at h
  cases hr : readR s with
  | none => rw [hr] at h; cases h
  | some L =>
    unfold readL
    rw [hr]
    simp only [Option.getD_some]
    unfold readR at hr
    split at hr
    · rename_i hs
      obtain rfl := Option.some.inj hr
      subst hs
      exact ⟨rfl, rfl⟩
    · split at hr
      · rename_i hc
        obtain rfl := Option.some.inj hr
        rw [Bool.and_eq_true, List.all_eq_true, decide_eq_true_eq] at hc
        have hw : ∀ x ∈ splitC 32 s, strokeOK ((goodW (wordF numI tlI x)).getD ⟨0, 0, 0⟩) = true ∧ strT ((goodW (wordF numI tlI x)).getD ⟨0, 0, 0⟩) = x := fun x hx => by
          have := hc.1 x hx
          cases hg : goodW (wordF numI tlI x) with
          | none => rw [hg] at this; cases this
          | some st => exact word_text hg
        refine ⟨?_, ?_⟩
        · unfold strokesCode
          rw [if_pos, if_neg (by rw [List.length_map]; omega)]
          rw [List.all_eq_true]
          intro y hy
          obtain ⟨x, hx, rfl⟩ := List.mem_map.1 hy
          exact (hw x hx).1
        · unfold progT
          rw [List.map_map]
          have e : (splitC 32 s).map (strT ∘ fun x => (goodW (wordF numI tlI x)).getD ⟨0, 0, 0⟩) = splitC 32 s := by
            conv => rhs; rw [← List.map_id (splitC 32 s)]
            exact List.map_congr_left fun x hx => (hw x hx).2
          rw [e, join_split]
      · cases hr
/-! ### sorted programs -/
theorem sortE_code {l : List Stroke} (h : strokesCode l = 0) : strokesCode (sortSt l) = 0 := by
  obtain ⟨h1, h2⟩ := strokesCode_ok h
  unfold strokesCode
  rw [if_pos, if_neg (by rw [sortSt_len]; omega)]
  rw [List.all_eq_true] at h1 ⊢
  exact fun x hx => h1 x ((List.mergeSort_perm _ _).mem_iff.1 hx)
theorem sortE_pair (l : List Stroke) : (sortSt l).Pairwise fun a b => (!ltOf cfSort b a) = true := by
  have hO := swoSort
  unfold sortSt
  refine List.pairwise_mergeSort ?_ ?_ l
  · intro a b c h1 h2
    simp only [Bool.not_eq_eq_eq_not, Bool.not_true] at h1 h2 ⊢
    exact hO.ntrans _ _ _ h2 h1
  · intro a b
    cases h1 : ltOf cfSort b a
    · rfl
    · cases h2 : ltOf cfSort a b
      · rfl
      · have := hO.trans _ _ _ h1 h2
        rw [hO.irrefl] at this
        cases this
theorem sortE_twice (l : List Stroke) : sortSt (sortSt l) = sortSt l := by
  have h := sortE_pair l
  conv => lhs; unfold sortSt
  exact List.mergeSort_of_pairwise h
theorem sortE_tool (l : List Stroke) {i : Nat} (hi : i + 1 < (sortSt l).length) : ((sortSt l)[i]'(by omega)).tool ≤ (sortSt l)[i + 1].tool := by
  have h := List.pairwise_iff_getElem.1 (sortE_pair l) i (i + 1) (by omega) hi (by omega)
  simp only [Bool.not_eq_eq_eq_not, Bool.not_true] at h
  rw [ltSort_f] at h
  unfold StrokeLt at h
  omega
theorem sum_perm {f : Stroke → Int} {a b : List Stroke} (h : a.Perm b) : (a.map f).sum = (b.map f).sum := by
  induction h with
  | nil => rfl
  | cons x _ ih => simp [ih]
  | swap x y l => simp; omega
  | trans _ _ h1 h2 => exact h1.trans h2
theorem wear_sort {l : List Stroke} (h : strokesCode l = 0) : wearRes (sortSt l) = wearRes l := by
  have hp : (sortSt l).Perm l := List.mergeSort_perm _ _
  have hs : ∀ f : Stroke → Int, sumTo f (sortSt l) (sortSt l).length = sumTo f l l.length := fun f => by
    unfold sumTo
    rw [List.take_length, List.take_length]
    exact sum_perm hp
  unfold wearRes
  rw [if_pos h, if_pos (sortE_code h), hs, hs]
def SortF (l S : List Stroke) : Prop := S.length = l.length ∧ strokesCode S = 0 ∧ sortR S = S ∧ wearRes S = wearRes l ∧ (wearRes l).2.2 = 0 ∧
    (∀ x ∈ S, 1 ≤ x.tool ∧ x.tool ≤ 2) ∧ ∀ (i : Nat) (a b : Stroke), S[i]? = some a → S[i + 1]? = some b → a.tool ≤ b.tool
/-- what the law asks of a program's sorted form -/
theorem sorted_facts {l : List Stroke} (h : strokesCode l = 0) : SortF l (sortR l) := by
  have e : sortR l = sortSt l := by unfold sortR; rw [if_pos h]
  rw [e]
  have h2 := sortE_code h
  refine ⟨sortSt_len l, h2, ?_, wear_sort h, by unfold wearRes; rw [if_pos h], fun x hx => ?_, fun i a b ha hb => ?_⟩
  · unfold sortR
    rw [if_pos h2, sortE_twice]
  · exact (strokeOK_bd (List.all_eq_true.1 (strokesCode_ok h2).1 x hx)).1
  · obtain ⟨h3, rfl⟩ := List.getElem?_eq_some_iff.1 ha
    obtain ⟨h4, rfl⟩ := List.getElem?_eq_some_iff.1 hb
    exact sortE_tool l h4
/-- how often the tool has changed ahead of the stroke j + 1 -/
def Chg (S : List Stroke) (j : Nat) (c : Int) : Prop := (S = [] ∧ c = 0 ∧ j = 0) ∨ ∃ a b, S[0]? = some a ∧ S[j]? = some b ∧ c = b.tool - a.tool
theorem Chg.start (S : List Stroke) : Chg S 0 0 := by
  cases S with
  | nil => exact .inl ⟨rfl, rfl, rfl⟩
  | cons x r => exact .inr ⟨x, x, rfl, rfl, by omega⟩
section
variable {S : List Stroke} {j : Nat} {c : Int}
theorem Chg.le (h : Chg S j c) (ht : ∀ x ∈ S, 1 ≤ x.tool ∧ x.tool ≤ 2) : c ≤ 1 := by
  rcases h with ⟨_, rfl, _⟩ | ⟨a, b, ha, hb, rfl⟩
  · omega
  · have h1 := ht a (List.mem_of_getElem? ha)
    have h2 := ht b (List.mem_of_getElem? hb)
    omega
theorem Chg.next (h : Chg S j c) (hj : j + 1 < S.length) (ht : ∀ x ∈ S, 1 ≤ x.tool ∧ x.tool ≤ 2) (hm : ∀ (i : Nat) (a b : Stroke), S[i]? = some a → S[i + 1]? = some b → a.tool ≤ b.tool) :
    (S[j + 1].tool = S[j].tool → Chg S (j + 1) c) ∧ (S[j + 1].tool ≠ S[j].tool → Chg S (j + 1) (c + 1)) ∧ 0 ≤ c ∧ c ≤ 1 := by
  rcases h with ⟨rfl, _, _⟩ | ⟨a, b, ha, hb, rfl⟩
  · simp at hj
  · have hb1 : S[j]? = some S[j] := List.getElem?_eq_getElem (by omega)
    have hb2 : S[j + 1]? = some S[j + 1] := List.getElem?_eq_getElem hj
    rw [hb1] at hb
    obtain rfl := Option.some.inj hb
    have h0 := hm j _ _ hb1 hb2
    have h1 := ht _ (List.mem_of_getElem? ha)
    have h2 := ht _ (List.mem_of_getElem? hb1)
    have h3 := ht _ (List.mem_of_getElem? hb2)
    have ham : a.tool ≤ S[j].tool := by
      have hall : ∀ k : Nat, k ≤ j → ∀ x, S[k]? = some x → a.tool ≤ x.tool := fun k => by
        induction k with
        | zero => intro _ x hx; rw [ha] at hx; obtain rfl := Option.some.inj hx; omega
        | succ k ih =>
          intro hk x hx
          have hk1 : S[k]? = some S[k] := List.getElem?_eq_getElem (by omega)
          have := ih (by omega) _ hk1
          have := hm k _ _ hk1 hx
          omega
      exact hall j (Nat.le_refl _) _ hb1
    refine ⟨fun e => .inr ⟨a, _, ha, hb2, by omega⟩, fun e => .inr ⟨a, _, ha, hb2, by omega⟩, by omega, by omega⟩
end
theorem readL_le (s : List UInt8) : (readL s).length ≤ 150 := by
  unfold readL
  cases hr : readR s with
  | none => simp
  | some L =>
    unfold readR at hr
    split at hr
    · obtain rfl := Option.some.inj hr; simp
    · split at hr
      · rename_i hc
        obtain rfl := Option.some.inj hr
        rw [Bool.and_eq_true, decide_eq_true_eq] at hc
        simpa using hc.2
      · cases hr
theorem progR_ok {l : List Stroke} (h : strokesCode l = 0) : progR l = progT l := by unfold progR; rw [if_pos h]
end Go.Proofs.YtkjommcmeinkaaaGreatDoor
namespace Go.Proofs.YtkjommcmeinkaaaGreatDoor
open Go.RowKit
set_option linter.unusedSimpArgs false
def letL : Array Value := #[.string ⟨#[48]⟩, .string ⟨#[35]⟩, .string ⟨#[46]⟩, .string ⟨#[47]⟩, .string ⟨#[32]⟩, .string ⟨#[97]⟩, .string ⟨#[45]⟩, .string ⟨#[10]⟩]
theorem letL_at {r : Nat} (h : r < 8) : ∃ y : ByteArray, letL[r]? = some (.string y) ∧ y.size = 1 := by
  have : r = 0 ∨ r = 1 ∨ r = 2 ∨ r = 3 ∨ r = 4 ∨ r = 5 ∨ r = 6 ∨ r = 7 := by omega
  rcases this with rfl | rfl | rfl | rfl | rfl | rfl | rfl | rfl
  all_goals exact ⟨_, rfl, rfl⟩
/-- while a letter is drawn and laid between -/
structure DmS (w : World) (A : Option Addr) (n c g : Nat) (T1 T2 : ByteArray) (b23 b25 b26 b27 b28 b32 : Bool) (v23 v25 v26 v27 v28 v32 : Value) (v : World) : Prop where
  s : Src v A n c g
  gr : w.grownBy v (some g)
  l23 : b23 = true → ∃ bb, v23 = .slice (some ⟨bb, 0, none⟩) 8 8 ∧ Blk v bb 9 letL ∧ bb ≠ g
  l25 : b25 = true → ∃ r : Nat, r < 8 ∧ v25 = .int .i64 r
  l26 : b26 = true → ∃ (r bb : Nat), r < 8 ∧ v26 = .pointer (some ⟨bb, r, none⟩) ∧ Blk v bb 9 letL ∧ bb ≠ g
  l27 : b27 = true → ∃ y : ByteArray, v27 = .string y ∧ y.size = 1
  l28 : b28 = true → ∃ y : ByteArray, v28 = .string (T1 ++ y) ∧ y.size = 1
  l32 : b32 = true → ∃ y : ByteArray, v32 = .string (T1 ++ y ++ T2) ∧ y.size = 1
section
variable {w v v' : World} {A : Option Addr} {n c g : Nat} {T1 T2 : ByteArray} {b23 b25 b26 b27 b28 b32 : Bool} {v23 v25 v26 v27 v28 v32 : Value}
theorem DmS.start (hS : Src v A n c g) (hG : w.grownBy v (some g)) : DmS w A n c g T1 T2 false false false false false false v23 v25 v26 v27 v28 v32 v.drew :=
  ⟨hS.keep fun _ _ => rfl, grown_drewN hG 1, nofun, nofun, nofun, nofun, nofun, nofun⟩
theorem DmS.mk1 (h : DmS w A n c g T1 T2 b23 b25 b26 b27 b28 b32 v23 v25 v26 v27 v28 v32 v) : DmS w A n c g T1 T2 true b25 b26 b27 b28 b32 (.slice (some ⟨v.heap.size, 0, none⟩) 8 8) v25 v26 v27 v28 v32 (v.alloc (.cells letL 9)) :=
  ⟨h.s.alloc _, h.gr.trans (grown_alloc _ _), fun _ => ⟨_, rfl, Blk.new _ _ _, (by have := h.s.lt; omega)⟩, h.l25, (fun e => by
    obtain ⟨r, bb, h0, h1, h2, h3⟩ := h.l26 e
    exact ⟨r, bb, h0, h1, h2.alloc _, h3⟩), h.l27, h.l28, h.l32⟩
theorem DmS.pick (h : DmS w A n c g T1 T2 b23 b25 b26 b27 b28 b32 v23 v25 v26 v27 v28 v32 v) (q : Nat) (hq : q < 8) (hS : Src v' A n c g) (hg : v.grownBy v' (some g)) : DmS w A n c g T1 T2 b23 true b26 b27 b28 b32 v23 (.int .i64 q) v26 v27 v28 v32 v' :=
  ⟨hS, h.gr.trans hg, (fun e => by
    obtain ⟨bb, h1, h2, h3⟩ := h.l23 e
    exact ⟨bb, h1, h2.src hg h3, h3⟩), fun _ => ⟨q, hq, rfl⟩, (fun e => by
    obtain ⟨r, bb, h0, h1, h2, h3⟩ := h.l26 e
    exact ⟨r, bb, h0, h1, h2.src hg h3, h3⟩), h.l27, h.l28, h.l32⟩
theorem DmS.ix (h : DmS w A n c g T1 T2 b23 b25 b26 b27 b28 b32 v23 v25 v26 v27 v28 v32 v) {r bb : Nat} (hr : r < 8) (hB : Blk v bb 9 letL) (hb : bb ≠ g) : DmS w A n c g T1 T2 b23 b25 true b27 b28 b32 v23 v25 (.pointer (some ⟨bb, r, none⟩)) v27 v28 v32 v :=
  ⟨h.s, h.gr, h.l23, h.l25, fun _ => ⟨r, bb, hr, rfl, hB, hb⟩, h.l27, h.l28, h.l32⟩
theorem DmS.ld (h : DmS w A n c g T1 T2 b23 b25 b26 b27 b28 b32 v23 v25 v26 v27 v28 v32 v) {y : ByteArray} (hy : y.size = 1) : DmS w A n c g T1 T2 b23 b25 b26 true b28 b32 v23 v25 v26 (.string y) v28 v32 v :=
  ⟨h.s, h.gr, h.l23, h.l25, h.l26, fun _ => ⟨y, rfl, hy⟩, h.l28, h.l32⟩
theorem DmS.p1 (h : DmS w A n c g T1 T2 b23 b25 b26 b27 b28 b32 v23 v25 v26 v27 v28 v32 v) {y : ByteArray} (hy : y.size = 1) : DmS w A n c g T1 T2 b23 b25 b26 b27 true b32 v23 v25 v26 v27 (.string (T1 ++ y)) v32 v :=
  ⟨h.s, h.gr, h.l23, h.l25, h.l26, h.l27, fun _ => ⟨y, rfl, hy⟩, h.l32⟩
theorem DmS.p2 (h : DmS w A n c g T1 T2 b23 b25 b26 b27 b28 b32 v23 v25 v26 v27 v28 v32 v) {y : ByteArray} (hy : y.size = 1) : DmS w A n c g T1 T2 b23 b25 b26 b27 b28 true v23 v25 v26 v27 v28 (.string (T1 ++ y ++ T2)) v :=
  ⟨h.s, h.gr, h.l23, h.l25, h.l26, h.l27, h.l28, fun _ => ⟨y, rfl, hy⟩⟩
end
set_option maxRecDepth 100000 in
set_option maxHeartbeats 1000000 in
theorem l01Damage_c (A : Option Addr) (n c g : Nat) (T : ByteArray) (w : World) (hS : Src w A n c g) (hT : T.size ≤ 100000) :
    Calls Tryz.prog 28 #[.pointer (some ⟨g, 0, none⟩), .string T] w fun e w' => ∃ U : ByteArray, e = .returned (.string U) ∧ U.size ≤ T.size + 1 ∧ Src w' A n c g ∧ w.grownBy w' (some g) := by
  have hG : w.grownBy w (some g) := World.grownBy.refl _ _
  go_enter Tryz.func28, Tryz.ntmps28
  go_wp2_with fail
  refine (l01Next_c A n c g _ _ hS).mono ?_; rintro e w1 ⟨k, rfl, ⟨ka, kb⟩, kd, hS1, hg⟩
  have hG := hG.trans hg
  clear hg hS
  obtain ⟨k, rfl⟩ := Int.eq_ofNat_of_zero_le ka
  have hk : k ≤ T.size := by omega
  clear kd ka kb
  have x1 : (T.extract 0 k).size ≤ T.size := by rw [ByteArray.size_extract]; omega
  have x1' : (T.extract 0 k).size = k := by rw [ByteArray.size_extract]; omega
  have x2 : (T.extract k T.size).size = T.size - k := by rw [ByteArray.size_extract]; omega
  have x3 : (T.extract (k + 1) T.size).size = T.size - (k + 1) := by rw [ByteArray.size_extract]; omega
  go_wp2_with fail
  refine (l01Next_c A n c g _ _ hS1).mono ?_; rintro e w2 ⟨q, rfl, ⟨qa, qb⟩, qd, hS, hg⟩
  have hG := hG.trans hg
  clear hg hS1
  by_cases q0 : q = 0
  · subst q0
    generalize hT1 : T.extract 0 k = T1 at *
    go_wp2
    go_ret
    exact ⟨_, rfl, by omega, hS, hG⟩
  · have q0' : (q == 0) = false := by simpa using q0
    by_cases q1 : q = 1
    · subst q1
      have HT1 : Hid (T.extract 0 k = T.extract 0 k) := Lib.hid rfl
      go_wp2_with fail
      obtain ⟨T1, hT1⟩ : ∃ T1, T.extract 0 k = T1 := ⟨_, rfl⟩
      obtain ⟨T2, hT2⟩ : ∃ T2, T.extract k T.size = T2 := ⟨_, rfl⟩
      rw [hT1] at x1'
      rw [hT2] at x2
      have X1 := Lib.hid x1'
      have X2 := Lib.hid x2
      have hkT : ¬ (T.size : Int) < (k : Int) := by omega
      clear x1' x2 x1 x3 HT1
      refine wp_region_sink 13 (fun a0 fL bA v => ∃ v20 v21 v22 v23 v24 v25 v26 v27 v28 v29 v30 v31 v32 : Value, bA = ((((((((((((a0.put (some 20) v20).put (some 21) v21).put (some 22) v22).put (some 23) v23).put (some 24) v24).put (some 25) v25).put (some 26) v26).put (some 27) v27).put (some 28) v28).put (some 29) v29).put (some 30) v30).put (some 31) v31).put (some 32) v32 ∧ (DmS w A n c g T1 T2 (fL 3) (fL 5) (fL 6) (fL 7) (fL 8) (fL 12) v23 v25 v26 v27 v28 v32 v) ∧ (fL 0 = true → v20 = .string T) ∧ (fL 1 = true → v21 = .int .i64 (k : Int)) ∧ (fL 2 = true → v22 = .string T1) ∧ (fL 3 = true → True) ∧ (fL 4 = true → v24 = .pointer (some ⟨g, 0, none⟩)) ∧ (fL 5 = true → True) ∧ (fL 6 = true → True) ∧ (fL 7 = true → True) ∧ (fL 8 = true → True) ∧ (fL 9 = true → v29 = .string T) ∧ (fL 10 = true → v30 = .int .i64 (k : Int)) ∧ (fL 11 = true → v31 = .string T2) ∧ (fL 12 = true → True)) (by kernel_rfl) (by decide +kernel) ?_ ?_ ?_
      · exact ⟨undef, undef, undef, undef, undef, undef, undef, undef, undef, undef, undef, undef, undef, by simp only [Act.put, List.setIfInBounds_toArray, List.set_cons_zero, List.set_cons_succ], DmS.start hS hG, nofun, nofun, nofun, nofun, nofun, nofun, nofun, nofun, nofun, nofun, nofun, nofun, nofun⟩
      · rintro fL bA v ⟨v20, v21, v22, v23, v24, v25, v26, v27, v28, v29, v30, v31, v32, rfl, hS, q0, q1, q2, q3, q4, q5, q6, q7, q8, q9, q10, q11, q12⟩ i hi hf o ho hall
        simp only [Act.put, List.setIfInBounds_toArray, List.set_cons_zero, List.set_cons_succ]
        have hn : i = 0 ∨ i = 1 ∨ i = 2 ∨ i = 3 ∨ i = 4 ∨ i = 5 ∨ i = 6 ∨ i = 7 ∨ i = 8 ∨ i = 9 ∨ i = 10 ∨ i = 11 ∨ i = 12 := by omega
        clear hi
        rcases hn with rfl | rfl | rfl | rfl | rfl | rfl | rfl | rfl | rfl | rfl | rfl | rfl | rfl
        · obtain rfl := Option.some.inj ho
          clear hall ho
          refine wpOp_step rfl (fun K hK => ?_)
          go_simp
          exact hK _ _ ⟨_, _, _, _, _, _, _, _, _, _, _, _, _, rfl, hS, fun _ => rfl, q1, q2, fun _ => trivial, q4, fun _ => trivial, fun _ => trivial, fun _ => trivial, fun _ => trivial, q9, q10, q11, fun _ => trivial⟩
        · obtain rfl := Option.some.inj ho
          clear hall ho
          refine wpOp_step rfl (fun K hK => ?_)
          go_simp
          exact hK _ _ ⟨_, _, _, _, _, _, _, _, _, _, _, _, _, rfl, hS, q0, fun _ => rfl, q2, fun _ => trivial, q4, fun _ => trivial, fun _ => trivial, fun _ => trivial, fun _ => trivial, q9, q10, q11, fun _ => trivial⟩
        · obtain rfl := Option.some.inj ho
          obtain rfl := q0 (hall ⟨0, .data⟩ (by simp) rfl)
          obtain rfl := q1 (hall ⟨1, .data⟩ (by simp) rfl)
          clear hall ho
          refine wpOp_step rfl (fun K hK => ?_)
          go_simp
          exact hK _ _ ⟨_, _, _, _, _, _, _, _, _, _, _, _, _, rfl, hS, fun _ => rfl, fun _ => rfl, fun _ => rfl, fun _ => trivial, q4, fun _ => trivial, fun _ => trivial, fun _ => trivial, fun _ => trivial, q9, q10, q11, fun _ => trivial⟩
        · obtain rfl := Option.some.inj ho
          clear hall ho
          refine wpOp_step rfl (fun K hK => ?_)
          go_simp
          exact hK _ _ ⟨_, _, _, _, _, _, _, _, _, _, _, _, _, rfl, hS.mk1, q0, q1, q2, fun _ => trivial, q4, fun _ => trivial, fun _ => trivial, fun _ => trivial, fun _ => trivial, q9, q10, q11, fun _ => trivial⟩
        · obtain rfl := Option.some.inj ho
          clear hall ho
          refine wpOp_step rfl (fun K hK => ?_)
          go_simp
          exact hK _ _ ⟨_, _, _, _, _, _, _, _, _, _, _, _, _, rfl, hS, q0, q1, q2, fun _ => trivial, fun _ => rfl, fun _ => trivial, fun _ => trivial, fun _ => trivial, fun _ => trivial, q9, q10, q11, fun _ => trivial⟩
        · obtain rfl := Option.some.inj ho
          obtain rfl := q4 (hall ⟨4, .data⟩ (by simp) rfl)
          clear hall ho
          refine wpOp_step rfl (fun K hK => ?_)
          go_simp
          refine Calls.mono (l01Next_c A n c g 8 v hS.s) ?_; rintro e w5 ⟨qq, rfl, ⟨qa1, qa2⟩, qd, hS5, hg5⟩
          obtain ⟨r, rfl⟩ := Int.eq_ofNat_of_zero_le qa1
          go_simp
          exact hK _ _ ⟨_, _, _, _, _, _, _, _, _, _, _, _, _, rfl, hS.pick r (by omega) hS5 hg5, q0, q1, q2, fun _ => trivial, fun _ => rfl, fun _ => trivial, fun _ => trivial, fun _ => trivial, fun _ => trivial, q9, q10, q11, fun _ => trivial⟩
        · obtain rfl := Option.some.inj ho
          have e3 : fL 3 = true := hall ⟨3, .data⟩ (by simp) rfl
          have e5 : fL 5 = true := hall ⟨5, .data⟩ (by simp) rfl
          obtain ⟨bb, rfl, hB1, hn1⟩ := hS.l23 e3
          obtain ⟨r, hr, rfl⟩ := hS.l25 e5
          have hr2 : (r : Int) < 8 := by omega
          clear hall ho
          refine wpOp_step rfl (fun K hK => ?_)
          go_simp
          exact hK _ _ ⟨_, _, _, _, _, _, _, _, _, _, _, _, _, rfl, hS.ix hr hB1 hn1, q0, q1, q2, fun _ => trivial, q4, fun _ => trivial, fun _ => trivial, fun _ => trivial, fun _ => trivial, q9, q10, q11, fun _ => trivial⟩
        · obtain rfl := Option.some.inj ho
          have e6 : fL 6 = true := hall ⟨6, .data⟩ (by simp) rfl
          obtain ⟨r, bb, hr, rfl, hB1, hn1⟩ := hS.l26 e6
          obtain ⟨y, hy, hysz⟩ := letL_at hr
          have yc : v.cell? ⟨bb, r, none⟩ = some (.string y) := hB1.cl r hy
          clear hall ho
          refine wpOp_step rfl (fun K hK => ?_)
          go_simp
          exact hK _ _ ⟨_, _, _, _, _, _, _, _, _, _, _, _, _, rfl, hS.ld hysz, q0, q1, q2, fun _ => trivial, q4, fun _ => trivial, fun _ => trivial, fun _ => trivial, fun _ => trivial, q9, q10, q11, fun _ => trivial⟩
        · obtain rfl := Option.some.inj ho
          obtain rfl := q2 (hall ⟨2, .data⟩ (by simp) rfl)
          have e7 : fL 7 = true := hall ⟨7, .data⟩ (by simp) rfl
          obtain ⟨y, rfl, hysz⟩ := hS.l27 e7
          have m1 : ¬ 9223372036854775807 < T1.size + y.size := by have := X1.out; omega
          replace hysz := Lib.hid hysz
          clear hall ho
          refine wpOp_step rfl (fun K hK => ?_)
          go_simp
          exact hK _ _ ⟨_, _, _, _, _, _, _, _, _, _, _, _, _, rfl, hS.p1 hysz.out, q0, q1, fun _ => rfl, fun _ => trivial, q4, fun _ => trivial, fun _ => trivial, fun _ => trivial, fun _ => trivial, q9, q10, q11, fun _ => trivial⟩
        · obtain rfl := Option.some.inj ho
          clear hall ho
          refine wpOp_step rfl (fun K hK => ?_)
          go_simp
          exact hK _ _ ⟨_, _, _, _, _, _, _, _, _, _, _, _, _, rfl, hS, q0, q1, q2, fun _ => trivial, q4, fun _ => trivial, fun _ => trivial, fun _ => trivial, fun _ => trivial, fun _ => rfl, q10, q11, fun _ => trivial⟩
        · obtain rfl := Option.some.inj ho
          clear hall ho
          refine wpOp_step rfl (fun K hK => ?_)
          go_simp
          exact hK _ _ ⟨_, _, _, _, _, _, _, _, _, _, _, _, _, rfl, hS, q0, q1, q2, fun _ => trivial, q4, fun _ => trivial, fun _ => trivial, fun _ => trivial, fun _ => trivial, q9, fun _ => rfl, q11, fun _ => trivial⟩
        · obtain rfl := Option.some.inj ho
          obtain rfl := q9 (hall ⟨9, .data⟩ (by simp) rfl)
          obtain rfl := q10 (hall ⟨10, .data⟩ (by simp) rfl)
          clear hall ho
          refine wpOp_step rfl (fun K hK => ?_)
          go_simp
          exact hK _ _ ⟨_, _, _, _, _, _, _, _, _, _, _, _, _, rfl, hS, q0, q1, q2, fun _ => trivial, q4, fun _ => trivial, fun _ => trivial, fun _ => trivial, fun _ => trivial, fun _ => rfl, fun _ => rfl, fun _ => rfl, fun _ => trivial⟩
        · obtain rfl := Option.some.inj ho
          have e8 : fL 8 = true := hall ⟨8, .data⟩ (by simp) rfl
          obtain rfl := q11 (hall ⟨11, .data⟩ (by simp) rfl)
          obtain ⟨y, rfl, hysz⟩ := hS.l28 e8
          have m1 : ¬ 9223372036854775807 < T1.size + y.size + T2.size := by have := X1.out; have := X2.out; omega
          replace hysz := Lib.hid hysz
          clear hall ho
          refine wpOp_step rfl (fun K hK => ?_)
          go_simp
          exact hK _ _ ⟨_, _, _, _, _, _, _, _, _, _, _, _, _, rfl, hS.p2 hysz.out, q0, q1, q2, fun _ => trivial, q4, fun _ => trivial, fun _ => trivial, fun _ => trivial, fun _ => trivial, q9, q10, fun _ => rfl, fun _ => trivial⟩
      · rintro fL bA v ⟨v20, v21, v22, v23, v24, v25, v26, v27, v28, v29, v30, v31, v32, rfl, hS, q0, q1, q2, q3, q4, q5, q6, q7, q8, q9, q10, q11, q12⟩ hall
        simp only [Act.put, List.setIfInBounds_toArray, List.set_cons_zero, List.set_cons_succ]
        obtain rfl := q0 (hall 0 (by omega))
        obtain rfl := q1 (hall 1 (by omega))
        obtain rfl := q2 (hall 2 (by omega))
        have e3 : fL 3 = true := hall 3 (by omega)
        obtain rfl := q4 (hall 4 (by omega))
        have e5 : fL 5 = true := hall 5 (by omega)
        have e6 : fL 6 = true := hall 6 (by omega)
        have e7 : fL 7 = true := hall 7 (by omega)
        have e8 : fL 8 = true := hall 8 (by omega)
        obtain rfl := q9 (hall 9 (by omega))
        obtain rfl := q10 (hall 10 (by omega))
        obtain rfl := q11 (hall 11 (by omega))
        have e12 : fL 12 = true := hall 12 (by omega)
        clear hall
        simp only [List.drop_succ_cons, List.drop_zero]
        obtain ⟨y, rfl, hysz⟩ := hS.l32 e12
        have hs := hS.s
        have hgr := hS.gr
        have hsz : (T1 ++ y ++ T2).size ≤ T.size + 1 := by rw [ByteArray.size_append, ByteArray.size_append]; have := X1.out; have := X2.out; omega
        clear hS
        generalize T1 ++ y ++ T2 = U at *
        go_wp2
        go_ret
        exact ⟨_, rfl, hsz, hs, hgr⟩
    · have q1' : (q == 1) = false := by simpa using q1
      by_cases q2 : q = 2
      · subst q2
        by_cases hlt : k < T.size
        · have hlt' : (k : Int) < (T.size : Int) := by omega
          go_wp2_with fail
          go_quiet (fail)
          go_wp2
          go_ret
          exact ⟨_, rfl, by rw [ByteArray.size_append, x1', x3]; omega, hS.keep fun _ _ => rfl, grown_drewN hG _⟩
        · have hlt' : ¬ (k : Int) < (T.size : Int) := by omega
          go_wp2
          go_ret
          exact ⟨_, rfl, by omega, hS, hG⟩
      · have q2' : (q == 2) = false := by simpa using q2
        go_wp2
        go_ret
        exact ⟨_, rfl, by omega, hS, hG⟩
/-- strokes, drawn from the code -/
def CStE (w : World) (e : Ending) (w' : World) : Prop := ∃ (l : List Stroke) (A' : Option Addr) (c' : Nat), e = .returned (.slice A' l.length c') ∧ l.length ≤ 1000 ∧ Own w' w.heap.size 35 3 (.slice A' l.length c') (l.map Stroke.cells) ∧ Below w.heap.size w w'
set_option maxRecDepth 100000 in
theorem drawSortStrokes_c (A : Option Addr) (n c : Nat) (w : World) (hn : n ≤ 4096) (hb : Bytes w A n w.heap.size) : Calls Tryz.prog 5 #[.slice A n c] w (CStE w) := by
  have HB := Lib.hid hb; clear hb
  unfold CStE
  go_enter Tryz.func5, Tryz.ntmps5
  go_wp2_with (first
    | (go_at_call 18; refine (l01From_c A n c w hn HB.out).mono ?_; rintro e w1 ⟨rfl, hS1, hb1⟩)
    | (go_at_call 17; refine (l32Draw_c A n c _ w1 hS1).mono ?_; rintro e w2 ⟨l, A', c', rfl, hl, hO, hS2, hG⟩))
  go_ret
  exact ⟨l, A', c', rfl, hl, hO.mono hb1.size, below_src hb1 hG hb1.size (Nat.le_refl _)⟩
set_option maxRecDepth 100000 in
theorem drawProgramText_c (A : Option Addr) (n c : Nat) (w : World) (hn : n ≤ 4096) (hb : Bytes w A n w.heap.size) : Calls Tryz.prog 11 #[.slice A n c] w (CStE w) := by
  have HB := Lib.hid hb; clear hb
  unfold CStE
  go_enter Tryz.func11, Tryz.ntmps11
  go_wp2_with (first
    | (go_at_call 18; refine (l01From_c A n c w hn HB.out).mono ?_; rintro e w1 ⟨rfl, hS1, hb1⟩)
    | (go_at_call 17; refine (l32Draw_c A n c _ w1 hS1).mono ?_; rintro e w2 ⟨l, A', c', rfl, hl, hO, hS2, hG⟩))
  go_ret
  exact ⟨l, A', c', rfl, hl, hO.mono hb1.size, below_src hb1 hG hb1.size (Nat.le_refl _)⟩
theorem progR_len (l : List Stroke) : (progR l).length ≤ 2550 := by
  obtain ⟨h1, h2⟩ := progR_cases l
  by_cases h : strokesCode l = 0
  · obtain ⟨e, hl, hok⟩ := h1 h
    rw [e]
    have := joinC_len (b := [32]) rfl (l.map strT) (strTs_len hok)
    rw [List.length_map] at this
    omega
  · rw [h2 h]; simp
set_option maxRecDepth 100000 in
theorem drawReadProgram_c (A : Option Addr) (n c : Nat) (w : World) (hn : n ≤ 4096) (hb : Bytes w A n w.heap.size) : Calls Tryz.prog 8 #[.slice A n c] w fun e w' => ∃ s : List UInt8, e = .returned (.string (bs s)) ∧ s.length ≤ 4000 ∧ Below w.heap.size w w' := by
  have HB := Lib.hid hb; clear hb
  go_enter Tryz.func8, Tryz.ntmps8
  go_wp2_with (go_at_call 18; refine (l01From_c A n c w hn HB.out).mono ?_; rintro e w1 ⟨rfl, hS, hB⟩)
  have hlt := hS.lt
  have hge := hB.size
  refine (l32Draw_c A n c _ _ hS).mono ?_; rintro e w2 ⟨l, A', c', rfl, hl, hO, hS, hg⟩
  have hB := below_src hB hg hB.size (Nat.le_refl _)
  clear hg
  have hR := progR_len l
  have HT := fun W h => Lib.hid (specProgramText_c A' c' l W (by omega) h)
  generalize progR l = r at *
  go_wp2_with fail
  refine (HT _ hO.sl).out.mono ?_; rintro e w3 ⟨rfl, hb3⟩
  have hB := hB.trans (hb3.mono hB.size)
  have hS := hS.below hb3
  clear hb3 HT hO
  go_wp2_with fail
  refine (l01Next_c A n c _ _ _ hS).mono ?_; rintro e w4 ⟨q, rfl, ⟨qa, qb⟩, qd, hS, hg⟩
  have hB := below_src hB hg hB.size (Nat.le_refl _)
  clear hg
  by_cases q0 : q = 0
  · subst q0
    have hsz := bs_size r
    have HD := Lib.hid (l01Damage_c A n c _ (bs r) w4 hS (by omega))
    go_wp2_with fail
    refine HD.out.mono ?_; rintro e w5 ⟨U, rfl, hU, hS, hg⟩
    have hB := below_src hB hg hB.size (Nat.le_refl _)
    obtain ⟨s, rfl⟩ : ∃ s, U = bs s := ⟨U.data.toList, (bs_of U).symm⟩
    rw [bs_size, hsz] at hU
    go_wp2
    go_ret
    exact ⟨s, rfl, by omega, hB⟩
  · have q0' : (q == 0) = false := by simpa using q0
    go_wp2
    go_ret
    exact ⟨r, rfl, by omega, hB⟩
end Go.Proofs.YtkjommcmeinkaaaGreatDoor
namespace Go.Proofs.YtkjommcmeinkaaaGreatDoor
open Go.RowKit
set_option maxRecDepth 100000 in
theorem likeStrokes_c (A A' : Option Addr) (c c' : Nat) (l : List Stroke) (w : World) (hl : l.length ≤ 140737488351232) (hs : Sl w w.heap.size 3 A (l.map Stroke.cells)) (hs' : Sl w w.heap.size 3 A' (l.map Stroke.cells)) :
   Calls Tryz.prog 14 #[.slice A l.length c, .slice A' l.length c'] w fun e w' => e = .returned (.bool true) ∧ Below w.heap.size w w' := by
  have HN : ∀ (a b d : Int) w, Sem.run Tryz.prog (binOp .neq 35 (.agg #[.int .i64 a, .int .i64 b, .int .i64 d]) (.agg #[.int .i64 a, .int .i64 b, .int .i64 d])) w = .ok (.bool false) w := fun a b d w => by
    have h := neStroke ⟨a, b, d⟩ ⟨a, b, d⟩ w
    rw [decide_eq_false (by simp)] at h
    exact h
  have hgd : Tryz.prog.eqGuardType Tryz.prog.depth 35 = false := by kernel_rfl
  go_enter Tryz.func14, Tryz.ntmps14
  go_wp2_with fail
  go_loopw [5] (fun i wr => ∃ k : Nat, k ≤ l.length ∧ i = .int .i64 k ∧ Below w.heap.size w wr) (fun i _ => l.length - (intOf i).toNat)
  case atStart => exact ⟨0, Nat.zero_le _, rfl, Below.refl _ _⟩
  case round =>
    obtain ⟨k, hk, rfl, hb⟩ := hrel
    by_cases hlt : k < l.length
    · obtain ⟨b, off, rfl, hbB, hc⟩ := hs.at_ (i := k) (by simpa using hlt)
      obtain ⟨b', off', rfl, hbB', hc'⟩ := hs'.at_ (i := k) (by simpa using hlt)
      simp only [List.getElem_map] at hc hc'
      have c0 : wr.cell? ⟨b, off + k * 3, none⟩ = some (.int .i64 l[k].tool) := by rw [hb.cell hbB]; exact hc 0 _ rfl
      have c1 : wr.cell? ⟨b, off + k * 3 + 1, none⟩ = some (.int .i64 l[k].place) := by rw [hb.cell hbB]; exact hc 1 _ rfl
      have c2 : wr.cell? ⟨b, off + k * 3 + 2, none⟩ = some (.int .i64 l[k].long) := by rw [hb.cell hbB]; exact hc 2 _ rfl
      have d0 : wr.cell? ⟨b', off' + k * 3, none⟩ = some (.int .i64 l[k].tool) := by rw [hb.cell hbB']; exact hc' 0 _ rfl
      have d1 : wr.cell? ⟨b', off' + k * 3 + 1, none⟩ = some (.int .i64 l[k].place) := by rw [hb.cell hbB']; exact hc' 1 _ rfl
      have d2 : wr.cell? ⟨b', off' + k * 3 + 2, none⟩ = some (.int .i64 l[k].long) := by rw [hb.cell hbB']; exact hc' 2 _ rfl
      clear hc hc'
      go_wp2_with fail
      go_quiet (fail)
      go_wp2
      go_roundw
      case rel => exact ⟨k + 1, by omega, by go_num, (by repeat (first | with_reducible exact hb | with_reducible apply below_drewN' | with_reducible apply Below.drew | (with_reducible refine Below.alloc ?_ (by first | omega | (simp; omega) | simp | (have := (hb).size; omega) | (have := (hb).size; simp; omega)) _) | (with_reducible refine Below.setCell ?_ (by first | omega | (simp; omega) | simp | (have := (hb).size; omega) | (have := (hb).size; simp; omega)) _) | exact hb))⟩
      case measure => simp [intOf]; omega
    · have : k = l.length := by omega
      subst this
      go_wp2
      go_ret
      exact ⟨rfl, hb⟩
end Go.Proofs.YtkjommcmeinkaaaGreatDoor
namespace Go.Proofs.YtkjommcmeinkaaaGreatDoor
open Go.RowKit
set_option linter.unusedSimpArgs false
set_option maxRecDepth 100000 in
set_option maxHeartbeats 4000000 in
theorem lawEngraved_c (A : Option Addr) (n c : Nat) (w : World) (hn : n ≤ 140737488351232) (hb : Bytes w A n w.heap.size) (L : LwP w) :
    Calls Tryz.prog 3 #[.slice A n c] w fun e w' => e = .returned (.bool true) ∧ Below w.heap.size w w' := by
  have hG := big_c A n c w hn
  by_cases hbig : 4096 < n
  · rw [decide_eq_true hbig] at hG
    have HG := Lib.hid hG; clear hG hb
    go_enter Tryz.func3, Tryz.ntmps3
    go_wp2_with (go_at_call 4; refine HG.out.mono ?_; rintro e w1 ⟨rfl, rfl⟩)
    go_ret
    exact ⟨rfl, Below.refl _ _⟩
  · rw [decide_eq_false hbig] at hG
    have HG := Lib.hid hG; clear hG
    have hn' : n ≤ 4096 := by omega
    have HB := Lib.hid hb; clear hb
    have HP : Hid (∀ W, Below w.heap.size w W → LwP W) := Lib.hid (fun W h => L.below h)
    clear L
    go_enter Tryz.func3, Tryz.ntmps3
    go_wp2_with (go_at_call 4; refine HG.out.mono ?_; rintro e w1 ⟨rfl, rfl⟩)
    clear HG
    refine (drawSortStrokes_c A n c w hn' HB.out).mono ?_; rintro e w1 ⟨l, Al, cl, rfl, hl, hOl, hB⟩
    have hw1z : w.heap.size ≤ w1.heap.size := hB.size
    have HF := Lib.hid (fun h => sorted_facts (l := l) h)
    unfold SortF at HF
    have HI := fun A c W h => Lib.hid (implSortStrokes_c A c l W (by omega) h)
    have HS := fun A c W h => Lib.hid (specSortStrokes_c A c l W (by omega) h)
    have HIP := fun A c W h => Lib.hid (implIsProgram_c A c l W (by omega) h)
    have HW := fun A c W h => Lib.hid (implWearOf_c A c l W (by omega) h)
    have hsl := sortR_len l
    unfold PostRows at HI HS
    generalize sortR l = S at *
    generalize strokesCode l = z at *
    generalize wearRes l = we at *
    obtain ⟨wa, wb, wc⟩ := we
    simp only at HF HW
    have hS1000 : S.length ≤ 1000 := by omega
    have Hsl := Lib.hid hsl; clear hsl
    go_wp2_with fail
    refine ((HI Al cl _ hOl.sl).out).mono ?_; rintro e w2 ⟨As, cs, rfl, hOs, hb2⟩
    have hB := hB.trans (hb2.mono hB.size)
    have hOl := hOl.below hb2
    clear hb2
    go_wp2_with fail
    refine ((HS Al cl _ hOl.sl).out).mono ?_; rintro e w3 ⟨Am, cm, rfl, hOm, hb3⟩
    have hB := hB.trans (hb3.mono hB.size)
    have hOl := hOl.below hb3
    have hOs := hOs.below hb3
    clear hb3
    clear HI HS
    go_wp2_with fail
    refine (drawReadProgram_c A n c _ hn' ((HB.out.keep fun p hp => hB.cell hp).more hB.size)).mono ?_; rintro e w4 ⟨t, rfl, ht, hb4⟩
    have hB := hB.trans (hb4.mono hB.size)
    have hOl := hOl.below hb4
    have hOs := hOs.below hb4
    have hOm := hOm.below hb4
    clear hb4
    have HI := fun W hL => Lib.hid (implRead_c t W (by omega) hL)
    have HS := fun W => Lib.hid (specRead_c t W (by omega))
    have hRl := readL_le t
    have HQ : Hid (readC t = 0 → ∀ A c W, Sl W W.heap.size 3 A ((readL t).map Stroke.cells) → LwT W → Calls Tryz.prog 12 #[.slice A (readL t).length c] W fun e w' => e = .returned (.tuple #[.string (bs t), .int .i64 0]) ∧ Below W.heap.size W w') := Lib.hid fun h A c W hs hT => by
      obtain ⟨h1, h2⟩ := read_text h
      have := implProgramText_c A c (readL t) W (by omega) hs hT
      rw [progR_ok h1, h2, h1] at this
      exact this
    unfold RdP at HI HS
    generalize readL t = R at *
    generalize readC t = rc at *
    generalize bs t = T at *
    have hTT : (T.toList == T.toList) = true := by simp
    go_wp2_with fail
    refine ((HI _ (HP.out _ hB)).out).mono ?_; rintro e w5 ⟨Ar, cr, rfl, hOr, hb5⟩
    have hB := hB.trans (hb5.mono hB.size)
    have hOl := hOl.below hb5
    have hOs := hOs.below hb5
    have hOm := hOm.below hb5
    clear hb5
    go_wp2_with fail
    refine ((HS _).out).mono ?_; rintro e w6 ⟨Av, cv, rfl, hOv, hb6⟩
    have hB := hB.trans (hb6.mono hB.size)
    have hOl := hOl.below hb6
    have hOs := hOs.below hb6
    have hOm := hOm.below hb6
    have hOr := hOr.below hb6
    clear hb6
    clear HI HS
    go_wp2_with fail
    refine (drawProgramText_c A n c _ hn' ((HB.out.keep fun p hp => hB.cell hp).more hB.size)).mono ?_; rintro e w7 ⟨a, Aa, ca, rfl, ha, hOa, hb7⟩
    have hB := hB.trans (hb7.mono hB.size)
    have hOl := hOl.below hb7
    have hOs := hOs.below hb7
    have hOm := hOm.below hb7
    have hOr := hOr.below hb7
    have hOv := hOv.below hb7
    clear hb7
    have HI := fun W h hT => Lib.hid (implProgramText_c Aa ca a W (by omega) h hT)
    have HS := fun W h => Lib.hid (specProgramText_c Aa ca a W (by omega) h)
    have HA : Hid (strokesCode a = 0 → ∀ W, LwP W → Calls Tryz.prog 9 #[.string (bs (progR a))] W (RdP a 0 W)) := Lib.hid fun h W hL => by
      obtain ⟨h1, h2⟩ := text_read h
      have := implRead_c (progR a) W (by have := progR_len a; omega) hL
      rw [progR_ok h, h1, h2] at this
      rw [progR_ok h]
      exact this
    unfold RdP at HA
    generalize strokesCode a = ac at *
    generalize bs (progR a) = P at *
    have hPP : (P.toList == P.toList) = true := by simp
    go_wp2_with fail
    refine ((HI _ hOa.sl (HP.out _ hB).t).out).mono ?_; rintro e w8 ⟨rfl, hb8⟩
    have hB := hB.trans (hb8.mono hB.size)
    have hOl := hOl.below hb8
    have hOs := hOs.below hb8
    have hOm := hOm.below hb8
    have hOr := hOr.below hb8
    have hOv := hOv.below hb8
    have hOa := hOa.below hb8
    clear hb8
    go_wp2_with fail
    refine ((HS _ hOa.sl).out).mono ?_; rintro e w9 ⟨rfl, hb9⟩
    have hB := hB.trans (hb9.mono hB.size)
    have hOl := hOl.below hb9
    have hOs := hOs.below hb9
    have hOm := hOm.below hb9
    have hOr := hOr.below hb9
    have hOv := hOv.below hb9
    have hOa := hOa.below hb9
    clear hb9
    clear HI HS HB
    go_wp2_with fail
    refine (likeStrokes_c As Am cs cm S _ (by omega) hOs.sl hOm.sl).mono ?_; rintro e w10 ⟨rfl, hb10⟩
    have hB := hB.trans (hb10.mono hB.size)
    have hOl := hOl.below hb10
    have hOs := hOs.below hb10
    have hOm := hOm.below hb10
    have hOr := hOr.below hb10
    have hOv := hOv.below hb10
    have hOa := hOa.below hb10
    clear hb10
    clear hOm
    go_wp2_with fail
    refine (likeStrokes_c Ar Av cr cv R _ (by omega) hOr.sl hOv.sl).mono ?_; rintro e w11 ⟨rfl, hb11⟩
    have hB := hB.trans (hb11.mono hB.size)
    have hOl := hOl.below hb11
    have hOs := hOs.below hb11
    have hOr := hOr.below hb11
    have hOv := hOv.below hb11
    have hOa := hOa.below hb11
    clear hb11
    clear hOv
    go_wp2_with fail
    refine ((HIP Al cl _ hOl.sl).out).mono ?_; rintro e w12 ⟨rfl, hb12⟩
    have hB := hB.trans (hb12.mono hB.size)
    have hOl := hOl.below hb12
    have hOs := hOs.below hb12
    have hOr := hOr.below hb12
    have hOa := hOa.below hb12
    clear hb12
    clear HIP
    by_cases hac : ac = 0
    · subst hac
      have HI := fun W hL => Lib.hid (HA.out rfl W hL)
      clear HA
      go_wp2_with fail
      refine (HI _ (HP.out _ hB)).out.mono ?_; rintro e u1 ⟨Ab, cb, rfl, hOb, hc1⟩
      have hB := hB.trans (hc1.mono hB.size)
      have hOl := hOl.below hc1
      have hOs := hOs.below hc1
      have hOr := hOr.below hc1
      have hOa := hOa.below hc1
      clear HI hc1
      go_wp2_with fail
      refine (likeStrokes_c Ab Aa cb ca a _ (by omega) hOb.sl hOa.sl).mono ?_; rintro e u0 ⟨rfl, hc1⟩
      have hB := hB.trans (hc1.mono hB.size)
      have hOl := hOl.below hc1
      have hOs := hOs.below hc1
      have hOr := hOr.below hc1
      clear hc1 hOb hOa
      by_cases hrc : rc = 0
      · subst hrc
        have HI := fun A c W h hT => Lib.hid (HQ.out rfl A c W h hT)
        clear HQ
        go_wp2_with fail
        refine (HI Ar cr _ hOr.sl (HP.out _ hB).t).out.mono ?_; rintro e u2 ⟨rfl, hc2⟩
        have hB := hB.trans (hc2.mono hB.size)
        have hOl := hOl.below hc2
        have hOs := hOs.below hc2
        clear HI hc2 hOr
        by_cases hz : z = 0
        · subst hz
          obtain ⟨f1, f2, f3, f4, f5, f6, f7⟩ := HF.out rfl
          subst f5
          have HWs := fun A c W h => implWearOf_c A c S W (by omega) h
          rw [f4] at HWs
          simp only at HWs
          have HWs := fun A c W h => Lib.hid (HWs A c W h)
          have HSs := fun A c W h => implSortStrokes_c A c S W (by omega) h
          rw [f3, f2] at HSs
          unfold PostRows at HSs
          have HSs := fun A c W h => Lib.hid (HSs A c W h)
          have hlen : ((S.length : Int) == (l.length : Int)) = true := by simp [f1]
          have Hnx := Lib.hid (fun (j : Nat) (cc : Int) (h : Chg S j cc) hj => h.next hj f6 f7)
          have Hle := Lib.hid (fun (j : Nat) (cc : Int) (h : Chg S j cc) => h.le f6)
          have H0 := Lib.hid (Chg.start S)
          clear f1 f2 f3 f4 f6 f7 HF Hsl
          go_wp2_with fail
          go_loopw [22, 23] (fun ch i wr => ∃ (j : Nat) (cc : Int), i = .int .i64 ((j : Int) + 1) ∧ ch = .int .i64 cc ∧ j ≤ S.length ∧ Hid (Chg S j cc) ∧ Below w.heap.size w wr ∧ Own wr w.heap.size 35 3 (.slice As S.length cs) (S.map Stroke.cells) ∧ Own wr w.heap.size 35 3 (.slice Al l.length cl) (l.map Stroke.cells)) (fun _ i _ => S.length - (intOf i).toNat)
          case atStart => exact ⟨0, 0, rfl, rfl, Nat.zero_le _, H0, hB, hOs.mono hw1z, hOl⟩
          case round =>
            clear hB hOs hOl
            obtain ⟨j, cc, rfl, rfl, hj, hch, hB, hOs, hOl⟩ := hrel
            by_cases hlt : j + 1 < S.length
            · have hlt' : (j : Int) + 1 < S.length := by omega
              obtain ⟨n1, n2, n3, n4⟩ := Hnx.out j cc hch.out hlt
              obtain ⟨b, off, hAs, hbB, hc1⟩ := hOs.sl.at_ (i := j + 1) (by rw [List.length_map]; exact hlt)
              obtain ⟨b2, off2, hAs2, hbB2, hc2⟩ := hOs.sl.at_ (i := j) (by rw [List.length_map]; omega)
              subst hAs
              obtain ⟨rfl, rfl⟩ : b = b2 ∧ off = off2 := by simpa using hAs2
              obtain rfl := hOs.off0 (i := j) (by rw [List.length_map]; omega)
              have y1 := hc1 0 (.int .i64 S[j + 1].tool) (by rw [List.getElem_map]; rfl)
              have y0 := hc2 0 (.int .i64 S[j].tool) (by rw [List.getElem_map]; rfl)
              rw [Nat.zero_add, Nat.add_zero] at y0 y1
              have hv1 : IntKind.i64.wrap (j : Int) = j := IntWalk.i64_in _ (by omega)
              have hv3 : (j : Int) < S.length := by omega
              have N1 := Lib.hid n1; have N2 := Lib.hid n2
              clear n1 n2 hc1 hc2 Hnx Hle H0
              generalize S[j + 1].tool = ta at *
              generalize S[j].tool = tb at *
              by_cases htt : ta = tb
              · have hne : (ta != tb) = false := by simp [htt]
                have hch2 := Lib.hid (N1.out htt)
                clear htt N1 N2 hch
                go_wp2_with fail
                go_quiet (fail)
                go_wp2_with fail
                go_roundw
                case rel => exact ⟨j + 1, cc, by go_num, rfl, by omega, hch2, below_drewN' hB _, hOs, hOl⟩
                case measure => first | (simp [intOf]; done) | (simp [intOf]; omega)
              · have hne : (ta != tb) = true := by simpa using htt
                have hch2 := Lib.hid (N2.out htt)
                clear htt N1 N2 hch
                go_wp2_with fail
                go_quiet (fail)
                go_wp2_with fail
                go_roundw
                case rel => exact ⟨j + 1, cc + 1, by go_num, by go_num, by omega, hch2, below_drewN' hB _, hOs, hOl⟩
                case measure => first | (simp [intOf]; done) | (simp [intOf]; omega)
            · have hlt' : ¬ (j : Int) + 1 < S.length := by omega
              have hcc := Hle.out j cc hch.out
              clear Hnx Hle H0 hch
              go_wp2_with fail
              refine (HW Al cl _ hOl.sl).out.mono ?_; rintro e v1 ⟨rfl, hd⟩
              have hB := hB.trans (hd.mono hB.size)
              have hOs := hOs.below hd
              clear hd
              go_wp2_with fail
              refine (HWs As cs _ hOs.sl).out.mono ?_; rintro e v2 ⟨rfl, hd⟩
              have hB := hB.trans (hd.mono hB.size)
              have hOs := hOs.below hd
              clear hd
              go_wp2_with fail
              refine (HSs As cs _ hOs.sl).out.mono ?_; rintro e v3 ⟨Ay, cy, rfl, hOy, hd⟩
              have hB := hB.trans (hd.mono hB.size)
              have hOs := hOs.below hd
              clear hd
              go_wp2_with fail
              refine (likeStrokes_c Ay As cy cs S _ (by omega) hOy.sl hOs.sl).mono ?_; rintro e v4 ⟨rfl, hd⟩
              have hB := hB.trans (hd.mono hB.size)
              go_wp2
              go_ret
              exact ⟨rfl, hB⟩
        · have hzf : (z != 0) = true := by simp [hz]
          clear HF hz
          go_wp2
          go_ret
          exact ⟨rfl, hB⟩
      · have hrf : (rc == 0) = false := by simp [hrc]
        clear HQ hrc hOr
        by_cases hz : z = 0
        · subst hz
          obtain ⟨f1, f2, f3, f4, f5, f6, f7⟩ := HF.out rfl
          subst f5
          have HWs := fun A c W h => implWearOf_c A c S W (by omega) h
          rw [f4] at HWs
          simp only at HWs
          have HWs := fun A c W h => Lib.hid (HWs A c W h)
          have HSs := fun A c W h => implSortStrokes_c A c S W (by omega) h
          rw [f3, f2] at HSs
          unfold PostRows at HSs
          have HSs := fun A c W h => Lib.hid (HSs A c W h)
          have hlen : ((S.length : Int) == (l.length : Int)) = true := by simp [f1]
          have Hnx := Lib.hid (fun (j : Nat) (cc : Int) (h : Chg S j cc) hj => h.next hj f6 f7)
          have Hle := Lib.hid (fun (j : Nat) (cc : Int) (h : Chg S j cc) => h.le f6)
          have H0 := Lib.hid (Chg.start S)
          clear f1 f2 f3 f4 f6 f7 HF Hsl
          go_wp2_with fail
          go_loopw [22, 23] (fun ch i wr => ∃ (j : Nat) (cc : Int), i = .int .i64 ((j : Int) + 1) ∧ ch = .int .i64 cc ∧ j ≤ S.length ∧ Hid (Chg S j cc) ∧ Below w.heap.size w wr ∧ Own wr w.heap.size 35 3 (.slice As S.length cs) (S.map Stroke.cells) ∧ Own wr w.heap.size 35 3 (.slice Al l.length cl) (l.map Stroke.cells)) (fun _ i _ => S.length - (intOf i).toNat)
          case atStart => exact ⟨0, 0, rfl, rfl, Nat.zero_le _, H0, hB, hOs.mono hw1z, hOl⟩
          case round =>
            clear hB hOs hOl
            obtain ⟨j, cc, rfl, rfl, hj, hch, hB, hOs, hOl⟩ := hrel
            by_cases hlt : j + 1 < S.length
            · have hlt' : (j : Int) + 1 < S.length := by omega
              obtain ⟨n1, n2, n3, n4⟩ := Hnx.out j cc hch.out hlt
              obtain ⟨b, off, hAs, hbB, hc1⟩ := hOs.sl.at_ (i := j + 1) (by rw [List.length_map]; exact hlt)
              obtain ⟨b2, off2, hAs2, hbB2, hc2⟩ := hOs.sl.at_ (i := j) (by rw [List.length_map]; omega)
              subst hAs
              obtain ⟨rfl, rfl⟩ : b = b2 ∧ off = off2 := by simpa using hAs2
              obtain rfl := hOs.off0 (i := j) (by rw [List.length_map]; omega)
              have y1 := hc1 0 (.int .i64 S[j + 1].tool) (by rw [List.getElem_map]; rfl)
              have y0 := hc2 0 (.int .i64 S[j].tool) (by rw [List.getElem_map]; rfl)
              rw [Nat.zero_add, Nat.add_zero] at y0 y1
              have hv1 : IntKind.i64.wrap (j : Int) = j := IntWalk.i64_in _ (by omega)
              have hv3 : (j : Int) < S.length := by omega
              have N1 := Lib.hid n1; have N2 := Lib.hid n2
              clear n1 n2 hc1 hc2 Hnx Hle H0
              generalize S[j + 1].tool = ta at *
              generalize S[j].tool = tb at *
              by_cases htt : ta = tb
              · have hne : (ta != tb) = false := by simp [htt]
                have hch2 := Lib.hid (N1.out htt)
                clear htt N1 N2 hch
                go_wp2_with fail
                go_quiet (fail)
                go_wp2_with fail
                go_roundw
                case rel => exact ⟨j + 1, cc, by go_num, rfl, by omega, hch2, below_drewN' hB _, hOs, hOl⟩
                case measure => first | (simp [intOf]; done) | (simp [intOf]; omega)
              · have hne : (ta != tb) = true := by simpa using htt
                have hch2 := Lib.hid (N2.out htt)
                clear htt N1 N2 hch
                go_wp2_with fail
                go_quiet (fail)
                go_wp2_with fail
                go_roundw
                case rel => exact ⟨j + 1, cc + 1, by go_num, by go_num, by omega, hch2, below_drewN' hB _, hOs, hOl⟩
                case measure => first | (simp [intOf]; done) | (simp [intOf]; omega)
            · have hlt' : ¬ (j : Int) + 1 < S.length := by omega
              have hcc := Hle.out j cc hch.out
              clear Hnx Hle H0 hch
              go_wp2_with fail
              refine (HW Al cl _ hOl.sl).out.mono ?_; rintro e v1 ⟨rfl, hd⟩
              have hB := hB.trans (hd.mono hB.size)
              have hOs := hOs.below hd
              clear hd
              go_wp2_with fail
              refine (HWs As cs _ hOs.sl).out.mono ?_; rintro e v2 ⟨rfl, hd⟩
              have hB := hB.trans (hd.mono hB.size)
              have hOs := hOs.below hd
              clear hd
              go_wp2_with fail
              refine (HSs As cs _ hOs.sl).out.mono ?_; rintro e v3 ⟨Ay, cy, rfl, hOy, hd⟩
              have hB := hB.trans (hd.mono hB.size)
              have hOs := hOs.below hd
              clear hd
              go_wp2_with fail
              refine (likeStrokes_c Ay As cy cs S _ (by omega) hOy.sl hOs.sl).mono ?_; rintro e v4 ⟨rfl, hd⟩
              have hB := hB.trans (hd.mono hB.size)
              go_wp2
              go_ret
              exact ⟨rfl, hB⟩
        · have hzf : (z != 0) = true := by simp [hz]
          clear HF hz
          go_wp2
          go_ret
          exact ⟨rfl, hB⟩
    · have haf : (ac == 0) = false := by simp [hac]
      clear HA hac hOa
      by_cases hrc : rc = 0
      · subst hrc
        have HI := fun A c W h hT => Lib.hid (HQ.out rfl A c W h hT)
        clear HQ
        go_wp2_with fail
        refine (HI Ar cr _ hOr.sl (HP.out _ hB).t).out.mono ?_; rintro e u2 ⟨rfl, hc2⟩
        have hB := hB.trans (hc2.mono hB.size)
        have hOl := hOl.below hc2
        have hOs := hOs.below hc2
        clear HI hc2 hOr
        by_cases hz : z = 0
        · subst hz
          obtain ⟨f1, f2, f3, f4, f5, f6, f7⟩ := HF.out rfl
          subst f5
          have HWs := fun A c W h => implWearOf_c A c S W (by omega) h
          rw [f4] at HWs
          simp only at HWs
          have HWs := fun A c W h => Lib.hid (HWs A c W h)
          have HSs := fun A c W h => implSortStrokes_c A c S W (by omega) h
          rw [f3, f2] at HSs
          unfold PostRows at HSs
          have HSs := fun A c W h => Lib.hid (HSs A c W h)
          have hlen : ((S.length : Int) == (l.length : Int)) = true := by simp [f1]
          have Hnx := Lib.hid (fun (j : Nat) (cc : Int) (h : Chg S j cc) hj => h.next hj f6 f7)
          have Hle := Lib.hid (fun (j : Nat) (cc : Int) (h : Chg S j cc) => h.le f6)
          have H0 := Lib.hid (Chg.start S)
          clear f1 f2 f3 f4 f6 f7 HF Hsl
          go_wp2_with fail
          go_loopw [22, 23] (fun ch i wr => ∃ (j : Nat) (cc : Int), i = .int .i64 ((j : Int) + 1) ∧ ch = .int .i64 cc ∧ j ≤ S.length ∧ Hid (Chg S j cc) ∧ Below w.heap.size w wr ∧ Own wr w.heap.size 35 3 (.slice As S.length cs) (S.map Stroke.cells) ∧ Own wr w.heap.size 35 3 (.slice Al l.length cl) (l.map Stroke.cells)) (fun _ i _ => S.length - (intOf i).toNat)
          case atStart => exact ⟨0, 0, rfl, rfl, Nat.zero_le _, H0, hB, hOs.mono hw1z, hOl⟩
          case round =>
            clear hB hOs hOl
            obtain ⟨j, cc, rfl, rfl, hj, hch, hB, hOs, hOl⟩ := hrel
            by_cases hlt : j + 1 < S.length
            · have hlt' : (j : Int) + 1 < S.length := by omega
              obtain ⟨n1, n2, n3, n4⟩ := Hnx.out j cc hch.out hlt
              obtain ⟨b, off, hAs, hbB, hc1⟩ := hOs.sl.at_ (i := j + 1) (by rw [List.length_map]; exact hlt)
              obtain ⟨b2, off2, hAs2, hbB2, hc2⟩ := hOs.sl.at_ (i := j) (by rw [List.length_map]; omega)
              subst hAs
              obtain ⟨rfl, rfl⟩ : b = b2 ∧ off = off2 := by simpa using hAs2
              obtain rfl := hOs.off0 (i := j) (by rw [List.length_map]; omega)
              have y1 := hc1 0 (.int .i64 S[j + 1].tool) (by rw [List.getElem_map]; rfl)
              have y0 := hc2 0 (.int .i64 S[j].tool) (by rw [List.getElem_map]; rfl)
              rw [Nat.zero_add, Nat.add_zero] at y0 y1
              have hv1 : IntKind.i64.wrap (j : Int) = j := IntWalk.i64_in _ (by omega)
              have hv3 : (j : Int) < S.length := by omega
              have N1 := Lib.hid n1; have N2 := Lib.hid n2
              clear n1 n2 hc1 hc2 Hnx Hle H0
              generalize S[j + 1].tool = ta at *
              generalize S[j].tool = tb at *
              by_cases htt : ta = tb
              · have hne : (ta != tb) = false := by simp [htt]
                have hch2 := Lib.hid (N1.out htt)
                clear htt N1 N2 hch
                go_wp2_with fail
                go_quiet (fail)
                go_wp2_with fail
                go_roundw
                case rel => exact ⟨j + 1, cc, by go_num, rfl, by omega, hch2, below_drewN' hB _, hOs, hOl⟩
                case measure => first | (simp [intOf]; done) | (simp [intOf]; omega)
              · have hne : (ta != tb) = true := by simpa using htt
                have hch2 := Lib.hid (N2.out htt)
                clear htt N1 N2 hch
                go_wp2_with fail
                go_quiet (fail)
                go_wp2_with fail
                go_roundw
                case rel => exact ⟨j + 1, cc + 1, by go_num, by go_num, by omega, hch2, below_drewN' hB _, hOs, hOl⟩
                case measure => first | (simp [intOf]; done) | (simp [intOf]; omega)
            · have hlt' : ¬ (j : Int) + 1 < S.length := by omega
              have hcc := Hle.out j cc hch.out
              clear Hnx Hle H0 hch
              go_wp2_with fail
              refine (HW Al cl _ hOl.sl).out.mono ?_; rintro e v1 ⟨rfl, hd⟩
              have hB := hB.trans (hd.mono hB.size)
              have hOs := hOs.below hd
              clear hd
              go_wp2_with fail
              refine (HWs As cs _ hOs.sl).out.mono ?_; rintro e v2 ⟨rfl, hd⟩
              have hB := hB.trans (hd.mono hB.size)
              have hOs := hOs.below hd
              clear hd
              go_wp2_with fail
              refine (HSs As cs _ hOs.sl).out.mono ?_; rintro e v3 ⟨Ay, cy, rfl, hOy, hd⟩
              have hB := hB.trans (hd.mono hB.size)
              have hOs := hOs.below hd
              clear hd
              go_wp2_with fail
              refine (likeStrokes_c Ay As cy cs S _ (by omega) hOy.sl hOs.sl).mono ?_; rintro e v4 ⟨rfl, hd⟩
              have hB := hB.trans (hd.mono hB.size)
              go_wp2
              go_ret
              exact ⟨rfl, hB⟩
        · have hzf : (z != 0) = true := by simp [hz]
          clear HF hz
          go_wp2
          go_ret
          exact ⟨rfl, hB⟩
      · have hrf : (rc == 0) = false := by simp [hrc]
        clear HQ hrc hOr
        by_cases hz : z = 0
        · subst hz
          obtain ⟨f1, f2, f3, f4, f5, f6, f7⟩ := HF.out rfl
          subst f5
          have HWs := fun A c W h => implWearOf_c A c S W (by omega) h
          rw [f4] at HWs
          simp only at HWs
          have HWs := fun A c W h => Lib.hid (HWs A c W h)
          have HSs := fun A c W h => implSortStrokes_c A c S W (by omega) h
          rw [f3, f2] at HSs
          unfold PostRows at HSs
          have HSs := fun A c W h => Lib.hid (HSs A c W h)
          have hlen : ((S.length : Int) == (l.length : Int)) = true := by simp [f1]
          have Hnx := Lib.hid (fun (j : Nat) (cc : Int) (h : Chg S j cc) hj => h.next hj f6 f7)
          have Hle := Lib.hid (fun (j : Nat) (cc : Int) (h : Chg S j cc) => h.le f6)
          have H0 := Lib.hid (Chg.start S)
          clear f1 f2 f3 f4 f6 f7 HF Hsl
          go_wp2_with fail
          go_loopw [22, 23] (fun ch i wr => ∃ (j : Nat) (cc : Int), i = .int .i64 ((j : Int) + 1) ∧ ch = .int .i64 cc ∧ j ≤ S.length ∧ Hid (Chg S j cc) ∧ Below w.heap.size w wr ∧ Own wr w.heap.size 35 3 (.slice As S.length cs) (S.map Stroke.cells) ∧ Own wr w.heap.size 35 3 (.slice Al l.length cl) (l.map Stroke.cells)) (fun _ i _ => S.length - (intOf i).toNat)
          case atStart => exact ⟨0, 0, rfl, rfl, Nat.zero_le _, H0, hB, hOs.mono hw1z, hOl⟩
          case round =>
            clear hB hOs hOl
            obtain ⟨j, cc, rfl, rfl, hj, hch, hB, hOs, hOl⟩ := hrel
            by_cases hlt : j + 1 < S.length
            · have hlt' : (j : Int) + 1 < S.length := by omega
              obtain ⟨n1, n2, n3, n4⟩ := Hnx.out j cc hch.out hlt
              obtain ⟨b, off, hAs, hbB, hc1⟩ := hOs.sl.at_ (i := j + 1) (by rw [List.length_map]; exact hlt)
              obtain ⟨b2, off2, hAs2, hbB2, hc2⟩ := hOs.sl.at_ (i := j) (by rw [List.length_map]; omega)
              subst hAs
              obtain ⟨rfl, rfl⟩ : b = b2 ∧ off = off2 := by simpa using hAs2
              obtain rfl := hOs.off0 (i := j) (by rw [List.length_map]; omega)
              have y1 := hc1 0 (.int .i64 S[j + 1].tool) (by rw [List.getElem_map]; rfl)
              have y0 := hc2 0 (.int .i64 S[j].tool) (by rw [List.getElem_map]; rfl)
              rw [Nat.zero_add, Nat.add_zero] at y0 y1
              have hv1 : IntKind.i64.wrap (j : Int) = j := IntWalk.i64_in _ (by omega)
              have hv3 : (j : Int) < S.length := by omega
              have N1 := Lib.hid n1; have N2 := Lib.hid n2
              clear n1 n2 hc1 hc2 Hnx Hle H0
              generalize S[j + 1].tool = ta at *
              generalize S[j].tool = tb at *
              by_cases htt : ta = tb
              · have hne : (ta != tb) = false := by simp [htt]
                have hch2 := Lib.hid (N1.out htt)
                clear htt N1 N2 hch
                go_wp2_with fail
                go_quiet (fail)
                go_wp2_with fail
                go_roundw
                case rel => exact ⟨j + 1, cc, by go_num, rfl, by omega, hch2, below_drewN' hB _, hOs, hOl⟩
                case measure => first | (simp [intOf]; done) | (simp [intOf]; omega)
              · have hne : (ta != tb) = true := by simpa using htt
                have hch2 := Lib.hid (N2.out htt)
                clear htt N1 N2 hch
                go_wp2_with fail
                go_quiet (fail)
                go_wp2_with fail
                go_roundw
                case rel => exact ⟨j + 1, cc + 1, by go_num, by go_num, by omega, hch2, below_drewN' hB _, hOs, hOl⟩
                case measure => first | (simp [intOf]; done) | (simp [intOf]; omega)
            · have hlt' : ¬ (j : Int) + 1 < S.length := by omega
              have hcc := Hle.out j cc hch.out
              clear Hnx Hle H0 hch
              go_wp2_with fail
              refine (HW Al cl _ hOl.sl).out.mono ?_; rintro e v1 ⟨rfl, hd⟩
              have hB := hB.trans (hd.mono hB.size)
              have hOs := hOs.below hd
              clear hd
              go_wp2_with fail
              refine (HWs As cs _ hOs.sl).out.mono ?_; rintro e v2 ⟨rfl, hd⟩
              have hB := hB.trans (hd.mono hB.size)
              have hOs := hOs.below hd
              clear hd
              go_wp2_with fail
              refine (HSs As cs _ hOs.sl).out.mono ?_; rintro e v3 ⟨Ay, cy, rfl, hOy, hd⟩
              have hB := hB.trans (hd.mono hB.size)
              have hOs := hOs.below hd
              clear hd
              go_wp2_with fail
              refine (likeStrokes_c Ay As cy cs S _ (by omega) hOy.sl hOs.sl).mono ?_; rintro e v4 ⟨rfl, hd⟩
              have hB := hB.trans (hd.mono hB.size)
              go_wp2
              go_ret
              exact ⟨rfl, hB⟩
        · have hzf : (z != 0) = true := by simp [hz]
          clear HF hz
          go_wp2
          go_ret
          exact ⟨rfl, hB⟩
end Go.Proofs.YtkjommcmeinkaaaGreatDoor
