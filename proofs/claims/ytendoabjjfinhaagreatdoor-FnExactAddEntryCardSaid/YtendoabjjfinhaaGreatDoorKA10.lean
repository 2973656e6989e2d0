/- The laws' marks on a list of entries, each of them known. Conditions: the lists' lengths, and what the list owns. What the laws hold a list of entries against: their marks. Conditions: the lists' lengths. The laws' marks on a list of entries that a call made, and what they are held against. Conditions: the lists' lengths, and what the list owns. The laws' marks on one entry: its powers alone. Conditions: the lengths, and what it owns. Lists of entries: the laws' comparison of them. Conditions: the lists' lengths. Loads of whole structs under a guard. No condition. An entry behind others: the program's test. Conditions: the lengths. -/
import Derived.Deep.RegionHeld3
import Derived.Test.YtendoabjjfinhaaGreatDoorKA1
import Derived.Test.YtendoabjjfinhaaGreatDoorKA6
import Derived.Test.YtendoabjjfinhaaGreatDoorKA8
import Derived.Test.YtendoabjjfinhaaGreatDoorKA9
set_option linter.unusedSimpArgs false
namespace Go.Proofs.YtendoabjjfinhaaGreatDoor
open Go.RowKit
def puts (cs : Array Value) (l : List (Nat × Value)) : Array Value := l.foldl (fun c p => c.setIfInBounds p.1 p.2) cs
theorem puts_snoc (cs : Array Value) (l : List (Nat × Value)) (o : Nat) (u : Value) : puts cs (l ++ [(o, u)]) = (puts cs l).setIfInBounds o u := by simp [puts]
theorem puts_size : ∀ (l : List (Nat × Value)) (cs : Array Value), (puts cs l).size = cs.size
  | [], _ => rfl
  | p :: l, cs => by
    have := puts_size l (cs.setIfInBounds p.1 p.2)
    simpa [puts] using this
theorem puts_low {lo q : Nat} (hq : q < lo) : ∀ (l : List (Nat × Value)) (cs : Array Value), (∀ p ∈ l, lo ≤ p.1) → (puts cs l)[q]? = cs[q]?
  | [], _, _ => rfl
  | p :: l, cs, h => by
    have h1 := puts_low hq l (cs.setIfInBounds p.1 p.2) (fun x hx => h x (List.mem_cons_of_mem _ hx))
    have h2 := h p List.mem_cons_self
    show (puts (cs.setIfInBounds p.1 p.2) l)[q]? = _
    rw [h1, Array.getElem?_setIfInBounds_ne (by omega)]
/-- the pairs of a row, from a place on; 'none': not stored -/
def prs : Nat → List (Option Value) → List (Nat × Value)
  | _, [] => []
  | b, none :: l => prs (b + 1) l
  | b, some v :: l => (b, v) :: prs (b + 1) l
theorem prs_low : ∀ (l : List (Option Value)) (b : Nat), ∀ p ∈ prs b l, b ≤ p.1
  | [], _, p, h => by cases h
  | none :: l, b, p, h => Nat.le_trans (Nat.le_succ b) (prs_low l (b + 1) p h)
  | some v :: l, b, p, h => by
    rcases List.mem_cons.1 h with rfl | h
    · exact Nat.le_refl _
    · exact Nat.le_trans (Nat.le_succ b) (prs_low l (b + 1) p h)
theorem prs_get : ∀ (l : List (Option Value)) (b : Nat) (cs : Array Value), b + l.length ≤ cs.size → ∀ j, j < l.length → (puts cs (prs b l))[b + j]? = (match l[j]? with | some (some v) => some v | _ => cs[b + j]?)
  | [], _, _, _, j, hj => absurd hj (Nat.not_lt_zero j)
  | none :: l, b, cs, h, 0, _ => puts_low (lo := b + 1) (by omega) _ cs (prs_low l (b + 1))
  | none :: l, b, cs, h, j + 1, hj => by
    have h1 := prs_get l (b + 1) cs (by simp at h; omega) j (by simpa using hj)
    rw [show b + 1 + j = b + (j + 1) by omega] at h1
    exact h1
  | some v :: l, b, cs, h, 0, _ => by
    have h1 := puts_low (lo := b + 1) (q := b) (by omega) _ (cs.setIfInBounds b v) (prs_low l (b + 1))
    refine Eq.trans h1 ?_
    rw [Array.getElem?_setIfInBounds_self_of_lt (by simp at h; omega)]
    rfl
  | some v :: l, b, cs, h, j + 1, hj => by
    have h1 := prs_get l (b + 1) (cs.setIfInBounds b v) (by simp at h ⊢; omega) j (by simpa using hj)
    rw [show b + 1 + j = b + (j + 1) by omega, Array.getElem?_setIfInBounds_ne (by omega)] at h1
    exact h1
def lenAt (fs : List EnR) (k : Nat) : Nat := match fs[k]? with | some f => f.e.r.l.length | none => 0
def nTo (m : Int) (fs : List EnR) : Nat → Int
  | 0 => m
  | k + 1 => nTo m fs k + 19 + lenAt fs k
def mkCells (n : Int) (f : EnR) : List Value := [.string (markT n), .int .i64 (n + 1), .int .i64 (n + 2), .int .i64 (n + 3), .string (markT (n + 4)), f.sl, .int .i64 (n + 5 + f.e.r.l.length), .int .i64 (n + 6 + f.e.r.l.length), .int .i64 (n + 7 + f.e.r.l.length), .int .i64 (n + 8 + f.e.r.l.length), .int .i64 (n + 9 + f.e.r.l.length), .int .i64 (n + 10 + f.e.r.l.length), .int .i64 (n + 11 + f.e.r.l.length), .int .i64 (n + 12 + f.e.r.l.length), .int .i64 (n + 13 + f.e.r.l.length), .int .i64 (n + 14 + f.e.r.l.length), .int .i64 (n + 15 + f.e.r.l.length), .int .i64 (n + 16 + f.e.r.l.length), .int .i64 (n + 17 + f.e.r.l.length), .int .i64 (n + 18 + f.e.r.l.length)]
/-- while a list's copies are marked, each mark known -/
structure MkX (base hi g : Nat) (fs : List EnR) (cs : Array Value) (l : List (Nat × Value)) (R : Nat → List (List Value)) (w wr : World) : Prop where
  kb : Kb (Nb base hi) w wr
  bl : Blk wr g 48 (puts cs l)
  c5 : ∀ (i : Nat) (f : EnR), fs[i]? = some f → (puts cs l)[i * 20 + 5]? = some f.sl
  ow : ∀ (i : Nat) (f : EnR), fs[i]? = some f → (R i).length = f.e.r.l.length ∧ Own wr base 2 1 f.sl (R i)
def RowsX (fs : List EnR) (m : Int) (cs : Array Value) (R : Nat → List (List Value)) (k : Nat) : Prop := ∀ (i : Nat) (f : EnR), i < k → fs[i]? = some f → (∀ j, j < 20 → cs[i * 20 + j]? = (mkCells (nTo m fs i) f)[j]?) ∧ R i = (List.range f.e.r.l.length).map (markInt64 (nTo m fs i + 5))
section
variable {base hi g N : Nat} {fs : List EnR} {cs : Array Value} {l : List (Nat × Value)} {R : Nat → List (List Value)} {w wr w2 : World}
theorem MkX.below (h : MkX base hi g fs cs l R w wr) (hb : Below wr.heap.size wr w2) : MkX base hi g fs cs l R w w2 :=
  ⟨h.kb.trans (Kb.of_below hb), h.bl.below hb h.bl.lt, h.c5, fun i f hf => ⟨(h.ow i f hf).1, (h.ow i f hf).2.below hb⟩⟩
theorem MkX.set (F : MkF base hi g N fs) (h : MkX base hi g fs cs l R w wr) (o : Nat) (u : Value) (h5 : ∀ i, o ≠ i * 20 + 5) : MkX base hi g fs cs (l ++ [(o, u)]) R w (wr.setCell ⟨g, o, none⟩ u) := by
  refine ⟨h.kb.trans (kb_set F.gl), ?_, fun i f hi => ?_, fun i f hf => ⟨(h.ow i f hf).1, own_set (h.ow i f hf).2 (ne_of_some (F.off f (List.mem_of_getElem? hf)))⟩⟩
  · rw [puts_snoc]
    exact h.bl.set_ o u
  · rw [puts_snoc, Array.getElem?_setIfInBounds_ne (h5 i)]
    exact h.c5 i f hi
theorem MkX.cell (h : MkX base hi g fs cs l R w wr) {o : Nat} (ho : o < cs.size) : ∃ u, wr.cell? ⟨g, o, none⟩ = some u := by
  have h2 := puts_size l cs
  exact ⟨(puts cs l)[o]'(by omega), by rw [h.bl.cell, Array.getElem?_eq_getElem]⟩
theorem MkX.frozen (h : MkX base hi g fs cs l R w wr) (o : Nat) : wr.frozen? ⟨g, o, none⟩ = false := h.bl.frozen o
theorem MkX.at5 (h : MkX base hi g fs cs l R w wr) {k : Nat} (hk : k < fs.length) : wr.cell? ⟨g, k * 20 + 5, none⟩ = some (.slice fs[k].A fs[k].e.r.l.length fs[k].c) := by
  rw [h.bl.cell]
  exact h.c5 k _ (List.getElem?_eq_getElem hk)
theorem MkX.mark (F : MkF base hi g N fs) (h : MkX base hi g fs cs l R w wr) {k : Nat} (hk : k < fs.length) {xs : List (List Value)} (hx : xs.length = fs[k].e.r.l.length) (ho : Own w2 base 2 1 fs[k].sl xs) (hg : wr.grownBy w2 fs[k].sl.ownBlock) :
    MkX base hi g fs cs l (fun i => if i = k then xs else R i) w w2 := by
  have hmem := List.getElem_mem hk
  refine ⟨h.kb.trans (Kb.of_grown hg (fun b hb => ⟨ho.ownGe b hb.symm, F.hi _ hmem b hb.symm⟩)), (hg.block g h.bl.lt (fun e => F.off _ hmem e.symm)).trans h.bl, h.c5, fun i f hf => ?_⟩
  obtain ⟨hj, rfl⟩ := List.getElem?_eq_some_iff.1 hf
  by_cases hjk : i = k
  · subst hjk
    rw [if_pos rfl]
    exact ⟨hx, ho⟩
  · rw [if_neg hjk]
    obtain ⟨a, b⟩ := h.ow i _ hf
    refine ⟨a, b.kept hg ?_⟩
    cases hob : (fs[i].sl).ownBlock with
    | none => exact .inl rfl
    | some x => exact .inr (fun e => EnR.apart_at F.ap hj hk hjk x hob e.symm)
theorem MkX.norm (h : MkX base hi g fs cs l R w wr) : MkX base hi g fs (puts cs l) [] R w wr := ⟨h.kb, h.bl, h.c5, h.ow⟩
theorem nTo_succ (m : Int) {k : Nat} (hk : k < fs.length) : nTo m fs (k + 1) = nTo m fs k + 19 + fs[k].e.r.l.length := by
  show nTo m fs k + 19 + (lenAt fs k : Int) = _
  unfold lenAt
  rw [List.getElem?_eq_getElem hk]
theorem nTo_le (m : Int) (hsh : ∀ f ∈ fs, f.e.r.l.length ≤ 1048576) : ∀ k : Nat, k ≤ fs.length → m ≤ nTo m fs k ∧ nTo m fs k ≤ m + k * 1048596
  | 0, _ => by simp [nTo]
  | k + 1, hk => by
    have h1 := nTo_le m hsh k (by omega)
    have h2 := hsh _ (List.getElem_mem (by omega : k < fs.length))
    rw [nTo_succ m (by omega : k < fs.length)]
    omega
theorem RowsX.next {m : Int} {k : Nat} (h : RowsX fs m cs R k) (hk : k < fs.length) (hlow : ∀ p ∈ l, k * 20 ≤ p.1)
    (hrow : ∀ j, j < 20 → (puts cs l)[k * 20 + j]? = (mkCells (nTo m fs k) fs[k])[j]?) :
    RowsX fs m (puts cs l) (fun i => if i = k then (List.range fs[k].e.r.l.length).map (markInt64 (nTo m fs k + 5)) else R i) (k + 1) := by
  intro i f hi hf
  by_cases hik : i = k
  · subst hik
    obtain rfl : fs[i] = f := by rw [List.getElem?_eq_getElem hk] at hf; exact Option.some.inj hf
    exact ⟨hrow, if_pos rfl⟩
  · obtain ⟨h1, h2⟩ := h i f (by omega) hf
    refine ⟨fun j hj => ?_, (if_neg hik).trans h2⟩
    rw [puts_low (lo := k * 20) (by omega) l cs hlow]
    exact h1 j hj
end
theorem wpList_store_mx {base hi g N : Nat} {fs : List EnR} {cs : Array Value} {l : List (Nat × Value)} {R : Nat → List (List Value)} {w0 w : World} {P : Program} {ops : Array Oper} {rest : List Oper} {op : Oper} {a : Act} {Q : Exit → Act → World → Prop} (F : MkF base hi g N fs) (J : MkX base hi g fs cs l R w0 w) (hgd : op.guard = none) (ty : TypeId) (hsz : ∀ w, (sizeOf ty).run P w = .ok 1 w) (x y : Operand) (ho : op.op = .store ty x y)
    (o : Nat) (v : Value) (hx : a.eval x = .pointer (some ⟨g, o, none⟩)) (hy : a.eval y = v) (hv : (∃ k n, v = .int k n) ∨ ∃ s, v = .string s) (h1 : o < cs.size) (h5 : ∀ i, o ≠ i * 20 + 5)
    (h : ∀ w2, MkX base hi g fs cs (l ++ [(o, v)]) R w0 w2 → wpList P ops Q rest (a.put op.dst undef) w2) : wpList P ops Q (op :: rest) a w := by
  obtain ⟨u, hu⟩ := J.cell h1
  exact wpList_store_cell hgd ty x y ho g o v hx hy hv hsz hu (J.frozen o) (h _ (J.set F o v h5))
set_option maxRecDepth 100000 in
set_option maxHeartbeats 4000000 in
theorem markEnX1_c (c : Nat) (fs : List EnR) (base hi g : Nat) (cs : Array Value) (R : Nat → List (List Value)) (m : Int) (w : World) (hm : 0 ≤ m ∧ m ≤ 1000000000) (hl : fs.length ≤ 1048576) (hsh : ∀ f ∈ fs, f.e.r.l.length ≤ 1048576) (F : MkF base hi g cs.size fs) (M : MkX base hi g fs cs [] R w w) :
    Calls Tryz.prog 14 #[.slice (some ⟨g, 0, none⟩) fs.length c, .int .i64 m] w fun e w' => e = .returned (.int .i64 (nTo m fs fs.length)) ∧ ∃ cs2 R2, MkX base hi g fs cs2 [] R2 w w' ∧ cs2.size = cs.size ∧ RowsX fs m cs2 R2 fs.length := by
  have HT := Lib.hid (fun m W h => markText_c m W h)
  have hN : ∃ N, N = cs.size := ⟨_, rfl⟩
  obtain ⟨N, hN⟩ := hN
  rw [← hN] at F
  have HF := Lib.hid F
  have hnt := Lib.hid (nTo_le (fs := fs) m hsh)
  have hn0 : Hid (nTo m fs 0 = m) := Lib.hid rfl
  have hns := Lib.hid (fun k (hk : k < fs.length) => nTo_succ (fs := fs) m hk)
  replace hsh := Lib.hid hsh
  generalize hnf : nTo m fs = nf at *
  replace hnf := Lib.hid hnf
  go_enter Tryz.func14, Tryz.ntmps14
  go_wp2_with fail
  go_loopw [1, 5] (fun q i wr => ∃ (k : Nat) (cs : Array Value) (R : Nat → List (List Value)), k ≤ fs.length ∧ i = .int .i64 k ∧ q = .int .i64 (nf k) ∧ cs.size = N ∧ MkX base hi g fs cs [] R w wr ∧ Hid (RowsX fs m cs R k)) (fun _ i _ => fs.length - (intOf i).toNat)
  case atStart => exact ⟨0, cs, R, Nat.zero_le _, rfl, by rw [hn0.out], hN.symm, M, Lib.hid (fun i f h => absurd h (Nat.not_lt_zero i))⟩
  case round =>
    clear M
    replace hN := Lib.hid hN
    obtain ⟨k, cs, R, hk, rfl, rfl, hcz, J, hX⟩ := hrel
    have hnk := hnt.out k hk
    by_cases hlt : k < fs.length
    · have hNk : k * 20 + 20 ≤ N := by have := HF.out.nl; omega
      have hnb : nf k ≤ 2000000000000 := by omega
      have hnz : 0 ≤ nf k := by omega
      have hlk : fs[k].e.r.l.length ≤ 1048576 := hsh.out _ (List.getElem_mem hlt)
      have hns2 := Lib.hid (hns.out k hlt)
      have y5 := J.at5 hlt
      have HI : Hid (∀ (q : Int) l W, 0 ≤ q ∧ q ≤ 1000000000000000 → MkX base hi g fs cs l R w W → Calls Tryz.prog 55 #[.slice fs[k].A fs[k].e.r.l.length fs[k].c, .int .i64 q] W fun e w' => e = .returned (.int .i64 (q + fs[k].e.r.l.length)) ∧ MkX base hi g fs cs l (fun i => if i = k then (List.range fs[k].e.r.l.length).map (markInt64 q) else R i) w w') := Lib.hid (fun q l W hq M => by
        obtain ⟨hx, ho⟩ := M.ow k _ (List.getElem?_eq_getElem hlt)
        have ho' := ho
        unfold EnR.sl at ho'
        rw [← hx] at ho'
        have h := markInt64B_c fs[k].A fs[k].c base q (R k) W hq (by omega) ho'
        rw [hx] at h
        refine h.mono fun e w' ⟨h1, h2, h3⟩ => ⟨h1, ?_⟩
        exact M.mark HF.out hlt (by simp) h2 h3)
      have HY : Hid (∀ l R W, MkX base hi g fs cs l R w W → W.cell? ⟨g, k * 20 + 5, none⟩ = some (.slice fs[k].A fs[k].e.r.l.length fs[k].c)) := Lib.hid (fun l R W M => M.at5 hlt)
      have HYc : Hid (cs[k * 20 + 5]? = some (.slice fs[k].A fs[k].e.r.l.length fs[k].c)) := Lib.hid (J.c5 k _ (List.getElem?_eq_getElem hlt))
      replace J := Lib.hid J
      have hend : Hid (∀ l q W, q = nf k + 5 → MkX base hi g fs cs l (fun i => if i = k then (List.range fs[k].e.r.l.length).map (markInt64 q) else R i) w W → (∀ p ∈ l, k * 20 ≤ p.1) → (∀ j, j < 20 → (puts cs l)[k * 20 + j]? = (mkCells (nf k) fs[k])[j]?) → ∃ cs2 R2, cs2.size = N ∧ MkX base hi g fs cs2 [] R2 w W ∧ Hid (RowsX fs m cs2 R2 (k + 1))) := Lib.hid (fun l q W hq M h1 h2 => by
        subst hq
        refine ⟨puts cs l, _, by rw [puts_size]; exact hcz, M.norm, Lib.hid ?_⟩
        have h := RowsX.next hX.out hlt h1 (by rw [hnf.out]; exact h2)
        rw [hnf.out] at h
        exact h)
      have hmc : Hid (mkCells (nf k) fs[k] = [.string (markT (nf k)), .int .i64 (nf k + 1), .int .i64 (nf k + 2), .int .i64 (nf k + 3), .string (markT (nf k + 4)), .slice fs[k].A fs[k].e.r.l.length fs[k].c, .int .i64 (nf k + 5 + fs[k].e.r.l.length), .int .i64 (nf k + 6 + fs[k].e.r.l.length), .int .i64 (nf k + 7 + fs[k].e.r.l.length), .int .i64 (nf k + 8 + fs[k].e.r.l.length), .int .i64 (nf k + 9 + fs[k].e.r.l.length), .int .i64 (nf k + 10 + fs[k].e.r.l.length), .int .i64 (nf k + 11 + fs[k].e.r.l.length), .int .i64 (nf k + 12 + fs[k].e.r.l.length), .int .i64 (nf k + 13 + fs[k].e.r.l.length), .int .i64 (nf k + 14 + fs[k].e.r.l.length), .int .i64 (nf k + 15 + fs[k].e.r.l.length), .int .i64 (nf k + 16 + fs[k].e.r.l.length), .int .i64 (nf k + 17 + fs[k].e.r.l.length), .int .i64 (nf k + 18 + fs[k].e.r.l.length)]) := Lib.hid rfl
      generalize hmcc : mkCells (nf k) fs[k] = mc at *
      replace hmcc := Lib.hid hmcc
      generalize nf k = n at *
      generalize fs[k].e.r.l.length = lk at *
      generalize fs[k].A = A5 at *
      generalize fs[k].c = c5 at *
      go_wp2_with (first | (go_at_call 54; refine Calls.mono (HT.out _ _ (by omega)) ?_; rintro e wn ⟨rfl, hb⟩; replace J := Lib.hid (J.out.below hb); clear hb; clear y5; have y5 := HY.out _ _ _ J.out) | (go_at_call 55; refine Calls.mono (HI.out _ _ _ (by omega) J.out) ?_; rintro e wn ⟨rfl, Jn⟩; replace J := Lib.hid Jn; clear Jn; clear y5; have y5 := HY.out _ _ _ J.out) | (refine wpList_store_mx HF.out J.out rfl 2 sizeInt _ _ rfl _ _ rfl rfl (.inl ⟨_, _, rfl⟩) ?_ ?_ ?_; omega; (intro i; omega); (intro wn Jn; replace J := Lib.hid Jn; clear Jn; clear y5; have y5 := HY.out _ _ _ J.out)) | (refine wpList_store_mx HF.out J.out rfl 9 sizeStr _ _ rfl _ _ rfl rfl (.inr ⟨_, rfl⟩) ?_ ?_ ?_; omega; (intro i; omega); (intro wn Jn; replace J := Lib.hid Jn; clear Jn; clear y5; have y5 := HY.out _ _ _ J.out)))
      obtain ⟨cs2, R2, hz2, J2, X2⟩ := hend.out _ _ _ (by omega) J.out (by simp; omega) (by
        have h5 := Lib.hid (HYc.out)
        have hb : k * 20 + 20 ≤ cs.size := by omega
        clear hend HY HI y5 J hX
        intro j hj
        refine Eq.trans (prs_get [some _, some _, some _, some _, some _, none, some _, some _, some _, some _, some _, some _, some _, some _, some _, some _, some _, some _, some _, some _] (k * 20) cs hb j hj) ?_
        rw [hmc.out]
        clear hmc hmcc
        have hj2 : j = 0 ∨ j = 1 ∨ j = 2 ∨ j = 3 ∨ j = 4 ∨ j = 5 ∨ j = 6 ∨ j = 7 ∨ j = 8 ∨ j = 9 ∨ j = 10 ∨ j = 11 ∨ j = 12 ∨ j = 13 ∨ j = 14 ∨ j = 15 ∨ j = 16 ∨ j = 17 ∨ j = 18 ∨ j = 19 := by omega
        clear hj hb
        rcases hj2 with rfl | rfl | rfl | rfl | rfl | rfl | rfl | rfl | rfl | rfl | rfl | rfl | rfl | rfl | rfl | rfl | rfl | rfl | rfl | rfl
        all_goals first
          | exact h5.out
          | rfl
          | exact congrArg (fun x => some (Value.int .i64 x)) (by omega)
          | exact congrArg (fun x => some (Value.string (markT x))) (by omega))
      go_roundw
      case rel => exact ⟨k + 1, cs2, R2, by omega, by go_num, by rw [hns2.out]; go_num, hz2, J2, X2⟩
      case measure => simp [intOf]; omega
    · have : k = fs.length := by omega
      subst this
      go_wp2
      go_ret
      exact ⟨rfl, cs, R, J, hcz.trans hN.out, hX.out⟩
end Go.Proofs.YtendoabjjfinhaaGreatDoor
namespace Go.Proofs.YtendoabjjfinhaaGreatDoor
open Go.RowKit
def RowAt (g k : Nat) (n : Int) (A5 : Option Addr) (lk c5 : Nat) (W : World) : Prop := W.cell? ⟨g, k * 20, none⟩ = some (.string (markT n)) ∧ W.cell? ⟨g, k * 20 + 1, none⟩ = some (.int .i64 (n + 1)) ∧ W.cell? ⟨g, k * 20 + 2, none⟩ = some (.int .i64 (n + 2)) ∧ W.cell? ⟨g, k * 20 + 3, none⟩ = some (.int .i64 (n + 3)) ∧ W.cell? ⟨g, k * 20 + 4, none⟩ = some (.string (markT (n + 4))) ∧ W.cell? ⟨g, k * 20 + 5, none⟩ = some (.slice A5 lk c5) ∧ W.cell? ⟨g, k * 20 + 6, none⟩ = some (.int .i64 (n + 5 + lk)) ∧ W.cell? ⟨g, k * 20 + 7, none⟩ = some (.int .i64 (n + 6 + lk)) ∧ W.cell? ⟨g, k * 20 + 8, none⟩ = some (.int .i64 (n + 7 + lk)) ∧ W.cell? ⟨g, k * 20 + 9, none⟩ = some (.int .i64 (n + 8 + lk)) ∧ W.cell? ⟨g, k * 20 + 10, none⟩ = some (.int .i64 (n + 9 + lk)) ∧ W.cell? ⟨g, k * 20 + 11, none⟩ = some (.int .i64 (n + 10 + lk)) ∧ W.cell? ⟨g, k * 20 + 12, none⟩ = some (.int .i64 (n + 11 + lk)) ∧ W.cell? ⟨g, k * 20 + 13, none⟩ = some (.int .i64 (n + 12 + lk)) ∧ W.cell? ⟨g, k * 20 + 14, none⟩ = some (.int .i64 (n + 13 + lk)) ∧ W.cell? ⟨g, k * 20 + 15, none⟩ = some (.int .i64 (n + 14 + lk)) ∧ W.cell? ⟨g, k * 20 + 16, none⟩ = some (.int .i64 (n + 15 + lk)) ∧ W.cell? ⟨g, k * 20 + 17, none⟩ = some (.int .i64 (n + 16 + lk)) ∧ W.cell? ⟨g, k * 20 + 18, none⟩ = some (.int .i64 (n + 17 + lk)) ∧ W.cell? ⟨g, k * 20 + 19, none⟩ = some (.int .i64 (n + 18 + lk))
theorem RowAt.of {w : World} {g k : Nat} {cs : Array Value} {n : Int} {f : EnR} (hB : Blk w g 48 cs) (h : ∀ j, j < 20 → cs[k * 20 + j]? = (mkCells n f)[j]?) : RowAt g k n f.A f.e.r.l.length f.c w := by
  have hc : ∀ j, j < 20 → w.cell? ⟨g, k * 20 + j, none⟩ = (mkCells n f)[j]? := fun j hj => by rw [hB.cell]; exact h j hj
  exact ⟨hc 0 (by decide), hc 1 (by decide), hc 2 (by decide), hc 3 (by decide), hc 4 (by decide), hc 5 (by decide), hc 6 (by decide), hc 7 (by decide), hc 8 (by decide), hc 9 (by decide), hc 10 (by decide), hc 11 (by decide), hc 12 (by decide), hc 13 (by decide), hc 14 (by decide), hc 15 (by decide), hc 16 (by decide), hc 17 (by decide), hc 18 (by decide), hc 19 (by decide)⟩
def RowQ (g k : Nat) (q : Int) (W : World) : Prop := W.cell? ⟨g, k * 20 + 6, none⟩ = some (.int .i64 (q)) ∧ W.cell? ⟨g, k * 20 + 7, none⟩ = some (.int .i64 (q + 1)) ∧ W.cell? ⟨g, k * 20 + 8, none⟩ = some (.int .i64 (q + 1 + 1)) ∧ W.cell? ⟨g, k * 20 + 9, none⟩ = some (.int .i64 (q + 1 + 1 + 1)) ∧ W.cell? ⟨g, k * 20 + 10, none⟩ = some (.int .i64 (q + 1 + 1 + 1 + 1)) ∧ W.cell? ⟨g, k * 20 + 11, none⟩ = some (.int .i64 (q + 1 + 1 + 1 + 1 + 1)) ∧ W.cell? ⟨g, k * 20 + 12, none⟩ = some (.int .i64 (q + 1 + 1 + 1 + 1 + 1 + 1)) ∧ W.cell? ⟨g, k * 20 + 13, none⟩ = some (.int .i64 (q + 1 + 1 + 1 + 1 + 1 + 1 + 1)) ∧ W.cell? ⟨g, k * 20 + 14, none⟩ = some (.int .i64 (q + 1 + 1 + 1 + 1 + 1 + 1 + 1 + 1)) ∧ W.cell? ⟨g, k * 20 + 15, none⟩ = some (.int .i64 (q + 1 + 1 + 1 + 1 + 1 + 1 + 1 + 1 + 1)) ∧ W.cell? ⟨g, k * 20 + 16, none⟩ = some (.int .i64 (q + 1 + 1 + 1 + 1 + 1 + 1 + 1 + 1 + 1 + 1)) ∧ W.cell? ⟨g, k * 20 + 17, none⟩ = some (.int .i64 (q + 1 + 1 + 1 + 1 + 1 + 1 + 1 + 1 + 1 + 1 + 1)) ∧ W.cell? ⟨g, k * 20 + 18, none⟩ = some (.int .i64 (q + 1 + 1 + 1 + 1 + 1 + 1 + 1 + 1 + 1 + 1 + 1 + 1)) ∧ W.cell? ⟨g, k * 20 + 19, none⟩ = some (.int .i64 (q + 1 + 1 + 1 + 1 + 1 + 1 + 1 + 1 + 1 + 1 + 1 + 1 + 1))
theorem RowAt.tail {W : World} {g k : Nat} {n q : Int} {A5 : Option Addr} {lk c5 : Nat} (h : RowAt g k n A5 lk c5 W) (hq : q = n + 5 + lk) : W.cell? ⟨g, k * 20 + 5, none⟩ = some (.slice A5 lk c5) ∧ RowQ g k q W := by
  obtain ⟨_, _, _, _, _, y5, y6, y7, y8, y9, y10, y11, y12, y13, y14, y15, y16, y17, y18, y19⟩ := h
  exact ⟨y5, by rw [y6]; exact congrArg (fun x => some (Value.int .i64 x)) (by omega), by rw [y7]; exact congrArg (fun x => some (Value.int .i64 x)) (by omega), by rw [y8]; exact congrArg (fun x => some (Value.int .i64 x)) (by omega), by rw [y9]; exact congrArg (fun x => some (Value.int .i64 x)) (by omega), by rw [y10]; exact congrArg (fun x => some (Value.int .i64 x)) (by omega), by rw [y11]; exact congrArg (fun x => some (Value.int .i64 x)) (by omega), by rw [y12]; exact congrArg (fun x => some (Value.int .i64 x)) (by omega), by rw [y13]; exact congrArg (fun x => some (Value.int .i64 x)) (by omega), by rw [y14]; exact congrArg (fun x => some (Value.int .i64 x)) (by omega), by rw [y15]; exact congrArg (fun x => some (Value.int .i64 x)) (by omega), by rw [y16]; exact congrArg (fun x => some (Value.int .i64 x)) (by omega), by rw [y17]; exact congrArg (fun x => some (Value.int .i64 x)) (by omega), by rw [y18]; exact congrArg (fun x => some (Value.int .i64 x)) (by omega), by rw [y19]; exact congrArg (fun x => some (Value.int .i64 x)) (by omega)⟩
set_option maxRecDepth 100000 in
set_option maxHeartbeats 4000000 in
theorem heldEnX_c (c : Nat) (fs : List EnR) (g : Nat) (cs : Array Value) (R : Nat → List (List Value)) (m : Int) (w : World) (hm : 0 ≤ m ∧ m ≤ 1000) (hl : fs.length ≤ 900) (hsh : ∀ f ∈ fs, f.e.r.l.length ≤ 1048576) (hB : Blk w g 48 cs) (hX : RowsX fs m cs R fs.length)
    (hO : ∀ i f, fs[i]? = some f → (R i).length = f.e.r.l.length ∧ Sl w w.heap.size 1 f.A (R i)) :
    Calls Tryz.prog 16 #[.slice (some ⟨g, 0, none⟩) fs.length c, .int .i64 m] w fun e w' => e = .returned (.int .i64 (nTo m fs fs.length)) ∧ Below w.heap.size w w' := by
  have HT := Lib.hid (fun m W h => markText_c m W h)
  have hnt := Lib.hid (nTo_le (fs := fs) m hsh)
  have hn0 : Hid (nTo m fs 0 = m) := Lib.hid rfl
  have hns := Lib.hid (fun k (hk : k < fs.length) => nTo_succ (fs := fs) m hk)
  have HR := Lib.hid (fun k (hk : k < fs.length) W (hW : Below w.heap.size w W) => RowAt.of (hB.below hW hB.lt) (hX k _ hk (List.getElem?_eq_getElem hk)).1)
  have HP := Lib.hid (fun k (hk : k < fs.length) W (hW : Below w.heap.size w W) => (by
    have h1 := (hX k _ hk (List.getElem?_eq_getElem hk)).2
    have h2 := (hO k _ (List.getElem?_eq_getElem hk)).2
    rw [h1] at h2
    exact (h2.below hW).more hW.size : Sl W W.heap.size 1 fs[k].A ((List.range fs[k].e.r.l.length).map (markInt64 (nTo m fs k + 5)))))
  replace hsh := Lib.hid hsh
  clear hB hX hO
  generalize nTo m fs = nf at *
  go_enter Tryz.func16, Tryz.ntmps16
  go_wp2_with fail
  go_loopw [1, 5] (fun q i wr => ∃ k : Nat, k ≤ fs.length ∧ i = .int .i64 k ∧ q = .int .i64 (nf k) ∧ Below w.heap.size w wr) (fun _ i _ => fs.length - (intOf i).toNat)
  case atStart => exact ⟨0, Nat.zero_le _, rfl, by rw [hn0.out], Below.refl _ _⟩
  case round =>
    obtain ⟨k, hk, rfl, rfl, hW⟩ := hrel
    have hnk := hnt.out k hk
    by_cases hlt : k < fs.length
    · have hnb : nf k ≤ 999000000 := by omega
      have hnz : 0 ≤ nf k := by omega
      have hlk : fs[k].e.r.l.length ≤ 1048576 := hsh.out _ (List.getElem_mem hlt)
      have hns2 := Lib.hid (hns.out k hlt)
      have HR2 := Lib.hid (HR.out k hlt)
      have HP2 := Lib.hid (HP.out k hlt)
      have k1 : (k : Int) < (fs.length : Int) := by omega
      have k0 : (0 : Int) ≤ (k : Int) := by omega
      generalize nf k = n at *
      generalize fs[k].e.r.l.length = lk at *
      generalize fs[k].A = A5 at *
      generalize fs[k].c = c5 at *
      go_wp2_with fail
      refine wp_region_all (fun a0 fL bA v => ∃ v12 v13 v14 v15 v16 v17 v18 v19 : Value, bA = (((((((a0.put (some 12) v12).put (some 13) v13).put (some 14) v14).put (some 15) v15).put (some 16) v16).put (some 17) v17).put (some 18) v18).put (some 19) v19 ∧ (Below wr.heap.size wr v) ∧ (fL 0 = true → v12 = .slice (some ⟨g, 0, none⟩) fs.length c) ∧ (fL 1 = true → v13 = .int .i64 k) ∧ (fL 2 = true → v14 = .pointer (some ⟨g, k * 20, none⟩)) ∧ (fL 3 = true → v15 = .pointer (some ⟨g, k * 20, none⟩)) ∧ (fL 4 = true → v16 = .string (markT n)) ∧ (fL 5 = true → v17 = .int .i64 n) ∧ (fL 6 = true → v18 = .string (markT n)) ∧ (fL 7 = true → v19 = .bool false)) (by kernel_rfl) (by decide +kernel) ?_ ?_ ?_
      · exact ⟨_, _, _, _, _, _, _, _, put_more (put_more (put_more (put_more (put_more (put_more (put_more (put_more (rfl) 12) 13) 14) 15) 16) 17) 18) 19, (Below.refl _ _).drew, nofun, nofun, nofun, nofun, nofun, nofun, nofun, nofun⟩
      · rintro fL bA v ⟨v12, v13, v14, v15, v16, v17, v18, v19, rfl, hS, q0, q1, q2, q3, q4, q5, q6, q7⟩ i hi hf o ho hall
        simp only [Act.put, List.setIfInBounds_toArray, List.set_cons_zero, List.set_cons_succ]
        simp only [List.length_cons, List.length_nil] at hi
        have hn : i = 0 ∨ i = 1 ∨ i = 2 ∨ i = 3 ∨ i = 4 ∨ i = 5 ∨ i = 6 ∨ i = 7 := by omega
        clear hi
        rcases hn with rfl | rfl | rfl | rfl | rfl | rfl | rfl | rfl
        · obtain rfl := Option.some.inj ho
          clear hall ho
          refine wpOp_step rfl (fun K hK => ?_)
          go_simp
          exact hK _ _ ⟨_, _, _, _, _, _, _, _, rfl, hS, fun _ => rfl, q1, q2, q3, q4, q5, q6, q7⟩
        · obtain rfl := Option.some.inj ho
          clear hall ho
          refine wpOp_step rfl (fun K hK => ?_)
          go_simp
          exact hK _ _ ⟨_, _, _, _, _, _, _, _, rfl, hS, q0, fun _ => rfl, q2, q3, q4, q5, q6, q7⟩
        · obtain rfl := Option.some.inj ho
          obtain rfl := q0 (hall ⟨0, .data⟩ (by simp) rfl)
          obtain rfl := q1 (hall ⟨1, .data⟩ (by simp) rfl)
          clear hall ho
          refine wpOp_step rfl (fun K hK => ?_)
          go_simp
          exact hK _ _ ⟨_, _, _, _, _, _, _, _, rfl, hS, fun _ => rfl, fun _ => rfl, fun _ => rfl, q3, q4, q5, q6, q7⟩
        · obtain rfl := Option.some.inj ho
          obtain rfl := q2 (hall ⟨2, .data⟩ (by simp) rfl)
          clear hall ho
          refine wpOp_step rfl (fun K hK => ?_)
          go_simp
          exact hK _ _ ⟨_, _, _, _, _, _, _, _, rfl, hS, q0, q1, fun _ => rfl, fun _ => rfl, q4, q5, q6, q7⟩
        · obtain rfl := Option.some.inj ho
          obtain rfl := q3 (hall ⟨3, .data⟩ (by simp) rfl)
          have y0 : v.cell? ⟨g, k * 20, none⟩ = some (.string (markT n)) := (HR2.out v (hW.trans (hS.mono hW.size))).1
          clear hall ho
          refine wpOp_step rfl (fun K hK => ?_)
          go_simp
          exact hK _ _ ⟨_, _, _, _, _, _, _, _, rfl, hS, q0, q1, q2, fun _ => rfl, fun _ => rfl, q5, q6, q7⟩
        · obtain rfl := Option.some.inj ho
          clear hall ho
          refine wpOp_step rfl (fun K hK => ?_)
          go_simp
          exact hK _ _ ⟨_, _, _, _, _, _, _, _, rfl, hS, q0, q1, q2, q3, q4, fun _ => rfl, q6, q7⟩
        · obtain rfl := Option.some.inj ho
          obtain rfl := q5 (hall ⟨5, .data⟩ (by simp) rfl)
          clear hall ho
          refine wpOp_step rfl (fun K hK => ?_)
          go_simp
          refine Calls.mono (HT.out n v (by omega)) ?_; rintro e w1 ⟨rfl, hb1⟩
          go_simp
          exact hK _ _ ⟨_, _, _, _, _, _, _, _, rfl, hS.trans (hb1.mono hS.size), q0, q1, q2, q3, q4, fun _ => rfl, fun _ => rfl, q7⟩
        · obtain rfl := Option.some.inj ho
          obtain rfl := q4 (hall ⟨4, .data⟩ (by simp) rfl)
          obtain rfl := q6 (hall ⟨6, .data⟩ (by simp) rfl)
          clear hall ho
          refine wpOp_step rfl (fun K hK => ?_)
          go_simp
          exact hK _ _ ⟨_, _, _, _, _, _, _, _, rfl, hS, q0, q1, q2, q3, fun _ => rfl, q5, fun _ => rfl, fun _ => rfl⟩
      · rintro fL bA v ⟨v12, v13, v14, v15, v16, v17, v18, v19, rfl, hS, q0, q1, q2, q3, q4, q5, q6, q7⟩ hall
        simp only [Act.put, List.setIfInBounds_toArray, List.set_cons_zero, List.set_cons_succ]
        simp only [List.length_cons, List.length_nil] at hall
        obtain rfl := q0 (hall 0 (by omega))
        obtain rfl := q1 (hall 1 (by omega))
        obtain rfl := q2 (hall 2 (by omega))
        obtain rfl := q3 (hall 3 (by omega))
        obtain rfl := q4 (hall 4 (by omega))
        obtain rfl := q5 (hall 5 (by omega))
        obtain rfl := q6 (hall 6 (by omega))
        obtain rfl := q7 (hall 7 (by omega))
        clear hall
        have hW2 := hW.trans (hS.mono hW.size)
        clear hS
        obtain ⟨_, y1, y2, y3, _⟩ := HR2.out v hW2
        go_wp2_with fail
        clear y1 y2 y3
        obtain ⟨w2, hw2⟩ : ∃ u, u = v := ⟨_, rfl⟩
        subst hw2
        have e4 : Hid (n + 1 + 1 + 1 + 1 = n + 4) := Lib.hid (by omega)
        refine wp_region_all (fun a0 fL bA v => ∃ v57 v58 v59 v60 v61 v62 v63 v64 v65 v66 v67 : Value, bA = ((((((((((a0.put (some 57) v57).put (some 58) v58).put (some 59) v59).put (some 60) v60).put (some 61) v61).put (some 62) v62).put (some 63) v63).put (some 64) v64).put (some 65) v65).put (some 66) v66).put (some 67) v67 ∧ (Below w2.heap.size w2 v) ∧ (fL 0 = true → v57 = .slice (some ⟨g, 0, none⟩) fs.length c) ∧ (fL 1 = true → v58 = .int .i64 k) ∧ (fL 2 = true → v59 = .pointer (some ⟨g, k * 20, none⟩)) ∧ (fL 3 = true → v60 = .pointer (some ⟨g, k * 20 + 2, none⟩)) ∧ (fL 4 = true → v61 = .pointer (some ⟨g, k * 20 + 2, none⟩)) ∧ (fL 5 = true → v62 = .pointer (some ⟨g, k * 20 + 2, none⟩)) ∧ (fL 6 = true → v63 = .pointer (some ⟨g, k * 20 + 2 + 2, none⟩)) ∧ (fL 7 = true → v64 = .string (markT (n + 1 + 1 + 1 + 1))) ∧ (fL 8 = true → v65 = .int .i64 (n + 1 + 1 + 1 + 1)) ∧ (fL 9 = true → v66 = .string (markT (n + 1 + 1 + 1 + 1))) ∧ (fL 10 = true → v67 = .bool false)) (by kernel_rfl) (by decide +kernel) ?_ ?_ ?_
        · exact ⟨_, _, _, _, _, _, _, _, _, _, _, put_more (put_more (put_more (put_more (put_more (put_more (put_more (put_more (put_more (put_more (put_more (rfl) 57) 58) 59) 60) 61) 62) 63) 64) 65) 66) 67, (Below.refl _ _).drew, nofun, nofun, nofun, nofun, nofun, nofun, nofun, nofun, nofun, nofun, nofun⟩
        · rintro fL bA v ⟨v57, v58, v59, v60, v61, v62, v63, v64, v65, v66, v67, rfl, hS, q0, q1, q2, q3, q4, q5, q6, q7, q8, q9, q10⟩ i hi hf o ho hall
          simp only [Act.put, List.setIfInBounds_toArray, List.set_cons_zero, List.set_cons_succ]
          simp only [List.length_cons, List.length_nil] at hi
          have hn : i = 0 ∨ i = 1 ∨ i = 2 ∨ i = 3 ∨ i = 4 ∨ i = 5 ∨ i = 6 ∨ i = 7 ∨ i = 8 ∨ i = 9 ∨ i = 10 := by omega
          clear hi
          rcases hn with rfl | rfl | rfl | rfl | rfl | rfl | rfl | rfl | rfl | rfl | rfl
          · obtain rfl := Option.some.inj ho
            clear hall ho
            refine wpOp_step rfl (fun K hK => ?_)
            go_simp
            exact hK _ _ ⟨_, _, _, _, _, _, _, _, _, _, _, rfl, hS, fun _ => rfl, q1, q2, q3, q4, q5, q6, q7, q8, q9, q10⟩
          · obtain rfl := Option.some.inj ho
            clear hall ho
            refine wpOp_step rfl (fun K hK => ?_)
            go_simp
            exact hK _ _ ⟨_, _, _, _, _, _, _, _, _, _, _, rfl, hS, q0, fun _ => rfl, q2, q3, q4, q5, q6, q7, q8, q9, q10⟩
          · obtain rfl := Option.some.inj ho
            obtain rfl := q0 (hall ⟨0, .data⟩ (by simp) rfl)
            obtain rfl := q1 (hall ⟨1, .data⟩ (by simp) rfl)
            clear hall ho
            refine wpOp_step rfl (fun K hK => ?_)
            go_simp
            exact hK _ _ ⟨_, _, _, _, _, _, _, _, _, _, _, rfl, hS, fun _ => rfl, fun _ => rfl, fun _ => rfl, q3, q4, q5, q6, q7, q8, q9, q10⟩
          · obtain rfl := Option.some.inj ho
            obtain rfl := q2 (hall ⟨2, .data⟩ (by simp) rfl)
            clear hall ho
            refine wpOp_step rfl (fun K hK => ?_)
            go_simp
            exact hK _ _ ⟨_, _, _, _, _, _, _, _, _, _, _, rfl, hS, q0, q1, fun _ => rfl, fun _ => rfl, q4, q5, q6, q7, q8, q9, q10⟩
          · obtain rfl := Option.some.inj ho
            obtain rfl := q3 (hall ⟨3, .data⟩ (by simp) rfl)
            clear hall ho
            refine wpOp_step rfl (fun K hK => ?_)
            go_simp
            exact hK _ _ ⟨_, _, _, _, _, _, _, _, _, _, _, rfl, hS, q0, q1, q2, fun _ => rfl, fun _ => rfl, q5, q6, q7, q8, q9, q10⟩
          · obtain rfl := Option.some.inj ho
            obtain rfl := q4 (hall ⟨4, .data⟩ (by simp) rfl)
            clear hall ho
            refine wpOp_step rfl (fun K hK => ?_)
            go_simp
            exact hK _ _ ⟨_, _, _, _, _, _, _, _, _, _, _, rfl, hS, q0, q1, q2, q3, fun _ => rfl, fun _ => rfl, q6, q7, q8, q9, q10⟩
          · obtain rfl := Option.some.inj ho
            obtain rfl := q5 (hall ⟨5, .data⟩ (by simp) rfl)
            clear hall ho
            refine wpOp_step rfl (fun K hK => ?_)
            go_simp
            exact hK _ _ ⟨_, _, _, _, _, _, _, _, _, _, _, rfl, hS, q0, q1, q2, q3, q4, fun _ => rfl, fun _ => rfl, q7, q8, q9, q10⟩
          · obtain rfl := Option.some.inj ho
            obtain rfl := q6 (hall ⟨6, .data⟩ (by simp) rfl)
            have y4 : v.cell? ⟨g, k * 20 + 2 + 2, none⟩ = some (.string (markT (n + 1 + 1 + 1 + 1))) := by rw [e4.out]; exact (HR2.out v (hW2.trans (hS.mono hW2.size))).2.2.2.2.1
            clear hall ho
            refine wpOp_step rfl (fun K hK => ?_)
            go_simp
            exact hK _ _ ⟨_, _, _, _, _, _, _, _, _, _, _, rfl, hS, q0, q1, q2, q3, q4, q5, fun _ => rfl, fun _ => rfl, q8, q9, q10⟩
          · obtain rfl := Option.some.inj ho
            clear hall ho
            refine wpOp_step rfl (fun K hK => ?_)
            go_simp
            exact hK _ _ ⟨_, _, _, _, _, _, _, _, _, _, _, rfl, hS, q0, q1, q2, q3, q4, q5, q6, q7, fun _ => rfl, q9, q10⟩
          · obtain rfl := Option.some.inj ho
            obtain rfl := q8 (hall ⟨8, .data⟩ (by simp) rfl)
            clear hall ho
            refine wpOp_step rfl (fun K hK => ?_)
            go_simp
            refine Calls.mono (HT.out (n + 1 + 1 + 1 + 1) v (by omega)) ?_; rintro e w1 ⟨rfl, hb1⟩
            go_simp
            exact hK _ _ ⟨_, _, _, _, _, _, _, _, _, _, _, rfl, hS.trans (hb1.mono hS.size), q0, q1, q2, q3, q4, q5, q6, q7, fun _ => rfl, fun _ => rfl, q10⟩
          · obtain rfl := Option.some.inj ho
            obtain rfl := q7 (hall ⟨7, .data⟩ (by simp) rfl)
            obtain rfl := q9 (hall ⟨9, .data⟩ (by simp) rfl)
            clear hall ho
            refine wpOp_step rfl (fun K hK => ?_)
            go_simp
            exact hK _ _ ⟨_, _, _, _, _, _, _, _, _, _, _, rfl, hS, q0, q1, q2, q3, q4, q5, q6, fun _ => rfl, q8, fun _ => rfl, fun _ => rfl⟩
        · rintro fL bA v ⟨v57, v58, v59, v60, v61, v62, v63, v64, v65, v66, v67, rfl, hS, q0, q1, q2, q3, q4, q5, q6, q7, q8, q9, q10⟩ hall
          simp only [Act.put, List.setIfInBounds_toArray, List.set_cons_zero, List.set_cons_succ]
          simp only [List.length_cons, List.length_nil] at hall
          obtain rfl := q0 (hall 0 (by omega))
          obtain rfl := q1 (hall 1 (by omega))
          obtain rfl := q2 (hall 2 (by omega))
          obtain rfl := q3 (hall 3 (by omega))
          obtain rfl := q4 (hall 4 (by omega))
          obtain rfl := q5 (hall 5 (by omega))
          obtain rfl := q6 (hall 6 (by omega))
          obtain rfl := q7 (hall 7 (by omega))
          obtain rfl := q8 (hall 8 (by omega))
          obtain rfl := q9 (hall 9 (by omega))
          obtain rfl := q10 (hall 10 (by omega))
          clear hall
          have hW3 := hW2.trans (hS.mono hW2.size)
          clear hS
          have e5 : n + 1 + 1 + 1 + 1 + 1 = n + 5 := by omega
          obtain ⟨q, hq⟩ : ∃ q : Int, q = n + 5 + lk := ⟨_, rfl⟩
          have hp := Lib.hid (by
            have h := heldInt64S_c A5 lk c5 (n + 5) v (by omega) (by omega) (HP2.out v hW3)
            rw [← hq, ← e5] at h
            exact h)
          have hZ := Lib.hid (RowAt.tail (HR2.out v hW3) hq)
          have y5 := hZ.out.1
          have hqb : 0 ≤ q ∧ q ≤ 1000000000000 := by omega
          replace hq := Lib.hid hq
          clear e4 e5 HR2 HP2 HR HP
          go_wp2_with fail
          refine Calls.mono hp.out ?_; rintro e wn ⟨rfl, rfl⟩
          obtain ⟨z6, z7, z8, z9, z10, z11, z12, z13, z14, z15, z16, z17, z18, z19⟩ := hZ.out.2
          clear hZ hp y5 hnz hnb hnk
          go_wp2_with fail
          go_roundw
          case rel => exact ⟨k + 1, by omega, by go_num, by rw [hns2.out]; have := hq.out; congr 1; omega, hW3⟩
          case measure => simp [intOf]; omega
    · have : k = fs.length := by omega
      subst this
      go_wp2
      go_ret
      exact ⟨rfl, hW⟩
end Go.Proofs.YtendoabjjfinhaaGreatDoor
namespace Go.Proofs.YtendoabjjfinhaaGreatDoor
open Go.RowKit
/-- what a marked list answers, whatever new memory has come up -/
def HeldSt (A : Option Addr) (c : Nat) (fs : List EnR) (m : Int) (W : World) : Prop := ∀ W2, Below W.heap.size W W2 → Calls Tryz.prog 16 #[.slice A fs.length c, .int .i64 m] W2 fun e w' => e = .returned (.int .i64 (nTo m fs fs.length)) ∧ Below W2.heap.size W2 w'
set_option maxRecDepth 100000 in
theorem heldEn0_c (A : Option Addr) (c : Nat) (m : Int) (w : World) :
    Calls Tryz.prog 16 #[.slice A 0 c, .int .i64 m] w fun e w' => e = .returned (.int .i64 m) ∧ w = w' := by
  go_enter Tryz.func16, Tryz.ntmps16
  go_wp2_with fail
  go_loop [1, 5] (fun q i => q = .int .i64 m ∧ i = .int .i64 0) (fun _ _ => 0)
  case atStart => exact ⟨rfl, rfl⟩
  case round =>
    obtain ⟨rfl, rfl⟩ := hrel
    go_wp2
    go_ret
    exact ⟨rfl, rfl⟩
theorem markEnX_c (A : Option Addr) (c : Nat) (fs : List EnR) (base hi : Nat) (m : Int) (w0 w : World) (hm : 0 ≤ m ∧ m ≤ 1000) (hl : fs.length ≤ 900) (E : EnsIn w0 A fs) (O0 : Own w0 base 48 20 (.slice A fs.length c) (fs.map EnR.cells))
    (P0 : ∀ f ∈ fs, Own w0 base 2 1 f.sl (f.e.r.l.map ic) ∧ ∀ g, A = some ⟨g, 0, none⟩ → OffE f.A g) (D : fs.Pairwise EnR.apart) (hhi : w0.heap.size ≤ hi) (hb : Below w0.heap.size w0 w) :
    Calls Tryz.prog 14 #[.slice A fs.length c, .int .i64 m] w fun e w' => e = .returned (.int .i64 (nTo m fs fs.length)) ∧ Kb (Nb base hi) w w' ∧ HeldSt A c fs m w' := by
  have O := O0.below hb
  by_cases hz : fs.length = 0
  · obtain rfl : fs = [] := List.eq_nil_of_length_eq_zero hz
    exact (markEnS0_c A c m w).mono fun e w' ⟨h1, h2⟩ => ⟨h1, h2 ▸ ⟨rfl, rfl, rfl, Nat.le_refl _, fun _ _ _ => rfl⟩, fun W2 _ => (heldEn0_c A c m W2).mono fun e w3 ⟨a, b⟩ => ⟨a, b ▸ Below.refl _ _⟩⟩
  have hk0 : 0 < (fs.map EnR.cells).length := by simp; omega
  obtain ⟨_, b, off, rfl, _, _⟩ := O.sl 0 _ (List.getElem?_eq_getElem hk0)
  obtain rfl := O.off0 hk0
  have hg := O0.block_ge
  obtain ⟨cs, hB⟩ : ∃ cs : Array Value, Blk w b 48 cs := by
    rcases O.1.2 with ⟨h, _⟩ | ⟨g, cap, cur, hv, _, hh, _⟩
    · cases h
    · obtain ⟨rfl, _⟩ : b = g ∧ c = cap := by simpa using hv
      exact ⟨cur, hh⟩
  have hcell : ∀ (i : Nat) (hi : i < fs.length) (j : Nat) (hj : j < 20), cs[i * 20 + j]? = (fs[i].cells)[j]? := fun i hi j hj => by
    rw [← hB.cell]
    have hl : (fs[i].cells).length = 20 := rfl
    obtain ⟨b', o', e, _, hc⟩ := O.sl.at_ (i := i) (by simpa using hi)
    obtain ⟨rfl, rfl⟩ : b = b' ∧ 0 = o' := by simpa using e
    simp only [List.getElem_map, Nat.zero_add] at hc
    rw [hc j _ (List.getElem?_eq_getElem (by rw [hl]; exact hj)), List.getElem?_eq_getElem (by rw [hl]; exact hj)]
  have F : MkF base hi b cs.size fs := by
    refine ⟨⟨hg.1, Nat.lt_of_lt_of_le hg.2 hhi⟩, ?_, fun f hf => ?_, fun f hf x hx => Nat.lt_of_lt_of_le (((P0 f hf).1.1.lt x hx).2) hhi, D⟩
    · have h := hcell (fs.length - 1) (by omega) 19 (by omega)
      have h2 : (fs[fs.length - 1].cells)[19]? = some (.int .i64 fs[fs.length - 1].e.ba) := rfl
      rw [h2] at h
      have := (Array.getElem?_eq_some_iff.1 h).1
      omega
    · rcases own_ne_of_off (P0 f hf).1 ((P0 f hf).2 b rfl) with h | h
      · intro e
        have : f.sl.ownBlock = none := h
        rw [this] at e
        cases e
      · exact h
  have M : MkX base hi b fs cs [] (fun i => (match fs[i]? with | some f => f.e.r.l.map ic | none => [])) w w := ⟨⟨rfl, rfl, rfl, Nat.le_refl _, fun _ _ _ => rfl⟩, hB, fun i f hi => by
      obtain ⟨hl, rfl⟩ := List.getElem?_eq_some_iff.1 hi
      show cs[i * 20 + 5]? = _
      rw [hcell i hl 5 (by omega)]
      rfl, fun i f hi => by
      simp only [hi]
      exact ⟨by simp, (P0 f (List.mem_of_getElem? hi)).1.below hb⟩⟩
  refine (markEnX1_c c fs base hi b cs _ m w ⟨hm.1, by omega⟩ (by omega) (fun f hf => (E.i f hf).r.h) F M).mono ?_
  rintro e w' ⟨h1, cs2, R2, M2, _, X2⟩
  refine ⟨h1, M2.kb, fun W2 hW2 => ?_⟩
  exact heldEnX_c c fs b cs2 R2 m W2 hm hl (fun f hf => (E.i f hf).r.h) (M2.bl.below hW2 M2.bl.lt) X2 (fun i f hf => ⟨(M2.ow i f hf).1, ((M2.ow i f hf).2.below hW2).sl⟩)
end Go.Proofs.YtendoabjjfinhaaGreatDoor
namespace Go.Proofs.YtendoabjjfinhaaGreatDoor
open Go.RowKit
set_option maxRecDepth 100000 in
theorem markFormula_c (fd ft : Int) (s : ByteArray) (A : Option Addr) (c base hi : Nat) (l : List Int) (m : Int) (w : World) (hm : 0 ≤ m ∧ m ≤ 100000000000000) (hl : l.length ≤ 1048576) (hO : Own w base 2 1 (.slice A l.length c) (l.map ic)) (hh : ∀ g, (Value.slice A l.length c).ownBlock = some g → g < hi) :
    Calls Tryz.prog 130 #[.agg #[.int .i64 fd, .int .i64 ft, .string s, .slice A l.length c], .int .i64 m] w fun e w' => e = .returned (.int .i64 (m + l.length)) ∧ Kb (Nb base hi) w w' := by
  have hb : Below w.heap.size w (w.alloc (.cells #[.int .i64 fd, .int .i64 ft, .string s, .slice A l.length c] 42)) := (by repeat (first | with_reducible exact Below.refl _ _ | with_reducible apply below_drewN' | with_reducible apply Below.drew | (with_reducible refine Below.alloc ?_ (by first | omega | (simp; omega) | simp | (have := (Below.refl _ _).size; omega) | (have := (Below.refl _ _).size; simp; omega)) _) | (with_reducible refine Below.setCell ?_ (by first | omega | (simp; omega) | simp | (have := (Below.refl _ _).size; omega) | (have := (Below.refl _ _).size; simp; omega)) _) | exact Below.refl _ _))
  have hge := hO.ownGe
  have HM := markInt64B_c A c base m (l.map ic) _ (by omega) (by simp; omega) (by simpa using hO.alloc (.cells #[.int .i64 fd, .int .i64 ft, .string s, .slice A l.length c] 42))
  rw [List.length_map] at HM
  replace HM := Lib.hid HM
  go_enter Tryz.func130, Tryz.ntmps130
  go_wp2_with fail
  refine Calls.mono HM.out ?_; rintro e w1 ⟨rfl, _, hg⟩
  have hK : Kb (Nb base hi) w w1 := (Kb.of_below hb).trans (Kb.of_grown hg (fun k hk => ⟨hge k hk.symm, hh k hk.symm⟩))
  clear hg HM hO
  go_wp2
  go_ret
  exact ⟨rfl, hK⟩
set_option maxRecDepth 100000 in
theorem markChart_c (fd ft : Int) (s : ByteArray) (A : Option Addr) (c base hi : Nat) (l : List Int) (wd lf rt m : Int) (w : World) (hm : 0 ≤ m ∧ m ≤ 100000000000000) (hl : l.length ≤ 1048576) (hO : Own w base 2 1 (.slice A l.length c) (l.map ic)) (hh : ∀ g, (Value.slice A l.length c).ownBlock = some g → g < hi) :
    Calls Tryz.prog 94 #[.agg #[.int .i64 fd, .int .i64 ft, .string s, .slice A l.length c, .int .i64 wd, .int .i64 lf, .int .i64 rt], .int .i64 m] w fun e w' => e = .returned (.int .i64 (m + l.length)) ∧ Kb (Nb base hi) w w' := by
  have hb : Below w.heap.size w (w.alloc (.cells #[.int .i64 fd, .int .i64 ft, .string s, .slice A l.length c, .int .i64 wd, .int .i64 lf, .int .i64 rt] 44)) := (by repeat (first | with_reducible exact Below.refl _ _ | with_reducible apply below_drewN' | with_reducible apply Below.drew | (with_reducible refine Below.alloc ?_ (by first | omega | (simp; omega) | simp | (have := (Below.refl _ _).size; omega) | (have := (Below.refl _ _).size; simp; omega)) _) | (with_reducible refine Below.setCell ?_ (by first | omega | (simp; omega) | simp | (have := (Below.refl _ _).size; omega) | (have := (Below.refl _ _).size; simp; omega)) _) | exact Below.refl _ _))
  have HM := Lib.hid (markFormula_c fd ft s A c base hi l m _ hm hl (hO.alloc (.cells #[.int .i64 fd, .int .i64 ft, .string s, .slice A l.length c, .int .i64 wd, .int .i64 lf, .int .i64 rt] 44)) hh)
  go_enter Tryz.func94, Tryz.ntmps94
  go_wp2_with fail
  refine Calls.mono HM.out ?_; rintro e w1 ⟨rfl, hk⟩
  have hK := (Kb.of_below (bad := Nb base hi) hb).trans hk
  clear hk HM hO
  go_wp2
  go_ret
  exact ⟨rfl, hK⟩
set_option maxRecDepth 100000 in
theorem markRl_c (r : Rl) (A : Option Addr) (c base hi : Nat) (m : Int) (w : World) (hm : 0 ≤ m ∧ m ≤ 100000000000000) (hl : r.l.length ≤ 1048576) (hO : Own w base 2 1 (.slice A r.l.length c) (r.l.map ic)) (hh : ∀ g, (Value.slice A r.l.length c).ownBlock = some g → g < hi) :
    Calls Tryz.prog 56 #[.agg (r.cells A c).toArray, .int .i64 m] w fun e w' => e = .returned (.int .i64 (m + r.l.length)) ∧ Kb (Nb base hi) w w' := by
  have hb : Below w.heap.size w (w.alloc (.cells (r.cells A c).toArray 46)) := (by repeat (first | with_reducible exact Below.refl _ _ | with_reducible apply below_drewN' | with_reducible apply Below.drew | (with_reducible refine Below.alloc ?_ (by first | omega | (simp; omega) | simp | (have := (Below.refl _ _).size; omega) | (have := (Below.refl _ _).size; simp; omega)) _) | (with_reducible refine Below.setCell ?_ (by first | omega | (simp; omega) | simp | (have := (Below.refl _ _).size; omega) | (have := (Below.refl _ _).size; simp; omega)) _) | exact Below.refl _ _))
  have HM := Lib.hid (markChart_c r.fd r.ft r.nm A c base hi r.l r.wd r.lf r.rt m _ hm hl (hO.alloc (.cells (r.cells A c).toArray 46)) hh)
  have B0 := Blk.new w 46 (r.cells A c).toArray
  have hp : (w.alloc (.cells (r.cells A c).toArray 46)).rangeAt w.heap.size 0 [.int .i64 r.fd, .int .i64 r.ft, .string r.nm, .slice A r.l.length c, .int .i64 r.wd, .int .i64 r.lf, .int .i64 r.rt] := Blk.part (xs := []) (ys := [.int .i64 r.lud, .int .i64 r.lut, .int .i64 r.hud, .int .i64 r.hut, .int .i64 r.lvd, .int .i64 r.lvt, .int .i64 r.hvd, .int .i64 r.hvt, .int .i64 r.ey, .int .i64 r.bo]) B0 rfl
  generalize (r.cells A c).toArray = cs at *
  go_enter Tryz.func56, Tryz.ntmps56
  go_wp2_with (refine wpList_load_mid rfl 44 _ rfl (w.heap.size) 0 rfl [.int .i64 r.fd, .int .i64 r.ft, .string r.nm, .slice A r.l.length c, .int .i64 r.wd, .int .i64 r.lf, .int .i64 r.rt] _ hp Tryz.underlying44 rfl (by kernel_rfl) ?_)
  refine Calls.mono HM.out ?_; rintro e w1 ⟨rfl, hk⟩
  have hK := (Kb.of_below (bad := Nb base hi) hb).trans hk
  clear hk HM hO
  go_wp2
  go_ret
  exact ⟨rfl, hK⟩
set_option maxRecDepth 100000 in
theorem markEn_c (x : En) (A : Option Addr) (c base hi : Nat) (m : Int) (w : World) (hm : 0 ≤ m ∧ m ≤ 100000000000000) (hl : x.r.l.length ≤ 1048576) (hO : Own w base 2 1 (.slice A x.r.l.length c) (x.r.l.map ic)) (hh : ∀ g, (Value.slice A x.r.l.length c).ownBlock = some g → g < hi) :
    Calls Tryz.prog 15 #[.agg (x.cells A c).toArray, .int .i64 m] w fun e w' => e = .returned (.int .i64 (m + x.r.l.length)) ∧ Kb (Nb base hi) w w' := by
  have hb : Below w.heap.size w (w.alloc (.cells (x.cells A c).toArray 48)) := (by repeat (first | with_reducible exact Below.refl _ _ | with_reducible apply below_drewN' | with_reducible apply Below.drew | (with_reducible refine Below.alloc ?_ (by first | omega | (simp; omega) | simp | (have := (Below.refl _ _).size; omega) | (have := (Below.refl _ _).size; simp; omega)) _) | (with_reducible refine Below.setCell ?_ (by first | omega | (simp; omega) | simp | (have := (Below.refl _ _).size; omega) | (have := (Below.refl _ _).size; simp; omega)) _) | exact Below.refl _ _))
  have HM := Lib.hid (markRl_c x.r A c base hi m _ hm hl (hO.alloc (.cells (x.cells A c).toArray 48)) hh)
  have B0 := Blk.new w 48 (x.cells A c).toArray
  have hp := B0.en.2.2.1
  have hrl : (x.r.cells A c).length = 17 := rfl
  generalize x.r.cells A c = rc at *
  generalize (x.cells A c).toArray = cs at *
  go_enter Tryz.func15, Tryz.ntmps15
  go_wp2_with (refine wpList_load_mid rfl 46 _ rfl w.heap.size 2 rfl rc _ hp Tryz.underlying46 rfl (by rw [hrl]; kernel_rfl) ?_)
  refine Calls.mono HM.out ?_; rintro e w1 ⟨rfl, hk⟩
  have hK := (Kb.of_below (bad := Nb base hi) hb).trans hk
  clear hk HM hO
  go_wp2
  go_ret
  exact ⟨rfl, hK⟩
end Go.Proofs.YtendoabjjfinhaaGreatDoor
namespace Go.Proofs.YtendoabjjfinhaaGreatDoor
open Go.RowKit
set_option maxRecDepth 100000 in
theorem eqEnS_c (A A' : Option Addr) (c c' : Nat) (es fs : List EnR) (w : World) (E : EnsIn w A es) (E' : EnsIn w A' fs) (hE : ens es = ens fs) :
    Calls Tryz.prog 12 #[.slice A es.length c, .slice A' fs.length c'] w fun e w' => e = .returned (.bool true) ∧ Below w.heap.size w w' := by
  have hl := E.n
  have hs := E.s
  have hs' := E'.s
  have hlen : es.length = fs.length := by have := congrArg List.length hE; simpa [ens] using this
  rw [← hlen]
  have hin := Lib.hid E.i
  have hin' := Lib.hid E'.i
  have hsame := Lib.hid (fun (k : Nat) (h1 : k < es.length) (h2 : k < fs.length) => (by
    have h := congrArg (fun l => l[k]?) hE
    simpa [ens, List.getElem?_eq_getElem h1, List.getElem?_eq_getElem h2] using h : es[k].e = fs[k].e))
  have HL := Lib.hid hlen
  clear hlen hE E E'
  go_enter Tryz.func12, Tryz.ntmps12
  go_wp2_with fail
  go_loopw [5] (fun i wr => ∃ k : Nat, k ≤ es.length ∧ i = .int .i64 k ∧ Below w.heap.size w wr) (fun i _ => es.length - (intOf i).toNat)
  case atStart => exact ⟨0, Nat.zero_le _, rfl, Below.refl _ _⟩
  case round =>
    obtain ⟨k, hk, rfl, hb⟩ := hrel
    by_cases hlt : k < es.length
    · have hltf : k < fs.length := by have := HL.out; omega
      obtain ⟨b, off, rfl, hbB, hc⟩ := hs.rg (i := k) (by simpa using hlt)
      obtain ⟨b', off', rfl, hbB', hc'⟩ := hs'.rg (i := k) (by simpa using hltf)
      simp only [List.getElem_map] at hc hc'
      have I1 : es[k].In wr := EnIn.later (hin.out es[k] (List.getElem_mem hlt)) hb
      have I2 : fs[k].In wr := EnIn.later (hin'.out fs[k] (List.getElem_mem hltf)) hb
      have hsm := hsame.out k hlt hltf
      have hq := hb.size
      have HC : Hid (∀ (v : World), Below wr.heap.size wr v → v.rangeAt b (off + k * 20) es[k].cells) := Lib.hid (fun v hv => rangeAt_below (rangeAt_below hc hb hbB) hv (by omega))
      have HC' : Hid (∀ (v : World), Below wr.heap.size wr v → v.rangeAt b' (off' + k * 20) fs[k].cells) := Lib.hid (fun v hv => rangeAt_below (rangeAt_below hc' hb hbB') hv (by omega))
      have HE : Hid (∀ (v : World), Below wr.heap.size wr v → Calls Tryz.prog 13 #[.agg es[k].cells.toArray, .agg fs[k].cells.toArray] v fun x w' => x = .returned (.bool true) ∧ Below v.heap.size v w') := Lib.hid (fun v hv => by
        have h := eqEn_c es[k].e es[k].A es[k].c fs[k].A fs[k].c v (EnIn.later I1 hv) (by rw [hsm]; exact EnIn.later I2 hv)
        have h2 : es[k].e.cells fs[k].A fs[k].c = fs[k].cells := by rw [hsm]; rfl
        rw [h2] at h
        exact h)
      have l1 : es[k].cells.length = 20 := rfl
      have l2 : fs[k].cells.length = 20 := rfl
      clear hc hc' I1 I2 hsm
      generalize es[k].cells = ca at *
      generalize fs[k].cells = cb at *
      clear hltf
      go_wp2_with fail
      refine wp_region_sink 9 (fun a0 fL bA v => ∃ v17 v18 v19 v20 v21 v22 v23 v24 v25 : Value, bA = ((((((((a0.put (some 17) v17).put (some 18) v18).put (some 19) v19).put (some 20) v20).put (some 21) v21).put (some 22) v22).put (some 23) v23).put (some 24) v24).put (some 25) v25 ∧ (Below wr.heap.size wr v) ∧ (fL 0 = true → v17 = .slice (some ⟨b, off, none⟩) es.length c) ∧ (fL 1 = true → v18 = .int .i64 k) ∧ (fL 2 = true → v19 = .pointer (some ⟨b, off + k * 20, none⟩)) ∧ (fL 3 = true → v20 = .agg ca.toArray) ∧ (fL 4 = true → v21 = .slice (some ⟨b', off', none⟩) es.length c') ∧ (fL 5 = true → v22 = .int .i64 k) ∧ (fL 6 = true → v23 = .pointer (some ⟨b', off' + k * 20, none⟩)) ∧ (fL 7 = true → v24 = .agg cb.toArray) ∧ (fL 8 = true → v25 = .bool true)) (by kernel_rfl) (by decide +kernel) ?_ ?_ ?_
      · exact ⟨_, _, _, _, _, _, _, _, _, put_more (put_more (put_more (put_more (put_more (put_more (put_more (put_more (put_more (rfl) 17) 18) 19) 20) 21) 22) 23) 24) 25, (Below.refl _ _).drew, nofun, nofun, nofun, nofun, nofun, nofun, nofun, nofun, nofun⟩
      · rintro fL bA v ⟨v17, v18, v19, v20, v21, v22, v23, v24, v25, rfl, hS, q0, q1, q2, q3, q4, q5, q6, q7, q8⟩ i hi hf o ho hall
        simp only [Act.put, List.setIfInBounds_toArray, List.set_cons_zero, List.set_cons_succ]
        have hn : i = 0 ∨ i = 1 ∨ i = 2 ∨ i = 3 ∨ i = 4 ∨ i = 5 ∨ i = 6 ∨ i = 7 ∨ i = 8 := by omega
        clear hi
        rcases hn with rfl | rfl | rfl | rfl | rfl | rfl | rfl | rfl | rfl
        · obtain rfl := Option.some.inj ho
          clear hall ho
          refine wpOp_step rfl (fun K hK => ?_)
          go_simp
          exact hK _ _ ⟨_, _, _, _, _, _, _, _, _, rfl, hS, fun _ => rfl, q1, q2, q3, q4, q5, q6, q7, q8⟩
        · obtain rfl := Option.some.inj ho
          clear hall ho
          refine wpOp_step rfl (fun K hK => ?_)
          go_simp
          exact hK _ _ ⟨_, _, _, _, _, _, _, _, _, rfl, hS, q0, fun _ => rfl, q2, q3, q4, q5, q6, q7, q8⟩
        · obtain rfl := Option.some.inj ho
          obtain rfl := q0 (hall ⟨0, .data⟩ (by simp) rfl)
          obtain rfl := q1 (hall ⟨1, .data⟩ (by simp) rfl)
          clear hall ho
          refine wpOp_step rfl (fun K hK => ?_)
          go_simp
          exact hK _ _ ⟨_, _, _, _, _, _, _, _, _, rfl, hS, fun _ => rfl, fun _ => rfl, fun _ => rfl, q3, q4, q5, q6, q7, q8⟩
        · obtain rfl := Option.some.inj ho
          obtain rfl := q2 (hall ⟨2, .data⟩ (by simp) rfl)
          clear hall ho
          refine wpOp_step rfl (fun K hK => ?_)
          refine wp_load_mid 48 _ rfl b (off + k * 20) rfl ca _ (HC.out v hS) Tryz.underlying48 rfl (by rw [l1]; kernel_rfl) ?_
          exact hK _ _ ⟨_, _, _, _, _, _, _, _, _, rfl, hS, q0, q1, fun _ => rfl, fun _ => rfl, q4, q5, q6, q7, q8⟩
        · obtain rfl := Option.some.inj ho
          clear hall ho
          refine wpOp_step rfl (fun K hK => ?_)
          go_simp
          exact hK _ _ ⟨_, _, _, _, _, _, _, _, _, rfl, hS, q0, q1, q2, q3, fun _ => rfl, q5, q6, q7, q8⟩
        · obtain rfl := Option.some.inj ho
          clear hall ho
          refine wpOp_step rfl (fun K hK => ?_)
          go_simp
          exact hK _ _ ⟨_, _, _, _, _, _, _, _, _, rfl, hS, q0, q1, q2, q3, q4, fun _ => rfl, q6, q7, q8⟩
        · obtain rfl := Option.some.inj ho
          obtain rfl := q4 (hall ⟨4, .data⟩ (by simp) rfl)
          obtain rfl := q5 (hall ⟨5, .data⟩ (by simp) rfl)
          clear hall ho
          refine wpOp_step rfl (fun K hK => ?_)
          go_simp
          exact hK _ _ ⟨_, _, _, _, _, _, _, _, _, rfl, hS, q0, q1, q2, q3, fun _ => rfl, fun _ => rfl, fun _ => rfl, q7, q8⟩
        · obtain rfl := Option.some.inj ho
          obtain rfl := q6 (hall ⟨6, .data⟩ (by simp) rfl)
          clear hall ho
          refine wpOp_step rfl (fun K hK => ?_)
          refine wp_load_mid 48 _ rfl b' (off' + k * 20) rfl cb _ (HC'.out v hS) Tryz.underlying48 rfl (by rw [l2]; kernel_rfl) ?_
          exact hK _ _ ⟨_, _, _, _, _, _, _, _, _, rfl, hS, q0, q1, q2, q3, q4, q5, fun _ => rfl, fun _ => rfl, q8⟩
        · obtain rfl := Option.some.inj ho
          obtain rfl := q3 (hall ⟨3, .data⟩ (by simp) rfl)
          obtain rfl := q7 (hall ⟨7, .data⟩ (by simp) rfl)
          clear hall ho
          refine wpOp_step rfl (fun K hK => ?_)
          go_simp
          refine Calls.mono ((HE.out v hS)) ?_; rintro e w1 ⟨rfl, hb1⟩
          go_simp
          exact hK _ _ ⟨_, _, _, _, _, _, _, _, _, rfl, hS.trans (hb1.mono hS.size), q0, q1, q2, fun _ => rfl, q4, q5, q6, fun _ => rfl, fun _ => rfl⟩
      · rintro fL bA v ⟨v17, v18, v19, v20, v21, v22, v23, v24, v25, rfl, hS, q0, q1, q2, q3, q4, q5, q6, q7, q8⟩ hall
        simp only [Act.put, List.setIfInBounds_toArray, List.set_cons_zero, List.set_cons_succ]
        obtain rfl := q0 (hall 0 (by omega))
        obtain rfl := q1 (hall 1 (by omega))
        obtain rfl := q2 (hall 2 (by omega))
        obtain rfl := q3 (hall 3 (by omega))
        obtain rfl := q4 (hall 4 (by omega))
        obtain rfl := q5 (hall 5 (by omega))
        obtain rfl := q6 (hall 6 (by omega))
        obtain rfl := q7 (hall 7 (by omega))
        obtain rfl := q8 (hall 8 (by omega))
        clear hall
        simp only [List.drop_succ_cons, List.drop_zero]
        have hbv := hb.trans (hS.mono hb.size)
        go_wp2
        go_roundw
        case rel => exact ⟨k + 1, by omega, by go_num, hbv⟩
        case measure => simp [intOf]; omega
    · have : k = es.length := by omega
      subst this
      go_wp2
      go_ret
      exact ⟨rfl, hb⟩
end Go.Proofs.YtendoabjjfinhaaGreatDoor
namespace Go.Proofs.YtendoabjjfinhaaGreatDoor
open Go.RowKit
theorem wpList_load_g {P : Program} {ops : Array Oper} {rest : List Oper} {op : Oper} {a : Act} {w : World} {Q : Exit → Act → World → Prop} (hw : Region.wanted op (yielded ops a.tmps) = true) (ty : TypeId) (x : Operand) (ho : op.op = .load ty x)
    (b o : Nat) (hx : a.eval x = .pointer (some ⟨b, o, none⟩)) (cs : List Value) (d : TypeDesc) (hc : w.rangeAt b o cs)
    (hu : P.underlying ty = some d) (hd : d.isRow = true) (hi : (P.info? ty).map (·.size) = some cs.length)
    (h : wpList P ops Q rest (a.put op.dst (.agg cs.toArray)) w) : wpList P ops Q (op :: rest) a w :=
  wpList_step fun _ hK => by
    rw [if_pos hw]
    exact wp_load_mid ty x ho b o hx cs d hc hu hd hi (hK _ _ h)
end Go.Proofs.YtendoabjjfinhaaGreatDoor
namespace Go.Proofs.YtendoabjjfinhaaGreatDoor
open Go.RowKit
theorem samePred (es : List EnR) (e : En) (g : Nat) (w : World) (hg : g < w.heap.size) (h0 : w.cell? ⟨g, 0, none⟩ = some (.string e.ti)) (h1 : w.cell? ⟨g, 1, none⟩ = some (.int .i64 e.ve)) :
    PredEn 90 #[.pointer (some ⟨g, 0, none⟩)] (fun y => sameTV y.e e) es w := fun y _ W hW =>
  sameTV_c y.e e y.A y.c g W (Nat.lt_of_lt_of_le hg hW.size) ((hW.cell (p := ⟨g, 0, none⟩) hg).trans h0) ((hW.cell (p := ⟨g, 1, none⟩) hg).trans h1)
theorem neEmpty {r : ByteArray} (h : r.data.toList ≠ []) : (r.toList == []) = false := by
  have : r.toList ≠ [] := by rw [ByteArray.toList_eq]; exact h
  cases hr : r.toList with
  | nil => exact absurd hr this
  | cons a l => rfl
set_option maxRecDepth 100000 in
set_option maxHeartbeats 4000000 in
theorem isEntry_c (A : Option Addr) (c : Nat) (es : List EnR) (e : En) (B : Option Addr) (d : Nat) (w : World) (E : EnsIn w A es) (X : EnIn w B d e) :
    Calls Tryz.prog 50 #[.slice A es.length c, .agg (e.cells B d).toArray] w fun x w' => x = .returned (.bool (entB (ens es) e)) ∧ Below w.heap.size w w' := by
  have hW : Below w.heap.size w (w.alloc (.cells (e.cells B d).toArray 48)) := (by repeat (first | with_reducible exact Below.refl _ _ | with_reducible apply below_drewN' | with_reducible apply Below.drew | (with_reducible refine Below.alloc ?_ (by first | omega | (simp; omega) | simp | (have := (Below.refl _ _).size; omega) | (have := (Below.refl _ _).size; simp; omega)) _) | (with_reducible refine Below.setCell ?_ (by first | omega | (simp; omega) | simp | (have := (Below.refl _ _).size; omega) | (have := (Below.refl _ _).size; simp; omega)) _) | exact Below.refl _ _))
  have B0 := Blk.new w 48 (e.cells B d).toArray
  have hR : Hid (entB (ens es) e = (titleB e.ti && inB e.ve 1 1000 && e.r.b && inB e.ba (-1) ((es.length : Int) - 1) && !basisBad (ens es) e && !es.any (fun x => sameTV x.e e))) := Lib.hid (by unfold entB; rw [ens_len]; unfold ens; rw [List.any_map]; rfl)
  have hT : Hid (titleB e.ti = (inB e.ti.size 1 12 && e.ti.data.toList.all isLetter)) := Lib.hid rfl
  have HT := Lib.hid (fun W => trimTitle_c e.ti W (by have := X.t; omega))
  have HV := Lib.hid (fun W => within_c e.ve 1 1000 W)
  have HI := Lib.hid (fun W => within_c e.ba (-1) ((es.length : Int) - 1) W)
  have HL := Lib.hid (fun W (hW : Below w.heap.size w W) => implIsRl_c e.r B d W (X.r.later hW))
  have HC := Lib.hid (fun W (hW : Below w.heap.size w W) g hg h0 h1 => containsFuncEn_c A c es 90 #[.pointer (some ⟨g, 0, none⟩)] (fun y => sameTV y.e e) W (enters_of Tryz.func90 (by kernel_rfl) rfl) (samePred es e g W hg h0 h1) (by have := E.n; omega) ((E.s.below hW).more hW.size))
  have HB : Hid (∀ W, Blk W w.heap.size 48 (e.cells B d).toArray → W.cell? ⟨w.heap.size, 0, none⟩ = some (.string e.ti) ∧ W.cell? ⟨w.heap.size, 1, none⟩ = some (.int .i64 e.ve) ∧ W.rangeAt w.heap.size 2 (e.r.cells B d) ∧ W.cell? ⟨w.heap.size, 19, none⟩ = some (.int .i64 e.ba)) := Lib.hid (fun W h => h.en)
  have hX := X.t
  have hn := E.n
  have hlen : (e.r.cells B d).length = 17 := rfl
  clear X
  generalize entB (ens es) e = res at *
  generalize titleB e.ti = tb at *
  generalize e.r.cells B d = rc at *
  generalize (e.cells B d).toArray = ec at *
  generalize e.r.b = rb at *
  generalize e.ti.data.toList.all isLetter = lb at *
  generalize hve : e.ve = ve at *
  have hve := Lib.hid hve
  by_cases h1 : (e.ti.size : Int) < 1
  · have hin : Hid (inB e.ti.size 1 12 = false) := Lib.hid (inB_false.2 (by omega))
    obtain ⟨x0, x1, x2, x3⟩ := HB.out _ B0
    go_enter Tryz.func50, Tryz.ntmps50
    go_wp2
    go_ret
    exact ⟨by rw [hR.out, hT.out, hin.out]; rfl, hW⟩
  by_cases h2 : 12 < (e.ti.size : Int)
  · have hin : Hid (inB e.ti.size 1 12 = false) := Lib.hid (inB_false.2 (by omega))
    obtain ⟨x0, x1, x2, x3⟩ := HB.out _ B0
    go_enter Tryz.func50, Tryz.ntmps50
    go_wp2
    go_ret
    exact ⟨by rw [hR.out, hT.out, hin.out]; rfl, hW⟩
  replace hT : Hid (tb = lb) := Lib.hid (by rw [hT.out, inB_true.2 (by omega), Bool.true_and])
  obtain ⟨x0, x1, x2, x3⟩ := HB.out _ B0
  go_enter Tryz.func50, Tryz.ntmps50
  go_wp2_with fail
  refine Calls.mono (HT.out _) ?_; rintro x w1 ⟨⟨r, rfl, hr⟩, hb1⟩
  clear x0 x1 x2 x3 HT
  replace B0 := B0.below hb1 B0.lt
  replace hW := hW.trans (hb1.mono hW.size)
  clear hb1
  obtain ⟨x0, x1, x2, x3⟩ := HB.out _ B0
  cases lb with
  | false =>
    have hne := neEmpty (r := r) (fun h => by have := hr.1 h; cases this)
    clear hr
    go_wp2
    refine bodyPost_ret (v := .bool false) (by simp [results, Tryz.results50, go_sem]) rfl ?_
    exact ⟨by rw [hR.out, hT.out]; rfl, hW⟩
  | true =>
  have hr0 : r.toList = [] := by rw [ByteArray.toList_eq]; exact hr.2 rfl
  clear hr
  replace hR := Lib.hid (hR.out.trans (by rw [hT.out, Bool.true_and]))
  clear hT
  cases hv : inB ve 1 1000 with
  | false =>
    replace HV := Lib.hid (fun W => by have h := HV.out W; rwa [hv] at h)
    replace hR := Lib.hid (hR.out.trans (by rw [hv]))
    clear hv
    go_wp2_with (go_at_call 88; refine Calls.mono (HV.out _) ?_; rintro x w3 ⟨rfl, rfl⟩)
    go_ret
    exact ⟨by rw [hR.out]; rfl, hW⟩
  | true =>
  replace HV := Lib.hid (fun W => by have h := HV.out W; rwa [hv] at h)
  replace hR := Lib.hid (hR.out.trans (by rw [hv, Bool.true_and]))
  clear hv
  go_wp2_with (first | (go_at_call 88; refine Calls.mono (HV.out _) ?_; rintro x w3 ⟨rfl, rfl⟩) | (refine wpList_load_g (by rfl) 46 _ rfl w.heap.size 2 rfl rc _ x2 Tryz.underlying46 rfl (by rw [hlen]; kernel_rfl) ?_) | fail)
  refine Calls.mono (HL.out _ hW) ?_; rintro x w2 ⟨rfl, hb1⟩
  clear x0 x1 x2 x3 HL HV
  replace B0 := B0.below hb1 B0.lt
  replace hW := hW.trans (hb1.mono hW.size)
  clear hb1
  obtain ⟨x0, x1, x2, x3⟩ := HB.out _ B0
  cases rb with
  | false =>
    go_wp2
    go_ret
    exact ⟨by rw [hR.out]; rfl, hW⟩
  | true =>
  replace hR := Lib.hid (hR.out.trans (by rw [Bool.true_and]))
  have hwr : IntKind.i64.wrap ((es.length : Int) - 1) = (es.length : Int) - 1 := IntWalk.i64_in _ (by omega)
  cases hi : inB e.ba (-1) ((es.length : Int) - 1) with
  | false =>
    replace HI := Lib.hid (fun W => by have h := HI.out W; rwa [hi] at h)
    replace hR := Lib.hid (hR.out.trans (by rw [hi]))
    clear hi
    go_wp2_with (go_at_call 88; refine Calls.mono (HI.out _) ?_; rintro x w3 ⟨rfl, rfl⟩)
    go_ret
    exact ⟨by rw [hR.out]; rfl, hW⟩
  | true =>
  replace HI := Lib.hid (fun W => by have h := HI.out W; rwa [hi] at h)
  replace hR := Lib.hid (hR.out.trans (by rw [hi, Bool.true_and]))
  have hbd := inB_true.1 hi
  clear hi
  go_wp2_with (first | (go_at_call 88; refine Calls.mono (HI.out _) ?_; rintro x w3 ⟨rfl, rfl⟩) | fail)
  clear HI hwr
  by_cases h0 : (0 : Int) ≤ e.ba
  · obtain ⟨j, hj⟩ : ∃ j : Nat, e.ba = (j : Int) := ⟨e.ba.toNat, by omega⟩
    have hjl : j < es.length := by omega
    have hbb : Hid (basisBad (ens es) e = ((es[j].e.ti.toList == e.ti.toList) && decide (ve ≤ es[j].e.ve))) := Lib.hid (by
      unfold basisBad
      rw [hve.out, hj, decide_eq_true (by omega : (0 : Int) ≤ (j : Int)), Bool.true_and, Int.toNat_natCast, List.getElem?_eq_getElem (by rw [ens_len]; exact hjl), ens_get hjl])
    obtain ⟨b, off, rfl, hbB, hc⟩ := E.s.at_ (i := j) (by simpa using hjl)
    simp only [List.getElem_map] at hc
    have y0 : w2.cell? ⟨b, off + j * 20, none⟩ = some (.string es[j].e.ti) := (hW.cell (p := ⟨b, off + j * 20, none⟩) hbB).trans (by simpa using hc 0 _ rfl)
    have y1 : w2.cell? ⟨b, off + j * 20 + 1, none⟩ = some (.int .i64 es[j].e.ve) := (hW.cell (p := ⟨b, off + j * 20 + 1, none⟩) hbB).trans (by simpa using hc 1 _ rfl)
    clear hc E
    rw [hj] at x3
    have hj1 : (j : Int) < (es.length : Int) := by omega
    have hj0 : (0 : Int) ≤ (j : Int) := by omega
    have d0 : decide ((j : Int) ≥ 0) = true := decide_eq_true (by omega)
    have d1 : decide ((0 : Int) ≤ (j : Int)) = true := decide_eq_true (by omega)
    have HB' : Hid (∀ W, Blk W w.heap.size 48 ec → W.cell? ⟨w.heap.size, 0, none⟩ = some (.string e.ti) ∧ W.cell? ⟨w.heap.size, 1, none⟩ = some (.int .i64 ve) ∧ W.rangeAt w.heap.size 2 rc ∧ W.cell? ⟨w.heap.size, 19, none⟩ = some (.int .i64 e.ba)) := HB
    generalize es[j].e.ti = tj at *
    generalize es[j].e.ve = vj at *
    cases hq : (tj.toList == e.ti.toList) with
    | false =>
      replace hbb := Lib.hid (hbb.out.trans (by rw [hq, Bool.false_and]))
      go_quiet (fail)
      refine then_world (R := fun V => Blk V w.heap.size 48 ec ∧ Below w.heap.size w V) ⟨B0, by first | exact below_drewN' hW _ | exact hW.drew | exact hW⟩ (fun V hV => ?_)
      clear x0 x1 x2 x3 hW B0
      obtain ⟨B0, hW⟩ := hV
      obtain ⟨x0, x1, x2, x3⟩ := HB.out _ B0
      have hcall := Lib.hid (HC.out V hW w.heap.size B0.lt x0 x1)
      go_wp2_with fail
      refine Calls.mono hcall.out ?_; rintro x w4 ⟨rfl, hb4⟩
      go_wp2
      go_ret
      exact ⟨by rw [hR.out, hbb.out]; rfl, hW.trans (hb4.mono hW.size)⟩
    | true =>
      by_cases hvv : ve ≤ vj
      · have d2 : decide (ve ≤ vj) = true := decide_eq_true hvv
        have d3 : decide (vj ≥ ve) = true := decide_eq_true hvv
        replace hbb := Lib.hid (hbb.out.trans (by rw [hq, d2, Bool.true_and]))
        go_quiet (fail)
        go_wp2
        go_ret
        exact ⟨by rw [hR.out, hbb.out]; rfl, by first | exact below_drewN' hW _ | exact hW.drew | exact hW⟩
      · have d2 : decide (ve ≤ vj) = false := decide_eq_false hvv
        have d3 : decide (vj ≥ ve) = false := decide_eq_false hvv
        replace hbb := Lib.hid (hbb.out.trans (by rw [hq, d2, Bool.true_and]))
        go_quiet (fail)
        refine then_world (R := fun V => Blk V w.heap.size 48 ec ∧ Below w.heap.size w V) ⟨B0, by first | exact below_drewN' hW _ | exact hW.drew | exact hW⟩ (fun V hV => ?_)
        clear x0 x1 x2 x3 hW B0
        obtain ⟨B0, hW⟩ := hV
        obtain ⟨x0, x1, x2, x3⟩ := HB.out _ B0
        have hcall := Lib.hid (HC.out V hW w.heap.size B0.lt x0 x1)
        go_wp2_with fail
        refine Calls.mono hcall.out ?_; rintro x w4 ⟨rfl, hb4⟩
        go_wp2
        go_ret
        exact ⟨by rw [hR.out, hbb.out]; rfl, hW.trans (hb4.mono hW.size)⟩
  · have hj : e.ba = -1 := by omega
    have hbb : Hid (basisBad (ens es) e = false) := Lib.hid (by
      unfold basisBad
      rw [hj]
      rfl)
    rw [hj] at x3
    go_quiet (fail)
    refine then_world (R := fun V => Blk V w.heap.size 48 ec ∧ Below w.heap.size w V) ⟨B0, by first | exact below_drewN' hW _ | exact hW.drew | exact hW⟩ (fun V hV => ?_)
    clear x0 x1 x2 x3 hW B0
    obtain ⟨B0, hW⟩ := hV
    obtain ⟨x0, x1, x2, x3⟩ := HB.out _ B0
    have hcall := Lib.hid (HC.out V hW w.heap.size B0.lt x0 x1)
    go_wp2_with fail
    refine Calls.mono hcall.out ?_; rintro x w4 ⟨rfl, hb4⟩
    go_wp2
    go_ret
    exact ⟨by rw [hR.out, hbb.out]; rfl, hW.trans (hb4.mono hW.size)⟩
end Go.Proofs.YtendoabjjfinhaaGreatDoor
