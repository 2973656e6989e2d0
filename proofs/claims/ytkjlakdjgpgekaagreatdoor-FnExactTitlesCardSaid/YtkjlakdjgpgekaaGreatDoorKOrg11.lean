/- The laws' marks on a list of entries. Conditions: the lists' lengths, and what the list owns. Lists of entries: the laws' comparison of them. Conditions: the lists' lengths. FnExactOriginOf, FnExactDerivedFrom: the walks. Conditions: what an argument always is. How a law's row is closed: from a walk that returns true and leaves all old memory as it was. How a law's arguments are opened: structs that hold slices, slices of such structs. No condition of their own. How structs of figures and slices of numbers are opened as a law's arguments. No condition of their own. How formulas, charts, desks and releases are opened as a law's arguments. No condition of their own. How entries and lists of entries are opened as a law's arguments. No condition of their own. -/
import Derived.Test.YtkjlakdjgpgekaaGreatDoorRows
import Derived.WalkKit
import Derived.ProofKit
import Derived.OpenShut
import Derived.SizedLaws
import Derived.Deep.Slices
import Derived.Deep.Fields
import Derived.Lib.SmallJoins
import Derived.Test.YtkjlakdjgpgekaaGreatDoorKOrg1
import Derived.Test.YtkjlakdjgpgekaaGreatDoorKOrg10
import Derived.Test.YtkjlakdjgpgekaaGreatDoorKOrg3
import Derived.Test.YtkjlakdjgpgekaaGreatDoorKOrg9
set_option linter.unusedSimpArgs false
namespace Go.Proofs.YtkjlakdjgpgekaaGreatDoor
open Go.RowKit
/-- while a list's copies are marked -/
structure MkE (base hi g N : Nat) (fs : List EnR) (w wr : World) : Prop where
  kb : Kb (Nb base hi) w wr
  bl : ∃ cs : Array Value, Blk wr g 57 cs ∧ cs.size = N ∧ ∀ (i : Nat) (f : EnR), fs[i]? = some f → cs[i * 20 + 5]? = some f.sl
  ow : ∀ f ∈ fs, ∃ xs : List (List Value), xs.length = f.e.r.l.length ∧ Own wr base 2 1 f.sl xs
/-- what stays fixed: where the list lies -/
structure MkF (base hi g N : Nat) (fs : List EnR) : Prop where
  gl : base ≤ g ∧ g < hi
  nl : fs.length * 20 ≤ N
  off : ∀ f ∈ fs, f.sl.ownBlock ≠ some g
  hi : ∀ f ∈ fs, ∀ b, f.sl.ownBlock = some b → b < hi
  ap : fs.Pairwise EnR.apart
section
variable {base hi g N : Nat} {fs : List EnR} {w wr w2 : World}
theorem ne_of_some {x : Option Nat} {g : Nat} (h : x ≠ some g) : x = none ∨ x ≠ some g := .inr h
theorem MkE.below (h : MkE base hi g N fs w wr) (hb : Below wr.heap.size wr w2) : MkE base hi g N fs w w2 := by
  obtain ⟨cs, h1, h2, h3⟩ := h.bl
  exact ⟨h.kb.trans (Kb.of_below hb), ⟨cs, h1.below hb h1.lt, h2, h3⟩, fun f hf => let ⟨xs, a, b⟩ := h.ow f hf; ⟨xs, a, b.below hb⟩⟩
theorem MkE.set (F : MkF base hi g N fs) (h : MkE base hi g N fs w wr) (o : Nat) (u : Value) (h5 : ∀ i, o ≠ i * 20 + 5) : MkE base hi g N fs w (wr.setCell ⟨g, o, none⟩ u) := by
  obtain ⟨cs, h1, h2, h3⟩ := h.bl
  exact ⟨h.kb.trans (kb_set F.gl), ⟨_, h1.set_ o u, by simpa using h2, fun i f hi => by rw [Array.getElem?_setIfInBounds_ne (h5 i)]; exact h3 i f hi⟩,
    fun f hf => let ⟨xs, a, b⟩ := h.ow f hf; ⟨xs, a, own_set b (ne_of_some (F.off f hf))⟩⟩
theorem MkE.cell (h : MkE base hi g N fs w wr) {o : Nat} (ho : o < N) : ∃ u, wr.cell? ⟨g, o, none⟩ = some u := by
  obtain ⟨cs, h1, h2, _⟩ := h.bl
  exact ⟨cs[o]'(by omega), by rw [h1.cell, Array.getElem?_eq_getElem]⟩
theorem MkE.frozen (h : MkE base hi g N fs w wr) (o : Nat) : wr.frozen? ⟨g, o, none⟩ = false := by
  obtain ⟨cs, h1, _⟩ := h.bl
  exact h1.frozen o
theorem MkE.c5 (h : MkE base hi g N fs w wr) {k : Nat} (hk : k < fs.length) : wr.cell? ⟨g, k * 20 + 5, none⟩ = some (.slice fs[k].A fs[k].e.r.l.length fs[k].c) := by
  obtain ⟨cs, h1, _, h3⟩ := h.bl
  rw [h1.cell]
  exact h3 k _ (List.getElem?_eq_getElem hk)
theorem EnR.apart_at {k j : Nat} (hd : fs.Pairwise EnR.apart) (hk : k < fs.length) (hj : j < fs.length) (hne : k ≠ j) : ∀ b, fs[k].sl.ownBlock = some b → fs[j].sl.ownBlock ≠ some b := by
  intro b hb hb2
  rcases Nat.lt_or_gt_of_ne hne with h | h
  · exact (List.pairwise_iff_getElem.1 hd k j hk hj h) b hb hb2
  · exact (List.pairwise_iff_getElem.1 hd j k hj hk h) b hb2 hb
theorem MkE.mark (F : MkF base hi g N fs) (h : MkE base hi g N fs w wr) {k : Nat} (hk : k < fs.length) {xs : List (List Value)} (hx : xs.length = fs[k].e.r.l.length) (ho : Own w2 base 2 1 fs[k].sl xs) (hg : wr.grownBy w2 fs[k].sl.ownBlock) : MkE base hi g N fs w w2 := by
  obtain ⟨cs, h1, h2, h3⟩ := h.bl
  have hmem := List.getElem_mem hk
  refine ⟨h.kb.trans (Kb.of_grown hg (fun b hb => ⟨ho.ownGe b hb.symm, F.hi _ hmem b hb.symm⟩)), ⟨cs, (hg.block g h1.lt (fun e => F.off _ hmem e.symm)).trans h1, h2, h3⟩, fun f hf => ?_⟩
  obtain ⟨j, hj, rfl⟩ := List.getElem_of_mem hf
  by_cases hjk : k = j
  · subst hjk
    exact ⟨xs, hx, ho⟩
  · obtain ⟨ys, a, b⟩ := h.ow _ hf
    refine ⟨ys, a, b.kept hg ?_⟩
    cases hob : (fs[j].sl).ownBlock with
    | none => exact .inl rfl
    | some x => exact .inr (fun e => EnR.apart_at F.ap hj hk (Ne.symm hjk) x hob e.symm)
end
theorem wpList_store_mk {base hi g N : Nat} {fs : List EnR} {w0 w : World} {P : Program} {ops : Array Oper} {rest : List Oper} {op : Oper} {a : Act} {Q : Exit → Act → World → Prop} (F : MkF base hi g N fs) (J : MkE base hi g N fs w0 w) (hgd : op.guard = none) (ty : TypeId) (hsz : ∀ w, (sizeOf ty).run P w = .ok 1 w) (x y : Operand) (ho : op.op = .store ty x y)
    (o : Nat) (v : Value) (hx : a.eval x = .pointer (some ⟨g, o, none⟩)) (hy : a.eval y = v) (hv : (∃ k n, v = .int k n) ∨ ∃ s, v = .string s) (h1 : o < N) (h5 : ∀ i, o ≠ i * 20 + 5)
    (h : ∀ w2, MkE base hi g N fs w0 w2 → wpList P ops Q rest (a.put op.dst undef) w2) : wpList P ops Q (op :: rest) a w := by
  obtain ⟨u, hu⟩ := J.cell h1
  exact wpList_store_cell hgd ty x y ho g o v hx hy hv hsz hu (J.frozen o) (h _ (J.set F o v h5))
theorem sizeInt (w : World) : (sizeOf 2).run Tryz.prog w = .ok 1 w := by simp [go_sem]
theorem sizeStr (w : World) : (sizeOf 9).run Tryz.prog w = .ok 1 w := by simp [go_sem]
set_option maxRecDepth 100000 in
set_option maxHeartbeats 4000000 in
theorem markEnS1_c (c : Nat) (fs : List EnR) (base hi g N : Nat) (m : Int) (w : World) (hm : 0 ≤ m ∧ m ≤ 1000000000) (hl : fs.length ≤ 1048576) (hsh : ∀ f ∈ fs, f.e.r.l.length ≤ 1048576) (F : MkF base hi g N fs) (M : MkE base hi g N fs w w) :
    Calls Tryz.prog 16 #[.slice (some ⟨g, 0, none⟩) fs.length c, .int .i64 m] w fun e w' => ∃ n : Int, e = .returned (.int .i64 n) ∧ 0 ≤ n ∧ Kb (Nb base hi) w w' := by
  have HT := Lib.hid (fun m W h => markText_c m W h)
  have HF := Lib.hid F
  replace hsh := Lib.hid hsh
  go_enter Tryz.func16, Tryz.ntmps16
  go_wp2_with fail
  go_loopw [1, 5] (fun q i wr => ∃ (k : Nat) (n : Int), k ≤ fs.length ∧ i = .int .i64 k ∧ q = .int .i64 n ∧ (0 ≤ n ∧ n ≤ m + k * 1048596) ∧ MkE base hi g N fs w wr) (fun _ i _ => fs.length - (intOf i).toNat)
  case atStart => exact ⟨0, m, Nat.zero_le _, rfl, rfl, by omega, M⟩
  case round =>
    clear M
    obtain ⟨k, n, hk, rfl, rfl, ⟨hn0, hn1⟩, J⟩ := hrel
    by_cases hlt : k < fs.length
    · have hNk : k * 20 + 20 ≤ N := by have := HF.out.nl; omega
      have hnb : n ≤ 2000000000000 := by omega
      have hlk : fs[k].e.r.l.length ≤ 1048576 := hsh.out _ (List.getElem_mem hlt)
      have y5 := J.c5 hlt
      have HI : Hid (∀ (q : Int) W, 0 ≤ q ∧ q ≤ 1000000000000000 → MkE base hi g N fs w W → Calls Tryz.prog 17 #[.slice fs[k].A fs[k].e.r.l.length fs[k].c, .int .i64 q] W fun e w' => e = .returned (.int .i64 (q + fs[k].e.r.l.length)) ∧ MkE base hi g N fs w w') := Lib.hid (fun q W hq M => by
        obtain ⟨xs, hx, ho⟩ := M.ow _ (List.getElem_mem hlt)
        have ho' := ho
        unfold EnR.sl at ho'
        rw [← hx] at ho'
        have h := markInt64B_c fs[k].A fs[k].c base q xs W hq (by omega) ho'
        rw [hx] at h
        refine h.mono fun e w' ⟨h1, h2, h3⟩ => ⟨h1, ?_⟩
        exact M.mark HF.out hlt (by simp) h2 h3)
      have HY : Hid (∀ W, MkE base hi g N fs w W → W.cell? ⟨g, k * 20 + 5, none⟩ = some (.slice fs[k].A fs[k].e.r.l.length fs[k].c)) := Lib.hid (fun W M => M.c5 hlt)
      replace J := Lib.hid J
      generalize fs[k].e.r.l.length = lk at *
      generalize fs[k].A = A5 at *
      generalize fs[k].c = c5 at *
      go_wp2_with (first | (go_at_call 60; refine Calls.mono (HT.out _ _ (by omega)) ?_; rintro e wn ⟨rfl, hb⟩; replace J := Lib.hid (J.out.below hb); clear hb; clear y5; have y5 := HY.out _ J.out) | (go_at_call 17; refine Calls.mono (HI.out _ _ (by omega) J.out) ?_; rintro e wn ⟨rfl, Jn⟩; replace J := Lib.hid Jn; clear Jn; clear y5; have y5 := HY.out _ J.out) | (refine wpList_store_mk HF.out J.out rfl 2 sizeInt _ _ rfl _ _ rfl rfl (.inl ⟨_, _, rfl⟩) ?_ ?_ ?_; omega; (intro i; omega); (intro wn Jn; replace J := Lib.hid Jn; clear Jn; clear y5; have y5 := HY.out _ J.out)) | (refine wpList_store_mk HF.out J.out rfl 9 sizeStr _ _ rfl _ _ rfl rfl (.inr ⟨_, rfl⟩) ?_ ?_ ?_; omega; (intro i; omega); (intro wn Jn; replace J := Lib.hid Jn; clear Jn; clear y5; have y5 := HY.out _ J.out)))
      go_roundw
      case rel => exact ⟨k + 1, n + 1 + 1 + 1 + 1 + 1 + lk + 1 + 1 + 1 + 1 + 1 + 1 + 1 + 1 + 1 + 1 + 1 + 1 + 1 + 1, by omega, by go_num, rfl, by omega, J.out⟩
      case measure => simp [intOf]; omega
    · have : k = fs.length := by omega
      subst this
      go_wp2
      go_ret
      exact ⟨n, rfl, hn0, J.kb⟩
set_option maxRecDepth 100000 in
theorem markEnS0_c (A : Option Addr) (c : Nat) (m : Int) (w : World) :
    Calls Tryz.prog 16 #[.slice A 0 c, .int .i64 m] w fun e w' => e = .returned (.int .i64 m) ∧ w = w' := by
  go_enter Tryz.func16, Tryz.ntmps16
  go_wp2_with fail
  go_loop [1, 5] (fun q i => q = .int .i64 m ∧ i = .int .i64 0) (fun _ _ => 0)
  case atStart => exact ⟨rfl, rfl⟩
  case round =>
    obtain ⟨rfl, rfl⟩ := hrel
    go_wp2
    go_ret
    exact ⟨rfl, rfl⟩
theorem markEnS_c (A : Option Addr) (c : Nat) (fs : List EnR) (base hi : Nat) (m : Int) (w0 w : World) (hm : 0 ≤ m ∧ m ≤ 1000000000) (E : EnsIn w0 A fs) (O0 : Own w0 base 57 20 (.slice A fs.length c) (fs.map EnR.cells))
    (P0 : ∀ f ∈ fs, Own w0 base 2 1 f.sl (f.e.r.l.map ic) ∧ ∀ g, A = some ⟨g, 0, none⟩ → OffE f.A g) (D : fs.Pairwise EnR.apart) (hhi : w0.heap.size ≤ hi) (hb : Below w0.heap.size w0 w) :
    Calls Tryz.prog 16 #[.slice A fs.length c, .int .i64 m] w fun e w' => ∃ n : Int, e = .returned (.int .i64 n) ∧ 0 ≤ n ∧ Kb (Nb base hi) w w' := by
  have O := O0.below hb
  by_cases hz : fs.length = 0
  · rw [hz]
    exact (markEnS0_c A c m w).mono fun e w' ⟨h1, h2⟩ => ⟨m, h1, hm.1, h2 ▸ ⟨rfl, rfl, rfl, Nat.le_refl _, fun _ _ _ => rfl⟩⟩
  have hk0 : 0 < (fs.map EnR.cells).length := by simp; omega
  obtain ⟨_, b, off, rfl, _, _⟩ := O.sl 0 _ (List.getElem?_eq_getElem hk0)
  obtain rfl := O.off0 hk0
  have hg := O0.block_ge
  obtain ⟨cs, hB⟩ : ∃ cs : Array Value, Blk w b 57 cs := by
    rcases O.1.2 with ⟨h, _⟩ | ⟨g, cap, cur, hv, _, hh, _⟩
    · cases h
    · obtain ⟨rfl, _⟩ : b = g ∧ c = cap := by simpa using hv
      exact ⟨cur, hh⟩
  have hcell : ∀ (i : Nat) (hi : i < fs.length) (j : Nat) (hj : j < 20), cs[i * 20 + j]? = (fs[i].cells)[j]? := fun i hi j hj => by
    rw [← hB.cell]
    have hl : (fs[i].cells).length = 20 := rfl
    obtain ⟨b', o', e, _, hc⟩ := O.sl.at_ (i := i) (by simpa using hi)
    obtain ⟨rfl, rfl⟩ : b = b' ∧ 0 = o' := by simpa using e
    simp only [List.getElem_map, Nat.zero_add] at hc
    rw [hc j _ (List.getElem?_eq_getElem (by rw [hl]; exact hj)), List.getElem?_eq_getElem (by rw [hl]; exact hj)]
  have F : MkF base hi b cs.size fs := by
    refine ⟨⟨hg.1, Nat.lt_of_lt_of_le hg.2 hhi⟩, ?_, fun f hf => ?_, fun f hf x hx => Nat.lt_of_lt_of_le (((P0 f hf).1.1.lt x hx).2) hhi, D⟩
    · have h := hcell (fs.length - 1) (by omega) 19 (by omega)
      have h2 : (fs[fs.length - 1].cells)[19]? = some (.int .i64 fs[fs.length - 1].e.ba) := rfl
      rw [h2] at h
      have := (Array.getElem?_eq_some_iff.1 h).1
      omega
    · rcases own_ne_of_off (P0 f hf).1 ((P0 f hf).2 b rfl) with h | h
      · intro e
        have : f.sl.ownBlock = none := h
        rw [this] at e
        cases e
      · exact h
  have M : MkE base hi b cs.size fs w w := ⟨⟨rfl, rfl, rfl, Nat.le_refl _, fun _ _ _ => rfl⟩, ⟨cs, hB, rfl, fun i f hi => by
      obtain ⟨hl, rfl⟩ := List.getElem?_eq_some_iff.1 hi
      rw [hcell i hl 5 (by omega)]
      rfl⟩, fun f hf => ⟨_, by simp, (P0 f hf).1.below hb⟩⟩
  exact markEnS1_c c fs base hi b cs.size m w hm E.n (fun f hf => (E.i f hf).r.h) F M
end Go.Proofs.YtkjlakdjgpgekaaGreatDoor
namespace Go.Proofs.YtkjlakdjgpgekaaGreatDoor
open Go.RowKit
set_option maxRecDepth 100000 in
theorem eqEnS_c (A A' : Option Addr) (c c' : Nat) (es fs : List EnR) (w : World) (E : EnsIn w A es) (E' : EnsIn w A' fs) (hE : ens es = ens fs) :
    Calls Tryz.prog 15 #[.slice A es.length c, .slice A' fs.length c'] w fun e w' => e = .returned (.bool true) ∧ Below w.heap.size w w' := by
  have hl := E.n
  have hs := E.s
  have hs' := E'.s
  have hlen : es.length = fs.length := by have := congrArg List.length hE; simpa [ens] using this
  rw [← hlen]
  have hin := Lib.hid E.i
  have hin' := Lib.hid E'.i
  have hsame := Lib.hid (fun (k : Nat) (h1 : k < es.length) (h2 : k < fs.length) => (by
    have h := congrArg (fun l => l[k]?) hE
    simpa [ens, List.getElem?_eq_getElem h1, List.getElem?_eq_getElem h2] using h : es[k].e = fs[k].e))
  have HL := Lib.hid hlen
  clear hlen hE E E'
  go_enter Tryz.func15, Tryz.ntmps15
  go_wp2_with fail
  go_loopw [5] (fun i wr => ∃ k : Nat, k ≤ es.length ∧ i = .int .i64 k ∧ Below w.heap.size w wr) (fun i _ => es.length - (intOf i).toNat)
  case atStart => exact ⟨0, Nat.zero_le _, rfl, Below.refl _ _⟩
  case round =>
    obtain ⟨k, hk, rfl, hb⟩ := hrel
    by_cases hlt : k < es.length
    · have hltf : k < fs.length := by have := HL.out; omega
      obtain ⟨b, off, rfl, hbB, hc⟩ := hs.rg (i := k) (by simpa using hlt)
      obtain ⟨b', off', rfl, hbB', hc'⟩ := hs'.rg (i := k) (by simpa using hltf)
      simp only [List.getElem_map] at hc hc'
      have I1 : es[k].In wr := EnIn.later (hin.out es[k] (List.getElem_mem hlt)) hb
      have I2 : fs[k].In wr := EnIn.later (hin'.out fs[k] (List.getElem_mem hltf)) hb
      have hsm := hsame.out k hlt hltf
      have hq := hb.size
      have HC : Hid (∀ (v : World), Below wr.heap.size wr v → v.rangeAt b (off + k * 20) es[k].cells) := Lib.hid (fun v hv => rangeAt_below (rangeAt_below hc hb hbB) hv (by omega))
      have HC' : Hid (∀ (v : World), Below wr.heap.size wr v → v.rangeAt b' (off' + k * 20) fs[k].cells) := Lib.hid (fun v hv => rangeAt_below (rangeAt_below hc' hb hbB') hv (by omega))
      have HE : Hid (∀ (v : World), Below wr.heap.size wr v → Calls Tryz.prog 27 #[.agg es[k].cells.toArray, .agg fs[k].cells.toArray] v fun x w' => x = .returned (.bool true) ∧ Below v.heap.size v w') := Lib.hid (fun v hv => by
        have h := eqEn_c es[k].e es[k].A es[k].c fs[k].A fs[k].c v (EnIn.later I1 hv) (by rw [hsm]; exact EnIn.later I2 hv)
        have h2 : es[k].e.cells fs[k].A fs[k].c = fs[k].cells := by rw [hsm]; rfl
        rw [h2] at h
        exact h)
      have l1 : es[k].cells.length = 20 := rfl
      have l2 : fs[k].cells.length = 20 := rfl
      clear hc hc' I1 I2 hsm
      generalize es[k].cells = ca at *
      generalize fs[k].cells = cb at *
      clear hltf
      go_wp2_with fail
      refine wp_region_sink 9 (fun a0 fL bA v => ∃ v17 v18 v19 v20 v21 v22 v23 v24 v25 : Value, bA = ((((((((a0.put (some 17) v17).put (some 18) v18).put (some 19) v19).put (some 20) v20).put (some 21) v21).put (some 22) v22).put (some 23) v23).put (some 24) v24).put (some 25) v25 ∧ (Below wr.heap.size wr v) ∧ (fL 0 = true → v17 = .slice (some ⟨b, off, none⟩) es.length c) ∧ (fL 1 = true → v18 = .int .i64 k) ∧ (fL 2 = true → v19 = .pointer (some ⟨b, off + k * 20, none⟩)) ∧ (fL 3 = true → v20 = .agg ca.toArray) ∧ (fL 4 = true → v21 = .slice (some ⟨b', off', none⟩) es.length c') ∧ (fL 5 = true → v22 = .int .i64 k) ∧ (fL 6 = true → v23 = .pointer (some ⟨b', off' + k * 20, none⟩)) ∧ (fL 7 = true → v24 = .agg cb.toArray) ∧ (fL 8 = true → v25 = .bool true)) (by kernel_rfl) (by decide +kernel) ?_ ?_ ?_
      · exact ⟨_, _, _, _, _, _, _, _, _, put_more (put_more (put_more (put_more (put_more (put_more (put_more (put_more (put_more (rfl) 17) 18) 19) 20) 21) 22) 23) 24) 25, (Below.refl _ _).drew, nofun, nofun, nofun, nofun, nofun, nofun, nofun, nofun, nofun⟩
      · rintro fL bA v ⟨v17, v18, v19, v20, v21, v22, v23, v24, v25, rfl, hS, q0, q1, q2, q3, q4, q5, q6, q7, q8⟩ i hi hf o ho hall
        simp only [Act.put, List.setIfInBounds_toArray, List.set_cons_zero, List.set_cons_succ]
        have hn : i = 0 ∨ i = 1 ∨ i = 2 ∨ i = 3 ∨ i = 4 ∨ i = 5 ∨ i = 6 ∨ i = 7 ∨ i = 8 := by omega
        clear hi
        rcases hn with rfl | rfl | rfl | rfl | rfl | rfl | rfl | rfl | rfl
        · obtain rfl := Option.some.inj ho
          clear hall ho
          refine wpOp_step rfl (fun K hK => ?_)
          go_simp
          exact hK _ _ ⟨_, _, _, _, _, _, _, _, _, rfl, hS, fun _ => rfl, q1, q2, q3, q4, q5, q6, q7, q8⟩
        · obtain rfl := Option.some.inj ho
          clear hall ho
          refine wpOp_step rfl (fun K hK => ?_)
          go_simp
          exact hK _ _ ⟨_, _, _, _, _, _, _, _, _, rfl, hS, q0, fun _ => rfl, q2, q3, q4, q5, q6, q7, q8⟩
        · obtain rfl := Option.some.inj ho
          obtain rfl := q0 (hall ⟨0, .data⟩ (by simp) rfl)
          obtain rfl := q1 (hall ⟨1, .data⟩ (by simp) rfl)
          clear hall ho
          refine wpOp_step rfl (fun K hK => ?_)
          go_simp
          exact hK _ _ ⟨_, _, _, _, _, _, _, _, _, rfl, hS, fun _ => rfl, fun _ => rfl, fun _ => rfl, q3, q4, q5, q6, q7, q8⟩
        · obtain rfl := Option.some.inj ho
          obtain rfl := q2 (hall ⟨2, .data⟩ (by simp) rfl)
          clear hall ho
          refine wpOp_step rfl (fun K hK => ?_)
          refine wp_load_mid 57 _ rfl b (off + k * 20) rfl ca _ (HC.out v hS) Tryz.underlying57 rfl (by rw [l1]; kernel_rfl) ?_
          exact hK _ _ ⟨_, _, _, _, _, _, _, _, _, rfl, hS, q0, q1, fun _ => rfl, fun _ => rfl, q4, q5, q6, q7, q8⟩
        · obtain rfl := Option.some.inj ho
          clear hall ho
          refine wpOp_step rfl (fun K hK => ?_)
          go_simp
          exact hK _ _ ⟨_, _, _, _, _, _, _, _, _, rfl, hS, q0, q1, q2, q3, fun _ => rfl, q5, q6, q7, q8⟩
        · obtain rfl := Option.some.inj ho
          clear hall ho
          refine wpOp_step rfl (fun K hK => ?_)
          go_simp
          exact hK _ _ ⟨_, _, _, _, _, _, _, _, _, rfl, hS, q0, q1, q2, q3, q4, fun _ => rfl, q6, q7, q8⟩
        · obtain rfl := Option.some.inj ho
          obtain rfl := q4 (hall ⟨4, .data⟩ (by simp) rfl)
          obtain rfl := q5 (hall ⟨5, .data⟩ (by simp) rfl)
          clear hall ho
          refine wpOp_step rfl (fun K hK => ?_)
          go_simp
          exact hK _ _ ⟨_, _, _, _, _, _, _, _, _, rfl, hS, q0, q1, q2, q3, fun _ => rfl, fun _ => rfl, fun _ => rfl, q7, q8⟩
        · obtain rfl := Option.some.inj ho
          obtain rfl := q6 (hall ⟨6, .data⟩ (by simp) rfl)
          clear hall ho
          refine wpOp_step rfl (fun K hK => ?_)
          refine wp_load_mid 57 _ rfl b' (off' + k * 20) rfl cb _ (HC'.out v hS) Tryz.underlying57 rfl (by rw [l2]; kernel_rfl) ?_
          exact hK _ _ ⟨_, _, _, _, _, _, _, _, _, rfl, hS, q0, q1, q2, q3, q4, q5, fun _ => rfl, fun _ => rfl, q8⟩
        · obtain rfl := Option.some.inj ho
          obtain rfl := q3 (hall ⟨3, .data⟩ (by simp) rfl)
          obtain rfl := q7 (hall ⟨7, .data⟩ (by simp) rfl)
          clear hall ho
          refine wpOp_step rfl (fun K hK => ?_)
          go_simp
          refine Calls.mono ((HE.out v hS)) ?_; rintro e w1 ⟨rfl, hb1⟩
          go_simp
          exact hK _ _ ⟨_, _, _, _, _, _, _, _, _, rfl, hS.trans (hb1.mono hS.size), q0, q1, q2, fun _ => rfl, q4, q5, q6, fun _ => rfl, fun _ => rfl⟩
      · rintro fL bA v ⟨v17, v18, v19, v20, v21, v22, v23, v24, v25, rfl, hS, q0, q1, q2, q3, q4, q5, q6, q7, q8⟩ hall
        simp only [Act.put, List.setIfInBounds_toArray, List.set_cons_zero, List.set_cons_succ]
        obtain rfl := q0 (hall 0 (by omega))
        obtain rfl := q1 (hall 1 (by omega))
        obtain rfl := q2 (hall 2 (by omega))
        obtain rfl := q3 (hall 3 (by omega))
        obtain rfl := q4 (hall 4 (by omega))
        obtain rfl := q5 (hall 5 (by omega))
        obtain rfl := q6 (hall 6 (by omega))
        obtain rfl := q7 (hall 7 (by omega))
        obtain rfl := q8 (hall 8 (by omega))
        clear hall
        simp only [List.drop_succ_cons, List.drop_zero]
        have hbv := hb.trans (hS.mono hb.size)
        go_wp2
        go_roundw
        case rel => exact ⟨k + 1, by omega, by go_num, hbv⟩
        case measure => simp [intOf]; omega
    · have : k = es.length := by omega
      subst this
      go_wp2
      go_ret
      exact ⟨rfl, hb⟩
end Go.Proofs.YtkjlakdjgpgekaaGreatDoor
namespace Go.Proofs.YtkjlakdjgpgekaaGreatDoor
open Go.RowKit
set_option maxRecDepth 100000 in
set_option maxHeartbeats 4000000 in
theorem lawOriginOf_c (A : Option Addr) (c : Nat) (es : List EnR) (ix : Int) (w : World) (hn : es.length ≤ 140737488351232) (hi : ∀ x ∈ es, x.Laid w) (hs : Sl w w.heap.size 20 A (es.map EnR.cells)) :
    Calls Tryz.prog 3 #[.slice A es.length c, .int .i64 ix] w fun e w' => e = .returned (.bool true) ∧ Below w.heap.size w w' := by
  have HZ := Lib.hid (szEnS_c A c es 1048576 w hn hi hs (by omega))
  have hE : Hid ((es.length ≤ 1048576 ∧ ∀ e ∈ es, e.e.short) → EnsIn w A es) := Lib.hid (fun h => ⟨h.1, hs, fun e he => EnLaid.en (hi e he) (h.2 e he)⟩)
  have HS := Lib.hid (fun (A2 : Option Addr) (c2 : Nat) (fs : List EnR) W (F : EnsIn W A2 fs) (hc : fs.length ≤ c2) (hl : fs.length = es.length) (he : ens fs = ens es) => (by have h := specOriginOf_c A2 c2 fs ix W F hc; rw [he, hl] at h; exact h : Calls Tryz.prog 11 #[.slice A2 es.length c2, .int .i64 ix] W (PostRows 2 1 (orgR (ens es) ix).length ((orgR (ens es) ix).map ic) (enC (ens es) ix) W)))
  have HM := Lib.hid (fun (A2 : Option Addr) (c2 : Nat) (fs : List EnR) W (F : EnsIn W A2 fs) (hc : fs.length ≤ c2) (hl : fs.length = es.length) (he : ens fs = ens es) => (by have h := implOriginOf_c A2 c2 fs ix W F hc; rw [he, hl] at h; exact h : Calls Tryz.prog 13 #[.slice A2 es.length c2, .int .i64 ix] W (PostRows 2 1 (orgR (ens es) ix).length ((orgR (ens es) ix).map ic) (enC (ens es) ix) W)))
  have hlen := orgR_len (ens es) ix
  rw [ens_len] at hlen
  replace hlen := Lib.hid hlen
  clear hs hi
  generalize orgR (ens es) ix = R at *
  generalize enC (ens es) ix = cd at *
  go_enter Tryz.func3, Tryz.ntmps3
  go_wp2_with fail
  refine Calls.mono HZ.out ?_; rintro e w1 ⟨⟨v, rfl, hv⟩, hb1⟩
  rcases hv with hv | ⟨hv0, _, hlen2⟩
  · go_wp2
    go_ret
    exact ⟨rfl, hb1⟩
  have hvn : ¬ v < 0 := by omega
  have E := Lib.hid (hE.out hlen2)
  have HT := Lib.hid (fun W (hW : Below w.heap.size w W) => toEnSO_c A c es W (E.out.later hW))
  have hRl : Hid (R.length ≤ 1048576) := Lib.hid (Nat.le_trans hlen.out E.out.n)
  clear hlen2 hE HZ hlen
  go_wp2_with fail
  refine Calls.mono (HT.out w1 hb1) ?_; rintro e w2 ⟨⟨v2, rfl, A2, c2, fs2, rfl, hl2, he2, hc2, F2, _, _, _⟩, hb2⟩
  have hW2 := hb1.trans (hb2.mono hb1.size)
  have H2 := Lib.hid (HS.out A2 c2 fs2 w2 F2 (by rw [hl2]; exact hc2) hl2 he2)
  clear hb1 hb2 F2 hl2 he2 HS
  go_wp2_with fail
  refine Calls.mono H2.out ?_; rintro e w3 ⟨Aw, cw, rfl, Ow, hb3⟩
  have hW3 := hW2.trans (hb3.mono hW2.size)
  have s23 := hb3.size
  have hOwl := own_lt' Ow
  clear hb3 H2
  go_wp2_with fail
  refine Calls.mono (HT.out w3 hW3) ?_; rintro e w4 ⟨⟨v4, rfl, A4, c4, fs4, rfl, hl4, he4, hc4, F4, O4, P4, D4⟩, hb4⟩
  have hW4 := hW3.trans (hb4.mono hW3.size)
  replace Ow := Ow.below hb4
  have s34 := hb4.size
  have H4 := Lib.hid (HM.out A4 c4 fs4 w4 F4 (by rw [hl4]; exact hc4) hl4 he4)
  replace P4 := Lib.hid P4
  replace D4 := Lib.hid D4
  replace F4 := Lib.hid F4
  replace O4 := Lib.hid O4
  replace hl4 := Lib.hid hl4
  replace he4 := Lib.hid he4
  clear hb4
  go_wp2_with fail
  refine Calls.mono H4.out ?_; rintro e w5 ⟨Ag, cg, rfl, Og, hb5⟩
  have hW5 := hW4.trans (hb5.mono hW4.size)
  replace Ow := Ow.below hb5
  have hB5 := hb5
  have hOgg := Og.ownGe
  clear hb5 H4
  go_wp2_with fail
  refine (eqInt64S_c Ag Aw cg cw R w5 (by have := hRl.out; omega) Og.sl Ow.sl).mono ?_; rintro e w6 ⟨rfl, hb6⟩
  have hW6 := hW5.trans (hb6.mono hW5.size)
  replace Ow := Ow.below hb6
  replace Og := Og.below hb6
  replace hB5 := hB5.trans (hb6.mono hB5.size)
  clear hb6
  go_wp2_with fail
  refine Calls.mono (HT.out w6 hW6) ?_; rintro e w7 ⟨⟨v7, rfl, A7, c7, fs7, rfl, hl7, he7, hc7, F7, _, _, _⟩, hb7⟩
  have hW7 := hW6.trans (hb7.mono hW6.size)
  replace Ow := Ow.below hb7
  replace Og := Og.below hb7
  replace hB5 := hB5.trans (hb7.mono hB5.size)
  have H7 := eqEnS_c A4 A7 c4 c7 fs4 fs7 w7 (F4.out.later hB5) F7 (by rw [he4.out, he7])
  rw [hl4.out, hl7] at H7
  replace H7 := Lib.hid H7
  clear F7 hl7 he7 hb7
  go_wp2_with fail
  refine Calls.mono H7.out ?_; rintro e w8 ⟨rfl, hb8⟩
  have hW8 := hW7.trans (hb8.mono hW7.size)
  replace Ow := Ow.below hb8
  replace Og := Og.below hb8
  replace hB5 := hB5.trans (hb8.mono hB5.size)
  have H8 := markEnS_c A4 c4 fs4 w3.heap.size w4.heap.size 1 w4 w8 (by omega) F4.out (by rw [hl4.out]; exact O4.out) P4.out D4.out (Nat.le_refl _) hB5
  rw [hl4.out] at H8
  replace H8 := Lib.hid H8
  clear hb8 H7 F4 O4 P4 D4
  go_wp2_with fail
  refine Calls.mono H8.out ?_; rintro e w9 ⟨n9, rfl, hn9, hk9⟩
  have s3 := hW3.size
  replace Ow := Ow.kb hk9 (fun x hx => by have := hOwl x hx; unfold Nb; omega)
  replace Og := Og.kb hk9 (fun x hx => by have := hOgg x hx; unfold Nb; omega)
  have hW9 := below_kb hW8 hk9 hW8.size (fun k hk => by unfold Nb; omega)
  have hn9' : ¬ n9 < 0 := by omega
  clear hk9 H8 hW8 hB5
  go_wp2_with fail
  refine (eqInt64S_c Ag Aw cg cw R w9 (by have := hRl.out; omega) Og.sl Ow.sl).mono ?_; rintro e w10 ⟨rfl, hb10⟩
  have hW10 := hW9.trans (hb10.mono hW9.size)
  replace Ow := Ow.below hb10
  replace Og := Og.below hb10
  clear hb10
  have HMk := markInt64B_c Ag cg w4.heap.size 1 (R.map ic) w10 (by omega) (by have := hRl.out; simp; omega) (by simpa using Og)
  rw [List.length_map] at HMk
  replace HMk := Lib.hid HMk
  go_wp2_with fail
  refine Calls.mono HMk.out ?_; rintro e w11 ⟨rfl, Og', hg11⟩
  have hown : ∀ x, (Value.slice Ag R.length cg).ownBlock = some x → w4.heap.size ≤ x := Og'.ownGe
  replace Ow := Ow.kept hg11 (by
    cases hb : (Value.slice Aw R.length cw).ownBlock with
    | none => exact .inl rfl
    | some x => exact .inr (fun e => by have := hOwl x hb; have := hown x e.symm; omega))
  have hW11 := hW10.grown hg11 hW10.size (fun x hx => by have := hown x hx; have := hW4.size; omega)
  clear hg11 HMk Og
  have HH := Lib.hid (fun W (hs : Sl W W.heap.size 1 Ag ((List.range R.length).map (markInt64 1))) => heldInt64S_c Ag R.length cg 1 W (by omega) (by have := hRl.out; omega) hs)
  have H11 := Lib.hid (HH.out w11 Og'.sl)
  have hq0 : ¬ (1 + (R.length : Int)) < 0 := by omega
  go_wp2_with fail
  refine Calls.mono H11.out ?_; rintro e w12 ⟨rfl, rfl⟩
  go_wp2_with fail
  refine Calls.mono (HT.out w11 hW11) ?_; rintro e w12 ⟨⟨v12, rfl, A12, c12, fs12, rfl, hl12, he12, hc12, F12, _, _, _⟩, hb12⟩
  have hW12 := hW11.trans (hb12.mono hW11.size)
  replace Ow := Ow.below hb12
  replace Og' := Og'.below hb12
  have H12 := Lib.hid (HM.out A12 c12 fs12 w12 F12 (by rw [hl12]; exact hc12) hl12 he12)
  clear hb12 F12 hl12 he12 HM H11
  go_wp2_with fail
  refine Calls.mono H12.out ?_; rintro e w13 ⟨Ah, ch, rfl, Oh, hb13⟩
  have hW13 := hW12.trans (hb13.mono hW12.size)
  replace Ow := Ow.below hb13
  replace Og' := Og'.below hb13
  clear hb13 H12
  go_wp2_with fail
  refine (eqInt64S_c Ah Aw ch cw R w13 (by have := hRl.out; omega) Oh.sl Ow.sl).mono ?_; rintro e w14 ⟨rfl, hb14⟩
  have hW14 := hW13.trans (hb14.mono hW13.size)
  replace Og' := Og'.below hb14
  clear hb14 Oh Ow
  have H14 := Lib.hid (HH.out w14 Og'.sl)
  go_wp2_with fail
  refine Calls.mono H14.out ?_; rintro e w15 ⟨rfl, rfl⟩
  go_wp2
  go_ret
  exact ⟨rfl, hW14⟩
set_option maxRecDepth 100000 in
set_option maxHeartbeats 4000000 in
theorem lawDerivedFrom_c (A : Option Addr) (c : Nat) (es : List EnR) (ix : Int) (w : World) (hn : es.length ≤ 140737488351232) (hi : ∀ x ∈ es, x.Laid w) (hs : Sl w w.heap.size 20 A (es.map EnR.cells)) :
    Calls Tryz.prog 5 #[.slice A es.length c, .int .i64 ix] w fun e w' => e = .returned (.bool true) ∧ Below w.heap.size w w' := by
  have HZ := Lib.hid (szEnS_c A c es 1048576 w hn hi hs (by omega))
  have hE : Hid ((es.length ≤ 1048576 ∧ ∀ e ∈ es, e.e.short) → EnsIn w A es) := Lib.hid (fun h => ⟨h.1, hs, fun e he => EnLaid.en (hi e he) (h.2 e he)⟩)
  have HS := Lib.hid (fun (A2 : Option Addr) (c2 : Nat) (fs : List EnR) W (F : EnsIn W A2 fs) (hc : fs.length ≤ c2) (hl : fs.length = es.length) (he : ens fs = ens es) => (by have h := specDerivedFrom_c A2 c2 fs ix W F hc; rw [he, hl] at h; exact h : Calls Tryz.prog 21 #[.slice A2 es.length c2, .int .i64 ix] W (PostRows 2 1 (derR (ens es) ix).length ((derR (ens es) ix).map ic) (enC (ens es) ix) W)))
  have HM := Lib.hid (fun (A2 : Option Addr) (c2 : Nat) (fs : List EnR) W (F : EnsIn W A2 fs) (hc : fs.length ≤ c2) (hl : fs.length = es.length) (he : ens fs = ens es) => (by have h := implDerivedFrom_c A2 c2 fs ix W F hc; rw [he, hl] at h; exact h : Calls Tryz.prog 22 #[.slice A2 es.length c2, .int .i64 ix] W (PostRows 2 1 (derR (ens es) ix).length ((derR (ens es) ix).map ic) (enC (ens es) ix) W)))
  have hlen := derR_len (ens es) ix
  rw [ens_len] at hlen
  replace hlen := Lib.hid hlen
  clear hs hi
  generalize derR (ens es) ix = R at *
  generalize enC (ens es) ix = cd at *
  go_enter Tryz.func5, Tryz.ntmps5
  go_wp2_with fail
  refine Calls.mono HZ.out ?_; rintro e w1 ⟨⟨v, rfl, hv⟩, hb1⟩
  rcases hv with hv | ⟨hv0, _, hlen2⟩
  · go_wp2
    go_ret
    exact ⟨rfl, hb1⟩
  have hvn : ¬ v < 0 := by omega
  have E := Lib.hid (hE.out hlen2)
  have HT := Lib.hid (fun W (hW : Below w.heap.size w W) => toEnSO_c A c es W (E.out.later hW))
  have hRl : Hid (R.length ≤ 1048576) := Lib.hid (Nat.le_trans hlen.out E.out.n)
  clear hlen2 hE HZ hlen
  go_wp2_with fail
  refine Calls.mono (HT.out w1 hb1) ?_; rintro e w2 ⟨⟨v2, rfl, A2, c2, fs2, rfl, hl2, he2, hc2, F2, _, _, _⟩, hb2⟩
  have hW2 := hb1.trans (hb2.mono hb1.size)
  have H2 := Lib.hid (HS.out A2 c2 fs2 w2 F2 (by rw [hl2]; exact hc2) hl2 he2)
  clear hb1 hb2 F2 hl2 he2 HS
  go_wp2_with fail
  refine Calls.mono H2.out ?_; rintro e w3 ⟨Aw, cw, rfl, Ow, hb3⟩
  have hW3 := hW2.trans (hb3.mono hW2.size)
  have s23 := hb3.size
  have hOwl := own_lt' Ow
  clear hb3 H2
  go_wp2_with fail
  refine Calls.mono (HT.out w3 hW3) ?_; rintro e w4 ⟨⟨v4, rfl, A4, c4, fs4, rfl, hl4, he4, hc4, F4, O4, P4, D4⟩, hb4⟩
  have hW4 := hW3.trans (hb4.mono hW3.size)
  replace Ow := Ow.below hb4
  have s34 := hb4.size
  have H4 := Lib.hid (HM.out A4 c4 fs4 w4 F4 (by rw [hl4]; exact hc4) hl4 he4)
  replace P4 := Lib.hid P4
  replace D4 := Lib.hid D4
  replace F4 := Lib.hid F4
  replace O4 := Lib.hid O4
  replace hl4 := Lib.hid hl4
  replace he4 := Lib.hid he4
  clear hb4
  go_wp2_with fail
  refine Calls.mono H4.out ?_; rintro e w5 ⟨Ag, cg, rfl, Og, hb5⟩
  have hW5 := hW4.trans (hb5.mono hW4.size)
  replace Ow := Ow.below hb5
  have hB5 := hb5
  have hOgg := Og.ownGe
  clear hb5 H4
  go_wp2_with fail
  refine (eqInt64S_c Ag Aw cg cw R w5 (by have := hRl.out; omega) Og.sl Ow.sl).mono ?_; rintro e w6 ⟨rfl, hb6⟩
  have hW6 := hW5.trans (hb6.mono hW5.size)
  replace Ow := Ow.below hb6
  replace Og := Og.below hb6
  replace hB5 := hB5.trans (hb6.mono hB5.size)
  clear hb6
  go_wp2_with fail
  refine Calls.mono (HT.out w6 hW6) ?_; rintro e w7 ⟨⟨v7, rfl, A7, c7, fs7, rfl, hl7, he7, hc7, F7, _, _, _⟩, hb7⟩
  have hW7 := hW6.trans (hb7.mono hW6.size)
  replace Ow := Ow.below hb7
  replace Og := Og.below hb7
  replace hB5 := hB5.trans (hb7.mono hB5.size)
  have H7 := eqEnS_c A4 A7 c4 c7 fs4 fs7 w7 (F4.out.later hB5) F7 (by rw [he4.out, he7])
  rw [hl4.out, hl7] at H7
  replace H7 := Lib.hid H7
  clear F7 hl7 he7 hb7
  go_wp2_with fail
  refine Calls.mono H7.out ?_; rintro e w8 ⟨rfl, hb8⟩
  have hW8 := hW7.trans (hb8.mono hW7.size)
  replace Ow := Ow.below hb8
  replace Og := Og.below hb8
  replace hB5 := hB5.trans (hb8.mono hB5.size)
  have H8 := markEnS_c A4 c4 fs4 w3.heap.size w4.heap.size 1 w4 w8 (by omega) F4.out (by rw [hl4.out]; exact O4.out) P4.out D4.out (Nat.le_refl _) hB5
  rw [hl4.out] at H8
  replace H8 := Lib.hid H8
  clear hb8 H7 F4 O4 P4 D4
  go_wp2_with fail
  refine Calls.mono H8.out ?_; rintro e w9 ⟨n9, rfl, hn9, hk9⟩
  have s3 := hW3.size
  replace Ow := Ow.kb hk9 (fun x hx => by have := hOwl x hx; unfold Nb; omega)
  replace Og := Og.kb hk9 (fun x hx => by have := hOgg x hx; unfold Nb; omega)
  have hW9 := below_kb hW8 hk9 hW8.size (fun k hk => by unfold Nb; omega)
  have hn9' : ¬ n9 < 0 := by omega
  clear hk9 H8 hW8 hB5
  go_wp2_with fail
  refine (eqInt64S_c Ag Aw cg cw R w9 (by have := hRl.out; omega) Og.sl Ow.sl).mono ?_; rintro e w10 ⟨rfl, hb10⟩
  have hW10 := hW9.trans (hb10.mono hW9.size)
  replace Ow := Ow.below hb10
  replace Og := Og.below hb10
  clear hb10
  have HMk := markInt64B_c Ag cg w4.heap.size 1 (R.map ic) w10 (by omega) (by have := hRl.out; simp; omega) (by simpa using Og)
  rw [List.length_map] at HMk
  replace HMk := Lib.hid HMk
  go_wp2_with fail
  refine Calls.mono HMk.out ?_; rintro e w11 ⟨rfl, Og', hg11⟩
  have hown : ∀ x, (Value.slice Ag R.length cg).ownBlock = some x → w4.heap.size ≤ x := Og'.ownGe
  replace Ow := Ow.kept hg11 (by
    cases hb : (Value.slice Aw R.length cw).ownBlock with
    | none => exact .inl rfl
    | some x => exact .inr (fun e => by have := hOwl x hb; have := hown x e.symm; omega))
  have hW11 := hW10.grown hg11 hW10.size (fun x hx => by have := hown x hx; have := hW4.size; omega)
  clear hg11 HMk Og
  have HH := Lib.hid (fun W (hs : Sl W W.heap.size 1 Ag ((List.range R.length).map (markInt64 1))) => heldInt64S_c Ag R.length cg 1 W (by omega) (by have := hRl.out; omega) hs)
  have H11 := Lib.hid (HH.out w11 Og'.sl)
  have hq0 : ¬ (1 + (R.length : Int)) < 0 := by omega
  go_wp2_with fail
  refine Calls.mono H11.out ?_; rintro e w12 ⟨rfl, rfl⟩
  go_wp2_with fail
  refine Calls.mono (HT.out w11 hW11) ?_; rintro e w12 ⟨⟨v12, rfl, A12, c12, fs12, rfl, hl12, he12, hc12, F12, _, _, _⟩, hb12⟩
  have hW12 := hW11.trans (hb12.mono hW11.size)
  replace Ow := Ow.below hb12
  replace Og' := Og'.below hb12
  have H12 := Lib.hid (HM.out A12 c12 fs12 w12 F12 (by rw [hl12]; exact hc12) hl12 he12)
  clear hb12 F12 hl12 he12 HM H11
  go_wp2_with fail
  refine Calls.mono H12.out ?_; rintro e w13 ⟨Ah, ch, rfl, Oh, hb13⟩
  have hW13 := hW12.trans (hb13.mono hW12.size)
  replace Ow := Ow.below hb13
  replace Og' := Og'.below hb13
  clear hb13 H12
  go_wp2_with fail
  refine (eqInt64S_c Ah Aw ch cw R w13 (by have := hRl.out; omega) Oh.sl Ow.sl).mono ?_; rintro e w14 ⟨rfl, hb14⟩
  have hW14 := hW13.trans (hb14.mono hW13.size)
  replace Og' := Og'.below hb14
  clear hb14 Oh Ow
  have H14 := Lib.hid (HH.out w14 Og'.sl)
  go_wp2_with fail
  refine Calls.mono H14.out ?_; rintro e w15 ⟨rfl, rfl⟩
  go_wp2
  go_ret
  exact ⟨rfl, hW14⟩
end Go.Proofs.YtkjlakdjgpgekaaGreatDoor
namespace Go.Proofs.YtkjlakdjgpgekaaGreatDoor
open Go.ChangeShapes Go.WideShapes Go.ChangeAt Go.RowKit Go.Deep

theorem own : ownKnob Tryz.prog.godebug = none := by kernel_rfl
set_option maxRecDepth 100000 in
theorem laidOut : laidOutB Tryz.prog = true := by kernel_rfl

section
variable {H : Type} {enc : TypeId × Value → H} {P : Program}
theorem trodAll_below (hl : laidOutB P = true) {W W' : World} (hb : Below W.heap.size W W') :
    ∀ (ts : List TypeId) (vs : List Value) (ds : List (DataW H)) (ps : List MemPlace), ts.all (fun t => P.readableRec t && decide (t < P.types.size)) = true →
      (∀ x ∈ ps, x.block < W.heap.size) → DataW.TrodAll enc P W 0 (fun _ => true) true ts vs ds ps → DataW.TrodAll enc P W' 0 (fun b => decide (b < W.heap.size)) true ts vs ds ps := by
  intro ts
  induction ts with
  | nil =>
    intro vs ds ps _ _ h
    obtain ⟨rfl, rfl, rfl⟩ := trodAll_nil h
    exact trodAll_mk0
  | cons t ts ih =>
    intro vs ds ps hr hlt h
    obtain ⟨v, vs', d, ds', p, q, rfl, rfl, rfl, h0, h1⟩ := trodAll_cons h
    simp only [List.all_cons, Bool.and_eq_true, decide_eq_true_eq] at hr
    exact trodAll_cons_mk (Below.trod hl hr.1.1 hr.1.2 h0 hb fun x hx => hlt x (List.mem_append_left _ hx)) (ih vs' ds' q (by simpa using hr.2) (fun x hx => hlt x (List.mem_append_right _ hx)) h1)

theorem trodAll_length {w : World} {base : Nat} {spare : Nat → Bool} {held : Bool} :
    ∀ (ts : List TypeId) (vs : List Value) (ds : List (DataW H)) (ps : List MemPlace), DataW.TrodAll enc P w base spare held ts vs ds ps → ds.length = ts.length := by
  intro ts
  induction ts with
  | nil => intro vs ds ps h; obtain ⟨rfl, rfl, rfl⟩ := trodAll_nil h; rfl
  | cons t ts ih =>
    intro vs ds ps h
    obtain ⟨v, vs', d, ds', p, q, rfl, rfl, rfl, h0, h1⟩ := trodAll_cons h
    simp [ih _ _ _ h1]
end

theorem bounds_i64 {n : Int} (h : (Lit.int .i64 n).wf = true) : -9223372036854775808 ≤ n ∧ n ≤ 9223372036854775807 := by
  simpa [Lit.wf, IntKind.min, IntKind.max, IntKind.signed, IntKind.bits] using h


section
variable {H : Type} {enc : TypeId × Value → H} {P : Program} {w : World} {base : Nat} {spare : Nat → Bool} {held : Bool}
/-- A struct of int64 fields, read as data. -/
theorem struct_ints {t tI : TypeId} {fs : Array Field} {n : Nat} {cs : List Value} {y : DataW H × List MemPlace} (ht : P.underlying t = some (.struct fs)) (hI : P.underlying tI = some (.int .i64)) (hone : oneCellFields P fs = true)
    (hall : fs.all (fun f => f.type == tI) = true) (hC : P.cellsOf t = fs.size) (h : DataW.trod enc P w base spare held n t cs = some y) :
    ∃ ns : List Int, ns.length = fs.size ∧ cs = ns.map (Value.int .i64) ∧ ∀ m ∈ ns, (Lit.int .i64 m).wf = true := by
  obtain ⟨xs, n', _, _, hlen, hxl, hf⟩ := DataW.trod_struct ht h
  rw [hC] at hlen
  have hcell : ∀ i, i < fs.size → ∃ m, cs[i]? = some (Value.int .i64 m) ∧ (Lit.int .i64 m).wf = true := by
    intro i hi
    have hfi : fs[i]? = some fs[i] := Array.getElem?_eq_getElem hi
    obtain ⟨ho, hk⟩ := hone_of hone i _ hfi
    have hty : fs[i].type = tI := by
      have := Array.all_eq_true.1 hall i hi
      simpa using this
    have h1 := hf i _ hfi
    rw [ho, hk, hty] at h1
    have hone' : (cs.drop i).take 1 = [cs[i]'(by omega)] := by
      rw [List.drop_eq_getElem_cons (by omega)]; rfl
    rw [hone', List.getElem?_eq_getElem (show i < xs.length by omega)] at h1
    obtain ⟨m, hm, _, hwf⟩ := DataW.trod_int hI h1
    simp only [List.cons.injEq, and_true] at hm
    exact ⟨m, by rw [List.getElem?_eq_getElem (by omega), hm], hwf⟩
  refine ⟨cs.map intOf, by simpa using hlen, ?_, ?_⟩
  · apply List.ext_getElem?
    intro i
    by_cases hi : i < fs.size
    · obtain ⟨m, hm, _⟩ := hcell i hi
      simp [hm, intOf]
    · rw [List.getElem?_eq_none (by omega), List.getElem?_eq_none (by simp; omega)]
  · intro m hm
    obtain ⟨v, hv, rfl⟩ := List.mem_map.1 hm
    obtain ⟨i, hi, rfl⟩ := List.getElem_of_mem hv
    obtain ⟨m, hm', hwf⟩ := hcell i (by omega)
    rw [List.getElem?_eq_getElem hi] at hm'
    simp only [Option.some.injEq] at hm'
    rw [hm']
    exact hwf

/-- An argument that is a slice of structs: the rows of its cells. -/
theorem open_rowsV {t e : TypeId} {k : Nat} {b0 : Nat} {r : Reach} {v : Value} {d : DataW H} {p : List MemPlace} {ok : List Value → Prop} (ht : P.underlying t = some (.slice e)) (hC : P.cellsOf e = k) (hk : 0 < k) (hby : 0 < P.bytesOf e)
    (hdec : ∀ n cs y, DataW.trod enc P w 0 (fun _ => true) true n e cs = some y → cs.length = k → ok cs)
    (hv : Value.okWide P w r b0 t v) (h : DataW.Trod enc P w 0 (fun _ => true) true t v d p) (hlt : ∀ x ∈ p, x.block < w.heap.size)
    (hsz : ∀ elems spare, d = .slice elems spare → (elems.length + spare.length) * P.bytesOf e ≤ reachBytes) :
    ∃ (A : Option Addr) (n c : Nat) (xs : List (List Value)), v = .slice A n c ∧ xs.length = n ∧ (∀ x ∈ xs, x.length = k ∧ ok x) ∧ Sl w w.heap.size k A xs ∧ n ≤ 140737488351232 := by
  obtain ⟨A, len, cap, rfl⟩ := okWide_slice ht hv
  obtain ⟨fuel, hf⟩ := h
  rcases Go.Deep.open_slice ht hf with ⟨hcs, _⟩ | ⟨a, len', cap', m, n, D, Pl, hcs, hb, hl, hm, hmm, hx, hi⟩
  · simp [Value.cells] at hcs
    obtain ⟨rfl, rfl, rfl⟩ := hcs
    exact ⟨none, 0, 0, [], rfl, rfl, by simp, Sl.nil_, by omega⟩
  · simp [Value.cells] at hcs
    obtain ⟨rfl, rfl, rfl⟩ := hcs
    simp only [if_true] at hmm
    subst hmm
    rw [hC] at hx hi
    have hpl : p = MemPlace.row a (m * k) ++ (List.range m).flatMap Pl := (Prod.mk.inj hx).2
    have hd : d = _ := (Prod.mk.inj hx).1
    have hn : len ≤ 140737488351232 := by
      have h1 := hsz _ _ hd
      simp only [List.length_map, List.length_range] at h1
      have h2 : (len + (m - len)) * 1 ≤ (len + (m - len)) * P.bytesOf e := Nat.mul_le_mul_left _ hby
      unfold reachBytes at h1
      omega
    have hex : ∀ i, ∃ cs' : List Value, i < m → (cs'.length = k ∧ ok cs' ∧ ∀ j u, cs'[j]? = some u → w.cell? (a.add (i * k + j)) = some u) := by
      intro i
      by_cases hi' : i < m
      · obtain ⟨cs', hcs', ht'⟩ := hi i hi'
        obtain ⟨_, hlen, hat⟩ := World.cells?_some hcs'
        refine ⟨cs', fun _ => ⟨hlen, hdec _ _ _ ht' hlen, fun j u hu => ?_⟩⟩
        have hj : j < k := by have := (List.getElem?_eq_some_iff.1 hu).1; omega
        rw [← Go.Deep.add_add, hat j hj, hu]
      · exact ⟨[], fun h => absurd h hi'⟩
    have hex' : ∃ f : Nat → List Value, ∀ i, i < m → ((f i).length = k ∧ ok (f i) ∧ ∀ j u, (f i)[j]? = some u → w.cell? (a.add (i * k + j)) = some u) := ⟨fun i => Classical.choose (hex i), fun i => Classical.choose_spec (hex i)⟩
    obtain ⟨f, hf'⟩ := hex'
    refine ⟨some a, len, m, (List.range len).map f, rfl, by simp, ?_, ?_, hn⟩
    · intro x hx'
      obtain ⟨i, hi', rfl⟩ := List.mem_map.1 hx'
      have := hf' i (by have := List.mem_range.1 hi'; omega)
      exact ⟨this.1, this.2.1⟩
    · intro i x hx'
      rw [List.getElem?_map] at hx'
      by_cases hil : i < len
      · rw [List.getElem?_range hil] at hx'
        simp only [Option.map_some, Option.some.injEq] at hx'
        subst hx'
        obtain ⟨h1, h2, h3⟩ := hf' i (by omega)
        have hf0 := hf' 0 (by omega)
        have hc0 := hf0.2.2 0 ((f 0)[0]'(by omega)) (List.getElem?_eq_getElem (by omega))
        obtain ⟨b, off, spot⟩ := a
        have hspot : spot = none := by
          have := World.cell?_spot hc0
          simpa [Addr.add] using this
        subst hspot
        have hbW : b < w.heap.size := hlt (.cell b off) (by
          rw [hpl]
          exact List.mem_append_left _ (MemPlace.mem_row.2 ⟨0, Nat.mul_pos (by omega) hk, by simp⟩))
        refine ⟨h1, b, off, rfl, hbW, fun j u hu => ?_⟩
        have := h3 j u hu
        rw [add_plain, ← Nat.add_assoc] at this
        exact this
      · rw [List.getElem?_eq_none (by simpa using hil)] at hx'
        cases hx'
theorem sized_at {ts : List TypeId} {ds : List (DataW H)} (h : (DataW.weightsEach P ts ds).all (· ≤ reachBytes) = true) {j : Nat} {t e : TypeId} {d : DataW H} (ht : ts[j]? = some t) (hd : ds[j]? = some d) (hu : P.underlying t = some (.slice e)) :
    ∀ elems spare, d = .slice elems spare → (elems.length + spare.length) * P.bytesOf e ≤ reachBytes := fun elems spare he => sized_slice h ht (hd.trans (by rw [he])) hu
end
/-- the same, the elements structs of int64 fields -/
theorem open_rows {H : Type} {enc : TypeId × Value → H} {P : Program} {w : World} {t e tI : TypeId} {fs : Array Field} {b0 : Nat} {r : Reach} {v : Value} {d : DataW H} {p : List MemPlace} (ht : P.underlying t = some (.slice e)) (he : P.underlying e = some (.struct fs)) (hI : P.underlying tI = some (.int .i64))
    (hone : oneCellFields P fs = true) (hall : fs.all (fun f => f.type == tI) = true) (hC : P.cellsOf e = fs.size) (hk : 0 < fs.size) (hby : 0 < P.bytesOf e)
    (hv : Value.okWide P w r b0 t v) (h : DataW.Trod enc P w 0 (fun _ => true) true t v d p) (hlt : ∀ x ∈ p, x.block < w.heap.size)
    (hsz : ∀ elems spare, d = .slice elems spare → (elems.length + spare.length) * P.bytesOf e ≤ reachBytes) :
    ∃ (A : Option Addr) (c : Nat) (rows : List (List Int)), v = .slice A rows.length c ∧ (∀ x ∈ rows, x.length = fs.size ∧ ∀ m ∈ x, (Lit.int .i64 m).wf = true) ∧ Sl w w.heap.size fs.size A (rows.map (·.map (Value.int .i64))) ∧ rows.length ≤ 140737488351232 := by
  obtain ⟨A, n, c, xs, rfl, hn, hx, hs, hl⟩ := open_rowsV (ok := fun cs => ∃ ns : List Int, ns.length = fs.size ∧ cs = ns.map (Value.int .i64) ∧ ∀ m ∈ ns, (Lit.int .i64 m).wf = true) ht hC hk hby (fun n cs y hy _ => struct_ints he hI hone hall hC hy) hv h hlt hsz
  have hxs : xs = (xs.map (·.map intOf)).map (·.map (Value.int .i64)) := by
    rw [List.map_map]
    conv => lhs; rw [← List.map_id xs]
    apply List.map_congr_left
    intro x hxm
    obtain ⟨_, ns, _, rfl, _⟩ := hx x hxm
    simp [Function.comp_def, intOf]
  refine ⟨A, c, xs.map (·.map intOf), by simp [hn], ?_, ?_, by simpa [hn] using hl⟩
  · intro y hy
    obtain ⟨x, hxm, rfl⟩ := List.mem_map.1 hy
    obtain ⟨_, ns, h1, rfl, h2⟩ := hx x hxm
    simpa [Function.comp_def, intOf] using ⟨h1, h2⟩
  · rw [← hxs]
    exact hs

/-- An argument that is a struct of int64 fields, by value. -/
theorem open_agg_ints {H : Type} {enc : TypeId × Value → H} {P : Program} {w : World} {t tI : TypeId} {fs : Array Field} {b0 base : Nat} {spare : Nat → Bool} {held : Bool} {r : Reach} {v : Value} {d : DataW H} {p : List MemPlace} (ht : P.underlying t = some (.struct fs)) (hI : P.underlying tI = some (.int .i64))
    (hone : oneCellFields P fs = true) (hall : fs.all (fun f => f.type == tI) = true) (hC : P.cellsOf t = fs.size)
    (hv : Value.okWide P w r b0 t v) (h : DataW.Trod enc P w base spare held t v d p) :
    ∃ ns : List Int, ns.length = fs.size ∧ v = .agg (ns.map (Value.int .i64)).toArray ∧ ∀ m ∈ ns, (Lit.int .i64 m).wf = true := by
  obtain ⟨cs, rfl, _⟩ := okWide_struct ht hv
  obtain ⟨fuel, hf⟩ := h
  obtain ⟨ns, h1, h2, h3⟩ := struct_ints ht hI hone hall hC hf
  refine ⟨ns, h1, ?_, h3⟩
  rw [← h2]
  simp [Value.cells]

set_option maxRecDepth 100000 in
/-- The row's step, out of a walk. -/
theorem lifted_of {os : Os} (started : os.Started) {H : Type} {enc : TypeId × Value → H} {K : FuncId} {fn : Func} {s : ChangeSpec}
    (noInit : Tryz.checked.prog.inits.idxOf? K = none) (hfn : Tryz.checked.prog.funcs[K]? = some fn)
    (witness : ∃ (w : World) (tape : Tape) (i : Input), w.os = os ∧ (w.forCall tape i).Shaped Tryz.checked.prog ∧ i.vars = [] ∧ Input.okWide Tryz.checked.prog (w.forCall tape i) .any w.heap.size K i ∧
      s.pre6 enc Tryz.checked.prog fn [] false (w.forCall tape i).memory i.args ∧ ({} : Assume).holds Tryz.checked.prog (lone (Frame.enter Tryz.checked.prog K i.args .normal) [] (w.forCall tape i)))
    (hv : s.vars = []) (hrt : fn.resultTypes = #[4])
    (hs : ∀ ds : List (DataW H), ds.length = fn.params.toList.length → s.fn H (ds ++ []) = { results := [.lit (.bool true)], args := ds })
    (hpr : fn.params.toList.all (fun t => Tryz.prog.readableRec t && decide (t < Tryz.prog.types.size)) = true)
    (walk : ∀ (W : World) (base : Nat) (args : Array Value) (ds : List (DataW H)) (ps : List MemPlace),
      (∀ (j : Nat) t v, fn.params[j]? = some t → args[j]? = some v → Value.okWide Tryz.prog W .any base t v) →
      DataW.TrodAll enc Tryz.prog W 0 (fun _ => true) true fn.params.toList args.toList ds ps → (∀ x ∈ ps, x.block < W.heap.size) →
      (DataW.weightsEach Tryz.prog fn.params.toList ds).all (· ≤ reachBytes) = true →
      Calls Tryz.prog K args W fun e W' => e = .returned (.bool true) ∧ Below W.heap.size W W') :
    ReturnsInHanded {} Tryz.checked os K .any (s.pre6 enc Tryz.prog fn [] false) (s.post enc Tryz.prog fn false true false false) := by
  refine returnsInHanded_of_change_sized (C := Tryz.checked) own started noInit hfn witness ?_
  intro W base args ds gs before hval hW _ hsz _
  have hW' := hW
  obtain ⟨p, q, hA, hV, rfl, hfz, hnd⟩ := hW
  rw [hv] at hV
  obtain ⟨rfl, rfl⟩ := trodVars_none hV
  have hlt : ∀ x ∈ p, x.block < W.heap.size := fun x hx => by simpa using hW'.lt x (List.mem_append_left _ hx)
  have hty : s.plain.varTypes Tryz.checked.prog = [] := by
    unfold DataSpec.varTypes ChangeSpec.plain
    rw [hv]
    rfl
  rw [hty] at hsz
  simp only [List.append_nil] at hsz
  refine (walk W base args ds p hval hA hlt hsz).mono fun e W' ⟨he, hb⟩ => ?_
  subst he
  have hlen := trodAll_length _ _ _ _ hA
  refine ⟨_, rfl, ds, [], p ++ [], [], p ++ [], [], hW', ?_, ?_, ?_, hb.frame _, fun h => by cases h⟩
  · rw [hs ds hlen, hrt]
    exact trodAll_mk1 (shut_bool Tryz.underlying4 _)
  · rw [hs ds hlen]
    have h := trodAll_below laidOut hb _ _ _ _ hpr hlt hA
    rw [List.append_nil]
    exact h
  · rw [hs ds hlen, hv]
    rfl
end Go.Proofs.YtkjlakdjgpgekaaGreatDoor
namespace Go.Proofs.YtkjlakdjgpgekaaGreatDoor
open Go.ChangeShapes Go.WideShapes Go.ChangeAt Go.RowKit Go.Deep
section
variable {H : Type} (enc : TypeId × Value → H) (P : Program) (w : World)
/-- what the cells of a value of type t are -/
def Dec (t : TypeId) (ok : List Value → Prop) : Prop := ∀ (n : Nat) (cs : List Value) (y : DataW H × List MemPlace), DataW.trod enc P w 0 (fun _ => true) true n t cs = some y →
  (∀ x ∈ y.2, x.block < w.heap.size) → (∀ m ∈ y.1.weights P t, m ≤ reachBytes) → ok cs
end
section
variable {H : Type} {enc : TypeId × Value → H} {P : Program} {w : World}
theorem Dec.imp {t : TypeId} {ok ok' : List Value → Prop} (h : Dec enc P w t ok) (hi : ∀ cs, ok cs → ok' cs) : Dec enc P w t ok' := fun n cs y h1 h2 h3 => hi cs (h n cs y h1 h2 h3)
def IntOk (cs : List Value) : Prop := ∃ n : Int, cs = [.int .i64 n] ∧ (-9223372036854775808 ≤ n ∧ n ≤ 9223372036854775807)
def BoolOk (cs : List Value) : Prop := ∃ b : Bool, cs = [.bool b]
theorem dec_int {t : TypeId} (ht : P.underlying t = some (.int .i64)) : Dec enc P w t IntOk := fun n cs y h _ _ => by
  obtain ⟨m, h1, _, h2⟩ := DataW.trod_int ht h
  exact ⟨m, h1, bounds_i64 h2⟩
theorem dec_bool {t : TypeId} (ht : P.underlying t = some .bool) : Dec enc P w t BoolOk := fun n cs y h _ _ => by
  obtain ⟨b, h1, _⟩ := DataW.trod_bool ht h
  exact ⟨b, h1⟩
/-- a slice of rows of k cells -/
def SliceOk (w : World) (k : Nat) (ok : List Value → Prop) (cs : List Value) : Prop := ∃ (A : Option Addr) (c : Nat) (xs : List (List Value)), cs = [.slice A xs.length c] ∧ xs.length ≤ c ∧ xs.length ≤ 140737488351232 ∧ (∀ x ∈ xs, x.length = k ∧ ok x) ∧ Sl w w.heap.size k A xs
theorem weightsAll_mem {e : TypeId} {m : Nat} : ∀ {l : List (DataW H)} {d : DataW H}, d ∈ l → m ∈ d.weights P e → m ∈ DataW.weightsAll P e l
  | d0 :: l, d, hd, hm => by
    unfold DataW.weightsAll
    rcases List.mem_cons.1 hd with rfl | h
    · exact List.mem_append_left _ hm
    · exact List.mem_append_right _ (weightsAll_mem h hm)
theorem dec_slice {t e : TypeId} {k : Nat} {ok : List Value → Prop} (ht : P.underlying t = some (.slice e)) (hC : P.cellsOf e = k) (hk : 0 < k) (hby : 0 < P.bytesOf e) (hd : Dec enc P w e ok) : Dec enc P w t (SliceOk w k ok) := by
  intro fuel cs y hf hlt hwt
  rcases Go.Deep.open_slice ht hf with ⟨hcs, _⟩ | ⟨a, len, cap, m, n, D, Pl, hcs, hb, hl, hm, hmm, hx, hi⟩
  · exact ⟨none, 0, [], by simpa using hcs, Nat.zero_le _, Nat.zero_le _, by simp, Sl.nil_⟩
  · simp only [if_true] at hmm
    subst hmm
    rw [hC] at hx hi
    subst hx
    simp only at hlt hwt
    have hn : len ≤ 140737488351232 := by
      have h1 := hwt ((((List.range len).map D).length + ((List.range (m - len)).map fun j => D (len + j)).length) * P.bytesOf e) (by simp [DataW.weights, ht])
      simp only [List.length_map, List.length_range] at h1
      have h2 : (len + (m - len)) * 1 ≤ (len + (m - len)) * P.bytesOf e := Nat.mul_le_mul_left _ hby
      unfold reachBytes at h1
      omega
    have hex : ∀ i, ∃ cs' : List Value, i < m → (cs'.length = k ∧ (i < len → ok cs') ∧ ∀ j u, cs'[j]? = some u → w.cell? (a.add (i * k + j)) = some u) := by
      intro i
      by_cases hi' : i < m
      · obtain ⟨cs', hcs', ht'⟩ := hi i hi'
        obtain ⟨_, hlen, hat⟩ := World.cells?_some hcs'
        refine ⟨cs', fun _ => ⟨hlen, fun hil => hd n cs' (D i, Pl i) ht' (fun x hx => hlt x (List.mem_append_right _ (List.mem_flatMap.2 ⟨i, List.mem_range.2 hi', hx⟩))) (fun q hq => hwt q ?_), fun j u hu => ?_⟩⟩
        · simp only [DataW.weights, ht, List.mem_cons, List.mem_append]
          exact .inr (.inl (weightsAll_mem (List.mem_map.2 ⟨i, List.mem_range.2 hil, rfl⟩) hq))
        · have hj : j < k := by have := (List.getElem?_eq_some_iff.1 hu).1; omega
          rw [← Go.Deep.add_add, hat j hj, hu]
      · exact ⟨[], fun h => absurd h hi'⟩
    have hex' : ∃ f : Nat → List Value, ∀ i, i < m → ((f i).length = k ∧ (i < len → ok (f i)) ∧ ∀ j u, (f i)[j]? = some u → w.cell? (a.add (i * k + j)) = some u) := ⟨fun i => Classical.choose (hex i), fun i => Classical.choose_spec (hex i)⟩
    obtain ⟨f, hf'⟩ := hex'
    refine ⟨some a, m, (List.range len).map f, by simpa using hcs, by simpa using hl, by simpa using hn, ?_, ?_⟩
    · intro x hx'
      obtain ⟨i, hi', rfl⟩ := List.mem_map.1 hx'
      have hil := List.mem_range.1 hi'
      have := hf' i (by omega)
      exact ⟨this.1, this.2.1 hil⟩
    · intro i x hx'
      rw [List.getElem?_map] at hx'
      by_cases hil : i < len
      · rw [List.getElem?_range hil] at hx'
        simp only [Option.map_some, Option.some.injEq] at hx'
        subst hx'
        obtain ⟨h1, h2, h3⟩ := hf' i (by omega)
        have hf0 := hf' 0 (by omega)
        have hc0 := hf0.2.2 0 ((f 0)[0]'(by omega)) (List.getElem?_eq_getElem (by omega))
        obtain ⟨b, off, spot⟩ := a
        have hspot : spot = none := by
          have := World.cell?_spot hc0
          simpa [Addr.add] using this
        subst hspot
        have hbW : b < w.heap.size := hlt (.cell b off) (List.mem_append_left _ (MemPlace.mem_row.2 ⟨0, Nat.mul_pos (by omega) hk, by simp⟩))
        refine ⟨h1, b, off, rfl, hbW, fun j u hu => ?_⟩
        have := h3 j u hu
        rw [add_plain, ← Nat.add_assoc] at this
        exact this
      · rw [List.getElem?_eq_none (by simpa using hil)] at hx'
        cases hx'
theorem weightsEach_get {m : Nat} : ∀ {ts : List TypeId} {ds : List (DataW H)} {j : Nat} {t : TypeId} {d : DataW H}, ts[j]? = some t → ds[j]? = some d → m ∈ d.weights P t → m ∈ DataW.weightsEach P ts ds := fun ht hd hm => DataW.weights_mem_each ht hd _ hm
theorem dec_struct {t : TypeId} {fs : Array Field} (ht : P.underlying t = some (.struct fs)) (oks : Nat → List Value → Prop) (hd : ∀ i f, fs[i]? = some f → Dec enc P w f.type (oks i)) :
    Dec enc P w t (fun cs => cs.length = P.cellsOf t ∧ ∀ i f, fs[i]? = some f → oks i ((cs.drop f.offset).take (P.cellsOf f.type))) := by
  intro fuel cs y h hlt hwt
  obtain ⟨xs, n', _, rfl, hl, hxl, hf⟩ := DataW.trod_struct ht h
  refine ⟨hl, fun i f hi => ?_⟩
  have hlt' : i < fs.size := (Array.getElem?_eq_some_iff.1 hi).1
  have hx : xs[i]? = some xs[i] := List.getElem?_eq_getElem (by omega)
  have h1 := hf i f hi
  rw [hx] at h1
  refine hd i f hi n' _ _ h1 (fun x hxm => hlt x (List.mem_flatMap.2 ⟨xs[i], List.getElem_mem _, hxm⟩)) (fun m hm => hwt m ?_)
  simp only [DataW.weights, ht]
  refine weightsEach_get (j := i) (t := f.type) (d := xs[i].1) ?_ ?_ hm
  · rw [List.getElem?_map, Array.getElem?_toList, hi]; rfl
  · rw [List.getElem?_map, hx]; rfl
/-- an argument that is a struct, by value -/
theorem dec_arg {t : TypeId} {fs : Array Field} {r : Reach} {b0 : Nat} {v : Value} {d : DataW H} {p : List MemPlace} {ok : List Value → Prop} (ht : P.underlying t = some (.struct fs)) (hd : Dec enc P w t ok) (hv : Value.okWide P w r b0 t v) (h : DataW.Trod enc P w 0 (fun _ => true) true t v d p)
    (hlt : ∀ x ∈ p, x.block < w.heap.size) (hw : ∀ m ∈ d.weights P t, m ≤ reachBytes) : ∃ cs : List Value, v = .agg cs.toArray ∧ ok cs := by
  obtain ⟨cs, rfl, _⟩ := okWide_struct ht hv
  obtain ⟨fuel, hf⟩ := h
  refine ⟨cs.toList, by simp, ?_⟩
  have := hd fuel _ _ hf hlt hw
  simpa [Value.cells] using this
/-- an argument that is a slice -/
theorem dec_argS {t e : TypeId} {r : Reach} {b0 : Nat} {v : Value} {d : DataW H} {p : List MemPlace} {ok : List Value → Prop} (ht : P.underlying t = some (.slice e)) (hd : Dec enc P w t ok) (hv : Value.okWide P w r b0 t v) (h : DataW.Trod enc P w 0 (fun _ => true) true t v d p)
    (hlt : ∀ x ∈ p, x.block < w.heap.size) (hw : ∀ m ∈ d.weights P t, m ≤ reachBytes) : ∃ A n c, v = .slice A n c ∧ ok [.slice A n c] := by
  obtain ⟨A, n, c, rfl⟩ := okWide_slice ht hv
  obtain ⟨fuel, hf⟩ := h
  exact ⟨A, n, c, rfl, by simpa [Value.cells] using hd fuel _ _ hf hlt hw⟩
theorem sized_arg {ts : List TypeId} {ds : List (DataW H)} (h : (DataW.weightsEach P ts ds).all (· ≤ reachBytes) = true) {j : Nat} {t : TypeId} {d : DataW H} (ht : ts[j]? = some t) (hd : ds[j]? = some d) : ∀ m ∈ d.weights P t, m ≤ reachBytes := fun m hm => by
  have := List.all_eq_true.1 h _ (DataW.weights_mem_each ht hd m hm)
  simpa using this
end
/-- rows of one int64 each -/
theorem ints_of_rows : ∀ rows : List (List Value), (∀ x ∈ rows, x.length = 1 ∧ IntOk x) → ∃ l : List Int, rows = l.map fun n => [Value.int .i64 n]
  | [], _ => ⟨[], rfl⟩
  | x :: r, h => by
    obtain ⟨l, hl⟩ := ints_of_rows r fun y hy => h y (by simp [hy])
    obtain ⟨n, hn, _⟩ := (h x (by simp)).2
    exact ⟨n :: l, by rw [List.map_cons, hl, hn]⟩
end Go.Proofs.YtkjlakdjgpgekaaGreatDoor
namespace Go.Proofs.YtkjlakdjgpgekaaGreatDoor
open Go.ChangeShapes Go.WideShapes Go.ChangeAt Go.RowKit Go.Deep
section
variable {H : Type} {enc : TypeId × Value → H} {P : Program} {w : World}
theorem dec_struct2 {t : TypeId} {f0 f1 : Field} (ht : P.underlying t = some (.struct #[f0, f1])) {k0 k1 : List Value → Prop} (h0 : Dec enc P w f0.type k0) (h1 : Dec enc P w f1.type k1) :
    Dec enc P w t (fun cs => cs.length = P.cellsOf t ∧ k0 ((cs.drop f0.offset).take (P.cellsOf f0.type)) ∧ k1 ((cs.drop f1.offset).take (P.cellsOf f1.type))) :=
  (dec_struct ht (fun i => if i = 0 then k0 else k1) (fun i f hi => by
    match i, hi with
    | 0, hi => obtain rfl : f0 = f := by simpa using hi
               exact h0
    | 1, hi => obtain rfl : f1 = f := by simpa using hi
               exact h1
    | (n + 2), hi => simp at hi)).imp fun cs ⟨hl, hf⟩ => ⟨hl, hf 0 f0 rfl, hf 1 f1 rfl⟩
theorem dec_struct3 {t : TypeId} {f0 f1 f2 : Field} (ht : P.underlying t = some (.struct #[f0, f1, f2])) {k0 k1 k2 : List Value → Prop} (h0 : Dec enc P w f0.type k0) (h1 : Dec enc P w f1.type k1) (h2 : Dec enc P w f2.type k2) :
    Dec enc P w t (fun cs => cs.length = P.cellsOf t ∧ k0 ((cs.drop f0.offset).take (P.cellsOf f0.type)) ∧ k1 ((cs.drop f1.offset).take (P.cellsOf f1.type)) ∧ k2 ((cs.drop f2.offset).take (P.cellsOf f2.type))) :=
  (dec_struct ht (fun i => if i = 0 then k0 else if i = 1 then k1 else k2) (fun i f hi => by
    match i, hi with
    | 0, hi => obtain rfl : f0 = f := by simpa using hi
               exact h0
    | 1, hi => obtain rfl : f1 = f := by simpa using hi
               exact h1
    | 2, hi => obtain rfl : f2 = f := by simpa using hi
               exact h2
    | (n + 3), hi => simp at hi)).imp fun cs ⟨hl, hf⟩ => ⟨hl, hf 0 f0 rfl, hf 1 f1 rfl, hf 2 f2 rfl⟩
end
section
variable {H : Type} {enc : TypeId × Value → H} {w : World}
theorem cells_int : Tryz.prog.cellsOf 2 = 1 := by kernel_rfl
def FigOk (cs : List Value) : Prop := ∃ a b : Int, cs = [.int .i64 a, .int .i64 b] ∧ (-9223372036854775808 ≤ a ∧ a ≤ 9223372036854775807) ∧ (-9223372036854775808 ≤ b ∧ b ≤ 9223372036854775807)
theorem dec_fig : Dec enc Tryz.prog w 37 FigOk :=
  (dec_struct2 Tryz.underlying37 (dec_int Tryz.underlying2) (dec_int Tryz.underlying2)).imp fun cs ⟨hl, h0, h1⟩ => by
    simp only [cells_int] at h0 h1
    rw [show Tryz.prog.cellsOf 37 = 2 from by kernel_rfl] at hl
    match cs, hl with
    | [x, y], _ =>
      obtain ⟨a, ha, ha'⟩ := h0
      obtain ⟨b, hb, hb'⟩ := h1
      simp at ha hb
      exact ⟨a, b, by rw [ha, hb], ha', hb'⟩
/-- a slice of int64 as a list -/
def IntsOk (w : World) (cs : List Value) : Prop := ∃ (A : Option Addr) (c : Nat) (l : List Int), cs = [.slice A l.length c] ∧ l.length ≤ c ∧ l.length ≤ 140737488351232 ∧ Sl w w.heap.size 1 A (l.map ic)
theorem dec_ints : Dec enc Tryz.prog w 24 (IntsOk w) :=
  (dec_slice (k := 1) Tryz.underlying24 (by kernel_rfl) (by omega) (of_decide_eq_true (by kernel_rfl)) (dec_int Tryz.underlying2)).imp fun cs ⟨A, c, xs, h1, h2, h3, h4, h5⟩ => by
    obtain ⟨l, rfl⟩ := ints_of_rows xs h4
    rw [List.length_map] at h1 h2 h3
    exact ⟨A, c, l, h1, h2, h3, h5⟩
end
end Go.Proofs.YtkjlakdjgpgekaaGreatDoor
namespace Go.Proofs.YtkjlakdjgpgekaaGreatDoor
open Go.ChangeShapes Go.WideShapes Go.ChangeAt Go.RowKit Go.Deep
section
variable {H : Type} {enc : TypeId × Value → H} {P : Program} {w : World}
def StrOk (cs : List Value) : Prop := ∃ s : ByteArray, cs = [.string s] ∧ s.size ≤ maxLen
theorem dec_str {t : TypeId} (ht : P.underlying t = some .string) : Dec enc P w t StrOk := fun n cs y h _ _ => by
  obtain ⟨s, h1, _, h2⟩ := DataW.trod_string ht h
  exact ⟨s, h1, h2⟩
theorem dec_struct4 {t : TypeId} {f0 f1 f2 f3 : Field} (ht : P.underlying t = some (.struct #[f0, f1, f2, f3])) {k0 k1 k2 k3 : List Value → Prop} (h0 : Dec enc P w f0.type k0) (h1 : Dec enc P w f1.type k1) (h2 : Dec enc P w f2.type k2) (h3 : Dec enc P w f3.type k3) :
    Dec enc P w t (fun cs => cs.length = P.cellsOf t ∧ k0 ((cs.drop f0.offset).take (P.cellsOf f0.type)) ∧ k1 ((cs.drop f1.offset).take (P.cellsOf f1.type)) ∧ k2 ((cs.drop f2.offset).take (P.cellsOf f2.type)) ∧ k3 ((cs.drop f3.offset).take (P.cellsOf f3.type))) :=
  (dec_struct ht (fun i => if i = 0 then k0 else if i = 1 then k1 else if i = 2 then k2 else k3) (fun i f hi => by
    match i, hi with
    | 0, hi => obtain rfl : f0 = f := by simpa using hi
               exact h0
    | 1, hi => obtain rfl : f1 = f := by simpa using hi
               exact h1
    | 2, hi => obtain rfl : f2 = f := by simpa using hi
               exact h2
    | 3, hi => obtain rfl : f3 = f := by simpa using hi
               exact h3
    | (n + 4), hi => simp at hi)).imp fun cs ⟨hl, hf⟩ => ⟨hl, hf 0 f0 rfl, hf 1 f1 rfl, hf 2 f2 rfl, hf 3 f3 rfl⟩
theorem dec_struct7 {t : TypeId} {f0 f1 f2 f3 f4 f5 f6 : Field} (ht : P.underlying t = some (.struct #[f0, f1, f2, f3, f4, f5, f6])) {k0 k1 k2 k3 k4 k5 k6 : List Value → Prop} (h0 : Dec enc P w f0.type k0) (h1 : Dec enc P w f1.type k1) (h2 : Dec enc P w f2.type k2) (h3 : Dec enc P w f3.type k3) (h4 : Dec enc P w f4.type k4) (h5 : Dec enc P w f5.type k5) (h6 : Dec enc P w f6.type k6) :
    Dec enc P w t (fun cs => cs.length = P.cellsOf t ∧ k0 ((cs.drop f0.offset).take (P.cellsOf f0.type)) ∧ k1 ((cs.drop f1.offset).take (P.cellsOf f1.type)) ∧ k2 ((cs.drop f2.offset).take (P.cellsOf f2.type)) ∧ k3 ((cs.drop f3.offset).take (P.cellsOf f3.type)) ∧ k4 ((cs.drop f4.offset).take (P.cellsOf f4.type)) ∧ k5 ((cs.drop f5.offset).take (P.cellsOf f5.type)) ∧ k6 ((cs.drop f6.offset).take (P.cellsOf f6.type))) :=
  (dec_struct ht (fun i => if i = 0 then k0 else if i = 1 then k1 else if i = 2 then k2 else if i = 3 then k3 else if i = 4 then k4 else if i = 5 then k5 else k6) (fun i f hi => by
    match i, hi with
    | 0, hi => obtain rfl : f0 = f := by simpa using hi
               exact h0
    | 1, hi => obtain rfl : f1 = f := by simpa using hi
               exact h1
    | 2, hi => obtain rfl : f2 = f := by simpa using hi
               exact h2
    | 3, hi => obtain rfl : f3 = f := by simpa using hi
               exact h3
    | 4, hi => obtain rfl : f4 = f := by simpa using hi
               exact h4
    | 5, hi => obtain rfl : f5 = f := by simpa using hi
               exact h5
    | 6, hi => obtain rfl : f6 = f := by simpa using hi
               exact h6
    | (n + 7), hi => simp at hi)).imp fun cs ⟨hl, hf⟩ => ⟨hl, hf 0 f0 rfl, hf 1 f1 rfl, hf 2 f2 rfl, hf 3 f3 rfl, hf 4 f4 rfl, hf 5 f5 rfl, hf 6 f6 rfl⟩
end
section
variable {H : Type} {enc : TypeId × Value → H} {w : World}
/-- a slice of numbers, as it lies -/
structure IntsLaid (w : World) (A : Option Addr) (c : Nat) (l : List Int) : Prop where
  k : l.length ≤ c
  z : l.length ≤ 140737488351232
  s : Sl w w.heap.size 1 A (l.map ic)
theorem IntsLaid.later {w W : World} {A : Option Addr} {c : Nat} {l : List Int} (E : IntsLaid w A c l) (hW : Below w.heap.size w W) : IntsLaid W A c l := ⟨E.k, E.z, (E.s.below hW).more hW.size⟩
def FormOk (w : World) (cs : List Value) : Prop := ∃ (fd ft : Int) (nm : ByteArray) (A1 : Option Addr) (c1 : Nat) (l1 : List Int), cs = [.int .i64 fd, .int .i64 ft, .string nm, .slice A1 l1.length c1] ∧ nm.size ≤ maxLen ∧ IntsLaid w A1 c1 l1
theorem dec_form : Dec enc Tryz.prog w 39 (FormOk w) :=
  (dec_struct3 Tryz.underlying39 dec_fig (dec_str Tryz.underlying9) dec_ints).imp fun cs ⟨hl, h0, h1, h2⟩ => by
    simp only [show Tryz.prog.cellsOf 37 = 2 from by kernel_rfl, show Tryz.prog.cellsOf 9 = 1 from by kernel_rfl, show Tryz.prog.cellsOf 24 = 1 from by kernel_rfl] at h0 h1 h2
    rw [show Tryz.prog.cellsOf 39 = 4 from by kernel_rfl] at hl
    match cs, hl with
    | [x0, x1, x2, x3], _ =>
      obtain ⟨a, b, e0, _⟩ := h0
      obtain ⟨s, e1, hs⟩ := h1
      obtain ⟨A1, c1, l1, e2, r1, r2, r3⟩ := h2
      simp at e0 e1 e2
      exact ⟨a, b, s, A1, c1, l1, by rw [e0.1, e0.2, e1, e2], hs, r1, r2, r3⟩
def ChOk (w : World) (cs : List Value) : Prop := ∃ (fd ft : Int) (nm : ByteArray) (A1 : Option Addr) (c1 : Nat) (l1 : List Int) (wd lf rt : Int), cs = [.int .i64 fd, .int .i64 ft, .string nm, .slice A1 l1.length c1, .int .i64 wd, .int .i64 lf, .int .i64 rt] ∧ nm.size ≤ maxLen ∧ IntsLaid w A1 c1 l1
theorem dec_chart : Dec enc Tryz.prog w 41 (ChOk w) :=
  (dec_struct4 Tryz.underlying41 dec_form (dec_int Tryz.underlying2) (dec_int Tryz.underlying2) (dec_int Tryz.underlying2)).imp fun cs ⟨hl, h0, h1, h2, h3⟩ => by
    simp only [show Tryz.prog.cellsOf 39 = 4 from by kernel_rfl, cells_int] at h0 h1 h2 h3
    rw [show Tryz.prog.cellsOf 41 = 7 from by kernel_rfl] at hl
    match cs, hl with
    | [x0, x1, x2, x3, x4, x5, x6], _ =>
      obtain ⟨fd, ft, nm, A1, c1, l1, e0, r1, r2⟩ := h0
      obtain ⟨a, e1, _⟩ := h1
      obtain ⟨b, e2, _⟩ := h2
      obtain ⟨c, e3, _⟩ := h3
      simp at e0 e1 e2 e3
      exact ⟨fd, ft, nm, A1, c1, l1, a, b, c, by rw [e0.1, e0.2.1, e0.2.2.1, e0.2.2.2, e1, e2, e3], r1, r2⟩
def RlOk (w : World) (cs : List Value) : Prop := ∃ (fd ft : Int) (nm : ByteArray) (A1 : Option Addr) (c1 : Nat) (l1 : List Int) (wd lf rt lud lut hud hut lvd lvt hvd hvt ey bo : Int), cs = [.int .i64 fd, .int .i64 ft, .string nm, .slice A1 l1.length c1, .int .i64 wd, .int .i64 lf, .int .i64 rt, .int .i64 lud, .int .i64 lut, .int .i64 hud, .int .i64 hut, .int .i64 lvd, .int .i64 lvt, .int .i64 hvd, .int .i64 hvt, .int .i64 ey, .int .i64 bo] ∧ nm.size ≤ maxLen ∧ IntsLaid w A1 c1 l1
theorem dec_release : Dec enc Tryz.prog w 43 (RlOk w) :=
  (dec_struct7 Tryz.underlying43 dec_chart dec_fig dec_fig dec_fig dec_fig (dec_int Tryz.underlying2) (dec_int Tryz.underlying2)).imp fun cs ⟨hl, h0, h1, h2, h3, h4, h5, h6⟩ => by
    simp only [show Tryz.prog.cellsOf 41 = 7 from by kernel_rfl, show Tryz.prog.cellsOf 37 = 2 from by kernel_rfl, cells_int] at h0 h1 h2 h3 h4 h5 h6
    rw [show Tryz.prog.cellsOf 43 = 17 from by kernel_rfl] at hl
    match cs, hl with
    | [x0, x1, x2, x3, x4, x5, x6, x7, x8, x9, x10, x11, x12, x13, x14, x15, x16], _ =>
      obtain ⟨fd, ft, nm, A1, c1, l1, wd, lf, rt, e0, r1, r2⟩ := h0
      obtain ⟨a1, b1, e1, _⟩ := h1
      obtain ⟨a2, b2, e2, _⟩ := h2
      obtain ⟨a3, b3, e3, _⟩ := h3
      obtain ⟨a4, b4, e4, _⟩ := h4
      obtain ⟨ey, e5, _⟩ := h5
      obtain ⟨bo, e6, _⟩ := h6
      simp at e0 e1 e2 e3 e4 e5 e6
      exact ⟨fd, ft, nm, A1, c1, l1, wd, lf, rt, a1, b1, a2, b2, a3, b3, a4, b4, ey, bo, by rw [e0.1, e0.2.1, e0.2.2.1, e0.2.2.2.1, e0.2.2.2.2.1, e0.2.2.2.2.2.1, e0.2.2.2.2.2.2, e1.1, e1.2, e2.1, e2.2, e3.1, e3.2, e4.1, e4.2, e5, e6], r1, r2⟩
end
end Go.Proofs.YtkjlakdjgpgekaaGreatDoor
namespace Go.Proofs.YtkjlakdjgpgekaaGreatDoor
open Go.ChangeShapes Go.WideShapes Go.ChangeAt Go.RowKit Go.Deep
section
variable {H : Type} {enc : TypeId × Value → H} {w : World}
def EnOk (w : World) (cs : List Value) : Prop := ∃ x : EnR, cs = x.cells ∧ x.Laid w
theorem dec_entry : Dec enc Tryz.prog w 45 (EnOk w) :=
  (dec_struct4 Tryz.underlying45 (dec_str Tryz.underlying9) (dec_int Tryz.underlying2) dec_release (dec_int Tryz.underlying2)).imp fun cs ⟨hl, h0, h1, h2, h3⟩ => by
    simp only [show Tryz.prog.cellsOf 9 = 1 from by kernel_rfl, show Tryz.prog.cellsOf 43 = 17 from by kernel_rfl, cells_int] at h0 h1 h2 h3
    rw [show Tryz.prog.cellsOf 45 = 20 from by kernel_rfl] at hl
    match cs, hl with
    | [x0, x1, x2, x3, x4, x5, x6, x7, x8, x9, x10, x11, x12, x13, x14, x15, x16, x17, x18, x19], _ =>
      obtain ⟨s, e0, hs⟩ := h0
      obtain ⟨a, e1, _⟩ := h1
      obtain ⟨fd, ft, nm, A1, c1, l1, wd, lf, rt, lud, lut, hud, hut, lvd, lvt, hvd, hvt, ey, bo, e2, r1, r2⟩ := h2
      obtain ⟨b, e3, _⟩ := h3
      simp at e0 e1 e2 e3
      obtain ⟨f0, f1, f2, f3, f4, f5, f6, f7, f8, f9, f10, f11, f12, f13, f14, f15, f16⟩ := e2
      exact ⟨⟨⟨s, a, ⟨fd, ft, nm, l1, wd, lf, rt, lud, lut, hud, hut, lvd, lvt, hvd, hvt, ey, bo⟩, b⟩, A1, c1⟩, by subst e0 e1 e3 f0 f1 f2 f3 f4 f5 f6 f7 f8 f9 f10 f11 f12 f13 f14 f15 f16; rfl, hs, r1, r2.k, r2.z, r2.s⟩
theorem ens_of_rows : ∀ rows : List (List Value), (∀ x ∈ rows, x.length = 20 ∧ EnOk w x) → ∃ l : List EnR, rows = l.map EnR.cells ∧ ∀ x ∈ l, x.Laid w
  | [], _ => ⟨[], rfl, by simp⟩
  | r :: rs, h => by
    obtain ⟨l, hl, hx⟩ := ens_of_rows rs fun y hy => h y (by simp [hy])
    obtain ⟨_, x, e, hxl⟩ := h r (by simp)
    refine ⟨x :: l, by rw [hl, e]; rfl, fun y hy => ?_⟩
    rcases List.mem_cons.1 hy with rfl | hy
    · exact hxl
    · exact hx y hy
/-- a list of entries, as an argument -/
def EnsOk (w : World) (cs : List Value) : Prop := ∃ (A : Option Addr) (c : Nat) (es : List EnR), cs = [.slice A es.length c] ∧ es.length ≤ c ∧ es.length ≤ 140737488351232 ∧ (∀ x ∈ es, x.Laid w) ∧ Sl w w.heap.size 20 A (es.map EnR.cells)
theorem dec_entries : Dec enc Tryz.prog w 22 (EnsOk w) :=
  (dec_slice (k := 20) Tryz.underlying22 (by kernel_rfl) (by omega) (of_decide_eq_true (by kernel_rfl)) dec_entry).imp fun cs ⟨A, c, xs, h1, h2, h3, h4, h5⟩ => by
    obtain ⟨l, rfl, hx⟩ := ens_of_rows xs h4
    rw [List.length_map] at h1 h2 h3
    exact ⟨A, c, l, h1, h2, h3, hx, h5⟩
end
end Go.Proofs.YtkjlakdjgpgekaaGreatDoor
