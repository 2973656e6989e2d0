/- Entries: the laws' copy of one. Conditions: the lengths. Lists of entries: the laws' copies, comparison and size of them. Conditions: the lists' lengths. Lists of entries: the laws' copies and comparison of them. Conditions: the lists' lengths. What a call may have changed: some blocks, and new ones. A great region whose open values are of any kind. Plain. The laws' marks on lists of entries: what they may have changed. Conditions: the lists' lengths, and what the list owns. The laws' marks on a list of entries. Conditions: the lists' lengths, and what the list owns. Facts on library bodies of this program, as the kit's own tool writes them: every line is read off the program by the kernel. No condition. The title of an entry: strings.Trim at the letters. Condition: the length. The title of an entry: the reference's test. Condition: the length. slices.ContainsFunc at []impl.Entry, at a predicate that only computes. Conditions: the lengths. An entry behind others: the closure that looks for the same title and version. No condition. Catalogues in plain words: an entry behind others, a catalogue, the latest of a title. No condition of their own. -/
import Derived.Laws.BytesArg
import Derived.Shelf.Lays
import Derived.Shelf.Strings.SlTrimAscii
import Derived.Test.YtendoabjjfinhaaGreatDoorProg
import Derived.Shelf.Abstract
import Derived.Test.YtendoabjjfinhaaGreatDoorKA1
import Derived.Test.YtendoabjjfinhaaGreatDoorKA3
import Derived.Test.YtendoabjjfinhaaGreatDoorKA5
import Derived.Test.YtendoabjjfinhaaGreatDoorKA8
set_option linter.unusedSimpArgs false
namespace Go.Proofs.YtendoabjjfinhaaGreatDoor
open Go.RowKit
theorem stores_cells' (g : Nat) : ∀ (vs : List Value) (p : Nat) (w : World), w.setCells g p vs = stores w g p vs
  | [], _, _ => rfl
  | _ :: r, p, _ => stores_cells' g r (p + 1) _
theorem fill_mid : ∀ (vs S P T : List Value), S.length = vs.length → fillL (P ++ S ++ T) P.length vs = P ++ vs ++ T
  | [], S, P, T, h => by
    obtain rfl : S = [] := List.eq_nil_of_length_eq_zero h
    rfl
  | v :: vs, [], P, T, h => by simp at h
  | v :: vs, s :: S, P, T, h => by
    have ih := fill_mid vs S (P ++ [v]) T (by simpa using h)
    unfold fillL
    rw [List.append_assoc, List.set_append_right _ _ (Nat.le_refl _), Nat.sub_self, List.cons_append, List.set_cons_zero]
    simpa using ih
/-- a struct stored into a part of a block: the world behind it by what it holds -/
theorem wpList_store_part {P : Program} {ops : Array Oper} {rest : List Oper} {op : Oper} {a : Act} {w : World} {Q : Exit → Act → World → Prop} (hgd : op.guard = none) (ty : TypeId) (x y : Operand) (ho : op.op = .store ty x y)
    (g o : Nat) (cs : List Value) (hx : a.eval x = .pointer (some ⟨g, o, none⟩)) (hy : a.eval y = .agg cs.toArray) {t : TypeId} {L : List Value} (hB : Blk w g t L.toArray) (hl : o + cs.length ≤ L.length)
    (hi : (P.info? ty).map (·.size) = some cs.length) (h1 : ∀ v ∈ cs, v.oneCell' = true)
    (h : ∀ w2, w.grownBy w2 (some g) → Blk w2 g t (fillL L o cs).toArray → wpList P ops Q rest (a.put op.dst undef) w2) : wpList P ops Q (op :: rest) a w := by
  refine wpList_store_mid hgd ty x y ho g o cs.toArray hx hy (fun j hj => ⟨?_, hB.frozen _⟩) (by simpa using hi) (all_oneCell_toArray h1) ?_
  · have hjl : o + j < L.length := by simp at hj; omega
    rw [hB.cell]
    simp [hjl]
  · have hc : w.setCells g o cs.toArray.toList = stores w g o cs := stores_cells' g cs o w
    rw [hc]
    exact h _ (grownBy_stores cs o (World.grownBy.refl w (some g))) (Blk.setL cs o hB)
def EnZ : List Value := [.string ⟨#[]⟩, .int .i64 0, .int .i64 0, .int .i64 0, .string ⟨#[]⟩, .slice none 0 0, .int .i64 0, .int .i64 0, .int .i64 0, .int .i64 0, .int .i64 0, .int .i64 0, .int .i64 0, .int .i64 0, .int .i64 0, .int .i64 0, .int .i64 0, .int .i64 0, .int .i64 0, .int .i64 0]
theorem toRlO_c (r : Rl) (A : Option Addr) (c : Nat) (w : World) (E : RlIn w A c r) : Calls Tryz.prog 49 #[.agg (r.cells A c).toArray] w fun e w' => ∃ B d, e = .returned (.agg (r.cells B d).toArray) ∧ RlIn w' B d r ∧ Own w' w.heap.size 2 1 (.slice B r.l.length d) (r.l.map ic) ∧ Below w.heap.size w w' :=
  (toRelease_c r.fd r.ft r.nm A c r.l r.wd r.lf r.rt r.lud r.lut r.hud r.hut r.lvd r.lvt r.hvd r.hvt r.ey r.bo w E.h E.s).mono fun _ _ ⟨B, d, he, o, hb⟩ => ⟨B, d, he, ⟨E.h, E.hn, o.sl⟩, o, hb⟩
theorem aggEn (W : World) : (isAgg 48).run Tryz.prog W = .ok true W := by simp [isAgg, go_sem]
theorem szEnC (W : World) : (sizeOf 48).run Tryz.prog W = .ok 20 W := by simp [go_sem]
set_option maxRecDepth 100000 in
theorem toEn_c (e : En) (A : Option Addr) (c : Nat) (w : World) (E : EnIn w A c e) :
    Calls Tryz.prog 10 #[.agg (e.cells A c).toArray] w fun x w' => ∃ B d, x = .returned (.agg (e.cells B d).toArray) ∧ EnIn w' B d e ∧ Own w' w.heap.size 2 1 (.slice B e.r.l.length d) (e.r.l.map ic) ∧ Below w.heap.size w w' := by
  have HT := Lib.hid (fun W (hW : Below w.heap.size w W) => toRlO_c e.r A c W (E.r.later hW))
  have h0 : (e.cells A c).toArray[0]? = some (.string e.ti) := rfl
  have h1 : (e.cells A c).toArray[1]? = some (.int .i64 e.ve) := rfl
  have h19 : (e.cells A c).toArray[19]? = some (.int .i64 e.ba) := rfl
  have hR : Hid (∀ W, Blk W w.heap.size 33 (e.cells A c).toArray → W.rangeAt w.heap.size 2 (e.r.cells A c) ∧ W.cell? ⟨w.heap.size, 19, none⟩ = some (.int .i64 e.ba)) := Lib.hid (fun W h => ⟨h.en.2.2.1, h.en.2.2.2⟩)
  have B0 := Blk.new w 33 (e.cells A c).toArray
  generalize e.r.cells A c = ra at *
  generalize (e.cells A c).toArray = ca at *
  have B1 := ((B0.alloc (.cells EnZ.toArray 48)).alloc (.cells [Value.string e.ti, .int .i64 e.ve, .int .i64 0, .int .i64 0, .string ⟨#[]⟩, .slice none 0 0, .int .i64 0, .int .i64 0, .int .i64 0, .int .i64 0, .int .i64 0, .int .i64 0, .int .i64 0, .int .i64 0, .int .i64 0, .int .i64 0, .int .i64 0, .int .i64 0, .int .i64 0, .int .i64 0].toArray 48))
  have x2 := (hR.out _ B1).1
  have hW : Below w.heap.size w (((w.alloc (.cells ca 33)).alloc (.cells EnZ.toArray 48)).alloc (.cells [Value.string e.ti, .int .i64 e.ve, .int .i64 0, .int .i64 0, .string ⟨#[]⟩, .slice none 0 0, .int .i64 0, .int .i64 0, .int .i64 0, .int .i64 0, .int .i64 0, .int .i64 0, .int .i64 0, .int .i64 0, .int .i64 0, .int .i64 0, .int .i64 0, .int .i64 0, .int .i64 0, .int .i64 0].toArray 48)) := (by repeat (first | with_reducible exact Below.refl _ _ | with_reducible apply below_drewN' | with_reducible apply Below.drew | (with_reducible refine Below.alloc ?_ (by first | omega | (simp; omega) | simp | (have := (Below.refl _ _).size; omega) | (have := (Below.refl _ _).size; simp; omega)) _) | (with_reducible refine Below.setCell ?_ (by first | omega | (simp; omega) | simp | (have := (Below.refl _ _).size; omega) | (have := (Below.refl _ _).size; simp; omega)) _) | exact Below.refl _ _))
  have C1 := (Blk.new' (w.alloc (.cells ca 33)) 48 EnZ.toArray (g := w.heap.size + 1) (by simp)).alloc (.cells [Value.string e.ti, .int .i64 e.ve, .int .i64 0, .int .i64 0, .string ⟨#[]⟩, .slice none 0 0, .int .i64 0, .int .i64 0, .int .i64 0, .int .i64 0, .int .i64 0, .int .i64 0, .int .i64 0, .int .i64 0, .int .i64 0, .int .i64 0, .int .i64 0, .int .i64 0, .int .i64 0, .int .i64 0].toArray 48)
  have D1 := Blk.new' ((w.alloc (.cells ca 33)).alloc (.cells EnZ.toArray 48)) 48 [Value.string e.ti, .int .i64 e.ve, .int .i64 0, .int .i64 0, .string ⟨#[]⟩, .slice none 0 0, .int .i64 0, .int .i64 0, .int .i64 0, .int .i64 0, .int .i64 0, .int .i64 0, .int .i64 0, .int .i64 0, .int .i64 0, .int .i64 0, .int .i64 0, .int .i64 0, .int .i64 0, .int .i64 0].toArray (g := w.heap.size + 1 + 1) (by simp)
  unfold EnZ at x2 B1 C1 D1 hW
  go_enter Tryz.func10, Tryz.ntmps10
  go_wp2_with (refine wpList_load_mid rfl 31 _ rfl (w.heap.size) 2 rfl (ra) _ x2 Tryz.underlying31 rfl (by kernel_rfl) ?_)
  have hc := HT.out _ hW
  generalize ((w.alloc (.cells ca 33)).alloc (.cells [Value.string ⟨#[]⟩, .int .i64 0, .int .i64 0, .int .i64 0, .string ⟨#[]⟩, .slice none 0 0, .int .i64 0, .int .i64 0, .int .i64 0, .int .i64 0, .int .i64 0, .int .i64 0, .int .i64 0, .int .i64 0, .int .i64 0, .int .i64 0, .int .i64 0, .int .i64 0, .int .i64 0, .int .i64 0].toArray 48)).alloc (.cells [Value.string e.ti, .int .i64 e.ve, .int .i64 0, .int .i64 0, .string ⟨#[]⟩, .slice none 0 0, .int .i64 0, .int .i64 0, .int .i64 0, .int .i64 0, .int .i64 0, .int .i64 0, .int .i64 0, .int .i64 0, .int .i64 0, .int .i64 0, .int .i64 0, .int .i64 0, .int .i64 0, .int .i64 0].toArray 48) = W at *
  clear h0 h1 h19 x2 B0 HT
  refine Calls.mono hc ?_; rintro x w1 ⟨B, d, rfl, Er, O, hb1⟩
  have hs1 := D1.lt
  replace B1 := B1.below hb1 B1.lt
  replace C1 := C1.below hb1 C1.lt
  replace D1 := D1.below hb1 D1.lt
  replace hW := hW.trans (hb1.mono hW.size)
  clear hb1
  have hge := O.ownGe
  have hol := e.r.len B d
  have hon := e.r.one B d
  have hcells : e.cells B d = [.string e.ti, .int .i64 e.ve] ++ e.r.cells B d ++ [.int .i64 e.ba] := rfl
  generalize e.r.cells B d = rb at *
  go_wp2_with (refine wpList_store_part rfl 46 _ _ rfl (w.heap.size + 1 + 1) 2 rb rfl rfl D1 (by rw [hol]; simp) (by rw [hol]; kernel_rfl) hon ?_; intro w2 hg2 D2; refine Hid.out ?_)
  refine Lib.hid ?_
  have D2' : Blk w2 (w.heap.size + 1 + 1) 48 (([Value.string e.ti, .int .i64 e.ve] ++ rb) ++ [Value.int .i64 0] ++ []).toArray := by
    have h := fill_mid rb [.int .i64 0, .int .i64 0, .string ⟨#[]⟩, .slice none 0 0, .int .i64 0, .int .i64 0, .int .i64 0, .int .i64 0, .int .i64 0, .int .i64 0, .int .i64 0, .int .i64 0, .int .i64 0, .int .i64 0, .int .i64 0, .int .i64 0, .int .i64 0] [Value.string e.ti, .int .i64 e.ve] [Value.int .i64 0] (by rw [hol]; rfl)
    rw [List.append_nil, ← h]
    exact D2
  have D3 : Blk (w2.setCell ⟨w.heap.size + 1 + 1, 19, none⟩ (.int .i64 e.ba)) (w.heap.size + 1 + 1) 48 (e.cells B d).toArray := by
    have h := Blk.setL [.int .i64 e.ba] 19 D2'
    have hf := fill_mid [.int .i64 e.ba] [Value.int .i64 0] ([Value.string e.ti, .int .i64 e.ve] ++ rb) [] rfl
    rw [show ([Value.string e.ti, .int .i64 e.ve] ++ rb).length = 19 by simp [hol]] at hf
    rw [hf, List.append_nil] at h
    rw [hcells]
    exact h
  have B2 : Blk w2 w.heap.size 33 ca := (hg2.block _ B1.lt (by simp; omega)).trans B1
  have C2 := (hg2.block _ C1.lt (by first | (simp; done) | (simp; omega))).trans C1
  have C2 : Blk w2 (w.heap.size + 1) 48 EnZ.toArray := C2
  have O2 := O.kept hg2 (.inr (fun h => by have := hge _ h; omega))
  have hW2 : Below w.heap.size w w2 := hW.grown hg2 hW.size (fun g hh => by simp only [Option.some.injEq] at hh; omega)
  have x19 := (hR.out w2 B2).2
  have y19 : w2.cell? ⟨w.heap.size + 1 + 1, 19, none⟩ = some (.int .i64 0) := by
    rw [D2'.cell]
    simp [hol]
  have yf19 : w2.frozen? ⟨w.heap.size + 1 + 1, 19, none⟩ = false := D2'.frozen 19
  have C3 := C2.far (p := ⟨w.heap.size + 1 + 1, 19, none⟩) (by first | omega | (simp; omega) | simp) (.int .i64 e.ba)
  have O3 : Own (w2.setCell ⟨w.heap.size + 1 + 1, 19, none⟩ (.int .i64 e.ba)) W.heap.size 2 1 (.slice B e.r.l.length d) (e.r.l.map ic) := own_far O2 (by first | omega | (simp; omega))
  have hW3 : Below w.heap.size w (w2.setCell ⟨w.heap.size + 1 + 1, 19, none⟩ (.int .i64 e.ba)) := (by repeat (first | with_reducible exact hW2 | with_reducible apply below_drewN' | with_reducible apply Below.drew | (with_reducible refine Below.alloc ?_ (by first | omega | (simp; omega) | simp | (have := (hW2).size; omega) | (have := (hW2).size; simp; omega)) _) | (with_reducible refine Below.setCell ?_ (by first | omega | (simp; omega) | simp | (have := (hW2).size; omega) | (have := (hW2).size; simp; omega)) _) | exact hW2))
  have hr3 := D3.range
  have hel := e.len B d
  have heo := e.one B d
  generalize hec : e.cells B d = ec at *
  replace hec := Lib.hid hec
  clear D2 D2' B1 C1 D1 hR B2 C2 O O2 hW hg2 hcells
  go_wp2_with (first | (refine wpList_load_mid rfl 48 _ rfl (w.heap.size + 1 + 1) 0 rfl (ec) _ hr3 Tryz.underlying48 rfl (by kernel_rfl) ?_) | (refine wpList_store_part rfl 48 _ _ rfl (w.heap.size + 1) 0 ec rfl rfl C3 (by rw [hel]; exact Nat.le_refl _) (by rw [hel]; kernel_rfl) heo ?_; intro w4 hg4 D4; refine Hid.out ?_))
  refine Lib.hid ?_
  have D5 : Blk w4 (w.heap.size + 1) 48 ec.toArray := by
    have h := fill_mid ec EnZ [] [] (by rw [hel]; rfl)
    simp only [List.nil_append, List.append_nil, List.length_nil] at h
    rw [← h]
    exact D4
  have O4 := O3.kept hg4 (.inr (fun h => by have := hge _ h; omega))
  have hW4 : Below w.heap.size w w4 := hW3.grown hg4 hW3.size (fun g hh => by simp only [Option.some.injEq] at hh; omega)
  have hs2 : w.heap.size ≤ W.heap.size := by omega
  clear D3 D4 C3 O3 hW2 hW3 hr3 x19 y19 yf19
  go_wp2_with fail
  refine bodyPost_ret (res_cells (k := 2) (vs := ec) Tryz.results10 rfl (aggEn w4) (by rw [hel]; exact szEnC w4) D5) rfl ⟨B, d, by rw [hec.out], ⟨E.t, Er.h, Er.hn, O4.sl⟩, O4.mono hs2, hW4⟩
end Go.Proofs.YtendoabjjfinhaaGreatDoor
namespace Go.Proofs.YtendoabjjfinhaaGreatDoor
open Go.RowKit
/-- an entry and where its list lies -/
structure EnR where
  e : En
  A : Option Addr
  c : Nat
def EnR.cells (x : EnR) : List Value := x.e.cells x.A x.c
def EnR.In (x : EnR) (w : World) : Prop := EnIn w x.A x.c x.e
def EnR.Laid (x : EnR) (w : World) : Prop := EnLaid w x.A x.c x.e
def ens (l : List EnR) : List En := l.map EnR.e
structure EnsIn (w : World) (A : Option Addr) (es : List EnR) : Prop where
  n : es.length ≤ 1048576
  s : Sl w w.heap.size 20 A (es.map EnR.cells)
  i : ∀ e ∈ es, e.In w
theorem EnsIn.later {w W : World} {A : Option Addr} {es : List EnR} (h : EnsIn w A es) (hW : Below w.heap.size w W) : EnsIn W A es := ⟨h.n, (h.s.below hW).more hW.size, fun e he => EnIn.later (h.i e he) hW⟩
def OffE (A : Option Addr) (g : Nat) : Prop := ∀ b off, A = some ⟨b, off, none⟩ → b ≠ g
theorem offE_own {w : World} {base : Nat} {e : TypeId} {k g n c : Nat} {A : Option Addr} {xs : List (List Value)} (h : Own w base e k (.slice A n c) xs) (hg : g < base) : OffE A g := fun b off hA => by
  subst hA
  have := h.1.lt b rfl
  omega
theorem sl_farE {w : World} {B k : Nat} {A : Option Addr} {xs : List (List Value)} {g j : Nat} {u : Value} (h : Sl w B k A xs) (ho : OffE A g) : Sl (w.setCell ⟨g, j, none⟩ u) B k A xs := fun i x hx => by
  obtain ⟨hl, b, off, e, hb, hc⟩ := h i x hx
  exact ⟨hl, b, off, e, hb, fun jj v hv => (World.cell?_setCell_far _ _ _ _ (Ne.symm (ho b off e))).trans (hc jj v hv)⟩
theorem EnR.In.far {x : EnR} {w : World} {g j : Nat} {u : Value} (h : x.In w) (hf : OffE x.A g) : x.In (w.setCell ⟨g, j, none⟩ u) := by
  have hz : (w.setCell ⟨g, j, none⟩ u).heap.size = w.heap.size := by simp
  exact ⟨h.t, h.r.h, h.r.hn, by rw [hz]; exact sl_farE h.r.s hf⟩
theorem EnR.In.stores {x : EnR} {g : Nat} (hf : OffE x.A g) : ∀ (cs : List Value) (p : Nat) {w : World}, x.In w → x.In (stores w g p cs)
  | [], _, _, h => h
  | _ :: vs, p, _, h => EnR.In.stores hf vs (p + 1) (h.far hf)
/-- a row of a slice of structs, as a range -/
theorem Sl.rg {w : World} {B k : Nat} {A : Option Addr} {xs : List (List Value)} (h : Sl w B k A xs) {i : Nat} (hi : i < xs.length) : ∃ b off, A = some ⟨b, off, none⟩ ∧ b < B ∧ w.rangeAt b (off + i * k) xs[i] := h.at_ hi
theorem rangeAt_below {B : Nat} {w w' : World} {b o : Nat} {cs : List Value} (h : w.rangeAt b o cs) (hb : Below B w w') (hB : b < B) : w'.rangeAt b o cs := fun j v hv => by rw [hb.cell hB]; exact h j v hv
set_option maxRecDepth 100000 in
theorem szEnS_c (A : Option Addr) (c : Nat) (es : List EnR) (left : Int) (w : World) (hn : es.length ≤ 140737488351232) (hi : ∀ e ∈ es, e.Laid w) (hs : Sl w w.heap.size 20 A (es.map EnR.cells)) (hl : 0 ≤ left ∧ left ≤ 1048576) :
    Calls Tryz.prog 6 #[.slice A es.length c, .int .i64 left] w (SzP left (es.length ≤ 1048576 ∧ ∀ e ∈ es, e.e.short) w) := by
  obtain ⟨h1, h2⟩ := hl
  by_cases h : left < es.length
  · have h' : left - es.length < 0 := by omega
    go_enter Tryz.func6, Tryz.ntmps6
    go_wp2
    go_ret
    exact ⟨⟨-1, rfl, .inl (by omega)⟩, Below.refl _ _⟩
  · have h' : ¬ left - es.length < 0 := by omega
    go_enter Tryz.func6, Tryz.ntmps6
    go_wp2_with fail
    go_loopw [1, 5] (fun a i wr => ∃ (k : Nat) (m : Int), k ≤ es.length ∧ i = .int .i64 k ∧ a = .int .i64 m ∧ (0 ≤ m ∧ m ≤ left) ∧ (∀ j (e : EnR), j < k → es[j]? = some e → e.e.short) ∧ Below w.heap.size w wr) (fun _ i _ => es.length - (intOf i).toNat)
    case atStart => exact ⟨0, _, Nat.zero_le _, rfl, rfl, by omega, fun _ _ h => by omega, Below.refl _ _⟩
    case round =>
      obtain ⟨k, m, hk, rfl, rfl, hm, hsh, hb⟩ := hrel
      have hm1 := hm.1
      have hm2 := hm.2
      have hsh := Lib.hid hsh
      by_cases hlt : k < es.length
      · obtain ⟨b, off, rfl, hbB, hc⟩ := hs.rg (i := k) (by simpa using hlt)
        simp only [List.getElem_map] at hc
        replace hc := rangeAt_below hc hb hbB
        have X : es[k].Laid wr := EnLaid.later (hi es[k] (List.getElem_mem hlt)) hb
        have HZ := Lib.hid (szEn_c es[k].e es[k].A es[k].c m wr X (by omega))
        have hcl : es[k].cells.length = 20 := rfl
        have HS : Hid (es[k].e.short → ∀ j (e : EnR), j < k + 1 → es[j]? = some e → e.e.short) := fun hx j e hj he => by
          by_cases hjk : j < k
          · exact hsh.out j e hjk he
          · obtain rfl : j = k := by omega
            rw [List.getElem?_eq_getElem hlt] at he
            cases he
            exact hx
        clear hi X hs hsh
        have hcd : es[k].e.cells es[k].A es[k].c = es[k].cells := rfl
        rw [hcd] at HZ
        clear hcd
        generalize es[k].cells = cs at *
        generalize es[k].e.short = sh at *
        go_wp2_with (first | (refine wpList_load_mid rfl 33 _ rfl (b) (off + k * 20) rfl (cs) _ hc Tryz.underlying33 rfl (by kernel_rfl) ?_) | (go_at_call 7; refine Calls.mono HZ.out ?_; rintro e w1 ⟨⟨v, rfl, hv⟩, hb1⟩; rcases hv with hv | ⟨hv0, hvl, hlen⟩))
        · go_wp2
          go_ret
          exact ⟨⟨-1, rfl, .inl (by omega)⟩, hb.trans (hb1.mono hb.size)⟩
        · have hvn : ¬ v < 0 := by omega
          go_wp2
          go_roundw
          case rel => exact ⟨k + 1, v, by omega, by go_num, rfl, by omega, HS.out hlen, hb.trans (hb1.mono hb.size)⟩
          case measure => simp [intOf]; omega
      · have : k = es.length := by omega
        subst this
        go_wp2
        go_ret
        exact ⟨⟨m, rfl, .inr ⟨by omega, by omega, by omega, fun e he => by
          obtain ⟨j, hj, rfl⟩ := List.getElem_of_mem he
          exact hsh.out j _ hj (List.getElem?_eq_getElem hj)⟩⟩, hb⟩
end Go.Proofs.YtendoabjjfinhaaGreatDoor
namespace Go.Proofs.YtendoabjjfinhaaGreatDoor
open Go.RowKit
def EnR.sl (x : EnR) : Value := .slice x.A x.e.r.l.length x.c
/-- two entries whose powers lie apart -/
def EnR.apart (x y : EnR) : Prop := ∀ g, x.sl.ownBlock = some g → y.sl.ownBlock ≠ some g
theorem own_ne_of_off {w : World} {base : Nat} {e : TypeId} {k n c g : Nat} {A : Option Addr} {xs : List (List Value)} (h : Own w base e k (.slice A n c) xs) (ho : OffE A g) : (Value.slice A n c).ownBlock = none ∨ (Value.slice A n c).ownBlock ≠ some g := by
  rcases h.1.2 with ⟨hv, _⟩ | ⟨b, cap, cur, hv, _⟩
  · obtain ⟨rfl, _, _⟩ : A = none ∧ _ ∧ _ := by simpa using hv
    exact .inl rfl
  · obtain ⟨rfl, _, _⟩ : A = some ⟨b, 0, none⟩ ∧ _ ∧ _ := by simpa using hv
    refine .inr fun hh => ?_
    have hb : b = g := by simpa [Value.ownBlock] using hh
    exact ho b 0 rfl hb
theorem info_Entry : (Tryz.prog.info? 48).map (fun i => (i.zero, i.size, i.bytes)) = some (some (.agg EnZ.toArray), 20, 192) := by kernel_rfl
/-- copies so far: k of them, in block g -/
structure CopyE (w : World) (es : List EnR) (g k : Nat) (fs : List EnR) (wr : World) : Prop where
  hb : Below w.heap.size w wr
  fk : fs.length = k
  o : Own wr w.heap.size 48 20 (.slice (some ⟨g, 0, none⟩) es.length es.length) (fs.map EnR.cells ++ List.replicate (es.length - k) EnZ)
  i : ∀ f ∈ fs, f.In wr ∧ OffE f.A g
  s : ens fs = (ens es).take k
  p : ∀ f ∈ fs, Own wr w.heap.size 2 1 f.sl (f.e.r.l.map ic)
  d : fs.Pairwise EnR.apart
theorem CopyE.below {w : World} {es : List EnR} {g k : Nat} {fs : List EnR} {wr w2 : World} (h : CopyE w es g k fs wr) (hb : Below wr.heap.size wr w2) : CopyE w es g k fs w2 :=
  ⟨h.hb.trans (hb.mono h.hb.size), h.fk, h.o.below hb, fun f hf => ⟨EnIn.later (h.i f hf).1 hb, (h.i f hf).2⟩, h.s, fun f hf => (h.p f hf).below hb, h.d⟩
theorem rowsE_put {xs : List (List Value)} {z x : List Value} {k n : Nat} (hk : xs.length = k) (hn : k < n) : (xs ++ List.replicate (n - k) z).set k x = (xs ++ [x]) ++ List.replicate (n - (k + 1)) z := by
  subst hk
  rw [List.set_append_right _ _ (Nat.le_refl _), Nat.sub_self]
  obtain ⟨m, hm⟩ : ∃ m, n - xs.length = m + 1 := ⟨n - xs.length - 1, by omega⟩
  rw [hm, show n - (xs.length + 1) = m from by omega, List.replicate_succ, List.set_cons_zero]
  simp
theorem CopyE.next {w : World} {es : List EnR} {g k : Nat} {fs : List EnR} {w2 : World} (h : CopyE w es g k fs w2) (hk : k < es.length) {f : EnR} (hf : f.e = es[k].e) (hi : f.In w2) (hff : OffE f.A g) (hg : w.heap.size ≤ g)
    {B : Nat} (ho : Own w2 B 2 1 f.sl (f.e.r.l.map ic)) (hBw : w.heap.size ≤ B) (hB : ∀ x ∈ fs, ∀ b, x.sl.ownBlock = some b → b < B) :
    CopyE w es g (k + 1) (fs ++ [f]) (stores w2 g (k * 20) f.cells) := by
  have hst := grownBy_stores f.cells (k * 20) (World.grownBy.refl w2 (some g))
  refine ⟨stores_below hg f.cells (k * 20) h.hb, by simp [h.fk], ?_, fun x hx => ?_, ?_, fun x hx => ?_, ?_⟩
  · have h' := h.o.store (i := k) (by simp [h.fk]; omega) f.cells rfl
    rw [rowsE_put (by simp [h.fk]) hk] at h'
    rw [List.map_append]
    exact h'
  · rcases List.mem_append.1 hx with hx | hx
    · exact ⟨EnR.In.stores (h.i x hx).2 _ _ (h.i x hx).1, (h.i x hx).2⟩
    · obtain rfl : x = f := by simpa using hx
      exact ⟨EnR.In.stores hff _ _ hi, hff⟩
  · have hkl : k < (ens es).length := by simpa [ens] using hk
    rw [List.take_succ_eq_append_getElem hkl, ← h.s]
    simp [ens, hf]
  · rcases List.mem_append.1 hx with hx | hx
    · exact (h.p x hx).kept hst (own_ne_of_off (h.p x hx) (h.i x hx).2)
    · obtain rfl : x = f := by simpa using hx
      exact (ho.mono hBw).kept hst (own_ne_of_off ho hff)
  · rw [List.pairwise_append]
    refine ⟨h.d, List.pairwise_singleton _ _, fun x hx y hy => ?_⟩
    obtain rfl : y = f := by simpa using hy
    intro b hb hy2
    have h1 := hB x hx b hb
    have h2 := ho.ownGe b hy2
    omega
/-- a copy of a list of entries -/
def EnsCopy (es : List EnR) (v : Value) (w' : World) (base : Nat) : Prop := ∃ A' c' fs, v = .slice A' es.length c' ∧ fs.length = es.length ∧ ens fs = ens es ∧ es.length ≤ c' ∧ EnsIn w' A' fs ∧ Own w' base 48 20 (.slice A' es.length c') (fs.map EnR.cells)
theorem EnsCopy.below {es : List EnR} {v : Value} {w w' : World} {base : Nat} (h : EnsCopy es v w base) (hb : Below w.heap.size w w') : EnsCopy es v w' base := by
  obtain ⟨A', c', fs, h1, h2, h3, h4, h5, h6⟩ := h
  exact ⟨A', c', fs, h1, h2, h3, h4, h5.later hb, h6.below hb⟩
/-- the same, and what the copy owns: its powers, each apart from the others -/
def EnsCopyO (es : List EnR) (v : Value) (w' : World) (base : Nat) : Prop := ∃ A' c' fs, v = .slice A' es.length c' ∧ fs.length = es.length ∧ ens fs = ens es ∧ es.length ≤ c' ∧ EnsIn w' A' fs ∧ Own w' base 48 20 (.slice A' es.length c') (fs.map EnR.cells) ∧
  (∀ f ∈ fs, Own w' base 2 1 f.sl (f.e.r.l.map ic) ∧ ∀ g, A' = some ⟨g, 0, none⟩ → OffE f.A g) ∧ fs.Pairwise EnR.apart
/-- a struct stored into a row of a slice of one's own -/
theorem wpList_store_row {P : Program} {ops : Array Oper} {rest : List Oper} {op : Oper} {a : Act} {w : World} {Q : Exit → Act → World → Prop} (hgd : op.guard = none) (ty : TypeId) (x y : Operand) (ho : op.op = .store ty x y)
    (g o : Nat) (cs : List Value) (hx : a.eval x = .pointer (some ⟨g, o, none⟩)) (hy : a.eval y = .agg cs.toArray) (ht : ∀ j, j < cs.length → ∃ v, w.cell? ⟨g, o + j, none⟩ = some v) (hf : ∀ j, w.frozen? ⟨g, j, none⟩ = false)
    (hi : (P.info? ty).map (·.size) = some cs.length) (h1 : ∀ v ∈ cs, v.oneCell' = true)
    (h : wpList P ops Q rest (a.put op.dst undef) (stores w g o cs)) : wpList P ops Q (op :: rest) a w := by
  refine wpList_store_mid hgd ty x y ho g o cs.toArray hx hy (fun j hj => ⟨?_, hf _⟩) (by simpa using hi) (all_oneCell_toArray h1) ?_
  · obtain ⟨v, hv⟩ := ht j (by simpa using hj)
    rw [hv]
    rfl
  · have hc : w.setCells g o cs.toArray.toList = stores w g o cs := stores_cells' g cs o w
    rw [hc]
    exact h
set_option maxRecDepth 100000 in
theorem toEnSO_c (A : Option Addr) (c : Nat) (es : List EnR) (w : World) (E : EnsIn w A es) :
    Calls Tryz.prog 9 #[.slice A es.length c] w fun e w' => (∃ v, e = .returned v ∧ EnsCopyO es v w' w.heap.size) ∧ Below w.heap.size w w' := by
  obtain ⟨i0, hi, hz0, hz1, hz2⟩ := info_parts info_Entry
  have hl := E.n
  have hs := E.s
  have hin := Lib.hid E.i
  go_enter Tryz.func9, Tryz.ntmps9
  go_wp2_with (refine wpList_make_full _ rfl (.tmp 6) (.tmp 6) 36 rfl w.heap.size 48 i0 _ 20 Tryz.underlying36 hi hz0 hz1 .i64 .i64 _ _ es.length rfl rfl rfl rfl (by rw [hz2]; omega) (by unfold maxLen; omega) (Nat.le_refl _) ?_; intro w1 hown hg)
  have hb1 : Below w.heap.size w w1 := (Below.refl _ _).grown hg (Nat.le_refl _) (fun k h => by cases h)
  have hO : CopyE w es w.heap.size 0 [] w1 := by
    refine ⟨hb1, rfl, ⟨?_, by simp [EnZ]⟩, by simp, by simp [ens], by simp, List.Pairwise.nil⟩
    rw [made_rows _ 20 _ rfl (by omega)] at hown
    simpa [Value.cells] using hown
  clear hown hg hb1
  generalize hgs : w.heap.size = g at hO ⊢
  rw [hgs] at hs
  go_loopw [4] (fun i wr => ∃ (k : Nat) (fs : List EnR), k ≤ es.length ∧ i = .int .i64 k ∧ CopyE w es g k fs wr) (fun i _ => es.length - (intOf i).toNat)
  case atStart => exact ⟨0, [], Nat.zero_le _, rfl, hO⟩
  case round =>
    obtain ⟨k, fs, hk, rfl, hO⟩ := hrel
    by_cases hlt : k < es.length
    · have hb := hO.hb
      obtain ⟨b, off, rfl, hbB, hc⟩ := hs.rg (i := k) (by simpa using hlt)
      simp only [List.getElem_map] at hc
      rw [← hgs] at hbB
      replace hc := rangeAt_below hc hb hbB
      have EI : es[k].In wr := EnIn.later (hin.out es[k] (List.getElem_mem hlt)) hb
      have HT := Lib.hid (toEn_c es[k].e es[k].A es[k].c wr EI)
      have hcd : es[k].e.cells es[k].A es[k].c = es[k].cells := rfl
      rw [hcd] at HT
      have hcl : es[k].cells.length = 20 := rfl
      have hgl : g < wr.heap.size := hO.o.block_ge.2
      have hBl : ∀ x ∈ fs, ∀ b, x.sl.ownBlock = some b → b < wr.heap.size := fun x hx b hb => ((hO.p x hx).1.lt b hb).2
      have hws : w.heap.size ≤ wr.heap.size := hO.hb.size
      replace hBl := Lib.hid hBl
      have HO := Lib.hid hO
      have hfk := hO.fk
      clear EI hcd
      generalize es[k].cells = cs at *
      go_wp2_with (first | (refine wpList_load_mid rfl 33 _ rfl (b) (off + k * 20) rfl (cs) _ hc Tryz.underlying33 rfl (by kernel_rfl) ?_) | (go_at_call 10; refine Calls.mono HT.out ?_; rintro e w2 ⟨B, d, rfl, E2, o2, hb2⟩; refine Hid.out ?_))
      refine Lib.hid ?_
      have hO2 := HO.out.below hb2
      have hnx := hO2.next hlt (f := ⟨es[k].e, B, d⟩) rfl E2 (offE_own o2 hgl) (by omega) o2 hws hBl.out
      have hkl : k < (fs.map EnR.cells ++ List.replicate (es.length - k) EnZ).length := by simp [hfk]; omega
      have hce := fun j (hj : j < 20) => hO2.o.cell (i := k) (j := j) hkl hj
      have hfz := fun j => hO2.o.frozen j
      have hel := es[k].e.len B d
      have heo := es[k].e.one B d
      have hcd : (EnR.cells ⟨es[k].e, B, d⟩) = es[k].e.cells B d := rfl
      rw [hcd] at hnx
      replace hnx := Lib.hid hnx
      generalize es[k].e.cells B d = ec at *
      clear hO2 HO hO E2 o2 HT hc hcd
      go_wp2_with (refine wpList_store_row rfl 48 _ _ rfl g (k * 20) ec rfl rfl (fun j hj => hce j (by omega)) hfz (by rw [hel]; kernel_rfl) heo ?_)
      go_roundw
      case rel => exact ⟨k + 1, _, by omega, by go_num, hnx.out⟩
      case measure => simp [intOf]; omega
    · have : k = es.length := by omega
      subst this
      go_wp2
      go_ret
      have ho := hO.o
      rw [Nat.sub_self, List.replicate_zero, List.append_nil] at ho
      have hb := hO.hb
      have hs2 : ens fs = ens es := by have := hO.s; rwa [show es.length = (ens es).length by simp [ens], List.take_length] at this
      subst hgs
      have hof : ∀ f ∈ fs, ∀ g', (some ⟨w.heap.size, 0, none⟩ : Option Addr) = some ⟨g', 0, none⟩ → OffE f.A g' := fun f hf g' e => by
        have e1 : w.heap.size = g' := by simpa using e
        rw [← e1]
        exact (hO.i f hf).2
      exact ⟨⟨_, rfl, _, _, fs, rfl, hO.fk, hs2, Nat.le_refl _, ⟨by rw [hO.fk]; exact hl, ho.sl, fun f hf => (hO.i f hf).1⟩, ho, fun f hf => ⟨hO.p f hf, hof f hf⟩, hO.d⟩, hb⟩
theorem EnsCopyO.weak {es : List EnR} {v : Value} {w' : World} {base : Nat} (h : EnsCopyO es v w' base) : EnsCopy es v w' base := by
  obtain ⟨A', c', fs, h1, h2, h3, h4, h5, h6, _⟩ := h
  exact ⟨A', c', fs, h1, h2, h3, h4, h5, h6⟩
theorem toEnS_c (A : Option Addr) (c : Nat) (es : List EnR) (w : World) (E : EnsIn w A es) :
    Calls Tryz.prog 9 #[.slice A es.length c] w fun e w' => (∃ v, e = .returned v ∧ EnsCopy es v w' w.heap.size) ∧ Below w.heap.size w w' :=
  (toEnSO_c A c es w E).mono fun _ _ ⟨⟨v, h1, h2⟩, h3⟩ => ⟨⟨v, h1, h2.weak⟩, h3⟩
end Go.Proofs.YtendoabjjfinhaaGreatDoor
namespace Go.Proofs.YtendoabjjfinhaaGreatDoor
open Go.RowKit
structure Kb (bad : Nat → Prop) (w w' : World) : Prop where
  os : w'.os = w.os
  tape : w'.tape = w.tape
  output : w'.output = w.output
  size : w.heap.size ≤ w'.heap.size
  block : ∀ k, k < w.heap.size → ¬ bad k → w'.heap[k]? = w.heap[k]?
section
variable {bad : Nat → Prop} {w w' w1 w2 a : World} {B g base k : Nat} {t e : TypeId} {cs : Array Value} {u : Value} {xs : List (List Value)} {r : Option Nat}
theorem Kb.of_grown (h : w.grownBy w' r) (hr : ∀ k, some k = r → bad k) : Kb bad w w' := ⟨h.os, h.tape, h.output, h.size, fun k hk hn => h.block k hk (fun e => hn (hr k e))⟩
theorem Kb.of_below (h : Below w.heap.size w w') : Kb bad w w' := ⟨h.os, h.tape, h.output, h.size, fun k hk _ => h.block k hk⟩
theorem Kb.trans (h1 : Kb bad w w1) (h2 : Kb bad w1 w2) : Kb bad w w2 := ⟨h2.os.trans h1.os, h2.tape.trans h1.tape, h2.output.trans h1.output, Nat.le_trans h1.size h2.size, fun k hk hn => (h2.block k (Nat.lt_of_lt_of_le hk h1.size) hn).trans (h1.block k hk hn)⟩
theorem below_kb (h : Below B a w) (hk : Kb bad w w') (hB : B ≤ w.heap.size) (hn : ∀ k, k < B → ¬ bad k) : Below B a w' :=
  ⟨hk.os.trans h.os, hk.tape.trans h.tape, hk.output.trans h.output, Nat.le_trans h.size hk.size, fun k hkB => (hk.block k (by omega) (hn k hkB)).trans (h.block k hkB)⟩
theorem Blk.kb (h : Blk w g t cs) (hk : Kb bad w w') (hn : ¬ bad g) : Blk w' g t cs := (hk.block g h.lt hn).trans h
theorem own_lt' (h : Own w base e k u xs) : ∀ x, u.ownBlock = some x → x < w.heap.size := fun x hx => (h.1.lt x hx).2
theorem Own.kb (h : Own w base e k u xs) (hk : Kb bad w w') (hn : ∀ x, u.ownBlock = some x → ¬ bad x) : Own w' base e k u xs := by
  obtain ⟨⟨h1, h2⟩, h3⟩ := h
  refine ⟨⟨h1, ?_⟩, h3⟩
  rcases h2 with h2 | ⟨g, cap, cur, hv, hg, hh, r⟩
  · exact Or.inl h2
  · refine Or.inr ⟨g, cap, cur, hv, hg, ?_, r⟩
    have hlt : g < w.heap.size := by
      rcases Nat.lt_or_ge g w.heap.size with hlt | hge
      · exact hlt
      · rw [Array.getElem?_eq_none hge] at hh; cases hh
    rw [hk.block g hlt (hn g (by rw [hv]; rfl))]
    exact hh
end
theorem region_fx {X : Type} {P : Program} {Q : Exit → Act → World → Prop} {l : List Oper} (n : Nat) {id : Nat} {w : World} {slots : List Value} {d : List Deferred}
    (fr : (Nat → Bool) → List Value → X → List Value) (S : (Nat → Bool) → X → World → Prop) (hm : P.follows .mixedOrders = true) (hB : backB .any l.toArray = true) (hn : n = l.length)
    (x0 : X) (h00 : fr (fun _ => false) slots x0 = slots) (h0 : S (fun _ => false) x0 w.drew)
    (hI : ∀ f x v, S f x v → ∀ i, i < n → f i = false → ∀ o, l.toArray[i]? = some o → (∀ e ∈ o.after, Region.binds .any e = true → f e.on = true) → wpOp P l.toArray Q i (fun a' w' => ∃ x', a' = ⟨(fr (upd f i) slots x').toArray, d⟩ ∧ S (upd f i) x' w') ⟨(fr f slots x).toArray, d⟩ v)
    (hE : ∀ f x v, S f x v → (∀ i, i < n → f i = true) → Q .normal ⟨(fr f slots x).toArray, d⟩ v) : (Code.region id l.toArray true).wp P Q ⟨slots.toArray, d⟩ w := by
  subst hn
  exact wp_region_all (fun _ f b v => ∃ x, b = ⟨(fr f slots x).toArray, d⟩ ∧ S f x v) hm hB ⟨x0, by rw [h00], h0⟩
    (fun f b v ⟨x, hb, hS⟩ i hi hf o ho ha => by subst hb; exact hI f x v hS i hi hf o ho ha)
    (fun f b v ⟨x, hb, hS⟩ hall => by subst hb; exact hE f x v hS hall)
end Go.Proofs.YtendoabjjfinhaaGreatDoor
namespace Go.Proofs.YtendoabjjfinhaaGreatDoor
open Go.RowKit
def Nb (lo hi : Nat) (k : Nat) : Prop := lo ≤ k ∧ k < hi
theorem kb_set {w : World} {bad : Nat → Prop} {g o : Nat} {u : Value} (h : bad g) : Kb bad w (w.setCell ⟨g, o, none⟩ u) :=
  Kb.of_grown (r := some g) (grownBy_stores [u] o (World.grownBy.refl w (some g))) (fun k hk => by cases hk; exact h)
theorem own_set {w : World} {base : Nat} {e : TypeId} {k g o : Nat} {u v : Value} {xs : List (List Value)} (h : Own w base e k v xs) (hn : v.ownBlock = none ∨ v.ownBlock ≠ some g) : Own (w.setCell ⟨g, o, none⟩ u) base e k v xs :=
  h.kept (grownBy_stores [u] o (World.grownBy.refl w (some g))) hn
/-- a value of one cell stored -/
theorem wpList_store_cell {P : Program} {ops : Array Oper} {rest : List Oper} {op : Oper} {a : Act} {w : World} {Q : Exit → Act → World → Prop} (hgd : op.guard = none) (ty : TypeId) (x y : Operand) (ho : op.op = .store ty x y)
    (g o : Nat) (v : Value) (hx : a.eval x = .pointer (some ⟨g, o, none⟩)) (hy : a.eval y = v) (hv : (∃ k n, v = .int k n) ∨ ∃ s, v = .string s) (hsz : ∀ w, (sizeOf ty).run P w = .ok 1 w) {u : Value} (hc : w.cell? ⟨g, o, none⟩ = some u) (hf : w.frozen? ⟨g, o, none⟩ = false)
    (h : wpList P ops Q rest (a.put op.dst undef) (w.setCell ⟨g, o, none⟩ v)) : wpList P ops Q (op :: rest) a w := by
  refine wpList_plain hgd fun K hK => ?_
  unfold Oper.wp execOp
  rcases hv with ⟨k, n, rfl⟩ | ⟨s, rfl⟩
  · simp only [ho, hx, hy]
    simp [go_sem, hc, hf, hsz]
    exact hK _ _ h
  · simp only [ho, hx, hy]
    simp [go_sem, hc, hf, hsz]
    exact hK _ _ h
/-- the text of a mark -/
def markLoop : Nat → Nat → ByteArray → ByteArray
  | 0, _, t => t
  | f + 1, k, t => if k = 0 then t else markLoop f (k / 10) (strOfNums [48 + (k : Int) % 10] ++ t)
theorem markLoop_zero (f : Nat) (t : ByteArray) : markLoop f 0 t = t := by
  cases f <;> simp [markLoop]
theorem markLoop_succ (f k : Nat) (t : ByteArray) (h : k ≠ 0) : markLoop (f + 1) k t = markLoop f (k / 10) (strOfNums [48 + (k : Int) % 10] ++ t) := by
  conv => lhs; unfold markLoop
  rw [if_neg h]
def markT (m : Int) : ByteArray := if m ≤ 0 then ⟨#[109, 48]⟩ else ⟨#[109]⟩ ++ markLoop m.toNat m.toNat ⟨#[]⟩
set_option maxRecDepth 100000 in
theorem markInt64B_c (A : Option Addr) (c base : Nat) (m : Int) (xs : List (List Value)) (w : World) (hm : 0 ≤ m ∧ m ≤ 1000000000000000) (hl : xs.length ≤ 10000000) (hO : Own w base 2 1 (.slice A xs.length c) xs) :
    Calls Tryz.prog 55 #[.slice A xs.length c, .int .i64 m] w fun e w' => e = .returned (.int .i64 (m + xs.length)) ∧ Own w' base 2 1 (.slice A xs.length c) ((List.range xs.length).map (markInt64 m)) ∧ w.grownBy w' (Value.slice A xs.length c).ownBlock := by
  go_enter Tryz.func55, Tryz.ntmps55
  go_wp2_with fail
  go_loopw [1, 5] (fun q i wr => ∃ k : Nat, k ≤ xs.length ∧ i = .int .i64 k ∧ q = .int .i64 (m + k) ∧ w.grownBy wr (Value.slice A xs.length c).ownBlock ∧
      Own wr base 2 1 (.slice A xs.length c) ((List.range k).map (markInt64 m) ++ xs.drop k)) (fun _ i _ => xs.length - (intOf i).toNat)
  case atStart => exact ⟨0, Nat.zero_le _, rfl, by simp, World.grownBy.refl _ _, by simpa using hO⟩
  case round =>
    obtain ⟨k, hk, rfl, rfl, hg, hO1⟩ := hrel
    by_cases hlt : k < xs.length
    · have hkl : k < ((List.range k).map (markInt64 m) ++ xs.drop k).length := by simp; omega
      obtain ⟨_, b, off, rfl, _, _⟩ := hO1.sl k _ (List.getElem?_eq_getElem hkl)
      obtain rfl := hO1.off0 hkl
      obtain ⟨v0, e0⟩ : ∃ v, wr.cell? ⟨b, k * 1, none⟩ = some v := hO1.cell (i := k) (j := 0) hkl (by omega)
      have f0 : wr.frozen? ⟨b, k * 1, none⟩ = false := hO1.frozen _
      rw [Nat.mul_one] at e0 f0
      clear hO
      go_wp2
      go_roundw
      case rel =>
        refine ⟨k + 1, by omega, by go_num, ?_, ?_, ?_⟩
        · simp; omega
        · have := grownBy_stores (markInt64 m k) (k * 1) hg
          rw [Nat.mul_one] at this
          exact this
        · have h := hO1.store (i := k) hkl (markInt64 m k) rfl
          rw [marks_next _ hlt, Nat.mul_one] at h
          exact h
      case measure => simp [intOf]; omega
    · have : k = xs.length := by omega
      subst this
      go_wp2
      go_ret
      rw [List.drop_of_length_le (Nat.le_refl _), List.append_nil] at hO1
      exact ⟨rfl, hO1, hg⟩
set_option maxRecDepth 100000 in
theorem markText_c (m : Int) (w : World) (hm : 0 ≤ m ∧ m ≤ 4000000000000000) : Calls Tryz.prog 54 #[.int .i64 m] w fun e w' => e = .returned (.string (markT m)) ∧ Below w.heap.size w w' := by
  by_cases h0 : m ≤ 0
  · have hR : Hid (markT m = ⟨#[109, 48]⟩) := Lib.hid (if_pos h0)
    go_enter Tryz.func54, Tryz.ntmps54
    go_wp2
    go_ret
    exact ⟨by rw [hR.out]; rfl, Below.refl _ _⟩
  have hR : Hid (markT m = ⟨#[109]⟩ ++ markLoop m.toNat m.toNat ⟨#[]⟩) := Lib.hid (if_neg h0)
  generalize hL : markLoop m.toNat m.toNat ⟨#[]⟩ = L at *
  replace hL := Lib.hid hL
  generalize markT m = res at *
  go_enter Tryz.func54, Tryz.ntmps54
  go_wp2_with fail
  go_loopw [0, 3] (fun i s wr => ∃ (f k : Nat) (t : ByteArray), i = .int .i64 k ∧ s = .string t ∧ (k ≤ f ∧ t.size + k ≤ m.toNat) ∧ Hid (markLoop f k t = L) ∧ Below w.heap.size w wr) (fun i _ _ => (intOf i).toNat)
  case atStart => exact ⟨m.toNat, m.toNat, ⟨#[]⟩, by congr 1; omega, rfl, ⟨Nat.le_refl _, by simp [ByteArray.size]⟩, hL, Below.refl _ _⟩
  case round =>
    obtain ⟨f, k, t, rfl, rfl, ⟨hkf, hk⟩, hl, hb⟩ := hrel
    by_cases hlt : 0 < k
    · obtain ⟨f, rfl⟩ : ∃ f', f = f' + 1 := ⟨f - 1, by omega⟩
      have hl' : Hid (markLoop f (k / 10) (strOfNums [48 + (k : Int) % 10] ++ t) = L) := Lib.hid (by rw [← hl.out, markLoop_succ f k t (by omega)])
      have D0 := Blk.new wr 5 #[.int .u8 (48 + (k : Int) % 10)]
      have hcv : (convert 55 9 (.slice (some ⟨wr.heap.size, 0, none⟩) 1 1)).run Tryz.prog (wr.alloc (.cells #[.int .u8 (48 + (k : Int) % 10)] 5)) = .ok (.string (strOfNums [48 + (k : Int) % 10])) (wr.alloc (.cells #[.int .u8 (48 + (k : Int) % 10)] 5)) :=
        run_convert_bytes_arg _ _ 5 Tryz.underlying55 Tryz.underlying5 _ _ 1 1 [48 + (k : Int) % 10] rfl (fun i hi => by
          obtain rfl : i = 0 := by omega
          exact D0.cell 0) _ Tryz.underlying9
      have hcs : (strOfNums [48 + (k : Int) % 10]).size = 1 := strOfNums_size _
      clear D0 hl
      generalize strOfNums [48 + (k : Int) % 10] = ch at *
      have hlim : ¬ 9223372036854775807 < ch.size + t.size := by omega
      go_wp2
      go_roundw
      case rel => exact ⟨f, k / 10, ch ++ t, by go_num, rfl, ⟨by omega, by rw [ByteArray.size_append]; omega⟩, hl', (by repeat (first | with_reducible exact hb | with_reducible apply below_drewN' | with_reducible apply Below.drew | (with_reducible refine Below.alloc ?_ (by first | omega | (simp; omega) | simp | (have := (hb).size; omega) | (have := (hb).size; simp; omega)) _) | (with_reducible refine Below.setCell ?_ (by first | omega | (simp; omega) | simp | (have := (hb).size; omega) | (have := (hb).size; simp; omega)) _) | exact hb))⟩
      case measure => simp [intOf]; omega
    · obtain rfl : k = 0 := by omega
      have ht := Lib.hid (hl.out.symm.trans (markLoop_zero f t))
      have hlim : ¬ 9223372036854775807 < 1 + t.size := by omega
      clear hl
      go_wp2
      go_ret
      exact ⟨by rw [hR.out, ht.out]; rfl, hb⟩
end Go.Proofs.YtendoabjjfinhaaGreatDoor
namespace Go.Proofs.YtendoabjjfinhaaGreatDoor
open Go.RowKit
/-- while a list's copies are marked -/
structure MkE (base hi g N : Nat) (fs : List EnR) (w wr : World) : Prop where
  kb : Kb (Nb base hi) w wr
  bl : ∃ cs : Array Value, Blk wr g 48 cs ∧ cs.size = N ∧ ∀ (i : Nat) (f : EnR), fs[i]? = some f → cs[i * 20 + 5]? = some f.sl
  ow : ∀ f ∈ fs, ∃ xs : List (List Value), xs.length = f.e.r.l.length ∧ Own wr base 2 1 f.sl xs
/-- what stays fixed: where the list lies -/
structure MkF (base hi g N : Nat) (fs : List EnR) : Prop where
  gl : base ≤ g ∧ g < hi
  nl : fs.length * 20 ≤ N
  off : ∀ f ∈ fs, f.sl.ownBlock ≠ some g
  hi : ∀ f ∈ fs, ∀ b, f.sl.ownBlock = some b → b < hi
  ap : fs.Pairwise EnR.apart
section
variable {base hi g N : Nat} {fs : List EnR} {w wr w2 : World}
theorem ne_of_some {x : Option Nat} {g : Nat} (h : x ≠ some g) : x = none ∨ x ≠ some g := .inr h
theorem MkE.below (h : MkE base hi g N fs w wr) (hb : Below wr.heap.size wr w2) : MkE base hi g N fs w w2 := by
  obtain ⟨cs, h1, h2, h3⟩ := h.bl
  exact ⟨h.kb.trans (Kb.of_below hb), ⟨cs, h1.below hb h1.lt, h2, h3⟩, fun f hf => let ⟨xs, a, b⟩ := h.ow f hf; ⟨xs, a, b.below hb⟩⟩
theorem MkE.set (F : MkF base hi g N fs) (h : MkE base hi g N fs w wr) (o : Nat) (u : Value) (h5 : ∀ i, o ≠ i * 20 + 5) : MkE base hi g N fs w (wr.setCell ⟨g, o, none⟩ u) := by
  obtain ⟨cs, h1, h2, h3⟩ := h.bl
  exact ⟨h.kb.trans (kb_set F.gl), ⟨_, h1.set_ o u, by simpa using h2, fun i f hi => by rw [Array.getElem?_setIfInBounds_ne (h5 i)]; exact h3 i f hi⟩,
    fun f hf => let ⟨xs, a, b⟩ := h.ow f hf; ⟨xs, a, own_set b (ne_of_some (F.off f hf))⟩⟩
theorem MkE.cell (h : MkE base hi g N fs w wr) {o : Nat} (ho : o < N) : ∃ u, wr.cell? ⟨g, o, none⟩ = some u := by
  obtain ⟨cs, h1, h2, _⟩ := h.bl
  exact ⟨cs[o]'(by omega), by rw [h1.cell, Array.getElem?_eq_getElem]⟩
theorem MkE.frozen (h : MkE base hi g N fs w wr) (o : Nat) : wr.frozen? ⟨g, o, none⟩ = false := by
  obtain ⟨cs, h1, _⟩ := h.bl
  exact h1.frozen o
theorem MkE.c5 (h : MkE base hi g N fs w wr) {k : Nat} (hk : k < fs.length) : wr.cell? ⟨g, k * 20 + 5, none⟩ = some (.slice fs[k].A fs[k].e.r.l.length fs[k].c) := by
  obtain ⟨cs, h1, _, h3⟩ := h.bl
  rw [h1.cell]
  exact h3 k _ (List.getElem?_eq_getElem hk)
theorem EnR.apart_at {k j : Nat} (hd : fs.Pairwise EnR.apart) (hk : k < fs.length) (hj : j < fs.length) (hne : k ≠ j) : ∀ b, fs[k].sl.ownBlock = some b → fs[j].sl.ownBlock ≠ some b := by
  intro b hb hb2
  rcases Nat.lt_or_gt_of_ne hne with h | h
  · exact (List.pairwise_iff_getElem.1 hd k j hk hj h) b hb hb2
  · exact (List.pairwise_iff_getElem.1 hd j k hj hk h) b hb2 hb
theorem MkE.mark (F : MkF base hi g N fs) (h : MkE base hi g N fs w wr) {k : Nat} (hk : k < fs.length) {xs : List (List Value)} (hx : xs.length = fs[k].e.r.l.length) (ho : Own w2 base 2 1 fs[k].sl xs) (hg : wr.grownBy w2 fs[k].sl.ownBlock) : MkE base hi g N fs w w2 := by
  obtain ⟨cs, h1, h2, h3⟩ := h.bl
  have hmem := List.getElem_mem hk
  refine ⟨h.kb.trans (Kb.of_grown hg (fun b hb => ⟨ho.ownGe b hb.symm, F.hi _ hmem b hb.symm⟩)), ⟨cs, (hg.block g h1.lt (fun e => F.off _ hmem e.symm)).trans h1, h2, h3⟩, fun f hf => ?_⟩
  obtain ⟨j, hj, rfl⟩ := List.getElem_of_mem hf
  by_cases hjk : k = j
  · subst hjk
    exact ⟨xs, hx, ho⟩
  · obtain ⟨ys, a, b⟩ := h.ow _ hf
    refine ⟨ys, a, b.kept hg ?_⟩
    cases hob : (fs[j].sl).ownBlock with
    | none => exact .inl rfl
    | some x => exact .inr (fun e => EnR.apart_at F.ap hj hk (Ne.symm hjk) x hob e.symm)
end
theorem wpList_store_mk {base hi g N : Nat} {fs : List EnR} {w0 w : World} {P : Program} {ops : Array Oper} {rest : List Oper} {op : Oper} {a : Act} {Q : Exit → Act → World → Prop} (F : MkF base hi g N fs) (J : MkE base hi g N fs w0 w) (hgd : op.guard = none) (ty : TypeId) (hsz : ∀ w, (sizeOf ty).run P w = .ok 1 w) (x y : Operand) (ho : op.op = .store ty x y)
    (o : Nat) (v : Value) (hx : a.eval x = .pointer (some ⟨g, o, none⟩)) (hy : a.eval y = v) (hv : (∃ k n, v = .int k n) ∨ ∃ s, v = .string s) (h1 : o < N) (h5 : ∀ i, o ≠ i * 20 + 5)
    (h : ∀ w2, MkE base hi g N fs w0 w2 → wpList P ops Q rest (a.put op.dst undef) w2) : wpList P ops Q (op :: rest) a w := by
  obtain ⟨u, hu⟩ := J.cell h1
  exact wpList_store_cell hgd ty x y ho g o v hx hy hv hsz hu (J.frozen o) (h _ (J.set F o v h5))
theorem sizeInt (w : World) : (sizeOf 2).run Tryz.prog w = .ok 1 w := by simp [go_sem]
theorem sizeStr (w : World) : (sizeOf 9).run Tryz.prog w = .ok 1 w := by simp [go_sem]
set_option maxRecDepth 100000 in
set_option maxHeartbeats 4000000 in
theorem markEnS1_c (c : Nat) (fs : List EnR) (base hi g N : Nat) (m : Int) (w : World) (hm : 0 ≤ m ∧ m ≤ 1000000000) (hl : fs.length ≤ 1048576) (hsh : ∀ f ∈ fs, f.e.r.l.length ≤ 1048576) (F : MkF base hi g N fs) (M : MkE base hi g N fs w w) :
    Calls Tryz.prog 14 #[.slice (some ⟨g, 0, none⟩) fs.length c, .int .i64 m] w fun e w' => ∃ n : Int, e = .returned (.int .i64 n) ∧ (0 ≤ n ∧ n ≤ m + fs.length * 1048596) ∧ Kb (Nb base hi) w w' := by
  have HT := Lib.hid (fun m W h => markText_c m W h)
  have HF := Lib.hid F
  replace hsh := Lib.hid hsh
  go_enter Tryz.func14, Tryz.ntmps14
  go_wp2_with fail
  go_loopw [1, 5] (fun q i wr => ∃ (k : Nat) (n : Int), k ≤ fs.length ∧ i = .int .i64 k ∧ q = .int .i64 n ∧ (0 ≤ n ∧ n ≤ m + k * 1048596) ∧ MkE base hi g N fs w wr) (fun _ i _ => fs.length - (intOf i).toNat)
  case atStart => exact ⟨0, m, Nat.zero_le _, rfl, rfl, by omega, M⟩
  case round =>
    clear M
    obtain ⟨k, n, hk, rfl, rfl, ⟨hn0, hn1⟩, J⟩ := hrel
    by_cases hlt : k < fs.length
    · have hNk : k * 20 + 20 ≤ N := by have := HF.out.nl; omega
      have hnb : n ≤ 2000000000000 := by omega
      have hlk : fs[k].e.r.l.length ≤ 1048576 := hsh.out _ (List.getElem_mem hlt)
      have y5 := J.c5 hlt
      have HI : Hid (∀ (q : Int) W, 0 ≤ q ∧ q ≤ 1000000000000000 → MkE base hi g N fs w W → Calls Tryz.prog 55 #[.slice fs[k].A fs[k].e.r.l.length fs[k].c, .int .i64 q] W fun e w' => e = .returned (.int .i64 (q + fs[k].e.r.l.length)) ∧ MkE base hi g N fs w w') := Lib.hid (fun q W hq M => by
        obtain ⟨xs, hx, ho⟩ := M.ow _ (List.getElem_mem hlt)
        have ho' := ho
        unfold EnR.sl at ho'
        rw [← hx] at ho'
        have h := markInt64B_c fs[k].A fs[k].c base q xs W hq (by omega) ho'
        rw [hx] at h
        refine h.mono fun e w' ⟨h1, h2, h3⟩ => ⟨h1, ?_⟩
        exact M.mark HF.out hlt (by simp) h2 h3)
      have HY : Hid (∀ W, MkE base hi g N fs w W → W.cell? ⟨g, k * 20 + 5, none⟩ = some (.slice fs[k].A fs[k].e.r.l.length fs[k].c)) := Lib.hid (fun W M => M.c5 hlt)
      replace J := Lib.hid J
      generalize fs[k].e.r.l.length = lk at *
      generalize fs[k].A = A5 at *
      generalize fs[k].c = c5 at *
      go_wp2_with (first | (go_at_call 54; refine Calls.mono (HT.out _ _ (by omega)) ?_; rintro e wn ⟨rfl, hb⟩; replace J := Lib.hid (J.out.below hb); clear hb; clear y5; have y5 := HY.out _ J.out) | (go_at_call 55; refine Calls.mono (HI.out _ _ (by omega) J.out) ?_; rintro e wn ⟨rfl, Jn⟩; replace J := Lib.hid Jn; clear Jn; clear y5; have y5 := HY.out _ J.out) | (refine wpList_store_mk HF.out J.out rfl 2 sizeInt _ _ rfl _ _ rfl rfl (.inl ⟨_, _, rfl⟩) ?_ ?_ ?_; omega; (intro i; omega); (intro wn Jn; replace J := Lib.hid Jn; clear Jn; clear y5; have y5 := HY.out _ J.out)) | (refine wpList_store_mk HF.out J.out rfl 9 sizeStr _ _ rfl _ _ rfl rfl (.inr ⟨_, rfl⟩) ?_ ?_ ?_; omega; (intro i; omega); (intro wn Jn; replace J := Lib.hid Jn; clear Jn; clear y5; have y5 := HY.out _ J.out)))
      go_roundw
      case rel => exact ⟨k + 1, n + 1 + 1 + 1 + 1 + 1 + lk + 1 + 1 + 1 + 1 + 1 + 1 + 1 + 1 + 1 + 1 + 1 + 1 + 1 + 1, by omega, by go_num, rfl, by omega, J.out⟩
      case measure => simp [intOf]; omega
    · have : k = fs.length := by omega
      subst this
      go_wp2
      go_ret
      exact ⟨n, rfl, ⟨hn0, hn1⟩, J.kb⟩
set_option maxRecDepth 100000 in
theorem markEnS0_c (A : Option Addr) (c : Nat) (m : Int) (w : World) :
    Calls Tryz.prog 14 #[.slice A 0 c, .int .i64 m] w fun e w' => e = .returned (.int .i64 m) ∧ w = w' := by
  go_enter Tryz.func14, Tryz.ntmps14
  go_wp2_with fail
  go_loop [1, 5] (fun q i => q = .int .i64 m ∧ i = .int .i64 0) (fun _ _ => 0)
  case atStart => exact ⟨rfl, rfl⟩
  case round =>
    obtain ⟨rfl, rfl⟩ := hrel
    go_wp2
    go_ret
    exact ⟨rfl, rfl⟩
theorem markEnSb_c (A : Option Addr) (c : Nat) (fs : List EnR) (base hi : Nat) (m : Int) (w0 w : World) (hm : 0 ≤ m ∧ m ≤ 1000000000) (E : EnsIn w0 A fs) (O0 : Own w0 base 48 20 (.slice A fs.length c) (fs.map EnR.cells))
    (P0 : ∀ f ∈ fs, Own w0 base 2 1 f.sl (f.e.r.l.map ic) ∧ ∀ g, A = some ⟨g, 0, none⟩ → OffE f.A g) (D : fs.Pairwise EnR.apart) (hhi : w0.heap.size ≤ hi) (hb : Below w0.heap.size w0 w) :
    Calls Tryz.prog 14 #[.slice A fs.length c, .int .i64 m] w fun e w' => ∃ n : Int, e = .returned (.int .i64 n) ∧ (0 ≤ n ∧ n ≤ m + fs.length * 1048596) ∧ Kb (Nb base hi) w w' := by
  have O := O0.below hb
  by_cases hz : fs.length = 0
  · rw [hz]
    exact (markEnS0_c A c m w).mono fun e w' ⟨h1, h2⟩ => ⟨m, h1, ⟨hm.1, by simp⟩, h2 ▸ ⟨rfl, rfl, rfl, Nat.le_refl _, fun _ _ _ => rfl⟩⟩
  have hk0 : 0 < (fs.map EnR.cells).length := by simp; omega
  obtain ⟨_, b, off, rfl, _, _⟩ := O.sl 0 _ (List.getElem?_eq_getElem hk0)
  obtain rfl := O.off0 hk0
  have hg := O0.block_ge
  obtain ⟨cs, hB⟩ : ∃ cs : Array Value, Blk w b 48 cs := by
    rcases O.1.2 with ⟨h, _⟩ | ⟨g, cap, cur, hv, _, hh, _⟩
    · cases h
    · obtain ⟨rfl, _⟩ : b = g ∧ c = cap := by simpa using hv
      exact ⟨cur, hh⟩
  have hcell : ∀ (i : Nat) (hi : i < fs.length) (j : Nat) (hj : j < 20), cs[i * 20 + j]? = (fs[i].cells)[j]? := fun i hi j hj => by
    rw [← hB.cell]
    have hl : (fs[i].cells).length = 20 := rfl
    obtain ⟨b', o', e, _, hc⟩ := O.sl.at_ (i := i) (by simpa using hi)
    obtain ⟨rfl, rfl⟩ : b = b' ∧ 0 = o' := by simpa using e
    simp only [List.getElem_map, Nat.zero_add] at hc
    rw [hc j _ (List.getElem?_eq_getElem (by rw [hl]; exact hj)), List.getElem?_eq_getElem (by rw [hl]; exact hj)]
  have F : MkF base hi b cs.size fs := by
    refine ⟨⟨hg.1, Nat.lt_of_lt_of_le hg.2 hhi⟩, ?_, fun f hf => ?_, fun f hf x hx => Nat.lt_of_lt_of_le (((P0 f hf).1.1.lt x hx).2) hhi, D⟩
    · have h := hcell (fs.length - 1) (by omega) 19 (by omega)
      have h2 : (fs[fs.length - 1].cells)[19]? = some (.int .i64 fs[fs.length - 1].e.ba) := rfl
      rw [h2] at h
      have := (Array.getElem?_eq_some_iff.1 h).1
      omega
    · rcases own_ne_of_off (P0 f hf).1 ((P0 f hf).2 b rfl) with h | h
      · intro e
        have : f.sl.ownBlock = none := h
        rw [this] at e
        cases e
      · exact h
  have M : MkE base hi b cs.size fs w w := ⟨⟨rfl, rfl, rfl, Nat.le_refl _, fun _ _ _ => rfl⟩, ⟨cs, hB, rfl, fun i f hi => by
      obtain ⟨hl, rfl⟩ := List.getElem?_eq_some_iff.1 hi
      rw [hcell i hl 5 (by omega)]
      rfl⟩, fun f hf => ⟨_, by simp, (P0 f hf).1.below hb⟩⟩
  exact markEnS1_c c fs base hi b cs.size m w hm E.n (fun f hf => (E.i f hf).r.h) F M
theorem markEnS_c (A : Option Addr) (c : Nat) (fs : List EnR) (base hi : Nat) (m : Int) (w0 w : World) (hm : 0 ≤ m ∧ m ≤ 1000000000) (E : EnsIn w0 A fs) (O0 : Own w0 base 48 20 (.slice A fs.length c) (fs.map EnR.cells))
    (P0 : ∀ f ∈ fs, Own w0 base 2 1 f.sl (f.e.r.l.map ic) ∧ ∀ g, A = some ⟨g, 0, none⟩ → OffE f.A g) (D : fs.Pairwise EnR.apart) (hhi : w0.heap.size ≤ hi) (hb : Below w0.heap.size w0 w) :
    Calls Tryz.prog 14 #[.slice A fs.length c, .int .i64 m] w fun e w' => ∃ n : Int, e = .returned (.int .i64 n) ∧ 0 ≤ n ∧ Kb (Nb base hi) w w' :=
  (markEnSb_c A c fs base hi m w0 w hm E O0 P0 D hhi hb).mono fun _ _ ⟨n, h1, h2, h3⟩ => ⟨n, h1, h2.1, h3⟩
end Go.Proofs.YtendoabjjfinhaaGreatDoor
namespace Go.Proofs.YtendoabjjfinhaaGreatDoor
open Go.Shelf
def Tryz.layTrim_ren : Go.Shelf.Ren := ⟨fun | 160 => 87 | 232 => 121 | 231 => 120 | 227 => 122 | 234 => 124 | 233 => 123 | 236 => 126 | 235 => 125 | 228 => 156 | 271 => 159 | 151 => 158 | 197 => 157 | 120 => 177 | 152 => 176 | 260 => 175 | 137 => 187 | 119 => 188 | 224 => 189 | 225 => 190 | 217 => 195 | 266 => 197 | n => n, fun | 9 => 9 | 4 => 4 | 3 => 3 | 5 => 5 | 117 => 142 | 116 => 141 | 0 => 0 | 124 => 145 | 21 => 21 | 105 => 173 | 46 => 136 | 119 => 197 | 139 => 200 | 138 => 199 | n => n, fun | 3 => 0 | 4 => 1 | n => n⟩
theorem Tryz.layTrim : Go.Proofs.Lays.n160 Tryz.prog Tryz.layTrim_ren := {
  mixed := by kernel_rfl
  f119 := Tryz.func188.trans (congrArg some (by kernel_rfl))
  f120 := Tryz.func177.trans (congrArg some (by kernel_rfl))
  f137 := Tryz.func187.trans (congrArg some (by kernel_rfl))
  f151 := Tryz.func158.trans (congrArg some (by kernel_rfl))
  f152 := Tryz.func176.trans (congrArg some (by kernel_rfl))
  f160 := Tryz.func87.trans (congrArg some (by kernel_rfl))
  f197 := Tryz.func157.trans (congrArg some (by kernel_rfl))
  f217 := Tryz.func195.trans (congrArg some (by kernel_rfl))
  f224 := Tryz.func189.trans (congrArg some (by kernel_rfl))
  f225 := Tryz.func190.trans (congrArg some (by kernel_rfl))
  f227 := Tryz.func122.trans (congrArg some (by kernel_rfl))
  f228 := Tryz.func156.trans (congrArg some (by kernel_rfl))
  f231 := Tryz.func120.trans (congrArg some (by kernel_rfl))
  f232 := Tryz.func121.trans (congrArg some (by kernel_rfl))
  f233 := Tryz.func123.trans (congrArg some (by kernel_rfl))
  f234 := Tryz.func124.trans (congrArg some (by kernel_rfl))
  f235 := Tryz.func125.trans (congrArg some (by kernel_rfl))
  f236 := Tryz.func126.trans (congrArg some (by kernel_rfl))
  f260 := Tryz.func175.trans (congrArg some (by kernel_rfl))
  f266 := Tryz.func197.trans (congrArg some (by kernel_rfl))
  f271 := Tryz.func159.trans (congrArg some (by kernel_rfl))
  t0 := Tryz.underlying0
  a0 := Tryz.isAgg0
  z0 := Tryz.sizeOf0
  v0 := Tryz.zeroValue0
  t3 := Tryz.underlying3
  a3 := Tryz.isAgg3
  z3 := Tryz.sizeOf3
  v3 := Tryz.zeroValue3
  t4 := Tryz.underlying4
  a4 := Tryz.isAgg4
  z4 := Tryz.sizeOf4
  v4 := Tryz.zeroValue4
  t5 := Tryz.underlying5
  a5 := Tryz.isAgg5
  z5 := Tryz.sizeOf5
  v5 := Tryz.zeroValue5
  t9 := Tryz.underlying9
  a9 := Tryz.isAgg9
  z9 := Tryz.sizeOf9
  v9 := Tryz.zeroValue9
  t21 := Tryz.underlying21
  a21 := Tryz.isAgg21
  z21 := Tryz.sizeOf21
  v21 := Tryz.zeroValue21
  t46 := Tryz.underlying136
  a46 := Tryz.isAgg136
  z46 := Tryz.sizeOf136
  v46 := Tryz.zeroValue136
  t105 := Tryz.underlying173
  a105 := Tryz.isAgg173
  z105 := Tryz.sizeOf173
  v105 := Tryz.zeroValue173
  t116 := Tryz.underlying141
  a116 := Tryz.isAgg141
  z116 := Tryz.sizeOf141
  t117 := Tryz.underlying142
  a117 := Tryz.isAgg142
  z117 := Tryz.sizeOf142
  v117 := Tryz.zeroValue142
  t119 := Tryz.underlying197
  a119 := Tryz.isAgg197
  z119 := Tryz.sizeOf197
  t124 := Tryz.underlying145
  a124 := Tryz.isAgg145
  z124 := Tryz.sizeOf145
  v124 := Tryz.zeroValue145
  t138 := Tryz.underlying199
  a138 := Tryz.isAgg199
  z138 := Tryz.sizeOf199
  v138 := Tryz.zeroValue199
  t139 := Tryz.underlying200
  a139 := Tryz.isAgg200
  z139 := Tryz.sizeOf200
  v139 := Tryz.zeroValue200
  g3 := by kernel_rfl
  g4 := by kernel_rfl }
end Go.Proofs.YtendoabjjfinhaaGreatDoor
namespace Go.Proofs.YtendoabjjfinhaaGreatDoor
open Go.RowKit Go.Shelf
def lettersA : List UInt8 := [97, 98, 99, 100, 101, 102, 103, 104, 105, 106, 107, 108, 109, 110, 111, 112, 113, 114, 115, 116, 117, 118, 119, 120, 121, 122]
def isLetter (b : UInt8) : Bool := decide (97 ≤ b.toNat) && decide (b.toNat ≤ 122)
theorem letter_iff (b : UInt8) : lettersA.contains b = isLetter b := by
  have h : ∀ n : Fin 256, lettersA.contains (UInt8.ofNat n.val) = isLetter (UInt8.ofNat n.val) := by decide +kernel
  have := h ⟨b.toNat, b.toNat_lt⟩
  simpa using this
theorem dropWhile_all {α : Type} {p : α → Bool} : ∀ (m : List α), (∀ x ∈ m.dropWhile p, p x = true) → ∀ x ∈ m, p x = true
  | [], _, _, h => by cases h
  | a :: m, h, x, hx => by
    by_cases ha : p a = true
    · rw [List.dropWhile_cons_of_pos ha] at h
      rcases List.mem_cons.1 hx with rfl | hx
      · exact ha
      · exact dropWhile_all m h x hx
    · rw [List.dropWhile_cons_of_neg ha] at h
      exact h x hx
theorem dropWhile_nil {α : Type} {p : α → Bool} : ∀ (m : List α), m.dropWhile p = [] ↔ ∀ x ∈ m, p x = true
  | [] => by simp
  | a :: m => by
    by_cases ha : p a = true
    · rw [List.dropWhile_cons_of_pos ha, dropWhile_nil m]
      simp [ha]
    · rw [List.dropWhile_cons_of_neg ha]
      simp [ha]
theorem trim_nil (l cs : List UInt8) : Lib.trimS l cs = [] ↔ ∀ x ∈ l, cs.contains x = true := by
  unfold Lib.trimS Lib.trimLeftS Lib.trimRightS
  rw [dropWhile_nil]
  constructor
  · intro h x hx
    exact dropWhile_all l.reverse (fun y hy => h y (List.mem_reverse.2 hy)) x (List.mem_reverse.2 hx)
  · intro h x hx
    have : l.reverse.dropWhile (cs.contains ·) = [] := (dropWhile_nil _).2 (fun y hy => h y (List.mem_reverse.1 hy))
    rw [this] at hx
    cases hx
def titleB (s : ByteArray) : Bool := inB s.size 1 12 && s.data.toList.all isLetter
theorem trimTitle_c (s : ByteArray) (w : World) (hs : s.size ≤ 9223372036854775807) :
    Calls Tryz.prog 87 #[.string s, .string ⟨#[97, 98, 99, 100, 101, 102, 103, 104, 105, 106, 107, 108, 109, 110, 111, 112, 113, 114, 115, 116, 117, 118, 119, 120, 121, 122]⟩] w fun e w' => (∃ r : ByteArray, e = .returned (.string r) ∧ (r.data.toList = [] ↔ s.data.toList.all isLetter = true)) ∧ Below w.heap.size w w' := by
  have hcon := Any.strings_Trim_laid Tryz.layTrim (by kernel_rfl) s ⟨#[97, 98, 99, 100, 101, 102, 103, 104, 105, 106, 107, 108, 109, 110, 111, 112, 113, 114, 115, 116, 117, 118, 119, 120, 121, 122]⟩ w hs (by decide) (ascii_of_all (by decide))
  refine Calls.mono hcon fun e w' ⟨h1, h2⟩ => ⟨⟨_, h1, ?_⟩, h2⟩
  have h := trim_nil s.data.toList lettersA
  show (Lib.trimS s.data.toList lettersA).toArray.toList = [] ↔ _
  rw [List.toList_toArray, h, List.all_eq_true]
  exact ⟨fun h x hx => by rw [← letter_iff]; exact h x hx, fun h x hx => by rw [letter_iff]; exact h x hx⟩
end Go.Proofs.YtendoabjjfinhaaGreatDoor
namespace Go.Proofs.YtendoabjjfinhaaGreatDoor
open Go.RowKit
theorem isLetter_iff (b : UInt8) (c : Int) (h : (b.toNat : Int) = c) : isLetter b = (decide (97 ≤ c) && decide (c ≤ 122)) := by
  subst h
  unfold isLetter
  rw [decide_eq_decide.2 (show 97 ≤ b.toNat ↔ (97 : Int) ≤ (b.toNat : Int) by omega), decide_eq_decide.2 (show b.toNat ≤ 122 ↔ (b.toNat : Int) ≤ 122 by omega)]
set_option maxRecDepth 100000 in
theorem l33Title_c (s : ByteArray) (w : World) (hsz : s.size ≤ 1048576) : Calls Tryz.prog 82 #[.string s] w fun e w' => e = .returned (.bool (titleB s)) ∧ w = w' := by
  obtain ⟨L, hL, hR, hg⟩ : ∃ L : List UInt8, L.length = s.size ∧ titleB s = (inB s.size 1 12 && L.all isLetter) ∧ ∀ (k : Nat) (h : k < s.size) (h2 : k < L.length), L[k] = s[k] :=
    ⟨s.data.toList, by rw [Array.length_toList]; rfl, rfl, fun k h h2 => by rfl⟩
  have HI := Lib.hid (fun W => l01In_c (s.size : Int) 1 12 W)
  replace hR := Lib.hid hR
  replace hg := Lib.hid hg
  replace hL := Lib.hid hL
  go_enter Tryz.func82, Tryz.ntmps82
  go_wp2_with fail
  go_loop [3] (fun i => ∃ k : Nat, k ≤ s.size ∧ i = .int .i64 k ∧ Hid ((L.take k).all isLetter = true)) (fun i => s.size - (intOf i).toNat)
  case atStart => exact ⟨0, Nat.zero_le _, rfl, (show (L.take 0).all isLetter = true from by simp)⟩
  case round =>
    obtain ⟨k, hk, rfl, hn⟩ := hrel
    by_cases hlt : k < s.size
    · have hlL : k < L.length := by have := hL.out; omega
      have hnx := take_all_succ (p := isLetter) (F := L) hlL
      have hbad : isLetter L[k] = false → L.all isLetter = false := fun h => by
        rw [List.all_eq_false]
        exact ⟨L[k], List.getElem_mem hlL, by rw [h]; simp⟩
      have hLk := hg.out k hlt hlL
      generalize hch : (s[k].toNat : Int) = ch at *
      have hil := isLetter_iff (L[k]) ch (by rw [hLk]; exact hch)
      rw [hn.out, Bool.true_and] at hnx
      rw [hil] at hnx hbad
      clear hil hLk
      replace hnx := Lib.hid hnx
      replace hbad := Lib.hid hbad
      by_cases h1 : ch < 97
      · have d1 : decide (ch < 97) = true := decide_eq_true h1
        have hx : decide (97 ≤ ch) = false := decide_eq_false (by omega)
        have hb : Hid (L.all isLetter = false) := Lib.hid (hbad.out (by rw [hx]; rfl))
        clear hx hbad hnx
        go_wp2
        go_ret
        exact ⟨by rw [hR.out, hb.out, Bool.and_false]; rfl, rfl⟩
      · have d1 : decide (ch < 97) = false := decide_eq_false h1
        have hx1 : decide (97 ≤ ch) = true := decide_eq_true (by omega)
        by_cases h2 : 122 < ch
        · have d2 : decide (122 < ch) = true := decide_eq_true h2
          have hx : decide (ch ≤ 122) = false := decide_eq_false (by omega)
          have hb : Hid (L.all isLetter = false) := Lib.hid (hbad.out (by rw [hx, Bool.and_false]))
          clear hx hx1 hbad hnx
          go_wp2
          go_ret
          exact ⟨by rw [hR.out, hb.out, Bool.and_false]; rfl, rfl⟩
        · have d2 : decide (122 < ch) = false := decide_eq_false h2
          have hx : decide (ch ≤ 122) = true := decide_eq_true (by omega)
          have hn2 : Hid ((L.take (k + 1)).all isLetter = true) := Lib.hid (by rw [hnx.out, hx1, hx]; rfl)
          clear hx hx1 hbad hnx
          go_wp2
          go_round
          case rel => exact ⟨k + 1, by omega, by go_num, hn2⟩
          case measure => simp [intOf]; omega
    · have : k = s.size := by omega
      subst this
      have hb : Hid (L.all isLetter = true) := Lib.hid (by have := hn.out; rwa [← hL.out, List.take_length] at this)
      go_wp2_with (go_at_call 83; refine Calls.mono (HI.out _) ?_; rintro e w1 ⟨rfl, rfl⟩)
      go_ret
      exact ⟨by rw [hR.out, hb.out, Bool.and_true]; rfl, rfl⟩
end Go.Proofs.YtendoabjjfinhaaGreatDoor
namespace Go.Proofs.YtendoabjjfinhaaGreatDoor
open Go.RowKit
/-- the function value computes p in every world that keeps all that lies in w -/
def PredEn (g : FuncId) (lb : Array Value) (p : EnR → Bool) (l : List EnR) (w : World) : Prop :=
  ∀ (x : EnR), x ∈ l → ∀ (W : World), Below w.heap.size w W → Calls Tryz.prog g (#[.agg x.cells.toArray] ++ lb) W fun e w' => e = .returned (.bool (p x)) ∧ Below W.heap.size W w'
def IdxPostEn (p : EnR → Bool) (l : List EnR) (w : World) (e : Ending) (w' : World) : Prop :=
  ∃ r : Int, e = .returned (.int .i64 r) ∧ decide (0 ≤ r) = l.any p ∧ Below w.heap.size w w'
set_option maxRecDepth 100000 in
theorem indexFuncEn_c (A : Option Addr) (c : Nat) (l : List EnR) (g : FuncId) (lb : Array Value) (p : EnR → Bool) (w : World)
    (eg : ∀ args w, (callFunc g args).run Tryz.prog w = .ok (.enter g args) w) (hp : PredEn g lb p l w) (hl : l.length ≤ 140737488351232) (hs : Sl w w.heap.size 20 A (l.map EnR.cells)) :
    Calls Tryz.prog 127 #[.slice A l.length c, .func (.func g) #[] lb] w (IdxPostEn p l w) := by
  go_enter Tryz.func127, Tryz.ntmps127
  go_wp2_with fail
  go_loopw [8] (fun i wr => ∃ k : Nat, k ≤ l.length ∧ i = .int .i64 k ∧ Below w.heap.size w wr ∧ Hid ((l.take k).any p = false)) (fun i _ => l.length - (intOf i).toNat)
  case atStart => exact ⟨0, Nat.zero_le _, rfl, Below.refl _ _, (show (l.take 0).any p = false from by simp)⟩
  case round =>
    obtain ⟨k, hk, rfl, hb, hn⟩ := hrel
    by_cases hlt : k < l.length
    · obtain ⟨b, off, rfl, hbB, hc⟩ := hs.rg (i := k) (by simpa using hlt)
      simp only [List.getElem_map] at hc
      replace hc := rangeAt_below hc hb hbB
      have hcl : l[k].cells.length = 20 := rfl
      have hcall := hp l[k] (List.getElem_mem hlt) wr hb
      have hnx : (l.take (k + 1)).any p = ((l.take k).any p || p l[k]) := by rw [List.take_succ_eq_append_getElem hlt, List.any_append]; simp
      have hnx := Lib.hid hnx
      clear hp
      cases hq : p l[k] with
      | true =>
        have hq' := Lib.hid hq
        rw [hq] at hcall
        generalize hcs : l[k].cells = cs at *
        clear hcs
        have hcall := Lib.hid hcall
        clear hq
        go_wp2_with (first | (refine wpList_load_mid rfl 48 _ rfl (b) (off + k * 20) rfl (cs) _ hc Tryz.underlying48 rfl (by kernel_rfl) ?_) | (go_at_fn g; refine hcall.out.mono ?_; rintro e w1 ⟨rfl, hb1⟩))
        go_ret
        refine ⟨k, rfl, ?_, hb.trans (hb1.mono hb.size)⟩
        rw [show l.any p = true from List.any_eq_true.2 ⟨l[k], List.getElem_mem hlt, hq'.out⟩]
        simp
      | false =>
        have hq' := Lib.hid hq
        rw [hq] at hcall
        generalize hcs : l[k].cells = cs at *
        clear hcs
        have hcall := Lib.hid hcall
        clear hq
        go_wp2_with (first | (refine wpList_load_mid rfl 48 _ rfl (b) (off + k * 20) rfl (cs) _ hc Tryz.underlying48 rfl (by kernel_rfl) ?_) | (go_at_fn g; refine hcall.out.mono ?_; rintro e w1 ⟨rfl, hb1⟩))
        go_roundw
        case rel => exact ⟨k + 1, by omega, by go_num, hb.trans (hb1.mono hb.size), (show _ = false from by rw [hnx.out, hn.out, hq'.out]; rfl)⟩
        case measure => simp [intOf]; omega
    · have : k = l.length := by omega
      subst this
      go_wp2
      go_ret
      refine ⟨-1, rfl, ?_, hb⟩
      have := hn.out
      rw [List.take_length] at this
      rw [this]
      rfl
theorem containsFuncEn_c (A : Option Addr) (c : Nat) (l : List EnR) (g : FuncId) (lb : Array Value) (p : EnR → Bool) (w : World)
    (eg : ∀ args w, (callFunc g args).run Tryz.prog w = .ok (.enter g args) w) (hp : PredEn g lb p l w) (hl : l.length ≤ 140737488351232) (hs : Sl w w.heap.size 20 A (l.map EnR.cells)) :
    Calls Tryz.prog 89 #[.slice A l.length c, .func (.func g) #[] lb] w fun e w' => e = .returned (.bool (l.any p)) ∧ Below w.heap.size w w' := by
  have H := Lib.hid (indexFuncEn_c A c l g lb p w eg hp hl hs)
  clear hp hs eg
  go_enter Tryz.func89, Tryz.ntmps89
  go_wp2_with fail
  refine H.out.mono ?_
  rintro e w1 ⟨r, rfl, hr, hb⟩
  go_wp2
  go_ret
  exact ⟨rfl, hb⟩
end Go.Proofs.YtendoabjjfinhaaGreatDoor
namespace Go.Proofs.YtendoabjjfinhaaGreatDoor
open Go.RowKit
def sameTV (x e : En) : Bool := (x.ti.toList == e.ti.toList) && (x.ve == e.ve)
set_option maxRecDepth 100000 in
theorem sameTV_c (x e : En) (B : Option Addr) (d : Nat) (g : Nat) (w : World) (hg : g < w.heap.size) (h0 : w.cell? ⟨g, 0, none⟩ = some (.string e.ti)) (h1 : w.cell? ⟨g, 1, none⟩ = some (.int .i64 e.ve)) :
    Calls Tryz.prog 90 #[.agg (x.cells B d).toArray, .pointer (some ⟨g, 0, none⟩)] w fun r w' => r = .returned (.bool (sameTV x e)) ∧ Below w.heap.size w w' := by
  have hW : Below w.heap.size w (w.alloc (.cells (x.cells B d).toArray 48)) := (by repeat (first | with_reducible exact Below.refl _ _ | with_reducible apply below_drewN' | with_reducible apply Below.drew | (with_reducible refine Below.alloc ?_ (by first | omega | (simp; omega) | simp | (have := (Below.refl _ _).size; omega) | (have := (Below.refl _ _).size; simp; omega)) _) | (with_reducible refine Below.setCell ?_ (by first | omega | (simp; omega) | simp | (have := (Below.refl _ _).size; omega) | (have := (Below.refl _ _).size; simp; omega)) _) | exact Below.refl _ _))
  have X := Blk.new w 48 (x.cells B d).toArray
  have k0 : (x.cells B d).toArray[0]? = some (.string x.ti) := rfl
  have k1 : (x.cells B d).toArray[1]? = some (.int .i64 x.ve) := rfl
  have z0 : (w.alloc (.cells (x.cells B d).toArray 48)).cell? ⟨g, 0, none⟩ = some (.string e.ti) := by rw [hW.cell (p := ⟨g, 0, none⟩) hg]; exact h0
  have z1 : (w.alloc (.cells (x.cells B d).toArray 48)).cell? ⟨g, 1, none⟩ = some (.int .i64 e.ve) := by rw [hW.cell (p := ⟨g, 1, none⟩) hg]; exact h1
  have y0 : (w.alloc (.cells (x.cells B d).toArray 48)).cell? ⟨w.heap.size, 0, none⟩ = some (.string x.ti) := X.en.1
  have y1 : (w.alloc (.cells (x.cells B d).toArray 48)).cell? ⟨w.heap.size, 1, none⟩ = some (.int .i64 x.ve) := X.en.2.1
  have hR : Hid (sameTV x e = ((x.ti.toList == e.ti.toList) && (x.ve == e.ve))) := rfl
  generalize sameTV x e = res at *
  generalize (x.cells B d).toArray = ca at *
  cases hq : (x.ti.toList == e.ti.toList)
  all_goals
    rw [hq] at hR
    go_enter Tryz.func90, Tryz.ntmps90
    go_wp2
    go_ret
    exact ⟨by rw [hR.out]; rfl, hW⟩
end Go.Proofs.YtendoabjjfinhaaGreatDoor
namespace Go.Proofs.YtendoabjjfinhaaGreatDoor
open Go.RowKit
def basisBad (l : List En) (e : En) : Bool := decide (0 ≤ e.ba) && (match l[e.ba.toNat]? with | some x => (x.ti.toList == e.ti.toList) && decide (e.ve ≤ x.ve) | none => false)
def entB (l : List En) (e : En) : Bool := titleB e.ti && inB e.ve 1 1000 && e.r.b && inB e.ba (-1) ((l.length : Int) - 1) && !basisBad l e && !l.any (fun x => sameTV x e)
def entAt (l : List En) (k : Nat) : Bool := match l[k]? with | some e => entB (l.take k) e | none => true
def catTo (l : List En) (k : Nat) : Bool := (List.range k).all (entAt l)
def catB (l : List En) : Bool := catTo l l.length && decide (l.length ≤ 12)
theorem catTo_zero (l : List En) : catTo l 0 = true := rfl
theorem catTo_succ (l : List En) (k : Nat) : catTo l (k + 1) = (catTo l k && entAt l k) := by
  unfold catTo
  rw [List.range_succ, List.all_append]
  simp
theorem entAt_get {l : List En} {k : Nat} (h : k < l.length) : entAt l k = entB (l.take k) l[k] := by
  unfold entAt
  rw [List.getElem?_eq_getElem h]
theorem catTo_bad {l : List En} {k n : Nat} (h : entAt l k = false) (hk : k < n) : catTo l n = false := by
  unfold catTo
  rw [List.all_eq_false]
  exact ⟨k, List.mem_range.2 hk, by rw [h]; simp⟩
theorem catB_bad {l : List En} {k : Nat} (h : entAt l k = false) (hk : k < l.length) : catB l = false := by
  unfold catB
  rw [catTo_bad h hk]
  rfl
theorem catB_all {l : List En} (h : catTo l l.length = true) : catB l = decide (l.length ≤ 12) := by
  unfold catB
  rw [h, Bool.true_and]
theorem catB_at {l : List En} (h : catB l = true) {k : Nat} (hk : k < l.length) : entB (l.take k) l[k] = true := by
  unfold catB at h
  simp only [Bool.and_eq_true] at h
  have h1 := h.1
  unfold catTo at h1
  rw [List.all_eq_true] at h1
  have h2 := h1 k (List.mem_range.2 hk)
  rwa [entAt_get hk] at h2
theorem catB_len {l : List En} (h : catB l = true) : l.length ≤ 12 := by
  unfold catB at h
  simp only [Bool.and_eq_true, decide_eq_true_eq] at h
  exact h.2
theorem entB_ba {l : List En} {e : En} (h : entB l e = true) : -1 ≤ e.ba ∧ e.ba ≤ (l.length : Int) - 1 := by
  unfold entB at h
  simp only [Bool.and_eq_true] at h
  exact inB_true.1 h.1.1.2
theorem ens_len (es : List EnR) : (ens es).length = es.length := by simp [ens]
theorem ens_take (es : List EnR) (k : Nat) : ens (es.take k) = (ens es).take k := by simp [ens, List.map_take]
theorem ens_get {es : List EnR} {k : Nat} (h : k < es.length) : (ens es)[k]'(by rw [ens_len]; exact h) = es[k].e := by simp [ens]
theorem EnsIn.take {w : World} {A : Option Addr} {es : List EnR} (h : EnsIn w A es) (k : Nat) : EnsIn w A (es.take k) :=
  ⟨by have := h.n; rw [List.length_take]; omega, by rw [List.map_take]; exact h.s.take k, fun e he => h.i e (List.mem_of_mem_take he)⟩
end Go.Proofs.YtendoabjjfinhaaGreatDoor
