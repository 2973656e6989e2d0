/- Lists of numbers read by both sides. Conditions: the lengths; what the library's variables hold. -/
import Derived.Test.YtkjommcmeinkaaaGreatDoorStrN4
namespace Go.Proofs.YtkjommcmeinkaaaGreatDoor
open Go.RowKit
set_option linter.unusedSimpArgs false
def okN (f : List UInt8 → Option Int) (ws : List (List UInt8)) : Bool := ws.all fun x => (f x).isSome
def valsN (f : List UInt8 → Option Int) (ws : List (List UInt8)) : List Int := ws.map fun x => (f x).getD 0
theorem okN_bad {f : List UInt8 → Option Int} {ws : List (List UInt8)} {k : Nat} (h : k < ws.length) (h2 : f ws[k] = none) : okN f ws = false := by
  unfold okN
  rw [List.all_eq_false]
  exact ⟨ws[k], List.getElem_mem h, by rw [h2]; simp⟩
theorem okN_snoc {f : List UInt8 → Option Int} {ws : List (List UInt8)} {k : Nat} (h : k < ws.length) {v : Int} (h2 : f ws[k] = some v) (ha : okN f (ws.take k) = true) : okN f (ws.take (k + 1)) = true := by
  unfold okN at ha ⊢
  rw [List.take_succ_eq_append_getElem h, List.all_append, ha]
  simp [h2]
theorem valsN_snoc {f : List UInt8 → Option Int} {ws : List (List UInt8)} {k : Nat} (h : k < ws.length) {v : Int} (h2 : f ws[k] = some v) : valsN f (ws.take (k + 1)) = valsN f (ws.take k) ++ [v] := by
  unfold valsN
  rw [List.take_succ_eq_append_getElem h, List.map_append]
  simp [h2]
theorem valsN_len (f : List UInt8 → Option Int) (ws : List (List UInt8)) : (valsN f ws).length = ws.length := by simp [valsN]
/-- how a reader of a list of numbers answers -/
def NsP (f : List UInt8 → Option Int) (ws : List (List UInt8)) (w : World) (e : Ending) (w' : World) : Prop :=
  (okN f ws = true ∧ ∃ A c, e = .returned (.tuple #[.slice A ws.length c, .bool true]) ∧ Own w' w.heap.size 2 1 (.slice A ws.length c) ((valsN f ws).map icN) ∧ Below w.heap.size w w') ∨
  (okN f ws = false ∧ e = .returned (.tuple #[.slice none 0 0, .bool false]) ∧ Below w.heap.size w w')
theorem Sl.txt {w : World} {B : Nat} {A : Option Addr} {ws : List (List UInt8)} (h : Sl w B 1 A (ws.map str1)) {k : Nat} (hk : k < ws.length) : ∃ b off, A = some ⟨b, off, none⟩ ∧ b < B ∧ w.cell? ⟨b, off + k, none⟩ = some (.string (bs ws[k])) := by
  obtain ⟨b, off, e, hb, hc⟩ := h.at_ (i := k) (by simpa using hk)
  simp only [List.getElem_map] at hc
  have := hc 0 _ rfl
  rw [Nat.mul_one] at this
  exact ⟨b, off, e, hb, this⟩
theorem pieces_len {b : UInt8} : ∀ (s : List UInt8), (splitC b s).length ≤ s.length + 1 ∧ ∀ x ∈ splitC b s, x.length ≤ s.length
  | [] => by simp [splitC]
  | c :: r => by
    obtain ⟨h1, h2⟩ := pieces_len (b := b) r
    by_cases hc : c = b
    · subst hc
      rw [splitC_hit]
      refine ⟨by simp; omega, fun x hx => ?_⟩
      rcases List.mem_cons.1 hx with rfl | hx
      · simp
      · have := h2 x hx; simp; omega
    · rw [splitC_cons hc]
      cases hs : splitC b r with
      | nil => exact absurd hs (splitC_ne b r)
      | cons y ys =>
        rw [hs] at h1 h2
        refine ⟨by simp [preC] at h1 ⊢; omega, fun x hx => ?_⟩
        rcases List.mem_cons.1 hx with rfl | hx
        · have := h2 y List.mem_cons_self; simp; omega
        · have := h2 x (List.mem_cons_of_mem _ hx); simp; omega
set_option maxRecDepth 100000 in
set_option maxHeartbeats 400000 in
theorem l01Numbers_c (A : Option Addr) (c : Nat) (ws : List (List UInt8)) (w : World) (hl : ws.length ≤ 1048577) (hx : ∀ x ∈ ws, x.length ≤ 1048576) (hs : Sl w w.heap.size 1 A (ws.map str1)) :
    Calls Tryz.prog 33 #[.slice A ws.length c] w (NsP numS ws w) := by
  obtain ⟨ii, hi, hz0, hz1, hz2⟩ := info_parts info_I64
  have HS := Lib.hid (fun k (hk : k < ws.length) W => l01Signed_c ws[k] W (hx _ (List.getElem_mem hk)))
  have hbad := Lib.hid (fun k h h2 => okN_bad (f := numS) (ws := ws) (k := k) h h2)
  have hok := Lib.hid (fun k h v h2 ha => okN_snoc (f := numS) (ws := ws) (k := k) h (v := v) h2 ha)
  have hva := Lib.hid (fun k h v h2 => valsN_snoc (f := numS) (ws := ws) (k := k) h (v := v) h2)
  have htk : Hid (ws.take ws.length = ws) := Lib.hid List.take_length
  have hvl := Lib.hid (fun k => valsN_len numS (ws.take k))
  clear hx
  go_enter Tryz.func33, Tryz.ntmps33
  have L0 : AppS w 2 ((valsN numS (ws.take 0)).map icN) (.slice (some ⟨w.heap.size, 0, none⟩) 0 0) (w.alloc (.cells #[] 2)) := ⟨(by repeat (first | with_reducible exact Below.refl _ _ | with_reducible apply below_drewN' | with_reducible apply Below.drew | (with_reducible refine Below.alloc ?_ (by first | omega | (simp; omega) | simp | (have := (Below.refl _ _).size; omega) | (have := (Below.refl _ _).size; simp; omega)) _) | (with_reducible refine Below.setCell ?_ (by first | omega | (simp; omega) | simp | (have := (Below.refl _ _).size; omega) | (have := (Below.refl _ _).size; simp; omega)) _) | exact Below.refl _ _)), Own.empty (Nat.le_refl _)⟩
  go_wp2_with fail
  go_loopw [4, 5] (fun o i wr => ∃ k : Nat, k ≤ ws.length ∧ i = .int .i64 k ∧ Hid (okN numS (ws.take k) = true) ∧ AppS w 2 ((valsN numS (ws.take k)).map icN) o wr) (fun _ i _ => ws.length - (intOf i).toNat)
  case atStart => exact ⟨0, Nat.zero_le _, rfl, Lib.hid (by simp [okN]), L0⟩
  case round =>
    clear L0
    obtain ⟨k, hk, rfl, ha, hL⟩ := hrel
    by_cases hlt : k < ws.length
    · obtain ⟨b, off, rfl, hbB, hc⟩ := hs.txt hlt
      have c0 : wr.cell? ⟨b, off + k, none⟩ = some (.string (bs ws[k])) := by rw [hL.hb.cell hbB]; exact hc
      have HK := Lib.hid (HS.out k hlt wr)
      have hb2 := Lib.hid (hbad.out k hlt)
      have ho2 := Lib.hid (fun v h => hok.out k hlt v h ha.out)
      have hv2 := Lib.hid (hva.out k hlt)
      have hvk : Hid ((valsN numS (ws.take k)).length ≤ 1048577) := Lib.hid (by rw [hvl.out, List.length_take]; omega)
      generalize numS ws[k] = o at *
      generalize bs ws[k] = X at *
      clear hc HS hbad hok hva hvl
      go_wp2_with fail
      refine Calls.mono HK.out ?_; rintro e w1 ⟨⟨n, rfl, hn⟩, hb1⟩
      cases o with
      | none =>
        have hN := Lib.hid (hb2.out rfl)
        have hbw := hL.hb.trans (hb1.mono hL.hb.size)
        clear hL hb2 ho2 hv2 hn
        go_wp2
        go_ret2
        exact .inr ⟨hN.out, rfl, hbw⟩
      | some v =>
        obtain rfl := hn v rfl
        have hN := Lib.hid (ho2.out n rfl)
        have hV := Lib.hid (hv2.out n rfl)
        have hA := (hL.below hb1).alloc (.cells #[.int .i64 n] 2)
        clear hL hb2 ho2 hv2 hn
        generalize valsN numS (ws.take k) = P at *
        go_wp2_with (at_builtin; refine wpList_append_rows _ rfl _ _ _ rfl w.heap.size 2 ii _ 1 8 Tryz.underlying52 hi hz0 hz1 hz2 rfl (by omega) _ _ rfl hA.o _ _ _ _ ([n].map icN) rfl rfl (Sl.blkI (Blk.new' _ _ _ rfl)) icN_one (by simp only [List.length_map]; have := hvk.out; unfold maxLen; omega) (by simp only [List.length_map]; have := hvk.out; omega) (hA.hb.size) ?_; intro v1 w3 hO2 hg2 hat; have hL2 := hA.app hg2 hO2)
        go_roundw
        case rel => exact ⟨k + 1, by omega, by go_num, hN, by rw [hV.out, List.map_append]; exact hL2⟩
        case measure => simp [intOf]; omega
    · have : k = ws.length := by omega
      subst this
      have hO := hL.o
      have hbw := hL.hb
      rw [htk.out] at hO ha
      obtain ⟨A9, c9, hv, _⟩ := hO.form
      rw [List.length_map, valsN_len] at hv
      subst hv
      clear hL
      go_wp2
      go_ret2
      exact .inl ⟨ha.out, A9, c9, rfl, hO, hbw⟩
set_option maxRecDepth 100000 in
set_option maxHeartbeats 400000 in
theorem numbers_c (b : UInt8) (s : List UInt8) (w : World) (hl : s.length ≤ 1048576) (L : LwP w) :
    Calls Tryz.prog 31 #[.string (bs s), .string (bs [b])] w (NsP numI (splitC b s) w) := by
  obtain ⟨ii, hi, hz0, hz1, hz2⟩ := info_parts info_I64
  have HP : Hid (∀ W, Below w.heap.size w W → LwP W) := Lib.hid (fun W h => L.below h)
  obtain ⟨hpl, hpx⟩ := pieces_len (b := b) s
  have HC := Lib.hid (fun W (hW : Below w.heap.size w W) => split_b b s W hl (HP.out W hW).m)
  generalize splitC b s = ws at *
  have hwl : ws.length ≤ 1048577 := by omega
  have HS := Lib.hid (fun k (hk : k < ws.length) W hW => number_c ws[k] W (by have := hpx _ (List.getElem_mem hk); omega) (HP.out W hW))
  have hbad := Lib.hid (fun k h h2 => okN_bad (f := numI) (ws := ws) (k := k) h h2)
  have hok := Lib.hid (fun k h v h2 ha => okN_snoc (f := numI) (ws := ws) (k := k) h (v := v) h2 ha)
  have hva := Lib.hid (fun k h v h2 => valsN_snoc (f := numI) (ws := ws) (k := k) h (v := v) h2)
  have htk : Hid (ws.take ws.length = ws) := Lib.hid List.take_length
  have hvl := Lib.hid (fun k => valsN_len numI (ws.take k))
  clear hpx L
  generalize bs s = S at *
  generalize bs [b] = B at *
  go_enter Tryz.func31, Tryz.ntmps31
  have L0 : AppS w 2 ((valsN numI (ws.take 0)).map icN) (.slice (some ⟨w.heap.size, 0, none⟩) 0 0) (w.alloc (.cells #[] 2)) := ⟨(by repeat (first | with_reducible exact Below.refl _ _ | with_reducible apply below_drewN' | with_reducible apply Below.drew | (with_reducible refine Below.alloc ?_ (by first | omega | (simp; omega) | simp | (have := (Below.refl _ _).size; omega) | (have := (Below.refl _ _).size; simp; omega)) _) | (with_reducible refine Below.setCell ?_ (by first | omega | (simp; omega) | simp | (have := (Below.refl _ _).size; omega) | (have := (Below.refl _ _).size; simp; omega)) _) | exact Below.refl _ _)), Own.empty (Nat.le_refl _)⟩
  go_wp2_with fail
  refine Calls.mono (HC.out _ L0.hb) ?_; rintro e w1 ⟨g, rfl, hgs, hG, hb1⟩
  replace L0 := L0.below hb1
  have hne0 : (Value.slice (some ⟨w.heap.size, 0, none⟩) 0 0).ownBlock ≠ some g := fun e => by
    have e2 : w.heap.size = g := by simpa [Value.ownBlock] using e
    rw [← e2] at hgs
    simp at hgs
    omega
  clear hb1 hgs
  go_wp2_with fail
  go_loopw [6, 16] (fun o i wr => ∃ k : Nat, k ≤ ws.length ∧ i = .int .i64 k ∧ Hid (okN numI (ws.take k) = true) ∧ AppS w 2 ((valsN numI (ws.take k)).map icN) o wr ∧ Blk wr g 9 ((ws.map bs).map Value.string).toArray ∧ o.ownBlock ≠ some g) (fun _ i _ => ws.length - (intOf i).toNat)
  case atStart => exact ⟨0, Nat.zero_le _, rfl, Lib.hid (by simp [okN]), L0, hG, hne0⟩
  case round =>
    clear L0 hG hne0
    obtain ⟨k, hk, rfl, ha, hL, hG, hne⟩ := hrel
    by_cases hlt : k < ws.length
    · have c0 : wr.cell? ⟨g, k, none⟩ = some (.string (bs ws[k])) := blk_txt hG hlt
      have HK := Lib.hid (HS.out k hlt wr hL.hb)
      have hb2 := Lib.hid (hbad.out k hlt)
      have ho2 := Lib.hid (fun v h => hok.out k hlt v h ha.out)
      have hv2 := Lib.hid (hva.out k hlt)
      have hvk : Hid ((valsN numI (ws.take k)).length ≤ 1048577) := Lib.hid (by rw [hvl.out, List.length_take]; omega)
      have hgl := hG.lt
      generalize numI ws[k] = o at *
      generalize bs ws[k] = X at *
      replace hG := Lib.hid hG
      clear HS hbad hok hva hvl
      go_wp2_with fail
      refine Calls.mono HK.out ?_; rintro e w1 ⟨⟨n, rfl, hn⟩, hb1⟩
      cases o with
      | none =>
        have hN := Lib.hid (hb2.out rfl)
        have hbw := hL.hb.trans (hb1.mono hL.hb.size)
        clear hL hb2 ho2 hv2 hn
        go_wp2
        go_ret2
        exact .inr ⟨hN.out, rfl, hbw⟩
      | some v =>
        obtain rfl := hn v rfl
        have hN := Lib.hid (ho2.out n rfl)
        have hV := Lib.hid (hv2.out n rfl)
        have hA := (hL.below hb1).alloc (.cells #[.int .i64 n] 2)
        replace hG := Lib.hid ((hG.out.below hb1 hgl).alloc (.cells #[.int .i64 n] 2))
        have hg1 : g < w1.heap.size := Nat.lt_of_lt_of_le hgl hb1.size
        clear hL hb2 ho2 hv2 hn
        generalize valsN numI (ws.take k) = P at *
        go_wp2_with (at_builtin; refine wpList_append_rows _ rfl _ _ _ rfl w.heap.size 2 ii _ 1 8 Tryz.underlying52 hi hz0 hz1 hz2 rfl (by omega) _ _ rfl hA.o _ _ _ _ ([n].map icN) rfl rfl (Sl.blkI (Blk.new' _ _ _ rfl)) icN_one (by simp only [List.length_map]; have := hvk.out; unfold maxLen; omega) (by simp only [List.length_map]; have := hvk.out; omega) (hA.hb.size) ?_; intro v1 w3 hO2 hg2 hat; have hL2 := hA.app hg2 hO2)
        have hG3 := (hg2.block g hG.out.lt (fun e => hne e.symm)).trans hG.out
        have hne3 : v1.ownBlock ≠ some g := by
          rcases hat with e | e
          · rw [e]; exact hne
          · rw [e]
            intro e2
            have e3 : w1.heap.size + 1 = g := by simpa using e2
            omega
        go_roundw
        case rel => exact ⟨k + 1, by omega, by go_num, hN, by rw [hV.out, List.map_append]; exact hL2, hG3, hne3⟩
        case measure => simp [intOf]; omega
    · have : k = ws.length := by omega
      subst this
      have hO := hL.o
      have hbw := hL.hb
      rw [htk.out] at hO ha
      obtain ⟨A9, c9, hv, _⟩ := hO.form
      rw [List.length_map, valsN_len] at hv
      subst hv
      clear hL hG hne
      go_wp2
      go_ret2
      exact .inl ⟨ha.out, A9, c9, rfl, hO, hbw⟩
end Go.Proofs.YtkjommcmeinkaaaGreatDoor
