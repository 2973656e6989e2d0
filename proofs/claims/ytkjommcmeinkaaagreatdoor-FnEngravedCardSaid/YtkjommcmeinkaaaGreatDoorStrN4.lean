/- Texts split by the reference; lists of numbers read by both sides. Conditions: the lengths; what the library's variables hold. -/
import Derived.Test.YtkjommcmeinkaaaGreatDoorStrN3
namespace Go.Proofs.YtkjommcmeinkaaaGreatDoor
open Go.RowKit
set_option linter.unusedSimpArgs false
theorem info_I64 : (Tryz.prog.info? 2).map (fun i => (i.zero, i.size, i.bytes)) = some (some (.int .i64 0), 1, 8) := by kernel_rfl
def icN (n : Int) : List Value := [.int .i64 n]
theorem icN_one {L : List Int} : ∀ y ∈ L.map icN, ∀ u ∈ y, u.oneCell' = true := fun y hy u hu => by
  obtain ⟨x, _, rfl⟩ := List.mem_map.1 hy
  obtain rfl : u = .int .i64 x := by simpa [icN] using hu
  rfl
theorem Sl.blkI {w : World} {g : Nat} {t : TypeId} {x : Int} (h : Blk w g t #[.int .i64 x]) : Sl w (g + 1) 1 (some ⟨g, 0, none⟩) ([x].map icN) :=
  Sl.of_blk h _ rfl (by intro y hy; simp only [List.map_cons, List.map_nil, List.mem_singleton] at hy; subst hy; rfl)
theorem drop_cons {s : List UInt8} {k : Nat} (h : k < s.length) : s.drop k = s[k] :: s.drop (k + 1) := List.drop_eq_getElem_cons h
/-- what is split so far, behind it the rest -/
def SpI (b : UInt8) (s : List UInt8) (f k : Nat) (L : List (List UInt8)) : Prop := (k ≤ s.length → f ≤ k ∧ L ++ preC ((s.drop f).take (k - f)) (splitC b (s.drop k)) = splitC b s) ∧ (k = s.length + 1 → L = splitC b s)
theorem SpI.init (b : UInt8) (s : List UInt8) : SpI b s 0 0 [] := ⟨fun _ => ⟨Nat.le_refl _, by simp [preC_nil (splitC_ne b s)]⟩, fun h => by omega⟩
theorem SpI.skip {b : UInt8} {s : List UInt8} {f k : Nat} {L : List (List UInt8)} (h : SpI b s f k L) (hk : k < s.length) (hb : s[k] ≠ b) : SpI b s f (k + 1) L := by
  obtain ⟨h1, h2⟩ := h.1 (by omega)
  refine ⟨fun _ => ⟨by omega, ?_⟩, fun e => by omega⟩
  rw [drop_cons hk, splitC_cons hb, preC_preC] at h2
  rw [← h2]
  congr 2
  have hlt : k - f < (s.drop f).length := by rw [List.length_drop]; omega
  rw [show k + 1 - f = (k - f) + 1 by omega, List.take_succ_eq_append_getElem hlt]
  congr 2
  simp
  congr 1
  omega
theorem SpI.cut {b : UInt8} {s : List UInt8} {f k : Nat} {L : List (List UInt8)} (h : SpI b s f k L) (hk : k < s.length) (hb : s[k] = b) : SpI b s (k + 1) (k + 1) (L ++ [(s.drop f).take (k - f)]) := by
  obtain ⟨h1, h2⟩ := h.1 (by omega)
  refine ⟨fun _ => ⟨Nat.le_refl _, ?_⟩, fun e => by omega⟩
  rw [drop_cons hk, hb, splitC_hit] at h2
  rw [Nat.sub_self, List.take_zero, preC_nil (splitC_ne _ _), ← h2]
  simp [preC]
theorem SpI.last {b : UInt8} {s : List UInt8} {f k : Nat} {L : List (List UInt8)} (h : SpI b s f k L) (hk : k = s.length) : SpI b s (k + 1) (k + 1) (L ++ [(s.drop f).take (k - f)]) := by
  obtain ⟨h1, h2⟩ := h.1 (by omega)
  refine ⟨fun e => by omega, fun _ => ?_⟩
  rw [hk, List.drop_length] at h2
  rw [hk, ← h2]
  simp [splitC, preC]
set_option maxRecDepth 100000 in
set_option maxHeartbeats 400000 in
theorem l01Split_c (b : UInt8) (s : List UInt8) (w : World) (hl : s.length ≤ 1048576) :
    Calls Tryz.prog 32 #[.string (bs s), .int .u8 b.toNat] w fun e w' => ∃ A c, e = .returned (.slice A (splitC b s).length c) ∧ Own w' w.heap.size 9 1 (.slice A (splitC b s).length c) ((splitC b s).map str1) ∧ Below w.heap.size w w' := by
  obtain ⟨ii, hi, hz0, hz1, hz2⟩ := info_parts info_Str1
  have hsz := bs_size s
  obtain ⟨S, hS, hget, hext⟩ : ∃ S : ByteArray, bs s = S ∧ Hid (∀ (k : Nat) (h : k < S.size) (h2 : k < s.length), (s[k].toNat : Int) = (S[k].toNat : Int)) ∧ Hid (∀ f k, S.extract f k = bs ((s.drop f).take (k - f))) := ⟨bs s, rfl, Lib.hid (fun k h h2 => rfl), Lib.hid (fun f k => bs_extract s f k)⟩
  rw [hS] at hsz ⊢
  replace hS := Lib.hid hS
  have hskip := Lib.hid (fun f k L (h : SpI b s f k L) hk hb => h.skip hk hb)
  have hcut := Lib.hid (fun f k L (h : SpI b s f k L) hk hb => h.cut hk hb)
  have hlast := Lib.hid (fun f k L (h : SpI b s f k L) hk => h.last hk)
  have h00 := Lib.hid (SpI.init b s)
  go_enter Tryz.func32, Tryz.ntmps32
  have L0 : AppS w 9 (([] : List (List UInt8)).map str1) (.slice (some ⟨w.heap.size, 0, none⟩) 0 0) (w.alloc (.cells #[] 9)) := ⟨(by repeat (first | with_reducible exact Below.refl _ _ | with_reducible apply below_drewN' | with_reducible apply Below.drew | (with_reducible refine Below.alloc ?_ (by first | omega | (simp; omega) | simp | (have := (Below.refl _ _).size; omega) | (have := (Below.refl _ _).size; simp; omega)) _) | (with_reducible refine Below.setCell ?_ (by first | omega | (simp; omega) | simp | (have := (Below.refl _ _).size; omega) | (have := (Below.refl _ _).size; simp; omega)) _) | exact Below.refl _ _)), Own.empty (Nat.le_refl _)⟩
  go_wp2_with fail
  go_loopw [5, 6, 7] (fun o fr i wr => ∃ (k f : Nat) (L : List (List UInt8)), (k ≤ s.length + 1 ∧ L.length ≤ k) ∧ i = .int .i64 k ∧ fr = .int .i64 f ∧ Hid (SpI b s f k L) ∧ AppS w 9 (L.map str1) o wr) (fun _ _ i _ => s.length + 1 - (intOf i).toNat)
  case atStart => exact ⟨0, 0, [], by simp, rfl, rfl, h00, L0⟩
  case round =>
    clear L0
    obtain ⟨k, f, L, ⟨hk, hLl⟩, rfl, rfl, hsp, hL⟩ := hrel
    by_cases hlt : k < s.length + 1
    · have hfk := (hsp.out.1 (by omega)).1
      have hex := hext.out f k
      have hA := hL.alloc (.cells #[.string (bs ((s.drop f).take (k - f)))] 9)
      have hlen : Hid (L.length ≤ 1048577) := Lib.hid (by omega)
      by_cases hke : k = s.length
      · have hnx := Lib.hid (hlast.out f k L hsp.out hke)
        subst hke
        have e1 : ((s.length : Int) == (s.length : Int)) = true := by simp
        generalize ((s.drop f).take (s.length - f)) = P at *
        clear hL hsp hskip hcut hlast hget hext
        go_wp2_with (at_builtin; refine wpList_append_rows _ rfl _ _ _ rfl w.heap.size 9 ii _ 1 16 Tryz.underlying49 hi hz0 hz1 hz2 rfl (by omega) _ _ rfl hA.o _ _ _ _ ([P].map str1) rfl rfl (Sl.blk1 (Blk.new' _ _ _ rfl)) str1_one (by simp only [List.length_map]; have := hlen.out; unfold maxLen; omega) (by simp only [List.length_map]; have := hlen.out; omega) (hA.hb.size) ?_; intro v1 w3 hO2 hg2 hat; have hL2 := hA.app hg2 hO2)
        go_roundw
        case rel => exact ⟨s.length + 1, s.length + 1, L ++ [P], ⟨by omega, by first | (simp; done) | (simp; omega)⟩, by go_num, by go_num, hnx, by rw [List.map_append]; exact hL2⟩
        case measure => first | (simp [intOf]; done) | (simp [intOf]; omega)
      · have hlt2 : k < s.length := by omega
        have hks : k < S.size := by omega
        have e1 : ((k : Int) == (s.length : Int)) = false := by simpa using (by omega : ¬ (k : Int) = (s.length : Int))
        have hg := hget.out k hks hlt2
        by_cases hb : s[k] = b
        · have hnx := Lib.hid (hcut.out f k L hsp.out hlt2 hb)
          have e2 : ((S[k].toNat : Int) == (b.toNat : Int)) = true := by rw [← hg, hb]; simp
          generalize ((s.drop f).take (k - f)) = P at *
          generalize hq : (S[k].toNat : Int) = ch at *
          clear hL hsp hskip hcut hlast hget hext hg hb
          go_wp2_with (at_builtin; refine wpList_append_rows _ rfl _ _ _ rfl w.heap.size 9 ii _ 1 16 Tryz.underlying49 hi hz0 hz1 hz2 rfl (by omega) _ _ rfl hA.o _ _ _ _ ([P].map str1) rfl rfl (Sl.blk1 (Blk.new' _ _ _ rfl)) str1_one (by simp only [List.length_map]; have := hlen.out; unfold maxLen; omega) (by simp only [List.length_map]; have := hlen.out; omega) (hA.hb.size) ?_; intro v1 w3 hO2 hg2 hat; have hL2 := hA.app hg2 hO2)
          go_roundw
          case rel => exact ⟨k + 1, k + 1, L ++ [P], ⟨by omega, by first | (simp; done) | (simp; omega)⟩, by go_num, by go_num, hnx, by rw [List.map_append]; exact hL2⟩
          case measure => simp [intOf]; omega
        · have hnx := Lib.hid (hskip.out f k L hsp.out hlt2 hb)
          have e2 : ((S[k].toNat : Int) == (b.toNat : Int)) = false := by
            rw [← hg]
            have : ¬ (s[k].toNat : Int) = (b.toNat : Int) := fun e => hb (UInt8.toNat_inj.1 (by omega))
            simpa using this
          generalize hq : (S[k].toNat : Int) = ch at *
          clear hsp hskip hcut hlast hget hext hg hb hA hex
          go_wp2_with fail
          go_roundw
          case rel => exact ⟨k + 1, f, L, ⟨by omega, by omega⟩, by go_num, rfl, hnx, hL⟩
          case measure => simp [intOf]; omega
    · have : k = s.length + 1 := by omega
      subst this
      have hLe := hsp.out.2 rfl
      subst hLe
      have hO := hL.o
      have hbw := hL.hb
      obtain ⟨A9, c9, hv, _⟩ := hO.form
      rw [List.length_map] at hv
      subst hv
      clear hL hsp
      go_wp2
      go_ret
      exact ⟨A9, c9, rfl, hO, hbw⟩
end Go.Proofs.YtkjommcmeinkaaaGreatDoor
