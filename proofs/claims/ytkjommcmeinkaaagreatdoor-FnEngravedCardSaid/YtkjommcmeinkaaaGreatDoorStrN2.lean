/- Numbers read by the reference. Conditions: the lengths. -/
import Derived.Test.YtkjommcmeinkaaaGreatDoorStrN
namespace Go.Proofs.YtkjommcmeinkaaaGreatDoor
open Go.RowKit
set_option linter.unusedSimpArgs false
theorem digB_int {c : UInt8} {ch : Int} (h : (c.toNat : Int) = ch) : digB c = (decide (48 ≤ ch) && decide (ch ≤ 57)) := by
  subst h
  unfold digB
  rw [decide_eq_decide.2 (show 48 ≤ c.toNat ↔ (48 : Int) ≤ (c.toNat : Int) by omega), decide_eq_decide.2 (show c.toNat ≤ 57 ↔ (c.toNat : Int) ≤ 57 by omega)]
theorem valD_snoc {l : List UInt8} {k : Nat} (h : k < l.length) : valD 0 (l.take (k + 1)) = valD 0 (l.take k) * 10 + (l[k].toNat - 48) := by
  rw [List.take_succ_eq_append_getElem h, valD_append]
  rfl
theorem all_snoc {l : List UInt8} {k : Nat} (h : k < l.length) : (l.take (k + 1)).all digB = ((l.take k).all digB && digB l[k]) := by
  rw [List.take_succ_eq_append_getElem h, List.all_append]
  simp
theorem valS_short {l : List UInt8} (h : l.length < 1 ∨ 13 < l.length) : valS l = none := by
  unfold valS
  rw [if_neg]
  intro h2
  simp only [Bool.and_eq_true, decide_eq_true_eq] at h2
  omega
theorem valS_bad {l : List UInt8} {k : Nat} (h : k < l.length) (h2 : digB l[k] = false) : valS l = none := by
  unfold valS
  rw [if_neg]
  intro h3
  simp only [Bool.and_eq_true, List.all_eq_true] at h3
  have := h3.1.2 l[k] (List.getElem_mem h)
  rw [h2] at this
  cases this
theorem valS_full {l : List UInt8} (h : 1 ≤ l.length ∧ l.length ≤ 13) (h2 : l.all digB = true) : valS l = if Lib.decDigits (valD 0 l) = l then some (valD 0 l) else none := by
  unfold valS
  rw [decide_eq_true h.1, decide_eq_true h.2, h2]
  simp
def ValP (o : Option Nat) (e : Ending) : Prop := ∃ n : Int, e = .returned (.tuple #[.int .i64 n, .bool o.isSome]) ∧ ∀ u : Nat, o = some u → n = u
set_option maxRecDepth 100000 in
set_option maxHeartbeats 400000 in
theorem l01Value_c (l : List UInt8) (w : World) (hl : l.length ≤ 1048576) : Calls Tryz.prog 65 #[.string (bs l)] w fun e w' => ValP (valS l) e ∧ Below w.heap.size w w' := by
  have hsz := bs_size l
  by_cases hsh : l.length < 1 ∨ 13 < l.length
  · have hv := valS_short hsh
    rw [hv]
    generalize bs l = S at *
    rcases hsh with h | h
    · have h1 : (S.size : Int) < 1 := by omega
      clear hv
      go_enter Tryz.func65, Tryz.ntmps65
      go_wp2
      go_ret2
      first | exact ⟨⟨0, rfl, nofun⟩, Below.refl _ _⟩ | exact ⟨⟨0, rfl⟩, Below.refl _ _⟩
    · have h1 : ¬ (S.size : Int) < 1 := by omega
      have h2 : (13 : Int) < S.size := by omega
      clear hv
      go_enter Tryz.func65, Tryz.ntmps65
      go_wp2
      go_ret2
      first | exact ⟨⟨0, rfl, nofun⟩, Below.refl _ _⟩ | exact ⟨⟨0, rfl⟩, Below.refl _ _⟩
  · have hlen : 1 ≤ l.length ∧ l.length ≤ 13 := by omega
    have hbad := Lib.hid (fun k h h2 => valS_bad (l := l) (k := k) h h2)
    have hfull := Lib.hid (valS_full hlen)
    have hal := Lib.hid (fun k h => all_snoc (l := l) (k := k) h)
    have hva := Lib.hid (fun k h => valD_snoc (l := l) (k := k) h)
    have h13 := Lib.hid (fun k h hk => valD_13 (l := l) (k := k) h hk)
    have hD := Lib.hid (fun u W h => l01Dec_c u W h)
    have hbq := Lib.hid (bs_beq (Lib.decDigits (valD 0 l)) l)
    have htk : Hid (l.take l.length = l) := Lib.hid (List.take_length)
    have g1 : ¬ ((bs l).size : Int) < 1 := by omega
    have g2 : ¬ (13 : Int) < (bs l).size := by omega
    unfold ValP
    generalize valS l = o at *
    obtain ⟨S, hS, hget⟩ : ∃ S : ByteArray, bs l = S ∧ Hid (∀ (k : Nat) (h : k < S.size) (h2 : k < l.length), (l[k].toNat : Int) = (S[k].toNat : Int)) := ⟨bs l, rfl, Lib.hid (fun k h h2 => rfl)⟩
    rw [hS] at hsz hbq g1 g2 ⊢
    replace hS := Lib.hid hS
    go_enter Tryz.func65, Tryz.ntmps65
    go_wp2_with fail
    go_loop [4, 5] (fun n i => ∃ k : Nat, k ≤ l.length ∧ i = .int .i64 k ∧ n = .int .i64 (valD 0 (l.take k) : Nat) ∧ Hid ((l.take k).all digB = true)) (fun _ i => l.length - (intOf i).toNat)
    case atStart => exact ⟨0, Nat.zero_le _, rfl, rfl, Lib.hid (by simp)⟩
    case round =>
      obtain ⟨k, hk, rfl, rfl, ha⟩ := hrel
      have hn := h13.out k ha.out (by omega)
      by_cases hlt : k < l.length
      · have hks : k < S.size := by omega
        have hg := hget.out k hks hlt
        have hd := digB_int hg
        have hbk := hbad.out k hlt
        have hak := hal.out k hlt
        have hvk := hva.out k hlt
        rw [ha.out, Bool.true_and] at hak
        have hch : (0 : Int) ≤ (S[k].toNat : Int) ∧ (S[k].toNat : Int) ≤ 255 := by have := S[k].toNat_lt; omega
        rw [hd] at hbk hak
        have hcn : (l[k].toNat : Int) = (S[k].toNat : Int) := hg
        generalize l[k].toNat = cn at *
        generalize hq : (S[k].toNat : Int) = ch at *
        clear hg hd
        generalize valD 0 (l.take k) = n at *
        generalize hn2 : valD 0 (l.take (k + 1)) = n2 at *
        replace hn2 := Lib.hid hn2
        replace hvk := Lib.hid hvk
        replace hbk := Lib.hid hbk
        replace hak := Lib.hid hak
        replace hcn := Lib.hid hcn
        by_cases c1 : ch < 48
        · have d1 : decide (ch < 48) = true := decide_eq_true c1
          obtain rfl := hbk.out (by rw [decide_eq_false (show ¬ 48 ≤ ch by omega)]; rfl)
          clear hbk hak hvk
          go_wp2
          go_ret2
          first | exact ⟨⟨0, rfl, nofun⟩, Below.refl _ _⟩ | exact ⟨⟨0, rfl⟩, Below.refl _ _⟩
        · have d1 : decide (ch < 48) = false := decide_eq_false c1
          by_cases c2 : 57 < ch
          · have d2 : decide (57 < ch) = true := decide_eq_true c2
            obtain rfl := hbk.out (by rw [decide_eq_false (show ¬ ch ≤ 57 by omega), Bool.and_false])
            clear hbk hak hvk
            go_wp2
            go_ret2
            first | exact ⟨⟨0, rfl, nofun⟩, Below.refl _ _⟩ | exact ⟨⟨0, rfl⟩, Below.refl _ _⟩
          · have d2 : decide (57 < ch) = false := decide_eq_false c2
            have ha2 : Hid ((l.take (k + 1)).all digB = true) := Lib.hid (by rw [hak.out, decide_eq_true (show 48 ≤ ch by omega), decide_eq_true (show ch ≤ 57 by omega)]; rfl)
            have u1 : IntKind.u8.wrap (ch - 48) = ch - 48 := IntWalk.u8_in _ (by omega)
            have u2 : IntKind.i64.wrap (ch - 48) = ch - 48 := IntWalk.i64_in _ (by omega)
            have u3 : IntKind.i64.wrap (10 * (n : Int)) = 10 * (n : Int) := IntWalk.i64_in _ (by omega)
            have u4 : IntKind.i64.wrap (10 * (n : Int) + (ch - 48)) = 10 * (n : Int) + (ch - 48) := IntWalk.i64_in _ (by omega)
            clear hbk hak
            go_wp2_with fail
            go_round
            case rel => exact ⟨k + 1, by omega, by go_num, by rw [hn2.out]; congr 1; have := hvk.out; have := hcn.out; omega, ha2⟩
            case measure => simp [intOf]; omega
      · have : k = l.length := by omega
        subst this
        rw [htk.out] at hn ha ⊢
        have hO := hfull.out ha.out
        have hDD := Lib.hid (hD.out (valD 0 l) w (by omega))
        have hqq := hbq.out
        by_cases he : Lib.decDigits (valD 0 l) = l
        · rw [decide_eq_true he] at hqq
          rw [if_pos he] at hO
          subst hO
          replace he := Lib.hid he
          generalize bs (Lib.decDigits (valD 0 l)) = T at *
          generalize hnn : valD 0 l = n at *
          replace hnn := Lib.hid hnn
          clear hfull hbq hD hva h13 hal hbad hget
          go_wp2_with fail
          refine Calls.mono hDD.out ?_; rintro e w2 ⟨rfl, hb2⟩
          go_wp2
          go_ret2
          exact ⟨⟨_, rfl, fun u h => by have := Option.some.inj h; have := hnn.out; omega⟩, hb2⟩
        · rw [decide_eq_false he] at hqq
          rw [if_neg he] at hO
          subst hO
          replace he := Lib.hid he
          generalize bs (Lib.decDigits (valD 0 l)) = T at *
          generalize hnn : valD 0 l = n at *
          replace hnn := Lib.hid hnn
          clear hfull hbq hD hva h13 hal hbad hget
          go_wp2_with fail
          refine Calls.mono hDD.out ?_; rintro e w2 ⟨rfl, hb2⟩
          go_wp2
          go_ret2
          first | exact ⟨⟨_, rfl, nofun⟩, hb2⟩ | exact ⟨⟨_, rfl⟩, hb2⟩
end Go.Proofs.YtkjommcmeinkaaaGreatDoor
