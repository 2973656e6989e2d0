/- Signed numbers read by the reference; texts split by both sides. Conditions: the lengths; what the library's variables hold. -/
import Derived.Test.YtkjommcmeinkaaaGreatDoorStrN2
namespace Go.Proofs.YtkjommcmeinkaaaGreatDoor
open Go.RowKit
set_option linter.unusedSimpArgs false
set_option maxRecDepth 100000 in
theorem l01Signed_c (l : List UInt8) (w : World) (hl : l.length ≤ 1048576) : Calls Tryz.prog 48 #[.string (bs l)] w fun e w' => NumP (numS l) e ∧ Below w.heap.size w w' := by
  cases l with
  | nil =>
    have HV := Lib.hid (l01Value_c [] w (by simp))
    have hv : valS [] = none := valS_short (.inl (by simp))
    rw [hv] at HV
    unfold NumP ValP at *
    have hz : (bs []).size = 0 := rfl
    have hn : numS [] = none := rfl
    rw [hn]
    generalize bs [] = S at *
    go_enter Tryz.func48, Tryz.ntmps48
    go_wp2_with fail
    refine Calls.mono HV.out ?_; rintro e w1 ⟨⟨n, rfl, _⟩, hb⟩
    go_wp2
    go_ret2
    first | exact ⟨⟨n, rfl, nofun⟩, hb⟩ | exact ⟨⟨n, rfl⟩, hb⟩
  | cons c r =>
    have hsz := bs_size (c :: r)
    have hx : (bs (c :: r)).extract 1 (bs (c :: r)).size = bs r := by
      rw [bs_extract, bs_size]
      simp
    obtain ⟨S, hS, hget⟩ : ∃ S : ByteArray, bs (c :: r) = S ∧ ∀ (h : 0 < S.size), (S[0].toNat : Int) = (c.toNat : Int) := ⟨bs (c :: r), rfl, fun h => rfl⟩
    have hnc := Lib.hid (numS_cons c r)
    have HV := Lib.hid (l01Value_c (c :: r) w hl)
    have HR := Lib.hid (l01Value_c r w (by simp at hl; omega))
    rw [hS] at HV hx hsz ⊢
    have hpos : 0 < S.size := by rw [hsz]; simp
    have hg := hget hpos
    clear hget
    have hsz2 : S.size = r.length + 1 := by rw [hsz]; simp
    rw [hsz2] at hx
    clear hsz
    unfold NumP
    generalize numS (c :: r) = o at *
    by_cases hc : c = 45
    · have hN := hnc.out
      rw [if_pos hc] at hN
      have h45 : (c.toNat : Int) = 45 := by rw [hc]; rfl
      rw [h45] at hg
      clear hnc h45 hc HV
      generalize hvr : valS r = vr at *
      generalize hb0 : bs r = R at *
      clear hb0
      cases vr with
      | none =>
        simp only at hN
        subst hN
        unfold ValP at HR
        go_enter Tryz.func48, Tryz.ntmps48
        go_wp2_with fail
        refine Calls.mono HR.out ?_; rintro e w1 ⟨⟨n, rfl, _⟩, hb⟩
        go_wp2
        go_ret2
        first | exact ⟨⟨_, rfl, nofun⟩, hb⟩ | exact ⟨⟨_, rfl⟩, hb⟩
      | some u =>
        simp only at hN
        unfold ValP at HR
        by_cases hu : 0 < u
        · rw [if_pos hu] at hN
          subst hN
          have hub : u < 10000000000000 := (valS_some.1 hvr).2
          have hw : IntKind.i64.wrap (-(u : Int)) = -(u : Int) := IntWalk.i64_in _ (by omega)
          have hu2 : (0 : Int) < (u : Int) := by omega
          have hu3 : decide (0 < u) = true := decide_eq_true hu
          clear hvr
          go_enter Tryz.func48, Tryz.ntmps48
          go_wp2_with fail
          refine Calls.mono HR.out ?_; rintro e w1 ⟨⟨n, rfl, hn⟩, hb⟩
          obtain rfl := hn u rfl
          clear hn
          go_wp2
          go_ret2
          exact ⟨⟨_, rfl, fun v h => by have := Option.some.inj h; omega⟩, hb⟩
        · rw [if_neg hu] at hN
          subst hN
          obtain rfl : u = 0 := by omega
          clear hvr
          go_enter Tryz.func48, Tryz.ntmps48
          go_wp2_with fail
          refine Calls.mono HR.out ?_; rintro e w1 ⟨⟨n, rfl, hn⟩, hb⟩
          obtain rfl := hn 0 rfl
          clear hn
          go_wp2
          go_ret2
          first | exact ⟨⟨_, rfl, nofun⟩, hb⟩ | exact ⟨⟨_, rfl⟩, hb⟩
    · have hN := hnc.out
      rw [if_neg hc] at hN
      have hne : ((c.toNat : Int) == 45) = false := by
        have : ¬ (c.toNat : Int) = 45 := fun e => hc (UInt8.toNat_inj.1 (by have : (45 : UInt8).toNat = 45 := rfl; omega))
        simpa using this
      rw [← hg] at hne
      clear hnc hc HR hx
      generalize valS (c :: r) = vr at *
      unfold ValP at HV
      cases vr with
      | none =>
        obtain rfl : o = none := hN
        go_enter Tryz.func48, Tryz.ntmps48
        go_wp2_with fail
        refine Calls.mono HV.out ?_; rintro e w1 ⟨⟨n, rfl, _⟩, hb⟩
        go_wp2
        go_ret2
        first | exact ⟨⟨_, rfl, nofun⟩, hb⟩ | exact ⟨⟨_, rfl⟩, hb⟩
      | some u =>
        obtain rfl : o = some (u : Int) := hN
        go_enter Tryz.func48, Tryz.ntmps48
        go_wp2_with fail
        refine Calls.mono HV.out ?_; rintro e w1 ⟨⟨n, rfl, hn⟩, hb⟩
        obtain rfl := hn u rfl
        clear hn
        go_wp2
        go_ret2
        exact ⟨⟨_, rfl, fun v h => by have := Option.some.inj h; omega⟩, hb⟩
theorem split_b (b : UInt8) (s : List UInt8) (w : World) (hl : s.length ≤ 1048576) (hm : ∃ m, w.cell? ⟨0, 0, none⟩ = some (.int .i64 m)) :
    Calls Tryz.prog 29 #[.string (bs s), .string (bs [b])] w fun e w' => ∃ g, e = .returned (.slice (some ⟨g, 0, none⟩) (splitC b s).length (splitC b s).length) ∧ w.heap.size ≤ g ∧ Blk w' g 9 (((splitC b s).map bs).map Value.string).toArray ∧ Below w.heap.size w w' := by
  obtain ⟨m, hm⟩ := hm
  have hL : Lib.splitB (bs [b]) 0 (Lib.countB (bs s) (bs [b])) (bs s) = (splitC b s).map bs := by
    have h1 := Lib.splitB_data (bs [b]) 0 (Lib.countB (bs s) (bs [b])) (bs s)
    have h2 := split_byte b s.length s (Nat.le_refl _)
    have hc : Lib.countB (bs s) (bs [b]) = Lib.count s [b] := by unfold Lib.countB; rw [bs_data, bs_data]
    rw [hc, bs_data, bs_data, h2] at h1
    rw [hc]
    have h3 := congrArg (List.map bs) h1
    rw [List.map_map] at h3
    rw [← h3]
    conv => lhs; rw [← List.map_id (Lib.splitB _ _ _ _)]
    exact List.map_congr_left fun x _ => (bs_of x).symm
  have hlen : Lib.countB (bs s) (bs [b]) + 1 = (splitC b s).length := by
    have h1 := Lib.splitB_all (bs [b]) (by rw [bs_size]; exact Nat.le_refl _) 0 _ (bs s) rfl
    rw [hL, List.length_map] at h1
    exact h1.symm
  refine (Any.strings_Split Tryz.laySplit (by kernel_rfl) (bs s) (bs [b]) m w (by rw [bs_size]; omega) hm (by rw [bs_size]; exact Nat.le_refl _)).mono ?_
  rintro e w' ⟨rfl, rfl⟩
  rw [hL, hlen]
  exact ⟨w.heap.size, rfl, Nat.le_refl _, Blk.new _ _ _, (Below.refl _ _).alloc (Nat.le_refl _) _⟩
theorem blk_txt {w : World} {g : Nat} {t : TypeId} {ws : List (List UInt8)} (h : Blk w g t ((ws.map bs).map Value.string).toArray) {k : Nat} (hk : k < ws.length) : w.cell? ⟨g, k, none⟩ = some (.string (bs ws[k])) := by
  rw [h.cell]
  simp [hk]
end Go.Proofs.YtkjommcmeinkaaaGreatDoor
