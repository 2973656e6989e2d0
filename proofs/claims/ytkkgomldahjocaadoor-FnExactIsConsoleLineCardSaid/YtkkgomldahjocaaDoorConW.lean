/- A line of the console read: its words and numbers, both sides. Conditions: the line's length; what the library's variables hold. -/
import Derived.Test.YtkkgomldahjocaaDoorConK
import Derived.Lib.OthersKept
namespace Go.Proofs.YtkkgomldahjocaaDoor
open Go.RowKit
set_option linter.unusedSimpArgs false
def cnB (sh : List UInt8) (ws : List (List UInt8)) (i : Nat) : Bool := decide (sh[i]? = some 84) || (valS (ws.getD (i + 1) [])).isSome
def cnF (sh : List UInt8) (ws : List (List UInt8)) (i : Nat) : Option Int := if sh[i]? = some 84 then none else (valS (ws.getD (i + 1) [])).map fun (u : Nat) => (u : Int)
def conB (sh : List UInt8) (ws : List (List UInt8)) (k : Nat) : Bool := (List.range k).all (cnB sh ws)
def conN (sh : List UInt8) (ws : List (List UInt8)) (k : Nat) : List Int := (List.range k).filterMap (cnF sh ws)
/-- the numbers of a line, if it is a command -/
def parseC (ws : List (List UInt8)) : Option (List Int) := match kindOf (ws.getD 0 []) with
  | none => none
  | some sh => if decide (ws.length = sh.length + 1) && conB sh ws sh.length then some (conN sh ws sh.length) else none
section
variable {sh : List UInt8} {ws : List (List UInt8)} {k : Nat}
theorem conB_succ : conB sh ws (k + 1) = (conB sh ws k && cnB sh ws k) := by
  unfold conB
  rw [List.range_succ, List.all_append]
  simp
theorem conN_succ : conN sh ws (k + 1) = conN sh ws k ++ (cnF sh ws k).toList := by
  unfold conN
  rw [List.range_succ, List.filterMap_append]
  congr 1
theorem conN_len : (conN sh ws k).length ≤ k := by
  unfold conN
  exact Nat.le_trans (List.length_filterMap_le _ _) (by simp)
theorem con_T (h : sh[k]? = some 84) (hb : conB sh ws k = true) : conB sh ws (k + 1) = true ∧ conN sh ws (k + 1) = conN sh ws k := by
  rw [conB_succ, conN_succ, hb]
  unfold cnB cnF
  rw [if_pos h, decide_eq_true h]
  simp
theorem con_I (h : sh[k]? ≠ some 84) {u : Nat} (hv : valS (ws.getD (k + 1) []) = some u) (hb : conB sh ws k = true) : conB sh ws (k + 1) = true ∧ conN sh ws (k + 1) = conN sh ws k ++ [(u : Int)] := by
  rw [conB_succ, conN_succ, hb]
  unfold cnB cnF
  rw [if_neg h, hv]
  simp
theorem con_bad (h : sh[k]? ≠ some 84) (hv : valS (ws.getD (k + 1) []) = none) {n : Nat} (hn : k < n) : conB sh ws n = false := by
  unfold conB
  rw [List.all_eq_false]
  exact ⟨k, List.mem_range.2 hn, by unfold cnB; rw [hv, decide_eq_false h]; simp⟩
theorem parseC_none (h : kindOf (ws.getD 0 []) = none) : parseC ws = none := by unfold parseC; rw [h]
theorem parseC_len (h : kindOf (ws.getD 0 []) = some sh) (hl : ws.length ≠ sh.length + 1) : parseC ws = none := by
  unfold parseC
  rw [h]
  simp [hl]
theorem parseC_some (h : kindOf (ws.getD 0 []) = some sh) (hl : ws.length = sh.length + 1) : parseC ws = if conB sh ws sh.length = true then some (conN sh ws sh.length) else none := by
  unfold parseC
  rw [h]
  simp [hl]
end
theorem valS_numI {x : List UInt8} {n : Int} (h : numI x = some n) (h0 : 0 ≤ n) (hl : x.length ≤ 13) : valS x = some n.toNat := by
  obtain ⟨rfl, _, _⟩ := numI_some.1 h
  have e : Lib.itoa n = Lib.decDigits n.toNat := by unfold Lib.itoa; rw [if_neg (by omega)]
  rw [e] at hl ⊢
  exact valS_some.2 ⟨rfl, (dec_len_le _ 13 (by omega)).1 hl⟩
theorem numI_valS {x : List UInt8} {u : Nat} (h : valS x = some u) : numI x = some (u : Int) ∧ x.length ≤ 13 := by
  obtain ⟨rfl, hu⟩ := valS_some.1 h
  refine ⟨numI_some.2 ⟨?_, by omega, by omega⟩, (dec_len_le u 13 (by omega)).2 hu⟩
  unfold Lib.itoa
  rw [if_neg (by omega)]
  rfl
/-- how a line's reader answers -/
def LineP (ws : List (List UInt8)) (w : World) (e : Ending) (w' : World) : Prop :=
  (∃ ns A c A' c', parseC ws = some ns ∧ e = .returned (.tuple #[.slice A ws.length c, .slice A' ns.length c', .bool true]) ∧ Sl w' w'.heap.size 1 A (ws.map str1) ∧ Own w' w.heap.size 2 1 (.slice A' ns.length c') (ns.map icN) ∧ Below w.heap.size w w') ∨
  (parseC ws = none ∧ e = .returned (.tuple #[.slice none 0 0, .slice none 0 0, .bool false]) ∧ Below w.heap.size w w')
theorem wsD_lt {ws : List (List UInt8)} {i : Nat} (h : i < ws.length) : ws.getD i [] = ws[i] := by simp [List.getD, h]
set_option maxRecDepth 100000 in
set_option maxHeartbeats 1000000 in
theorem l34Parse_c (s : List UInt8) (w : World) (hl : s.length ≤ 1048576) : Calls Tryd.prog 30 #[.string (bs s)] w (LineP (splitC 32 s) w) := by
  obtain ⟨ii, hi, hz0, hz1, hz2⟩ := info_parts info_I64
  have HC := Lib.hid (l01Split_c 32 s w hl : Calls Tryd.prog 24 #[.string (bs s), .int .u8 32] w _)
  obtain ⟨hpl, hpx⟩ := pieces_len (b := 32) s
  have hne := splitC_ne 32 s
  generalize splitC 32 s = ws at *
  have hw0 : 0 < ws.length := by cases ws with
    | nil => exact absurd rfl hne
    | cons a b => simp
  have hg0 : ws.getD 0 [] = ws[0] := wsD_lt hw0
  have HK := Lib.hid (fun W => l34Kind_c ws[0] W)
  have HV := Lib.hid (fun k (hk : k < ws.length) W => l01Value_c ws[k] W (by have := hpx _ (List.getElem_mem hk); omega))
  clear hpx hne
  generalize bs s = S at *
  cases hkk : kindOf ws[0] with
  | none =>
    have hP : Hid (parseC ws = none) := Lib.hid (parseC_none (by rw [hg0]; exact hkk))
    rw [hkk] at HK
    have hq : ((bs ((none : Option (List UInt8)).getD [45])).toList == ([45] : List UInt8)) = true := by
      show ((bs [45]).toList == ([45] : List UInt8)) = true
      rw [bs_lit]; rfl
    generalize bs ((none : Option (List UInt8)).getD [45]) = K at *
    clear HV hkk hg0
    go_enter Tryd.func30, Tryd.ntmps30
    go_wp2_with fail
    refine Calls.mono HC.out ?_; rintro e w1 ⟨Aw, cw, rfl, Ow, hb1⟩
    obtain ⟨wb, wo, rfl, hwb, c0⟩ := Ow.sl.txt hw0
    rw [Nat.add_zero] at c0
    go_wp2_with fail
    refine Calls.mono (HK.out w1) ?_; rintro e w2 ⟨rfl, rfl⟩
    go_wp2
    go_ret3
    exact .inr ⟨hP.out, rfl, hb1⟩
  | some sh =>
    obtain ⟨hs4, hsc, hs45⟩ := kindOf_ok hkk
    rw [hkk] at HK
    have hK0 : (some sh).getD [45] = sh := rfl
    rw [hK0] at HK
    have hq : ((bs sh).toList == ([45] : List UInt8)) = false := by rw [bs_lit]; exact decide_eq_false hs45
    have hsz := bs_size sh
    by_cases hln : ws.length = sh.length + 1
    · have hP := Lib.hid (parseC_some (by rw [hg0]; exact hkk) hln)
      have hT := Lib.hid (fun k h hb => con_T (sh := sh) (ws := ws) (k := k) h hb)
      have hI := Lib.hid (fun k h u hv hb => con_I (sh := sh) (ws := ws) (k := k) h (u := u) hv hb)
      have hB := Lib.hid (fun k h hv n hn => con_bad (sh := sh) (ws := ws) (k := k) h hv (n := n) hn)
      have hNl := Lib.hid (fun k => conN_len (sh := sh) (ws := ws) (k := k))
      obtain ⟨K, hKe, hget⟩ : ∃ K : ByteArray, bs sh = K ∧ Hid (∀ (k : Nat) (h : k < K.size) (h2 : k < sh.length), (sh[k].toNat : Int) = (K[k].toNat : Int)) := ⟨bs sh, rfl, Lib.hid (fun k h h2 => rfl)⟩
      rw [hKe] at HK hq hsz
      have hcn : Hid (conN sh ws 0 = [] ∧ conB sh ws 0 = true) := Lib.hid ⟨rfl, rfl⟩
      clear hkk hg0 hKe hs45
      have hg1 : ((ws.length : Int) == (sh.length : Int) + 1) = true := by simpa using (by omega : (ws.length : Int) = (sh.length : Int) + 1)
      replace hsc := Lib.hid hsc
      go_enter Tryd.func30, Tryd.ntmps30
      go_wp2_with fail
      refine Calls.mono HC.out ?_; rintro e w1 ⟨Aw, cw, rfl, Ow, hb1⟩
      obtain ⟨wb, wo, rfl, hwb, c0⟩ := Ow.sl.txt hw0
      rw [Nat.add_zero] at c0
      go_wp2_with fail
      refine Calls.mono (HK.out w1) ?_; rintro e w2 ⟨rfl, rfl⟩
      have L0 : AppS w 2 ((conN sh ws 0).map icN) (.slice (some ⟨w1.heap.size, 0, none⟩) 0 0) (w1.alloc (.cells #[] 2)) := ⟨(by repeat (first | with_reducible exact hb1 | with_reducible apply below_drewN' | with_reducible apply Below.drew | (with_reducible refine Below.alloc ?_ (by first | omega | (simp; omega) | simp | (have := (hb1).size; omega) | (have := (hb1).size; simp; omega)) _) | (with_reducible refine Below.setCell ?_ (by first | omega | (simp; omega) | simp | (have := (hb1).size; omega) | (have := (hb1).size; simp; omega)) _) | exact hb1)), Own.empty hb1.size⟩
      have hne0 : (Value.slice (some ⟨wb, wo, none⟩) ws.length cw).ownBlock = none ∨ (Value.slice (some ⟨wb, wo, none⟩) ws.length cw).ownBlock ≠ (Value.slice (some ⟨w1.heap.size, 0, none⟩) 0 0).ownBlock := .inr (fun e => by
        have := (Ow.1.lt w1.heap.size e).2
        omega)
      replace Ow := Ow.alloc (.cells #[] 2)
      clear hb1 c0 hwb HK HC
      replace hln := Lib.hid hln
      go_wp2_with fail
      go_loopw [7, 8] (fun o i wr => ∃ k : Nat, k ≤ sh.length ∧ i = .int .i64 k ∧ Hid (conB sh ws k = true) ∧ AppS w 2 ((conN sh ws k).map icN) o wr ∧ Own wr w.heap.size 9 1 (.slice (some ⟨wb, wo, none⟩) ws.length cw) (ws.map str1) ∧ ((Value.slice (some ⟨wb, wo, none⟩) ws.length cw).ownBlock = none ∨ (Value.slice (some ⟨wb, wo, none⟩) ws.length cw).ownBlock ≠ o.ownBlock)) (fun _ i _ => sh.length - (intOf i).toNat)
      case atStart => exact ⟨0, Nat.zero_le _, rfl, Lib.hid hcn.out.2, L0, Ow, hne0⟩
      case round =>
        clear L0 Ow hne0
        obtain ⟨k, hk, rfl, ha, hL, Ow, hne⟩ := hrel
        by_cases hlt : k < sh.length
        · have hks : k < K.size := by omega
          have hgk := hget.out k hks hlt
          have hk1 : k + 1 < ws.length := by have := hln.out; omega
          have hsk : sh[k]? = some sh[k] := List.getElem?_eq_getElem hlt
          by_cases h84 : sh[k] = 84
          · obtain ⟨n1, n2⟩ := hT.out k (by rw [hsk, h84]) ha.out
            have e2 : ((K[k].toNat : Int) == 84) = true := by rw [← hgk, h84]; rfl
            replace n1 := Lib.hid n1
            replace n2 := Lib.hid n2
            generalize hq0 : (K[k].toNat : Int) = ch at *
            clear hgk h84 hsk hT hI hB
            go_wp2_with fail
            go_roundw
            case rel => exact ⟨k + 1, by omega, by go_num, n1, by rw [n2.out]; exact hL, Ow, hne⟩
            case measure => simp [intOf]; omega
          · have hn84 : sh[k]? ≠ some 84 := by rw [hsk]; intro e; exact h84 (Option.some.inj e)
            have e2 : ((K[k].toNat : Int) == 84) = false := by
              rw [← hgk]
              have : ¬ (sh[k].toNat : Int) = 84 := fun e => h84 (UInt8.toNat_inj.1 (by have : (84 : UInt8).toNat = 84 := rfl; omega))
              simpa using this
            obtain ⟨b', o', e', _, c1⟩ := Ow.sl.txt hk1
            obtain ⟨rfl, rfl⟩ : wb = b' ∧ wo = o' := by simpa using e'
            have hwd : ws.getD (k + 1) [] = ws[k + 1] := wsD_lt hk1
            have hbd := Lib.hid (fun hv => hB.out k hn84 (by rw [hwd]; exact hv) sh.length hlt)
            have hgd := Lib.hid (fun u hv => hI.out k hn84 u (by rw [hwd]; exact hv) ha.out)
            have HVk := Lib.hid (HV.out (k + 1) hk1 wr)
            have hnl := Lib.hid (Nat.le_trans (hNl.out k) (Nat.le_trans hk hs4))
            have hkk1 : ((k : Int) + 1) < (ws.length : Int) := by omega
            generalize valS ws[k + 1] = o at *
            generalize bs ws[k + 1] = X at *
            generalize hq0 : (K[k].toNat : Int) = ch at *
            clear hgk h84 hsk hT hI hB hn84 hwd e' HV
            go_wp2_with fail
            refine Calls.mono HVk.out ?_; rintro e w3 ⟨⟨n, rfl, hn⟩, hb3⟩
            cases o with
            | none =>
              have hbb := Lib.hid (hbd.out rfl)
              have hbw := hL.hb.trans (hb3.mono hL.hb.size)
              clear hL Ow hbd hgd hn hne
              go_wp2
              go_ret3
              exact .inr ⟨by rw [hP.out, if_neg (by rw [hbb.out]; simp)], rfl, hbw⟩
            | some u =>
              obtain rfl := hn u rfl
              obtain ⟨n1, n2⟩ := hgd.out u rfl
              replace n1 := Lib.hid n1
              replace n2 := Lib.hid n2
              have hA := (hL.below hb3).alloc (.cells #[.int .i64 (u : Int)] 2)
              have Ov := (Ow.below hb3).alloc (.cells #[.int .i64 (u : Int)] 2)
              clear hL Ow hbd hgd hn
              generalize conN sh ws k = P at *
              generalize (u : Int) = n at *
              go_wp2_with (at_builtin; refine wpList_append_rows _ rfl _ _ _ rfl w.heap.size 2 ii _ 1 8 Tryd.underlying45 hi hz0 hz1 hz2 rfl (by omega) _ _ rfl hA.o _ _ _ _ ([n].map icN) rfl rfl (Sl.blkI (Blk.new' _ _ _ rfl)) icN_one (by simp only [List.length_map]; have := hnl.out; unfold maxLen; omega) (by simp only [List.length_map]; have := hnl.out; omega) (hA.hb.size) ?_; intro v1 w6 hO2 hg2 hat; have hL2 := hA.app hg2 hO2)
              have O6 := Ov.kept hg2 hne
              have hne3 : (Value.slice (some ⟨wb, wo, none⟩) ws.length cw).ownBlock = none ∨ (Value.slice (some ⟨wb, wo, none⟩) ws.length cw).ownBlock ≠ v1.ownBlock := by
                rcases hat with e | e
                · rw [e]; exact hne
                · refine .inr (fun h => ?_)
                  rw [e] at h
                  have := (Ov.1.lt _ h).2
                  omega
              go_roundw
              case rel => exact ⟨k + 1, by omega, by go_num, n1, by rw [n2.out, List.map_append]; exact hL2, O6, hne3⟩
              case measure => simp [intOf]; omega
        · have : k = sh.length := by omega
          subst this
          have hO := hL.o
          have hbw := hL.hb
          have hPP := hP.out
          rw [if_pos ha.out] at hPP
          obtain ⟨A9, c9, hv, _⟩ := hO.form
          rw [List.length_map] at hv
          subst hv
          have hsl := Ow.sl
          clear hL hne Ow
          go_wp2
          go_ret3
          exact .inl ⟨_, _, _, A9, c9, hPP, by first | rfl | (rw [hln.out]; rfl), hsl, hO, hbw⟩
    · have hP : Hid (parseC ws = none) := Lib.hid (parseC_len (by rw [hg0]; exact hkk) hln)
      have hg1 : ((ws.length : Int) == (sh.length : Int) + 1) = false := by simpa using (by omega : ¬ (ws.length : Int) = (sh.length : Int) + 1)
      generalize bs sh = K at *
      clear HV hkk hg0 hln
      go_enter Tryd.func30, Tryd.ntmps30
      go_wp2_with fail
      refine Calls.mono HC.out ?_; rintro e w1 ⟨Aw, cw, rfl, Ow, hb1⟩
      obtain ⟨wb, wo, rfl, hwb, c0⟩ := Ow.sl.txt hw0
      rw [Nat.add_zero] at c0
      go_wp2_with fail
      refine Calls.mono (HK.out w1) ?_; rintro e w2 ⟨rfl, rfl⟩
      go_wp2
      go_ret3
      exact .inr ⟨hP.out, rfl, hb1⟩
end Go.Proofs.YtkkgomldahjocaaDoor
