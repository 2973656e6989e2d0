/- A line of the console read by the program. Conditions: the line's length; what the library's variables hold. -/
import Derived.Test.YtkkgomldahjocaaDoorConW
namespace Go.Proofs.YtkkgomldahjocaaDoor
open Go.RowKit
set_option linter.unusedSimpArgs false
theorem blk_sl {w : World} {g : Nat} {t : TypeId} {ws : List (List UInt8)} (h : Blk w g t ((ws.map bs).map Value.string).toArray) : Sl w w.heap.size 1 (some ⟨g, 0, none⟩) (ws.map str1) := by
  have h2 := Sl.of_blk (k := 1) h (ws.map str1) (by
    simp only [List.map_map]
    clear h
    induction ws with
    | nil => rfl
    | cons x xs ih => simp [str1]; simpa using ih) (by intro y hy; obtain ⟨x, _, rfl⟩ := List.mem_map.1 hy; rfl)
  exact h2.more (by have := h.lt; omega)
set_option maxRecDepth 100000 in
set_option maxHeartbeats 1000000 in
theorem words_c (s : List UInt8) (w : World) (hl : s.length ≤ 1048576) (L : LwP w) : Calls Tryd.prog 31 #[.string (bs s)] w (LineP (splitC 32 s) w) := by
  obtain ⟨ii, hi, hz0, hz1, hz2⟩ := info_parts info_I64
  have HPw : Hid (∀ W, Below w.heap.size w W → LwP W) := Lib.hid (fun W h => L.below h)
  have HC := Lib.hid (split_b 32 s w hl L.m)
  obtain ⟨hpl, hpx⟩ := pieces_len (b := 32) s
  have hne := splitC_ne 32 s
  generalize splitC 32 s = ws at *
  have hw0 : 0 < ws.length := by cases ws with
    | nil => exact absurd rfl hne
    | cons a b => simp
  have hg0 : ws.getD 0 [] = ws[0] := wsD_lt hw0
  have HK := Lib.hid (fun W => commandShape_c ws[0] W)
  have HV := Lib.hid (fun k (hk : k < ws.length) W hW => number_c ws[k] W (by have := hpx _ (List.getElem_mem hk); omega) (HPw.out W hW))
  clear hpx hne L
  generalize bs s = S at *
  cases hkk : kindOf ws[0] with
  | none =>
    have hP : Hid (parseC ws = none) := Lib.hid (parseC_none (by rw [hg0]; exact hkk))
    rw [hkk] at HK
    generalize bs ((none : Option (List UInt8)).getD []) = K at *
    have hf : (none : Option (List UInt8)).isSome = false := rfl
    rw [hf] at HK
    clear HV hkk hg0
    go_enter Tryd.func31, Tryd.ntmps31
    go_wp2_with fail
    refine Calls.mono HC.out ?_; rintro e w1 ⟨g, rfl, hgs, hG, hb1⟩
    have c0 := blk_txt hG hw0
    go_wp2_with fail
    refine Calls.mono (HK.out w1) ?_; rintro e w2 ⟨rfl, rfl⟩
    go_wp2
    go_ret3
    exact .inr ⟨hP.out, rfl, hb1⟩
  | some sh =>
    obtain ⟨hs4, hsc, hs45⟩ := kindOf_ok hkk
    rw [hkk] at HK
    have hK0 : (some sh).getD [] = sh := rfl
    have hf : (some sh).isSome = true := rfl
    rw [hK0, hf] at HK
    have hsz := bs_size sh
    by_cases hln : ws.length = sh.length + 1
    · have hP := Lib.hid (parseC_some (by rw [hg0]; exact hkk) hln)
      have hT := Lib.hid (fun k h hb => con_T (sh := sh) (ws := ws) (k := k) h hb)
      have hI := Lib.hid (fun k h u hv hb => con_I (sh := sh) (ws := ws) (k := k) h (u := u) hv hb)
      have hB := Lib.hid (fun k h hv n hn => con_bad (sh := sh) (ws := ws) (k := k) h hv (n := n) hn)
      have hNl := Lib.hid (fun k => conN_len (sh := sh) (ws := ws) (k := k))
      obtain ⟨K, hKe, hget⟩ : ∃ K : ByteArray, bs sh = K ∧ Hid (∀ (k : Nat) (h : k < K.size) (h2 : k < sh.length), sh[k] = K[k]) := ⟨bs sh, rfl, Lib.hid (fun k h h2 => rfl)⟩
      rw [hKe] at HK hsz
      have hcn : Hid (conN sh ws 0 = [] ∧ conB sh ws 0 = true) := Lib.hid ⟨rfl, rfl⟩
      clear hkk hg0 hKe hs45
      have hg1 : ((ws.length : Int) == (sh.length : Int) + 1) = true := by simpa using (by omega : (ws.length : Int) = (sh.length : Int) + 1)
      replace hsc := Lib.hid hsc
      go_enter Tryd.func31, Tryd.ntmps31
      go_wp2_with fail
      refine Calls.mono HC.out ?_; rintro e w1 ⟨g, rfl, hgs, hG, hb1⟩
      have c0 := blk_txt hG hw0
      go_wp2_with fail
      refine Calls.mono (HK.out w1) ?_; rintro e w2 ⟨rfl, rfl⟩
      have L0 : AppS w 2 ((conN sh ws 0).map icN) (.slice (some ⟨w1.heap.size, 0, none⟩) 0 0) ((w1.alloc (.cells #[] 2)).iter K 0) := (⟨(by repeat (first | with_reducible exact hb1 | with_reducible apply below_drewN' | with_reducible apply Below.drew | (with_reducible refine Below.alloc ?_ (by first | omega | (simp; omega) | simp | (have := (hb1).size; omega) | (have := (hb1).size; simp; omega)) _) | (with_reducible refine Below.setCell ?_ (by first | omega | (simp; omega) | simp | (have := (hb1).size; omega) | (have := (hb1).size; simp; omega)) _) | exact hb1)), Own.empty hb1.size⟩ : AppS w 2 _ _ (w1.alloc (.cells #[] 2))).alloc _
      have hk0 : ((w1.alloc (.cells #[] 2)).iter K 0).heap[w1.heap.size + 1]? = some (.stringIter K 0) := by
        have h5 := World.iter_heap (w1.alloc (.cells #[] 2)) K 0
        simpa using h5
      have hG0 : Blk ((w1.alloc (.cells #[] 2)).iter K 0) g 9 ((ws.map bs).map Value.string).toArray := (hG.alloc _).alloc _
      have hgl := hG.lt
      have hne0 : (Value.slice (some ⟨w1.heap.size, 0, none⟩) 0 0).ownBlock ≠ some g ∧ (Value.slice (some ⟨w1.heap.size, 0, none⟩) 0 0).ownBlock ≠ some (w1.heap.size + 1) := ⟨fun e => by
        have e2 : w1.heap.size = g := by simpa [Value.ownBlock] using e
        omega, fun e => by
        simp [Value.ownBlock] at e⟩
      have hww : w.heap.size ≤ w1.heap.size := hb1.size
      clear hb1 c0 HK HC hG
      replace hln := Lib.hid hln
      go_wp2_with fail
      go_loopw [8] (fun o wr => ∃ k : Nat, k ≤ sh.length ∧ Hid (conB sh ws k = true) ∧ AppS w 2 ((conN sh ws k).map icN) o wr ∧ Blk wr g 9 ((ws.map bs).map Value.string).toArray ∧ wr.heap[w1.heap.size + 1]? = some (.stringIter K k) ∧ (o.ownBlock ≠ some g ∧ o.ownBlock ≠ some (w1.heap.size + 1))) (fun _ wr => K.size - wr.iterPos (w1.heap.size + 1))
      case atStart => exact ⟨0, Nat.zero_le _, Lib.hid hcn.out.2, L0, hG0, hk0, hne0⟩
      case round =>
        clear L0 hG0 hne0 hk0
        obtain ⟨k, hk, ha, hL, hG, hit, hne⟩ := hrel
        by_cases hlt : k < sh.length
        · have hks : k < K.size := by omega
          have hgk := hget.out k hks hlt
          have hk1 : k + 1 < ws.length := by have := hln.out; omega
          have hsk : sh[k]? = some sh[k] := List.getElem?_eq_getElem hlt
          have h128 : K[k].toNat < 128 := by
            rw [← hgk]
            rcases hsc.out _ (List.getElem_mem hlt) with e | e <;> rw [e] <;> decide
          have hnext : ∀ ty, (Instr.next (.pointer (some ⟨w1.heap.size + 1, 0, none⟩)) true ty).run Tryd.prog wr = _ := fun ty => Lib.run_next_ascii_at wr (w1.heap.size + 1) K k ty hit hks h128
          have hit1 := Lib.iterAt_heap wr (w1.heap.size + 1) K k (k + 1) hit
          have hG1 : Blk (wr.iterAt (w1.heap.size + 1) K (k + 1)) g 9 ((ws.map bs).map Value.string).toArray := (Lib.iterAt_other wr (w1.heap.size + 1) g K (k + 1) (by omega)).trans hG
          have hL1 : AppS w 2 ((conN sh ws k).map icN) u8 (wr.iterAt (w1.heap.size + 1) K (k + 1)) := ⟨Lib.below_iterAt hL.hb (by omega) K (k + 1), hL.o.kept (row := some (w1.heap.size + 1)) ⟨rfl, rfl, rfl, by simp [World.iterAt], fun j hj hjn => Lib.iterAt_other wr (w1.heap.size + 1) j K (k + 1) (fun e => hjn (by rw [e]))⟩ (.inr hne.2)⟩
          have hmu : wr.iterPos (w1.heap.size + 1) = k := by simp [World.iterPos, hit]
          have hil : w1.heap.size + 1 < (wr.iterAt (w1.heap.size + 1) K (k + 1)).heap.size := (Array.getElem?_eq_some_iff.1 hit1).1
          have hg0l : g < (wr.iterAt (w1.heap.size + 1) K (k + 1)).heap.size := hG1.lt
          generalize wr.iterAt (w1.heap.size + 1) K (k + 1) = W1 at *
          clear hL hG hit
          by_cases h84 : sh[k] = 84
          · obtain ⟨n1, n2⟩ := hT.out k (by rw [hsk, h84]) ha.out
            have e2 : ((K[k].toNat : Int) == 84) = true := by rw [← hgk, h84]; rfl
            replace n1 := Lib.hid n1
            replace n2 := Lib.hid n2
            generalize hq0 : (K[k].toNat : Int) = ch at *
            clear hgk h84 hsk hT hI hB h128
            go_wp2_with fail
            go_roundw
            case rel => exact ⟨k + 1, by omega, n1, by rw [n2.out]; exact hL1, hG1, hit1, hne⟩
            case measure =>
              have hmu2 : W1.iterPos (w1.heap.size + 1) = k + 1 := by simp [World.iterPos, hit1]
              rw [hmu, hmu2]
              omega
          · have hn84 : sh[k]? ≠ some 84 := by rw [hsk]; intro e; exact h84 (Option.some.inj e)
            have e2 : ((K[k].toNat : Int) == 84) = false := by
              rw [← hgk]
              have : ¬ (sh[k].toNat : Int) = 84 := fun e => h84 (UInt8.toNat_inj.1 (by have : (84 : UInt8).toNat = 84 := rfl; omega))
              simpa using this
            have c1 := blk_txt hG1 hk1
            have hwd : ws.getD (k + 1) [] = ws[k + 1] := wsD_lt hk1
            have hbd := Lib.hid (fun hv => hB.out k hn84 (by rw [hwd]; exact hv) sh.length hlt)
            have hgd := Lib.hid (fun u hv => hI.out k hn84 u (by rw [hwd]; exact hv) ha.out)
            have HVk := Lib.hid (HV.out (k + 1) hk1 W1 hL1.hb)
            have hnl := Lib.hid (Nat.le_trans (hNl.out k) (Nat.le_trans hk hs4))
            have hkk1 : ((k : Int) + 1) < (ws.length : Int) := by omega
            have hv1 : Hid (∀ u, valS ws[k + 1] = some u → numI ws[k + 1] = some (u : Int) ∧ ws[k + 1].length ≤ 13) := Lib.hid (fun u h => numI_valS h)
            have hv2 : Hid (∀ n, numI ws[k + 1] = some n → 0 ≤ n → ws[k + 1].length ≤ 13 → valS ws[k + 1] = some n.toNat) := Lib.hid (fun n h h0 hl => valS_numI h h0 hl)
            have hXs : (bs ws[k + 1]).size = ws[k + 1].length := bs_size _
            generalize hvo : valS ws[k + 1] = vo at *
            generalize numI ws[k + 1] = o at *
            generalize ws[k + 1].length = xl at *
            generalize bs ws[k + 1] = X at *
            generalize hq0 : (K[k].toNat : Int) = ch at *
            clear hgk h84 hsk hT hI hB hn84 hwd HV hvo h128
            have hNo : Hid (vo = none → parseC ws = none) := Lib.hid (fun h => by rw [hP.out, if_neg (by rw [hbd.out h]; simp)])
            go_wp2_with fail
            refine Calls.mono HVk.out ?_; rintro e w3 ⟨⟨n, rfl, hn⟩, hb3⟩
            have c2 := cell_keep hb3 c1
            have hG3 := hG1.below hb3 hg0l
            have hL3 := hL1.below hb3
            have hit3 := (hb3.block _ hil).trans hit1
            have hgl3 := hG3.lt
            have hil3 := (Array.getElem?_eq_some_iff.1 hit3).1
            have hbw := hL3.hb
            clear hL1 hG1 hit1 hb3 c1 hg0l hil
            have hout : ∀ (h : vo = none), LineP ws w (.returned (.tuple #[.slice none 0 0, .slice none 0 0, .bool false])) w3 := fun h => .inr ⟨hNo.out h, rfl, hbw⟩
            replace hout := Lib.hid hout
            cases o with
            | none =>
              have hvn : vo = none := by
                cases vo with
                | none => rfl
                | some u => have := (hv1.out u rfl).1; cases this
              clear hgd hbd hn hv1 hv2
              go_wp2
              go_ret3
              exact hout.out hvn
            | some v =>
              obtain rfl := hn v rfl
              clear hn
              by_cases hv0 : n < 0
              · have hvn : vo = none := by
                  cases vo with
                  | none => rfl
                  | some u => have := Option.some.inj (hv1.out u rfl).1; omega
                have d1 : decide (n < 0) = true := decide_eq_true hv0
                clear hgd hbd hv1 hv2
                go_wp2
                go_ret3
                exact hout.out hvn
              · have d1 : decide (n < 0) = false := decide_eq_false hv0
                by_cases h13 : 13 < xl
                · have hvn : vo = none := by
                    cases vo with
                    | none => rfl
                    | some u => have := (hv1.out u rfl).2; omega
                  have d2 : (13 : Int) < (xl : Int) := by omega
                  clear hgd hbd hv1 hv2
                  go_wp2
                  go_ret3
                  exact hout.out hvn
                · have d2 : ¬ (13 : Int) < (xl : Int) := by omega
                  have hvs := hv2.out n rfl (by omega) (by omega)
                  obtain ⟨n1, n2⟩ := hgd.out _ hvs
                  rw [show ((n.toNat : Nat) : Int) = n by omega] at n2
                  replace n1 := Lib.hid n1
                  replace n2 := Lib.hid n2
                  have hA := hL3.alloc (.cells #[.int .i64 n] 2)
                  have hG4 := hG3.alloc (.cells #[.int .i64 n] 2)
                  have hit4 : (w3.alloc (.cells #[.int .i64 n] 2)).heap[w1.heap.size + 1]? = some (.stringIter K (k + 1)) := (Below.heap_alloc _ _ _ hil3).trans hit3
                  clear hgd hbd hv1 hv2 hL3 hout hvs
                  generalize conN sh ws k = P at *
                  replace hG4 := Lib.hid hG4
                  replace hit4 := Lib.hid hit4
                  clear hG3 hit3
                  go_wp2_with (at_builtin; refine wpList_append_rows _ rfl _ _ _ rfl w.heap.size 2 ii _ 1 8 Tryd.underlying45 hi hz0 hz1 hz2 rfl (by omega) _ _ rfl hA.o _ _ _ _ ([n].map icN) rfl rfl (Sl.blkI (Blk.new' _ _ _ rfl)) icN_one (by simp only [List.length_map]; have := hnl.out; unfold maxLen; omega) (by simp only [List.length_map]; have := hnl.out; omega) (hA.hb.size) ?_; intro v1 w6 hO2 hg2 hat; have hL2 := hA.app hg2 hO2)
                  have hG6 := (hg2.block g hG4.out.lt (fun e => hne.1 e.symm)).trans hG4.out
                  have hit6 := (hg2.block (w1.heap.size + 1) (Array.getElem?_eq_some_iff.1 hit4.out).1 (fun e => hne.2 e.symm)).trans hit4.out
                  have hne3 : v1.ownBlock ≠ some g ∧ v1.ownBlock ≠ some (w1.heap.size + 1) := by
                    rcases hat with e | e
                    · rw [e]; exact hne
                    · rw [e]
                      exact ⟨fun e2 => by have e3 : w3.heap.size + 1 = g := by simpa using e2
                                          omega, fun e2 => by have e3 : w3.heap.size + 1 = w1.heap.size + 1 := by simpa using e2
                                                              omega⟩
                  go_roundw
                  case rel => exact ⟨k + 1, by omega, n1, by rw [n2.out, List.map_append]; exact hL2, hG6, hit6, hne3⟩
                  case measure =>
                    have hmu2 : w6.iterPos (w1.heap.size + 1) = k + 1 := by simp [World.iterPos, hit6]
                    rw [hmu, hmu2]
                    omega
        · have : k = sh.length := by omega
          subst this
          have hnext : ∀ ty, (Instr.next (.pointer (some ⟨w1.heap.size + 1, 0, none⟩)) true ty).run Tryd.prog wr = _ := fun ty => Lib.run_next_end_at wr (w1.heap.size + 1) K sh.length ty hit (by omega)
          have hO := hL.o
          have hbw := hL.hb
          have hPP := hP.out
          rw [if_pos ha.out] at hPP
          obtain ⟨A9, c9, hv, _⟩ := hO.form
          rw [List.length_map] at hv
          subst hv
          have hsl := blk_sl hG
          clear hL hne hG hit
          go_wp2
          go_ret3
          exact .inl ⟨_, _, _, A9, c9, hPP, by first | rfl | (rw [hln.out]; rfl), hsl, hO, hbw⟩
    · have hP : Hid (parseC ws = none) := Lib.hid (parseC_len (by rw [hg0]; exact hkk) hln)
      have hg1 : ((ws.length : Int) == (sh.length : Int) + 1) = false := by simpa using (by omega : ¬ (ws.length : Int) = (sh.length : Int) + 1)
      generalize bs sh = K at *
      clear HV hkk hg0 hln
      go_enter Tryd.func31, Tryd.ntmps31
      go_wp2_with fail
      refine Calls.mono HC.out ?_; rintro e w1 ⟨g, rfl, hgs, hG, hb1⟩
      have c0 := blk_txt hG hw0
      go_wp2_with fail
      refine Calls.mono (HK.out w1) ?_; rintro e w2 ⟨rfl, rfl⟩
      go_wp2
      go_ret3
      exact .inr ⟨hP.out, rfl, hb1⟩
end Go.Proofs.YtkkgomldahjocaaDoor
