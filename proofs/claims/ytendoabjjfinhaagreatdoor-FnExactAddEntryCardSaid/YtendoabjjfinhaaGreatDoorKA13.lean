/- FnExactAddEntry: the walk. Conditions: what an argument always is. How a law's row is closed: from a walk that returns true and leaves all old memory as it was. How a law's arguments are opened: structs that hold slices, slices of such structs. No condition of their own. How structs of figures and slices of numbers are opened as a law's arguments. No condition of their own. How formulas, charts, desks and releases are opened as a law's arguments. No condition of their own. How entries and lists of entries are opened as a law's arguments. No condition of their own. -/
import Derived.Test.YtendoabjjfinhaaGreatDoorRows
import Derived.WalkKit
import Derived.ProofKit
import Derived.OpenShut
import Derived.SizedLaws
import Derived.Deep.Slices
import Derived.Deep.Fields
import Derived.Lib.SmallJoins
import Derived.Test.YtendoabjjfinhaaGreatDoorKA1
import Derived.Test.YtendoabjjfinhaaGreatDoorKA12
import Derived.Test.YtendoabjjfinhaaGreatDoorKA3
import Derived.Test.YtendoabjjfinhaaGreatDoorKA9
set_option linter.unusedSimpArgs false
namespace Go.Proofs.YtendoabjjfinhaaGreatDoor
open Go.RowKit
structure EqR2 (w1 : World) (b : Bool) (Q : Value → World → Prop) (x : Value) (v : World) : Prop where
  hb : Below w1.heap.size w1 v
  q : b = true → Q x v
set_option maxRecDepth 100000 in
set_option maxHeartbeats 4000000 in
theorem lawAddEntry_c (A : Option Addr) (c : Nat) (es : List EnR) (b : En) (A' : Option Addr) (c' : Nat) (w : World) (hn : es.length ≤ 140737488351232) (hi : ∀ x ∈ es, x.Laid w) (hs : Sl w w.heap.size 20 A (es.map EnR.cells)) (Y : EnLaid w A' c' b) :
    Calls Tryz.prog 3 #[.slice A es.length c, .agg (b.cells A' c').toArray] w fun e w' => e = .returned (.bool true) ∧ Below w.heap.size w w' := by
  have hW : Below w.heap.size w (w.alloc (.cells (b.cells A' c').toArray 33)) := (by repeat (first | with_reducible exact Below.refl _ _ | with_reducible apply below_drewN' | with_reducible apply Below.drew | (with_reducible refine Below.alloc ?_ (by first | omega | (simp; omega) | simp | (have := (Below.refl _ _).size; omega) | (have := (Below.refl _ _).size; simp; omega)) _) | (with_reducible refine Below.setCell ?_ (by first | omega | (simp; omega) | simp | (have := (Below.refl _ _).size; omega) | (have := (Below.refl _ _).size; simp; omega)) _) | exact Below.refl _ _))
  have Y0 := Blk.new w 33 (b.cells A' c').toArray
  have HZ := Lib.hid (fun W (hW : Below w.heap.size w W) => szEnS_c A c es 1048576 W hn (fun x hx => EnLaid.later (hi x hx) hW) ((hs.below hW).more hW.size) (by omega))
  have HZb := Lib.hid (fun W left (hW : Below w.heap.size w W) h => szEn_c b A' c' left W (Y.later hW) h)
  have hE : Hid ((es.length ≤ 1048576 ∧ ∀ e ∈ es, e.e.short) → EnsIn w A es) := Lib.hid (fun h => ⟨h.1, hs, fun e he => EnLaid.en (hi e he) (h.2 e he)⟩)
  have hF : Hid (b.short → EnIn w A' c' b) := Lib.hid (fun h => EnLaid.en Y h)
  have HTa := Lib.hid (fun W (hW : Below w.heap.size w W) (E : EnsIn w A es) => toEnO_c A c es W (E.later hW))
  have HTb := Lib.hid (fun W (hW : Below w.heap.size w W) (E : EnIn w A' c' b) => toEn_c b A' c' W (E.later hW))
  have hlen := ens_len es
  have HSp := Lib.hid (fun A2 c2 (fs : List EnR) B d W (X : EnsIn W A2 fs ∧ ens fs = ens es ∧ (ens es).length ≤ c2) (F : EnIn W B d b) => (by
    have h := specAddEntry_c A2 c2 fs b B d W X.1 F
    have h1 := ens_len fs
    rw [X.2.1] at h h1
    rw [← h1, hlen] at h
    exact h : Calls Tryz.prog 8 #[.slice A2 es.length c2, .agg (b.cells B d).toArray] W (PostEns (addR (ens es) b) (addC (ens es) b) W)))
  have HIm := Lib.hid (fun A2 c2 (fs : List EnR) B d W (X : EnsIn W A2 fs ∧ ens fs = ens es ∧ (ens es).length ≤ c2) (F : EnIn W B d b) => (by
    have h1 := ens_len fs
    have hX := X.2.2
    have h := implAddEntry_c A2 c2 fs b B d W X.1 (by rw [← h1, X.2.1]; exact hX) F
    rw [X.2.1] at h h1
    rw [← h1, hlen] at h
    exact h : Calls Tryz.prog 11 #[.slice A2 es.length c2, .agg (b.cells B d).toArray] W (PostEns (addR (ens es) b) (addC (ens es) b) W)))
  have HEq := Lib.hid (fun B d B' d' W (E : EnIn W B d b) (F : EnIn W B' d' b) => eqEn_c b B d B' d' W E F)
  have HMb := Lib.hid (fun B d base hi m W => markEn_c b B d base hi m W)
  have hclb := Lib.hid (fun B d => b.len B d)
  have honb := Lib.hid (fun B d => b.one B d)
  have hrl := Lib.hid (addR_len (ens es) b)
  replace hlen := Lib.hid hlen
  clear hs hi hn Y
  generalize hcs : b.cells = cellb at *
  clear hcs
  generalize cellb A' c' = cb at *
  generalize addR (ens es) b = R at *
  generalize addC (ens es) b = cd at *
  go_enter Tryz.func3, Tryz.ntmps3
  go_wp2_with fail
  generalize w.alloc (.cells cb.toArray 33) = W at *
  refine Calls.mono (HZ.out W hW) ?_; rintro e w1 ⟨⟨v, rfl, hv⟩, hb1⟩
  replace Y0 := Y0.below hb1 Y0.lt
  replace hW := hW.trans (hb1.mono hW.size)
  clear hb1
  clear HZ
  rcases hv with hv | ⟨hv0, hvl, hlen2⟩
  · go_wp2
    go_ret
    exact ⟨rfl, (by repeat (first | with_reducible exact hW | with_reducible apply below_drewN' | with_reducible apply Below.drew | (with_reducible refine Below.alloc ?_ (by first | omega | (simp; omega) | simp | (have := (hW).size; omega) | (have := (hW).size; simp; omega)) _) | (with_reducible refine Below.setCell ?_ (by first | omega | (simp; omega) | simp | (have := (hW).size; omega) | (have := (hW).size; simp; omega)) _) | exact hW))⟩
  have hvn : ¬ v < 0 := by omega
  have E := Lib.hid (hE.out hlen2)
  clear hE hlen2
  have hY := Y0.range
  go_wp2_with (refine wpList_load_mid rfl 33 _ rfl (w.heap.size) 0 rfl (cb) _ hY Tryz.underlying33 rfl (by kernel_rfl) ?_)
  refine Calls.mono (HZb.out w1 v hW ⟨by omega, by omega⟩) ?_; rintro e w2 ⟨⟨u, rfl, hu⟩, hb2⟩
  replace Y0 := Y0.below hb2 Y0.lt
  replace hW := hW.trans (hb2.mono hW.size)
  clear hb2
  clear HZb hY
  rcases hu with hu | ⟨hu0, _, hlen2⟩
  · go_wp2
    go_ret
    exact ⟨rfl, (by repeat (first | with_reducible exact hW | with_reducible apply below_drewN' | with_reducible apply Below.drew | (with_reducible refine Below.alloc ?_ (by first | omega | (simp; omega) | simp | (have := (hW).size; omega) | (have := (hW).size; simp; omega)) _) | (with_reducible refine Below.setCell ?_ (by first | omega | (simp; omega) | simp | (have := (hW).size; omega) | (have := (hW).size; simp; omega)) _) | exact hW))⟩
  have hun : ¬ u < 0 := by omega
  have F := Lib.hid (hF.out hlen2)
  clear hF hlen2
  replace HTa := Lib.hid (fun W hW => HTa.out W hW E.out)
  replace HTb := Lib.hid (fun W hW => HTb.out W hW F.out)
  have hlb := Lib.hid F.out.r.h
  have hla := Lib.hid E.out.n
  clear E F hvl
  go_wp2_with fail
  refine region_fx (X := (Option Addr × Nat × List EnR) × (Option Addr × Nat) × (Option Addr × Nat × List EnR)) 10 (fun f l x => match l with | a0_ :: a1_ :: a2_ :: a3_ :: a4_ :: a5_ :: a6_ :: a7_ :: a8_ :: a9_ :: a10_ :: a11_ :: a12_ :: a13_ :: a14_ :: a15_ :: a16_ :: a17_ :: a18_ :: a19_ :: a20_ :: a21_ :: a22_ :: a23_ :: a24_ :: a25_ :: a26_ :: a27_ :: a28_ :: a29_ :: a30_ :: a31_ :: a32_ :: a33_ :: a34_ :: a35_ :: a36_ :: a37_ :: a38_ :: a39_ :: a40_ :: a41_ :: a42_ :: a43_ :: a44_ :: a45_ :: a46_ :: a47_ :: a48_ :: a49_ :: a50_ :: a51_ :: a52_ :: a53_ :: a54_ :: a55_ :: a56_ :: a57_ :: a58_ :: a59_ :: a60_ :: a61_ :: a62_ :: a63_ :: a64_ :: a65_ :: a66_ :: a67_ :: a68_ :: a69_ :: a70_ :: a71_ :: a72_ :: a73_ :: a74_ :: a75_ :: a76_ :: a77_ :: a78_ :: a79_ :: a80_ :: a81_ :: a82_ :: a83_ :: a84_ :: a85_ :: a86_ :: a87_ :: a88_ :: a89_ :: a90_ :: a91_ :: a92_ :: a93_ :: a94_ :: a95_ :: a96_ :: a97_ :: a98_ :: a99_ :: a100_ :: a101_ :: a102_ :: a103_ :: a104_ :: a105_ :: a106_ :: a107_ :: a108_ :: a109_ :: a110_ :: a111_ :: a112_ :: a113_ :: a114_ :: a115_ :: a116_ :: a117_ :: a118_ :: [] => [a0_, a1_, a2_, a3_, a4_, a5_, bif f 8 then .slice x.2.2.1 R.length x.2.2.2.1 else a6_, bif f 9 then .int .i64 cd else a7_, a8_, a9_, a10_, a11_, a12_, a13_, a14_, a15_, a16_, a17_, a18_, a19_, a20_, a21_, a22_, a23_, a24_, a25_, a26_, bif f 5 then .tuple #[.slice x.2.2.1 R.length x.2.2.2.1, .int .i64 cd] else a27_, bif f 0 then .slice A es.length c else a28_, bif f 1 then .slice x.1.1 es.length x.1.2.1 else a29_, bif f 2 then .agg cb.toArray else a30_, bif f 3 then .agg (cellb x.2.1.1 x.2.1.2).toArray else a31_, bif f 4 then .tuple #[.slice x.2.2.1 R.length x.2.2.2.1, .int .i64 cd] else a32_, bif f 6 then .slice x.2.2.1 R.length x.2.2.2.1 else a33_, bif f 7 then .int .i64 cd else a34_, a35_, a36_, a37_, a38_, a39_, a40_, a41_, a42_, a43_, a44_, a45_, a46_, a47_, a48_, a49_, a50_, a51_, a52_, a53_, a54_, a55_, a56_, a57_, a58_, a59_, a60_, a61_, a62_, a63_, a64_, a65_, a66_, a67_, a68_, a69_, a70_, a71_, a72_, a73_, a74_, a75_, a76_, a77_, a78_, a79_, a80_, a81_, a82_, a83_, a84_, a85_, a86_, a87_, a88_, a89_, a90_, a91_, a92_, a93_, a94_, a95_, a96_, a97_, a98_, a99_, a100_, a101_, a102_, a103_, a104_, a105_, a106_, a107_, a108_, a109_, a110_, a111_, a112_, a113_, a114_, a115_, a116_, a117_, a118_] | l => l) (fun fL x v => AeS w2 (ens es) b R (fL 1) (fL 3) (fL 4) (fL 5) (fL 6) (fL 8) x v) (by kernel_rfl) (by decide +kernel) rfl ((none, 0, []), (none, 0), (none, 0, [])) rfl (AeS.init) ?_ ?_
  all_goals dsimp only
  · rintro fL x v hS i hi hf o ho hall
    have hn : i = 0 ∨ i = 1 ∨ i = 2 ∨ i = 3 ∨ i = 4 ∨ i = 5 ∨ i = 6 ∨ i = 7 ∨ i = 8 ∨ i = 9 := by omega
    clear hi
    rcases hn with rfl | rfl | rfl | rfl | rfl | rfl | rfl | rfl | rfl | rfl
    · obtain rfl := Option.some.inj ho
      clear hall ho
      try simp only [hf, cond_true, cond_false]
      refine wpOp_step rfl (fun K hK => ?_)
      go_simp
      exact hK _ _ ⟨x, (by simp only [upd, hf, Nat.reduceBEq, Bool.false_or, Bool.true_or, Bool.not_true, Bool.not_false, Bool.true_and, Bool.false_and, Bool.cond_self, cond_true, cond_false]; try rfl), hS⟩
    · obtain rfl := Option.some.inj ho
      have e0 : fL 0 = true := hall ⟨0, .data⟩ (by simp) rfl
      clear hall ho
      try simp only [e0, hf, cond_true, cond_false]
      refine wpOp_step rfl (fun K hK => ?_)
      go_simp
      refine Calls.mono (HTa.out v (hW.trans (hS.hb.mono hW.size))) ?_; rintro e w7 ⟨B7, d7, f7, rfl, hd7, E7, hb7⟩
      go_simp
      exact hK _ _ ⟨((B7, d7, f7), x.2), (by simp only [upd, e0, hf, Nat.reduceBEq, Bool.false_or, Bool.true_or, Bool.not_true, Bool.not_false, Bool.true_and, Bool.false_and, Bool.cond_self, cond_true, cond_false]; try rfl), hS.c1 hb7 E7 (by rw [hlen.out]; exact hd7)⟩
    · obtain rfl := Option.some.inj ho
      clear hall ho
      try simp only [hf, cond_true, cond_false]
      refine wpOp_step rfl (fun K hK => ?_)
      refine wp_load_mid 33 _ rfl w.heap.size 0 rfl cb _ (Y0.below hS.hb Y0.lt).range Tryz.underlying33 rfl (by kernel_rfl) ?_
      exact hK _ _ ⟨x, (by simp only [upd, hf, Nat.reduceBEq, Bool.false_or, Bool.true_or, Bool.not_true, Bool.not_false, Bool.true_and, Bool.false_and, Bool.cond_self, cond_true, cond_false]; try rfl), hS⟩
    · obtain rfl := Option.some.inj ho
      have e2 : fL 2 = true := hall ⟨2, .data⟩ (by simp) rfl
      clear hall ho
      try simp only [e2, hf, cond_true, cond_false]
      refine wpOp_step rfl (fun K hK => ?_)
      go_simp
      refine Calls.mono (HTb.out v (hW.trans (hS.hb.mono hW.size))) ?_; rintro e w7 ⟨B7, d7, rfl, E7, _, hb7⟩
      go_simp
      exact hK _ _ ⟨(x.1, (B7, d7), x.2.2), (by simp only [upd, e2, hf, Nat.reduceBEq, Bool.false_or, Bool.true_or, Bool.not_true, Bool.not_false, Bool.true_and, Bool.false_and, Bool.cond_self, cond_true, cond_false]; try rfl), hS.c3 hb7 E7⟩
    · obtain rfl := Option.some.inj ho
      have e1 : fL 1 = true := hall ⟨1, .data⟩ (by simp) rfl
      have e3 : fL 3 = true := hall ⟨3, .data⟩ (by simp) rfl
      clear hall ho
      try simp only [e1, e3, hf, cond_true, cond_false]
      refine wpOp_step rfl (fun K hK => ?_)
      obtain ⟨n5, n6, n8⟩ := hS.no hf
      go_simp
      refine Calls.mono (HSp.out _ _ _ _ _ v (hS.q1 e1) (hS.q3 e3)) ?_; rintro e w7 ⟨v7, rfl, hO7, hb7⟩
      obtain ⟨B7, d7, f7, rfl, hE7⟩ := hO7.eno
      go_simp
      exact hK _ _ ⟨(x.1, x.2.1, (B7, d7, f7)), (by simp only [upd, e1, e3, n5, n6, n8, hf, Nat.reduceBEq, Bool.false_or, Bool.true_or, Bool.not_true, Bool.not_false, Bool.true_and, Bool.false_and, Bool.cond_self, cond_true, cond_false]; try rfl), hS.c4 hb7 hE7⟩
    · obtain rfl := Option.some.inj ho
      have e4 : fL 4 = true := hall ⟨4, .data⟩ (by simp) rfl
      clear hall ho
      try simp only [e4, hf, cond_true, cond_false]
      refine wpOp_step rfl (fun K hK => ?_)
      go_simp
      exact hK _ _ ⟨x, (by simp only [upd, e4, hf, Nat.reduceBEq, Bool.false_or, Bool.true_or, Bool.not_true, Bool.not_false, Bool.true_and, Bool.false_and, Bool.cond_self, cond_true, cond_false]; try rfl), hS.s5 e4⟩
    · obtain rfl := Option.some.inj ho
      have e5 : fL 5 = true := hall ⟨5, .data⟩ (by simp) rfl
      clear hall ho
      try simp only [e5, hf, cond_true, cond_false]
      refine wpOp_step rfl (fun K hK => ?_)
      go_simp
      exact hK _ _ ⟨x, (by simp only [upd, e5, hf, Nat.reduceBEq, Bool.false_or, Bool.true_or, Bool.not_true, Bool.not_false, Bool.true_and, Bool.false_and, Bool.cond_self, cond_true, cond_false]; try rfl), hS.s6 e5⟩
    · obtain rfl := Option.some.inj ho
      have e5 : fL 5 = true := hall ⟨5, .data⟩ (by simp) rfl
      clear hall ho
      try simp only [e5, hf, cond_true, cond_false]
      refine wpOp_step rfl (fun K hK => ?_)
      go_simp
      exact hK _ _ ⟨x, (by simp only [upd, e5, hf, Nat.reduceBEq, Bool.false_or, Bool.true_or, Bool.not_true, Bool.not_false, Bool.true_and, Bool.false_and, Bool.cond_self, cond_true, cond_false]; try rfl), hS⟩
    · obtain rfl := Option.some.inj ho
      have e6 : fL 6 = true := hall ⟨6, .data⟩ (by simp) rfl
      clear hall ho
      try simp only [e6, hf, cond_true, cond_false]
      refine wpOp_step rfl (fun K hK => ?_)
      go_simp
      exact hK _ _ ⟨x, (by simp only [upd, e6, hf, Nat.reduceBEq, Bool.false_or, Bool.true_or, Bool.not_true, Bool.not_false, Bool.true_and, Bool.false_and, Bool.cond_self, cond_true, cond_false]; try rfl), hS.s8 e6⟩
    · obtain rfl := Option.some.inj ho
      have e7 : fL 7 = true := hall ⟨7, .data⟩ (by simp) rfl
      clear hall ho
      try simp only [e7, hf, cond_true, cond_false]
      refine wpOp_step rfl (fun K hK => ?_)
      go_simp
      exact hK _ _ ⟨x, (by simp only [upd, e7, hf, Nat.reduceBEq, Bool.false_or, Bool.true_or, Bool.not_true, Bool.not_false, Bool.true_and, Bool.false_and, Bool.cond_self, cond_true, cond_false]; try rfl), hS⟩
  · rintro fL x v hS hall
    have e0 : fL 0 = true := hall 0 (by omega)
    have e1 : fL 1 = true := hall 1 (by omega)
    have e2 : fL 2 = true := hall 2 (by omega)
    have e3 : fL 3 = true := hall 3 (by omega)
    have e4 : fL 4 = true := hall 4 (by omega)
    have e5 : fL 5 = true := hall 5 (by omega)
    have e6 : fL 6 = true := hall 6 (by omega)
    have e7 : fL 7 = true := hall 7 (by omega)
    have e8 : fL 8 = true := hall 8 (by omega)
    have e9 : fL 9 = true := hall 9 (by omega)
    simp only [e0, e1, e2, e3, e4, e5, e6, e7, e8, e9, cond_true]
    clear hall
    obtain ⟨⟨Bu, du, fu⟩, ⟨Bv, dv⟩, Aw, cw, fw⟩ := x
    have Ow := hS.q4 e4
    simp only at Ow ⊢
    have hbv := hS.hb
    clear hS
    obtain ⟨w3, hnm⟩ : ∃ u, u = v := ⟨_, rfl⟩
    subst hnm
    replace Y0 := Y0.below hbv Y0.lt
    replace hW := hW.trans (hbv.mono hW.size)
    have hn3 := Y0.lt
    clear hbv
    go_wp2_with fail
    refine Calls.mono (HTa.out w3 hW) ?_; rintro e w4 ⟨A4, c4, f4, rfl, hd4, O4, hb4⟩
    replace Y0 := Y0.below hb4 Y0.lt
    replace Ow := Ow.below hb4
    replace hW := hW.trans (hb4.mono hW.size)
    have s34 := hb4.size
    clear hb4
    have K4 := Lib.hid (fun w' (hb : Below w4.heap.size w4 w') => O4.mark w' 1 (by omega) (Nat.le_refl _) hb)
    have hW4 := Below.refl w4.heap.size w4
    have hY := Y0.range
    go_wp2_with (refine wpList_load_mid rfl 33 _ rfl (w.heap.size) 0 rfl (cb) _ hY Tryz.underlying33 rfl (by kernel_rfl) ?_)
    refine Calls.mono (HTb.out w4 hW) ?_; rintro e w6 ⟨B6, d6, rfl, E6, O6, hb6⟩
    clear hY
    replace Y0 := Y0.below hb6 Y0.lt
    replace Ow := Ow.below hb6
    replace O4 := O4.below hb6
    replace hW4 := hW4.trans (hb6.mono hW4.size)
    replace hW := hW.trans (hb6.mono hW.size)
    have s46 := hb6.size
    have hl6o := own_lt' O6
    clear hb6
    have hbc : Below w6.heap.size w6 (w6.alloc (.cells (cellb B6 d6).toArray 48)) := (Below.refl _ _).alloc (Nat.le_refl _) _
    have hcall := HIm.out A4 c4 f4 B6 d6 (w6.alloc (.cells (cellb B6 d6).toArray 48)) ⟨(O4.below hbc).e, O4.s, by rw [hlen.out]; exact hd4⟩ (E6.later hbc)
    replace hcall := Lib.hid hcall
    have hl6 : (cellb B6 d6).length = 20 := hclb.out B6 d6
    have ho6 := honb.out B6 d6
    generalize hx6 : cellb B6 d6 = x6 at *
    replace hx6 := Lib.hid hx6
    have D6 := Blk.new w6 48 x6.toArray
    replace Y0 := Y0.below hbc Y0.lt
    replace Ow := Ow.below hbc
    replace O4 := O4.below hbc
    replace O6 := O6.below hbc
    replace E6 := E6.later hbc
    replace hW4 := hW4.trans (hbc.mono hW4.size)
    replace hW := hW.trans (hbc.mono hW.size)
    have hD6 := D6.range
    replace O4 := Lib.hid O4
    replace Ow := Lib.hid Ow
    go_wp2_with (first | (refine wpList_store_new rfl _ _ rfl x6 rfl rfl (by rw [hl6]; kernel_rfl) (by rw [hl6]; rfl) ho6 ?_) | (refine wpList_load_mid rfl 48 _ rfl (w6.heap.size) 0 rfl (x6) _ hD6 Tryz.underlying48 rfl (by kernel_rfl) ?_))
    clear hD6 hl6 ho6 hbc
    have s67 := D6.lt
    generalize w6.alloc (.cells x6.toArray 48) = w7 at *
    generalize w6.heap.size = g6 at *
    refine Calls.mono hcall.out ?_; rintro e w8 ⟨vg, rfl, hOg, hb8⟩
    clear hcall
    obtain ⟨Ag, cg, fg, rfl, Og⟩ := hOg.eno
    clear hOg
    replace Y0 := Y0.below hb8 Y0.lt
    replace D6 := D6.below hb8 D6.lt
    replace Ow := Lib.hid (Ow.out.below hb8)
    replace O4 := Lib.hid (O4.out.below hb8)
    replace O6 := O6.below hb8
    replace E6 := E6.later hb8
    replace hW4 := hW4.trans (hb8.mono hW4.size)
    replace hW := hW.trans (hb8.mono hW.size)
    have s78 := hb8.size
    clear hb8
    have hcall := Lib.hid (Og.eq Ow.out)
    have hgn : ¬ nTo 1 fg R.length < 0 := Og.nto
    replace Og := Lib.hid Og
    go_wp2_with fail
    refine Calls.mono hcall.out ?_; rintro e w9 ⟨rfl, hb9⟩
    clear hcall
    replace Y0 := Y0.below hb9 Y0.lt
    replace D6 := D6.below hb9 D6.lt
    replace Ow := Lib.hid (Ow.out.below hb9)
    replace Og := Lib.hid ((Og.out.below hb9).up hb9.size)
    replace O4 := Lib.hid (O4.out.below hb9)
    replace O6 := O6.below hb9
    replace E6 := E6.later hb9
    replace hW4 := hW4.trans (hb9.mono hW4.size)
    replace hW := hW.trans (hb9.mono hW.size)
    clear hb9
    go_wp2_with fail
    refine Calls.mono (HTa.out w9 hW) ?_; rintro e w10 ⟨A9, c9, f9, rfl, hd9, O9, hb9⟩
    replace Y0 := Y0.below hb9 Y0.lt
    replace D6 := D6.below hb9 D6.lt
    replace Ow := Lib.hid (Ow.out.below hb9)
    replace Og := Lib.hid ((Og.out.below hb9).up hb9.size)
    replace O4 := Lib.hid (O4.out.below hb9)
    replace O6 := O6.below hb9
    replace E6 := E6.later hb9
    replace hW4 := hW4.trans (hb9.mono hW4.size)
    replace hW := hW.trans (hb9.mono hW.size)
    clear hb9
    have hcall := O4.out.eq O9
    rw [hlen.out] at hcall
    replace hcall := Lib.hid hcall
    clear O9 O4
    go_wp2_with fail
    refine Calls.mono hcall.out ?_; rintro e w11 ⟨rfl, hb9⟩
    clear hcall
    replace Y0 := Y0.below hb9 Y0.lt
    replace D6 := D6.below hb9 D6.lt
    replace Ow := Lib.hid (Ow.out.below hb9)
    replace Og := Lib.hid ((Og.out.below hb9).up hb9.size)
    replace O6 := O6.below hb9
    replace E6 := E6.later hb9
    replace hW4 := hW4.trans (hb9.mono hW4.size)
    replace hW := hW.trans (hb9.mono hW.size)
    clear hb9
    have HEq2 : Hid (∀ B' d' W, Below w11.heap.size w11 W → EnIn W B' d' b → Calls Tryz.prog 13 #[.agg x6.toArray, .agg (cellb B' d').toArray] W fun e w' => e = .returned (.bool true) ∧ Below W.heap.size W w') := Lib.hid (fun B' d' W hb F => by have h := HEq.out B6 d6 B' d' W (E6.later hb) F; rwa [hx6.out] at h)
    go_wp2_with fail
    refine wp_region_sink 4 (fun a0 fL bA v => ∃ v59 v60 v61 v62 : Value, bA = (((a0.put (some 59) v59).put (some 60) v60).put (some 61) v61).put (some 62) v62 ∧ (EqR2 w11 (fL 2) (fun x u => ∃ B d, x = .agg (cellb B d).toArray ∧ EnIn u B d b) v61 v) ∧ (fL 0 = true → v59 = .agg x6.toArray) ∧ (fL 1 = true → v60 = .agg cb.toArray) ∧ (fL 2 = true → True) ∧ (fL 3 = true → v62 = .bool true)) (by kernel_rfl) (by decide +kernel) ?_ ?_ ?_
    · exact ⟨undef, undef, undef, undef, by simp only [Act.put, List.setIfInBounds_toArray, List.set_cons_zero, List.set_cons_succ], ⟨(Below.refl _ _).drew, nofun⟩, nofun, nofun, nofun, nofun⟩
    · rintro fL bA v ⟨v59, v60, v61, v62, rfl, hS, q0, q1, q2, q3⟩ i hi hf o ho hall
      simp only [Act.put, List.setIfInBounds_toArray, List.set_cons_zero, List.set_cons_succ]
      have hn : i = 0 ∨ i = 1 ∨ i = 2 ∨ i = 3 := by omega
      clear hi
      rcases hn with rfl | rfl | rfl | rfl
      · obtain rfl := Option.some.inj ho
        clear hall ho
        refine wpOp_step rfl (fun K hK => ?_)
        refine wp_load_mid 48 _ rfl g6 0 rfl x6 _ (D6.below hS.hb D6.lt).range Tryz.underlying48 rfl (by kernel_rfl) ?_
        exact hK _ _ ⟨_, _, _, _, rfl, hS, fun _ => rfl, q1, fun _ => trivial, q3⟩
      · obtain rfl := Option.some.inj ho
        clear hall ho
        refine wpOp_step rfl (fun K hK => ?_)
        refine wp_load_mid 33 _ rfl w.heap.size 0 rfl cb _ (Y0.below hS.hb Y0.lt).range Tryz.underlying33 rfl (by kernel_rfl) ?_
        exact hK _ _ ⟨_, _, _, _, rfl, hS, q0, fun _ => rfl, fun _ => trivial, q3⟩
      · obtain rfl := Option.some.inj ho
        obtain rfl := q1 (hall ⟨1, .data⟩ (by simp) rfl)
        clear hall ho
        refine wpOp_step rfl (fun K hK => ?_)
        go_simp
        refine Calls.mono (HTb.out v (hW.trans (hS.hb.mono hW.size))) ?_; rintro e w7 ⟨B7, d7, rfl, E7, _, hb7⟩
        go_simp
        exact hK _ _ ⟨_, _, _, _, rfl, ⟨hS.hb.trans (hb7.mono hS.hb.size), fun _ => ⟨B7, d7, rfl, E7⟩⟩, q0, fun _ => rfl, fun _ => trivial, q3⟩
      · obtain rfl := Option.some.inj ho
        obtain rfl := q0 (hall ⟨0, .data⟩ (by simp) rfl)
        have e2 : fL 2 = true := hall ⟨2, .data⟩ (by simp) rfl
        clear hall ho
        refine wpOp_step rfl (fun K hK => ?_)
        obtain ⟨H1, h1, rfl, EH⟩ := hS.q e2
        go_simp
        refine Calls.mono (HEq2.out H1 h1 v hS.hb EH) ?_; rintro e w7 ⟨rfl, hb7⟩
        go_simp
        exact hK _ _ ⟨_, _, _, _, rfl, ⟨hS.hb.trans (hb7.mono hS.hb.size), fun e => let ⟨B, d, h1, h2⟩ := hS.q e; ⟨B, d, h1, h2.later hb7⟩⟩, fun _ => rfl, q1, fun _ => trivial, fun _ => rfl⟩
    · rintro fL bA v ⟨v59, v60, v61, v62, rfl, hS, q0, q1, q2, q3⟩ hall
      simp only [Act.put, List.setIfInBounds_toArray, List.set_cons_zero, List.set_cons_succ]
      obtain rfl := q0 (hall 0 (by omega))
      obtain rfl := q1 (hall 1 (by omega))
      have e2 : fL 2 = true := hall 2 (by omega)
      obtain rfl := q3 (hall 3 (by omega))
      clear hall
      simp only [List.drop_succ_cons, List.drop_zero]
      have hbv := hS.hb
      clear hS HEq2 E6 HEq
      obtain ⟨w12, hnm⟩ : ∃ u, u = v := ⟨_, rfl⟩
      subst hnm
      replace Y0 := Y0.below hbv Y0.lt
      replace D6 := D6.below hbv D6.lt
      replace Ow := Lib.hid (Ow.out.below hbv)
      replace Og := Lib.hid ((Og.out.below hbv).up hbv.size)
      replace O6 := O6.below hbv
      replace hW4 := hW4.trans (hbv.mono hW4.size)
      replace hW := hW.trans (hbv.mono hW.size)
      clear hbv
      have hcall := K4.out w12 hW4
      rw [hlen.out] at hcall
      replace hcall := Lib.hid hcall
      clear K4 hW4
      go_wp2_with fail
      refine Calls.mono hcall.out ?_; rintro e w13 ⟨n13, rfl, hn13, hk⟩
      clear hcall
      have h6 := O6.ownGe
      have s3 := hW.size
      replace Y0 := Y0.kb hk (by unfold Nb; omega)
      replace D6 := D6.kb hk (by unfold Nb; omega)
      replace Ow := Lib.hid (Ow.out.kb hk (fun x hx hx2 => by unfold Nb; omega))
      replace Og := Lib.hid ((Og.out.kb hk (fun x hx hx2 => by unfold Nb; omega)).up hk.size)
      replace O6 := O6.kb hk (fun x hx => by have := h6 x hx; unfold Nb; omega)
      replace hW := below_kb hW hk hW.size (fun k hk => by unfold Nb; omega)
      clear hk
      have hD6 := D6.range
      have hla2 := hla.out
      have hlb2 := hlb.out
      have HM := HMb.out B6 d6 w4.heap.size g6 n13 w13 (by omega) hlb.out O6 hl6o
      rw [hx6.out] at HM
      replace HM := Lib.hid HM
      go_wp2_with (refine wpList_load_mid rfl 48 _ rfl (g6) 0 rfl (x6) _ hD6 Tryz.underlying48 rfl (by kernel_rfl) ?_)
      refine Calls.mono HM.out ?_; rintro e w14 ⟨rfl, hk⟩
      clear hD6 HM D6 O6 hl6o
      replace Y0 := Y0.kb hk (by unfold Nb; omega)
      replace Ow := Lib.hid (Ow.out.kb hk (fun x hx hx2 => by unfold Nb; omega))
      replace Og := Lib.hid ((Og.out.kb hk (fun x hx hx2 => by unfold Nb; omega)).up hk.size)
      replace hW := below_kb hW hk hW.size (fun k hk => by unfold Nb; omega)
      clear hk
      have hkn : ¬ n13 + (b.r.l.length : Int) < 0 := by omega
      have hcall := Lib.hid (Og.out.eq Ow.out)
      go_wp2_with fail
      refine Calls.mono hcall.out ?_; rintro e w15 ⟨rfl, hb9⟩
      clear hcall
      replace Y0 := Y0.below hb9 Y0.lt
      replace Ow := Lib.hid (Ow.out.below hb9)
      replace Og := Lib.hid ((Og.out.below hb9).up hb9.size)
      replace hW := hW.trans (hb9.mono hW.size)
      clear hb9
      have hmk := Lib.hid (Og.out.markX 1 (by omega) (by have := hrl.out; omega) (Nat.le_refl _))
      go_wp2_with fail
      refine Calls.mono hmk.out ?_; rintro e w16 ⟨rfl, hk, HH⟩
      replace HH := Lib.hid HH
      replace Y0 := Y0.kb hk (by unfold Nb; omega)
      replace Ow := Lib.hid (Ow.out.kb hk (fun x hx hx2 => by unfold Nb; omega))
      replace hW := below_kb hW hk hW.size (fun k hk => by unfold Nb; omega)
      clear hk hmk Og
      have hW16 := Below.refl w16.heap.size w16
      generalize nTo 1 fg R.length = ng at *
      have hcall := Lib.hid (HH.out w16 hW16)
      go_wp2_with fail
      refine Calls.mono hcall.out ?_; rintro e w17 ⟨rfl, hb9⟩
      clear hcall
      replace Y0 := Y0.below hb9 Y0.lt
      replace Ow := Lib.hid (Ow.out.below hb9)
      replace hW16 := hW16.trans (hb9.mono hW16.size)
      replace hW := hW.trans (hb9.mono hW.size)
      clear hb9
      go_wp2_with fail
      refine region_fx (X := (Option Addr × Nat × List EnR) × (Option Addr × Nat) × (Option Addr × Nat × List EnR)) 10 (fun f l x => match l with | a0_ :: a1_ :: a2_ :: a3_ :: a4_ :: a5_ :: a6_ :: a7_ :: a8_ :: a9_ :: a10_ :: a11_ :: a12_ :: a13_ :: a14_ :: a15_ :: a16_ :: a17_ :: a18_ :: a19_ :: a20_ :: a21_ :: a22_ :: a23_ :: a24_ :: a25_ :: a26_ :: a27_ :: a28_ :: a29_ :: a30_ :: a31_ :: a32_ :: a33_ :: a34_ :: a35_ :: a36_ :: a37_ :: a38_ :: a39_ :: a40_ :: a41_ :: a42_ :: a43_ :: a44_ :: a45_ :: a46_ :: a47_ :: a48_ :: a49_ :: a50_ :: a51_ :: a52_ :: a53_ :: a54_ :: a55_ :: a56_ :: a57_ :: a58_ :: a59_ :: a60_ :: a61_ :: a62_ :: a63_ :: a64_ :: a65_ :: a66_ :: a67_ :: a68_ :: a69_ :: a70_ :: a71_ :: a72_ :: a73_ :: a74_ :: a75_ :: a76_ :: a77_ :: a78_ :: a79_ :: a80_ :: a81_ :: a82_ :: a83_ :: a84_ :: a85_ :: a86_ :: a87_ :: a88_ :: a89_ :: a90_ :: a91_ :: a92_ :: a93_ :: a94_ :: a95_ :: a96_ :: a97_ :: a98_ :: a99_ :: a100_ :: a101_ :: a102_ :: a103_ :: a104_ :: a105_ :: a106_ :: a107_ :: a108_ :: a109_ :: a110_ :: a111_ :: a112_ :: a113_ :: a114_ :: a115_ :: a116_ :: a117_ :: a118_ :: [] => [a0_, a1_, a2_, a3_, a4_, a5_, a6_, a7_, a8_, a9_, a10_, a11_, a12_, a13_, a14_, bif f 8 then .slice x.2.2.1 R.length x.2.2.2.1 else a15_, bif f 9 then .int .i64 cd else a16_, a17_, a18_, a19_, a20_, a21_, a22_, a23_, a24_, a25_, a26_, a27_, a28_, a29_, a30_, a31_, a32_, a33_, a34_, a35_, a36_, a37_, a38_, a39_, a40_, a41_, a42_, a43_, a44_, a45_, a46_, a47_, a48_, a49_, a50_, a51_, a52_, a53_, a54_, a55_, a56_, a57_, a58_, a59_, a60_, a61_, a62_, a63_, a64_, a65_, a66_, a67_, a68_, a69_, a70_, a71_, a72_, a73_, a74_, a75_, a76_, a77_, a78_, a79_, a80_, a81_, a82_, a83_, a84_, a85_, a86_, a87_, a88_, a89_, a90_, a91_, a92_, a93_, bif f 5 then .tuple #[.slice x.2.2.1 R.length x.2.2.2.1, .int .i64 cd] else a94_, bif f 0 then .slice A es.length c else a95_, bif f 1 then .slice x.1.1 es.length x.1.2.1 else a96_, bif f 2 then .agg cb.toArray else a97_, bif f 3 then .agg (cellb x.2.1.1 x.2.1.2).toArray else a98_, bif f 4 then .tuple #[.slice x.2.2.1 R.length x.2.2.2.1, .int .i64 cd] else a99_, bif f 6 then .slice x.2.2.1 R.length x.2.2.2.1 else a100_, bif f 7 then .int .i64 cd else a101_, a102_, a103_, a104_, a105_, a106_, a107_, a108_, a109_, a110_, a111_, a112_, a113_, a114_, a115_, a116_, a117_, a118_] | l => l) (fun fL x v => AeS w17 (ens es) b R (fL 1) (fL 3) (fL 4) (fL 5) (fL 6) (fL 8) x v) (by kernel_rfl) (by decide +kernel) rfl ((none, 0, []), (none, 0), (none, 0, [])) rfl (AeS.init) ?_ ?_
      all_goals dsimp only
      · rintro fL x v hS i hi hf o ho hall
        have hn : i = 0 ∨ i = 1 ∨ i = 2 ∨ i = 3 ∨ i = 4 ∨ i = 5 ∨ i = 6 ∨ i = 7 ∨ i = 8 ∨ i = 9 := by omega
        clear hi
        rcases hn with rfl | rfl | rfl | rfl | rfl | rfl | rfl | rfl | rfl | rfl
        · obtain rfl := Option.some.inj ho
          clear hall ho
          try simp only [hf, cond_true, cond_false]
          refine wpOp_step rfl (fun K hK => ?_)
          go_simp
          exact hK _ _ ⟨x, (by simp only [upd, hf, Nat.reduceBEq, Bool.false_or, Bool.true_or, Bool.not_true, Bool.not_false, Bool.true_and, Bool.false_and, Bool.cond_self, cond_true, cond_false]; try rfl), hS⟩
        · obtain rfl := Option.some.inj ho
          have e0 : fL 0 = true := hall ⟨0, .data⟩ (by simp) rfl
          clear hall ho
          try simp only [e0, hf, cond_true, cond_false]
          refine wpOp_step rfl (fun K hK => ?_)
          go_simp
          refine Calls.mono (HTa.out v (hW.trans (hS.hb.mono hW.size))) ?_; rintro e w7 ⟨B7, d7, f7, rfl, hd7, E7, hb7⟩
          go_simp
          exact hK _ _ ⟨((B7, d7, f7), x.2), (by simp only [upd, e0, hf, Nat.reduceBEq, Bool.false_or, Bool.true_or, Bool.not_true, Bool.not_false, Bool.true_and, Bool.false_and, Bool.cond_self, cond_true, cond_false]; try rfl), hS.c1 hb7 E7 (by rw [hlen.out]; exact hd7)⟩
        · obtain rfl := Option.some.inj ho
          clear hall ho
          try simp only [hf, cond_true, cond_false]
          refine wpOp_step rfl (fun K hK => ?_)
          refine wp_load_mid 33 _ rfl w.heap.size 0 rfl cb _ (Y0.below hS.hb Y0.lt).range Tryz.underlying33 rfl (by kernel_rfl) ?_
          exact hK _ _ ⟨x, (by simp only [upd, hf, Nat.reduceBEq, Bool.false_or, Bool.true_or, Bool.not_true, Bool.not_false, Bool.true_and, Bool.false_and, Bool.cond_self, cond_true, cond_false]; try rfl), hS⟩
        · obtain rfl := Option.some.inj ho
          have e2 : fL 2 = true := hall ⟨2, .data⟩ (by simp) rfl
          clear hall ho
          try simp only [e2, hf, cond_true, cond_false]
          refine wpOp_step rfl (fun K hK => ?_)
          go_simp
          refine Calls.mono (HTb.out v (hW.trans (hS.hb.mono hW.size))) ?_; rintro e w7 ⟨B7, d7, rfl, E7, _, hb7⟩
          go_simp
          exact hK _ _ ⟨(x.1, (B7, d7), x.2.2), (by simp only [upd, e2, hf, Nat.reduceBEq, Bool.false_or, Bool.true_or, Bool.not_true, Bool.not_false, Bool.true_and, Bool.false_and, Bool.cond_self, cond_true, cond_false]; try rfl), hS.c3 hb7 E7⟩
        · obtain rfl := Option.some.inj ho
          have e1 : fL 1 = true := hall ⟨1, .data⟩ (by simp) rfl
          have e3 : fL 3 = true := hall ⟨3, .data⟩ (by simp) rfl
          clear hall ho
          try simp only [e1, e3, hf, cond_true, cond_false]
          refine wpOp_step rfl (fun K hK => ?_)
          obtain ⟨n5, n6, n8⟩ := hS.no hf
          go_simp
          refine Calls.mono (HIm.out _ _ _ _ _ v (hS.q1 e1) (hS.q3 e3)) ?_; rintro e w7 ⟨v7, rfl, hO7, hb7⟩
          obtain ⟨B7, d7, f7, rfl, hE7⟩ := hO7.eno
          go_simp
          exact hK _ _ ⟨(x.1, x.2.1, (B7, d7, f7)), (by simp only [upd, e1, e3, n5, n6, n8, hf, Nat.reduceBEq, Bool.false_or, Bool.true_or, Bool.not_true, Bool.not_false, Bool.true_and, Bool.false_and, Bool.cond_self, cond_true, cond_false]; try rfl), hS.c4 hb7 hE7⟩
        · obtain rfl := Option.some.inj ho
          have e4 : fL 4 = true := hall ⟨4, .data⟩ (by simp) rfl
          clear hall ho
          try simp only [e4, hf, cond_true, cond_false]
          refine wpOp_step rfl (fun K hK => ?_)
          go_simp
          exact hK _ _ ⟨x, (by simp only [upd, e4, hf, Nat.reduceBEq, Bool.false_or, Bool.true_or, Bool.not_true, Bool.not_false, Bool.true_and, Bool.false_and, Bool.cond_self, cond_true, cond_false]; try rfl), hS.s5 e4⟩
        · obtain rfl := Option.some.inj ho
          have e5 : fL 5 = true := hall ⟨5, .data⟩ (by simp) rfl
          clear hall ho
          try simp only [e5, hf, cond_true, cond_false]
          refine wpOp_step rfl (fun K hK => ?_)
          go_simp
          exact hK _ _ ⟨x, (by simp only [upd, e5, hf, Nat.reduceBEq, Bool.false_or, Bool.true_or, Bool.not_true, Bool.not_false, Bool.true_and, Bool.false_and, Bool.cond_self, cond_true, cond_false]; try rfl), hS.s6 e5⟩
        · obtain rfl := Option.some.inj ho
          have e5 : fL 5 = true := hall ⟨5, .data⟩ (by simp) rfl
          clear hall ho
          try simp only [e5, hf, cond_true, cond_false]
          refine wpOp_step rfl (fun K hK => ?_)
          go_simp
          exact hK _ _ ⟨x, (by simp only [upd, e5, hf, Nat.reduceBEq, Bool.false_or, Bool.true_or, Bool.not_true, Bool.not_false, Bool.true_and, Bool.false_and, Bool.cond_self, cond_true, cond_false]; try rfl), hS⟩
        · obtain rfl := Option.some.inj ho
          have e6 : fL 6 = true := hall ⟨6, .data⟩ (by simp) rfl
          clear hall ho
          try simp only [e6, hf, cond_true, cond_false]
          refine wpOp_step rfl (fun K hK => ?_)
          go_simp
          exact hK _ _ ⟨x, (by simp only [upd, e6, hf, Nat.reduceBEq, Bool.false_or, Bool.true_or, Bool.not_true, Bool.not_false, Bool.true_and, Bool.false_and, Bool.cond_self, cond_true, cond_false]; try rfl), hS.s8 e6⟩
        · obtain rfl := Option.some.inj ho
          have e7 : fL 7 = true := hall ⟨7, .data⟩ (by simp) rfl
          clear hall ho
          try simp only [e7, hf, cond_true, cond_false]
          refine wpOp_step rfl (fun K hK => ?_)
          go_simp
          exact hK _ _ ⟨x, (by simp only [upd, e7, hf, Nat.reduceBEq, Bool.false_or, Bool.true_or, Bool.not_true, Bool.not_false, Bool.true_and, Bool.false_and, Bool.cond_self, cond_true, cond_false]; try rfl), hS⟩
      · rintro fL x v hS hall
        have e0 : fL 0 = true := hall 0 (by omega)
        have e1 : fL 1 = true := hall 1 (by omega)
        have e2 : fL 2 = true := hall 2 (by omega)
        have e3 : fL 3 = true := hall 3 (by omega)
        have e4 : fL 4 = true := hall 4 (by omega)
        have e5 : fL 5 = true := hall 5 (by omega)
        have e6 : fL 6 = true := hall 6 (by omega)
        have e7 : fL 7 = true := hall 7 (by omega)
        have e8 : fL 8 = true := hall 8 (by omega)
        have e9 : fL 9 = true := hall 9 (by omega)
        simp only [e0, e1, e2, e3, e4, e5, e6, e7, e8, e9, cond_true]
        clear hall
        obtain ⟨⟨Bu2, du2, fu2⟩, ⟨Bv2, dv2⟩, Ah, ch, fh⟩ := x
        have Oh := hS.q4 e4
        simp only at Oh ⊢
        have hbv := hS.hb
        clear hS
        obtain ⟨w18, hnm⟩ : ∃ u, u = v := ⟨_, rfl⟩
        subst hnm
        replace Ow := Lib.hid (Ow.out.below hbv)
        replace hW16 := hW16.trans (hbv.mono hW16.size)
        replace hW := hW.trans (hbv.mono hW.size)
        clear hbv
        have hcall := Lib.hid (Oh.eq Ow.out)
        clear Oh Ow
        go_wp2_with fail
        refine Calls.mono hcall.out ?_; rintro e w19 ⟨rfl, hb9⟩
        replace hW16 := hW16.trans (hb9.mono hW16.size)
        replace hW := hW.trans (hb9.mono hW.size)
        clear hb9 hcall
        have hcall := Lib.hid (HH.out w19 hW16)
        go_wp2_with fail
        refine Calls.mono hcall.out ?_; rintro e w20 ⟨rfl, hb9⟩
        replace hW := hW.trans (hb9.mono hW.size)
        clear hb9 hcall
        go_wp2
        go_ret
        exact ⟨rfl, (by repeat (first | with_reducible exact hW | with_reducible apply below_drewN' | with_reducible apply Below.drew | (with_reducible refine Below.alloc ?_ (by first | omega | (simp; omega) | simp | (have := (hW).size; omega) | (have := (hW).size; simp; omega)) _) | (with_reducible refine Below.setCell ?_ (by first | omega | (simp; omega) | simp | (have := (hW).size; omega) | (have := (hW).size; simp; omega)) _) | exact hW))⟩
end Go.Proofs.YtendoabjjfinhaaGreatDoor
namespace Go.Proofs.YtendoabjjfinhaaGreatDoor
open Go.ChangeShapes Go.WideShapes Go.ChangeAt Go.RowKit Go.Deep

theorem own : ownKnob Tryz.prog.godebug = none := by kernel_rfl
set_option maxRecDepth 100000 in
theorem laidOut : laidOutB Tryz.prog = true := by kernel_rfl

section
variable {H : Type} {enc : TypeId × Value → H} {P : Program}
theorem trodAll_below (hl : laidOutB P = true) {W W' : World} (hb : Below W.heap.size W W') :
    ∀ (ts : List TypeId) (vs : List Value) (ds : List (DataW H)) (ps : List MemPlace), ts.all (fun t => P.readableRec t && decide (t < P.types.size)) = true →
      (∀ x ∈ ps, x.block < W.heap.size) → DataW.TrodAll enc P W 0 (fun _ => true) true ts vs ds ps → DataW.TrodAll enc P W' 0 (fun b => decide (b < W.heap.size)) true ts vs ds ps := by
  intro ts
  induction ts with
  | nil =>
    intro vs ds ps _ _ h
    obtain ⟨rfl, rfl, rfl⟩ := trodAll_nil h
    exact trodAll_mk0
  | cons t ts ih =>
    intro vs ds ps hr hlt h
    obtain ⟨v, vs', d, ds', p, q, rfl, rfl, rfl, h0, h1⟩ := trodAll_cons h
    simp only [List.all_cons, Bool.and_eq_true, decide_eq_true_eq] at hr
    exact trodAll_cons_mk (Below.trod hl hr.1.1 hr.1.2 h0 hb fun x hx => hlt x (List.mem_append_left _ hx)) (ih vs' ds' q (by simpa using hr.2) (fun x hx => hlt x (List.mem_append_right _ hx)) h1)

theorem trodAll_length {w : World} {base : Nat} {spare : Nat → Bool} {held : Bool} :
    ∀ (ts : List TypeId) (vs : List Value) (ds : List (DataW H)) (ps : List MemPlace), DataW.TrodAll enc P w base spare held ts vs ds ps → ds.length = ts.length := by
  intro ts
  induction ts with
  | nil => intro vs ds ps h; obtain ⟨rfl, rfl, rfl⟩ := trodAll_nil h; rfl
  | cons t ts ih =>
    intro vs ds ps h
    obtain ⟨v, vs', d, ds', p, q, rfl, rfl, rfl, h0, h1⟩ := trodAll_cons h
    simp [ih _ _ _ h1]
end

theorem bounds_i64 {n : Int} (h : (Lit.int .i64 n).wf = true) : -9223372036854775808 ≤ n ∧ n ≤ 9223372036854775807 := by
  simpa [Lit.wf, IntKind.min, IntKind.max, IntKind.signed, IntKind.bits] using h


section
variable {H : Type} {enc : TypeId × Value → H} {P : Program} {w : World} {base : Nat} {spare : Nat → Bool} {held : Bool}
/-- A struct of int64 fields, read as data. -/
theorem struct_ints {t tI : TypeId} {fs : Array Field} {n : Nat} {cs : List Value} {y : DataW H × List MemPlace} (ht : P.underlying t = some (.struct fs)) (hI : P.underlying tI = some (.int .i64)) (hone : oneCellFields P fs = true)
    (hall : fs.all (fun f => f.type == tI) = true) (hC : P.cellsOf t = fs.size) (h : DataW.trod enc P w base spare held n t cs = some y) :
    ∃ ns : List Int, ns.length = fs.size ∧ cs = ns.map (Value.int .i64) ∧ ∀ m ∈ ns, (Lit.int .i64 m).wf = true := by
  obtain ⟨xs, n', _, _, hlen, hxl, hf⟩ := DataW.trod_struct ht h
  rw [hC] at hlen
  have hcell : ∀ i, i < fs.size → ∃ m, cs[i]? = some (Value.int .i64 m) ∧ (Lit.int .i64 m).wf = true := by
    intro i hi
    have hfi : fs[i]? = some fs[i] := Array.getElem?_eq_getElem hi
    obtain ⟨ho, hk⟩ := hone_of hone i _ hfi
    have hty : fs[i].type = tI := by
      have := Array.all_eq_true.1 hall i hi
      simpa using this
    have h1 := hf i _ hfi
    rw [ho, hk, hty] at h1
    have hone' : (cs.drop i).take 1 = [cs[i]'(by omega)] := by
      rw [List.drop_eq_getElem_cons (by omega)]; rfl
    rw [hone', List.getElem?_eq_getElem (show i < xs.length by omega)] at h1
    obtain ⟨m, hm, _, hwf⟩ := DataW.trod_int hI h1
    simp only [List.cons.injEq, and_true] at hm
    exact ⟨m, by rw [List.getElem?_eq_getElem (by omega), hm], hwf⟩
  refine ⟨cs.map intOf, by simpa using hlen, ?_, ?_⟩
  · apply List.ext_getElem?
    intro i
    by_cases hi : i < fs.size
    · obtain ⟨m, hm, _⟩ := hcell i hi
      simp [hm, intOf]
    · rw [List.getElem?_eq_none (by omega), List.getElem?_eq_none (by simp; omega)]
  · intro m hm
    obtain ⟨v, hv, rfl⟩ := List.mem_map.1 hm
    obtain ⟨i, hi, rfl⟩ := List.getElem_of_mem hv
    obtain ⟨m, hm', hwf⟩ := hcell i (by omega)
    rw [List.getElem?_eq_getElem hi] at hm'
    simp only [Option.some.injEq] at hm'
    rw [hm']
    exact hwf

/-- An argument that is a slice of structs: the rows of its cells. -/
theorem open_rowsV {t e : TypeId} {k : Nat} {b0 : Nat} {r : Reach} {v : Value} {d : DataW H} {p : List MemPlace} {ok : List Value → Prop} (ht : P.underlying t = some (.slice e)) (hC : P.cellsOf e = k) (hk : 0 < k) (hby : 0 < P.bytesOf e)
    (hdec : ∀ n cs y, DataW.trod enc P w 0 (fun _ => true) true n e cs = some y → cs.length = k → ok cs)
    (hv : Value.okWide P w r b0 t v) (h : DataW.Trod enc P w 0 (fun _ => true) true t v d p) (hlt : ∀ x ∈ p, x.block < w.heap.size)
    (hsz : ∀ elems spare, d = .slice elems spare → (elems.length + spare.length) * P.bytesOf e ≤ reachBytes) :
    ∃ (A : Option Addr) (n c : Nat) (xs : List (List Value)), v = .slice A n c ∧ xs.length = n ∧ (∀ x ∈ xs, x.length = k ∧ ok x) ∧ Sl w w.heap.size k A xs ∧ n ≤ 140737488351232 := by
  obtain ⟨A, len, cap, rfl⟩ := okWide_slice ht hv
  obtain ⟨fuel, hf⟩ := h
  rcases Go.Deep.open_slice ht hf with ⟨hcs, _⟩ | ⟨a, len', cap', m, n, D, Pl, hcs, hb, hl, hm, hmm, hx, hi⟩
  · simp [Value.cells] at hcs
    obtain ⟨rfl, rfl, rfl⟩ := hcs
    exact ⟨none, 0, 0, [], rfl, rfl, by simp, Sl.nil_, by omega⟩
  · simp [Value.cells] at hcs
    obtain ⟨rfl, rfl, rfl⟩ := hcs
    simp only [if_true] at hmm
    subst hmm
    rw [hC] at hx hi
    have hpl : p = MemPlace.row a (m * k) ++ (List.range m).flatMap Pl := (Prod.mk.inj hx).2
    have hd : d = _ := (Prod.mk.inj hx).1
    have hn : len ≤ 140737488351232 := by
      have h1 := hsz _ _ hd
      simp only [List.length_map, List.length_range] at h1
      have h2 : (len + (m - len)) * 1 ≤ (len + (m - len)) * P.bytesOf e := Nat.mul_le_mul_left _ hby
      unfold reachBytes at h1
      omega
    have hex : ∀ i, ∃ cs' : List Value, i < m → (cs'.length = k ∧ ok cs' ∧ ∀ j u, cs'[j]? = some u → w.cell? (a.add (i * k + j)) = some u) := by
      intro i
      by_cases hi' : i < m
      · obtain ⟨cs', hcs', ht'⟩ := hi i hi'
        obtain ⟨_, hlen, hat⟩ := World.cells?_some hcs'
        refine ⟨cs', fun _ => ⟨hlen, hdec _ _ _ ht' hlen, fun j u hu => ?_⟩⟩
        have hj : j < k := by have := (List.getElem?_eq_some_iff.1 hu).1; omega
        rw [← Go.Deep.add_add, hat j hj, hu]
      · exact ⟨[], fun h => absurd h hi'⟩
    have hex' : ∃ f : Nat → List Value, ∀ i, i < m → ((f i).length = k ∧ ok (f i) ∧ ∀ j u, (f i)[j]? = some u → w.cell? (a.add (i * k + j)) = some u) := ⟨fun i => Classical.choose (hex i), fun i => Classical.choose_spec (hex i)⟩
    obtain ⟨f, hf'⟩ := hex'
    refine ⟨some a, len, m, (List.range len).map f, rfl, by simp, ?_, ?_, hn⟩
    · intro x hx'
      obtain ⟨i, hi', rfl⟩ := List.mem_map.1 hx'
      have := hf' i (by have := List.mem_range.1 hi'; omega)
      exact ⟨this.1, this.2.1⟩
    · intro i x hx'
      rw [List.getElem?_map] at hx'
      by_cases hil : i < len
      · rw [List.getElem?_range hil] at hx'
        simp only [Option.map_some, Option.some.injEq] at hx'
        subst hx'
        obtain ⟨h1, h2, h3⟩ := hf' i (by omega)
        have hf0 := hf' 0 (by omega)
        have hc0 := hf0.2.2 0 ((f 0)[0]'(by omega)) (List.getElem?_eq_getElem (by omega))
        obtain ⟨b, off, spot⟩ := a
        have hspot : spot = none := by
          have := World.cell?_spot hc0
          simpa [Addr.add] using this
        subst hspot
        have hbW : b < w.heap.size := hlt (.cell b off) (by
          rw [hpl]
          exact List.mem_append_left _ (MemPlace.mem_row.2 ⟨0, Nat.mul_pos (by omega) hk, by simp⟩))
        refine ⟨h1, b, off, rfl, hbW, fun j u hu => ?_⟩
        have := h3 j u hu
        rw [add_plain, ← Nat.add_assoc] at this
        exact this
      · rw [List.getElem?_eq_none (by simpa using hil)] at hx'
        cases hx'
theorem sized_at {ts : List TypeId} {ds : List (DataW H)} (h : (DataW.weightsEach P ts ds).all (· ≤ reachBytes) = true) {j : Nat} {t e : TypeId} {d : DataW H} (ht : ts[j]? = some t) (hd : ds[j]? = some d) (hu : P.underlying t = some (.slice e)) :
    ∀ elems spare, d = .slice elems spare → (elems.length + spare.length) * P.bytesOf e ≤ reachBytes := fun elems spare he => sized_slice h ht (hd.trans (by rw [he])) hu
end
/-- the same, the elements structs of int64 fields -/
theorem open_rows {H : Type} {enc : TypeId × Value → H} {P : Program} {w : World} {t e tI : TypeId} {fs : Array Field} {b0 : Nat} {r : Reach} {v : Value} {d : DataW H} {p : List MemPlace} (ht : P.underlying t = some (.slice e)) (he : P.underlying e = some (.struct fs)) (hI : P.underlying tI = some (.int .i64))
    (hone : oneCellFields P fs = true) (hall : fs.all (fun f => f.type == tI) = true) (hC : P.cellsOf e = fs.size) (hk : 0 < fs.size) (hby : 0 < P.bytesOf e)
    (hv : Value.okWide P w r b0 t v) (h : DataW.Trod enc P w 0 (fun _ => true) true t v d p) (hlt : ∀ x ∈ p, x.block < w.heap.size)
    (hsz : ∀ elems spare, d = .slice elems spare → (elems.length + spare.length) * P.bytesOf e ≤ reachBytes) :
    ∃ (A : Option Addr) (c : Nat) (rows : List (List Int)), v = .slice A rows.length c ∧ (∀ x ∈ rows, x.length = fs.size ∧ ∀ m ∈ x, (Lit.int .i64 m).wf = true) ∧ Sl w w.heap.size fs.size A (rows.map (·.map (Value.int .i64))) ∧ rows.length ≤ 140737488351232 := by
  obtain ⟨A, n, c, xs, rfl, hn, hx, hs, hl⟩ := open_rowsV (ok := fun cs => ∃ ns : List Int, ns.length = fs.size ∧ cs = ns.map (Value.int .i64) ∧ ∀ m ∈ ns, (Lit.int .i64 m).wf = true) ht hC hk hby (fun n cs y hy _ => struct_ints he hI hone hall hC hy) hv h hlt hsz
  have hxs : xs = (xs.map (·.map intOf)).map (·.map (Value.int .i64)) := by
    rw [List.map_map]
    conv => lhs; rw [← List.map_id xs]
    apply List.map_congr_left
    intro x hxm
    obtain ⟨_, ns, _, rfl, _⟩ := hx x hxm
    simp [Function.comp_def, intOf]
  refine ⟨A, c, xs.map (·.map intOf), by simp [hn], ?_, ?_, by simpa [hn] using hl⟩
  · intro y hy
    obtain ⟨x, hxm, rfl⟩ := List.mem_map.1 hy
    obtain ⟨_, ns, h1, rfl, h2⟩ := hx x hxm
    simpa [Function.comp_def, intOf] using ⟨h1, h2⟩
  · rw [← hxs]
    exact hs

/-- An argument that is a struct of int64 fields, by value. -/
theorem open_agg_ints {H : Type} {enc : TypeId × Value → H} {P : Program} {w : World} {t tI : TypeId} {fs : Array Field} {b0 base : Nat} {spare : Nat → Bool} {held : Bool} {r : Reach} {v : Value} {d : DataW H} {p : List MemPlace} (ht : P.underlying t = some (.struct fs)) (hI : P.underlying tI = some (.int .i64))
    (hone : oneCellFields P fs = true) (hall : fs.all (fun f => f.type == tI) = true) (hC : P.cellsOf t = fs.size)
    (hv : Value.okWide P w r b0 t v) (h : DataW.Trod enc P w base spare held t v d p) :
    ∃ ns : List Int, ns.length = fs.size ∧ v = .agg (ns.map (Value.int .i64)).toArray ∧ ∀ m ∈ ns, (Lit.int .i64 m).wf = true := by
  obtain ⟨cs, rfl, _⟩ := okWide_struct ht hv
  obtain ⟨fuel, hf⟩ := h
  obtain ⟨ns, h1, h2, h3⟩ := struct_ints ht hI hone hall hC hf
  refine ⟨ns, h1, ?_, h3⟩
  rw [← h2]
  simp [Value.cells]

set_option maxRecDepth 100000 in
/-- The row's step, out of a walk. -/
theorem lifted_of {os : Os} (started : os.Started) {H : Type} {enc : TypeId × Value → H} {K : FuncId} {fn : Func} {s : ChangeSpec}
    (noInit : Tryz.checked.prog.inits.idxOf? K = none) (hfn : Tryz.checked.prog.funcs[K]? = some fn)
    (witness : ∃ (w : World) (tape : Tape) (i : Input), w.os = os ∧ (w.forCall tape i).Shaped Tryz.checked.prog ∧ i.vars = [] ∧ Input.okWide Tryz.checked.prog (w.forCall tape i) .any w.heap.size K i ∧
      s.pre6 enc Tryz.checked.prog fn [] false (w.forCall tape i).memory i.args ∧ ({} : Assume).holds Tryz.checked.prog (lone (Frame.enter Tryz.checked.prog K i.args .normal) [] (w.forCall tape i)))
    (hv : s.vars = []) (hrt : fn.resultTypes = #[4])
    (hs : ∀ ds : List (DataW H), ds.length = fn.params.toList.length → s.fn H (ds ++ []) = { results := [.lit (.bool true)], args := ds })
    (hpr : fn.params.toList.all (fun t => Tryz.prog.readableRec t && decide (t < Tryz.prog.types.size)) = true)
    (walk : ∀ (W : World) (base : Nat) (args : Array Value) (ds : List (DataW H)) (ps : List MemPlace),
      (∀ (j : Nat) t v, fn.params[j]? = some t → args[j]? = some v → Value.okWide Tryz.prog W .any base t v) →
      DataW.TrodAll enc Tryz.prog W 0 (fun _ => true) true fn.params.toList args.toList ds ps → (∀ x ∈ ps, x.block < W.heap.size) →
      (DataW.weightsEach Tryz.prog fn.params.toList ds).all (· ≤ reachBytes) = true →
      Calls Tryz.prog K args W fun e W' => e = .returned (.bool true) ∧ Below W.heap.size W W') :
    ReturnsInHanded {} Tryz.checked os K .any (s.pre6 enc Tryz.prog fn [] false) (s.post enc Tryz.prog fn false true false false) := by
  refine returnsInHanded_of_change_sized (C := Tryz.checked) own started noInit hfn witness ?_
  intro W base args ds gs before hval hW _ hsz _
  have hW' := hW
  obtain ⟨p, q, hA, hV, rfl, hfz, hnd⟩ := hW
  rw [hv] at hV
  obtain ⟨rfl, rfl⟩ := trodVars_none hV
  have hlt : ∀ x ∈ p, x.block < W.heap.size := fun x hx => by simpa using hW'.lt x (List.mem_append_left _ hx)
  have hty : s.plain.varTypes Tryz.checked.prog = [] := by
    unfold DataSpec.varTypes ChangeSpec.plain
    rw [hv]
    rfl
  rw [hty] at hsz
  simp only [List.append_nil] at hsz
  refine (walk W base args ds p hval hA hlt hsz).mono fun e W' ⟨he, hb⟩ => ?_
  subst he
  have hlen := trodAll_length _ _ _ _ hA
  refine ⟨_, rfl, ds, [], p ++ [], [], p ++ [], [], hW', ?_, ?_, ?_, hb.frame _, fun h => by cases h⟩
  · rw [hs ds hlen, hrt]
    exact trodAll_mk1 (shut_bool Tryz.underlying4 _)
  · rw [hs ds hlen]
    have h := trodAll_below laidOut hb _ _ _ _ hpr hlt hA
    rw [List.append_nil]
    exact h
  · rw [hs ds hlen, hv]
    rfl
end Go.Proofs.YtendoabjjfinhaaGreatDoor
namespace Go.Proofs.YtendoabjjfinhaaGreatDoor
open Go.ChangeShapes Go.WideShapes Go.ChangeAt Go.RowKit Go.Deep
section
variable {H : Type} (enc : TypeId × Value → H) (P : Program) (w : World)
/-- what the cells of a value of type t are -/
def Dec (t : TypeId) (ok : List Value → Prop) : Prop := ∀ (n : Nat) (cs : List Value) (y : DataW H × List MemPlace), DataW.trod enc P w 0 (fun _ => true) true n t cs = some y →
  (∀ x ∈ y.2, x.block < w.heap.size) → (∀ m ∈ y.1.weights P t, m ≤ reachBytes) → ok cs
end
section
variable {H : Type} {enc : TypeId × Value → H} {P : Program} {w : World}
theorem Dec.imp {t : TypeId} {ok ok' : List Value → Prop} (h : Dec enc P w t ok) (hi : ∀ cs, ok cs → ok' cs) : Dec enc P w t ok' := fun n cs y h1 h2 h3 => hi cs (h n cs y h1 h2 h3)
def IntOk (cs : List Value) : Prop := ∃ n : Int, cs = [.int .i64 n] ∧ (-9223372036854775808 ≤ n ∧ n ≤ 9223372036854775807)
def BoolOk (cs : List Value) : Prop := ∃ b : Bool, cs = [.bool b]
theorem dec_int {t : TypeId} (ht : P.underlying t = some (.int .i64)) : Dec enc P w t IntOk := fun n cs y h _ _ => by
  obtain ⟨m, h1, _, h2⟩ := DataW.trod_int ht h
  exact ⟨m, h1, bounds_i64 h2⟩
theorem dec_bool {t : TypeId} (ht : P.underlying t = some .bool) : Dec enc P w t BoolOk := fun n cs y h _ _ => by
  obtain ⟨b, h1, _⟩ := DataW.trod_bool ht h
  exact ⟨b, h1⟩
/-- a slice of rows of k cells -/
def SliceOk (w : World) (k : Nat) (ok : List Value → Prop) (cs : List Value) : Prop := ∃ (A : Option Addr) (c : Nat) (xs : List (List Value)), cs = [.slice A xs.length c] ∧ xs.length ≤ c ∧ xs.length ≤ 140737488351232 ∧ (∀ x ∈ xs, x.length = k ∧ ok x) ∧ Sl w w.heap.size k A xs
theorem weightsAll_mem {e : TypeId} {m : Nat} : ∀ {l : List (DataW H)} {d : DataW H}, d ∈ l → m ∈ d.weights P e → m ∈ DataW.weightsAll P e l
  | d0 :: l, d, hd, hm => by
    unfold DataW.weightsAll
    rcases List.mem_cons.1 hd with rfl | h
    · exact List.mem_append_left _ hm
    · exact List.mem_append_right _ (weightsAll_mem h hm)
theorem dec_slice {t e : TypeId} {k : Nat} {ok : List Value → Prop} (ht : P.underlying t = some (.slice e)) (hC : P.cellsOf e = k) (hk : 0 < k) (hby : 0 < P.bytesOf e) (hd : Dec enc P w e ok) : Dec enc P w t (SliceOk w k ok) := by
  intro fuel cs y hf hlt hwt
  rcases Go.Deep.open_slice ht hf with ⟨hcs, _⟩ | ⟨a, len, cap, m, n, D, Pl, hcs, hb, hl, hm, hmm, hx, hi⟩
  · exact ⟨none, 0, [], by simpa using hcs, Nat.zero_le _, Nat.zero_le _, by simp, Sl.nil_⟩
  · simp only [if_true] at hmm
    subst hmm
    rw [hC] at hx hi
    subst hx
    simp only at hlt hwt
    have hn : len ≤ 140737488351232 := by
      have h1 := hwt ((((List.range len).map D).length + ((List.range (m - len)).map fun j => D (len + j)).length) * P.bytesOf e) (by simp [DataW.weights, ht])
      simp only [List.length_map, List.length_range] at h1
      have h2 : (len + (m - len)) * 1 ≤ (len + (m - len)) * P.bytesOf e := Nat.mul_le_mul_left _ hby
      unfold reachBytes at h1
      omega
    have hex : ∀ i, ∃ cs' : List Value, i < m → (cs'.length = k ∧ (i < len → ok cs') ∧ ∀ j u, cs'[j]? = some u → w.cell? (a.add (i * k + j)) = some u) := by
      intro i
      by_cases hi' : i < m
      · obtain ⟨cs', hcs', ht'⟩ := hi i hi'
        obtain ⟨_, hlen, hat⟩ := World.cells?_some hcs'
        refine ⟨cs', fun _ => ⟨hlen, fun hil => hd n cs' (D i, Pl i) ht' (fun x hx => hlt x (List.mem_append_right _ (List.mem_flatMap.2 ⟨i, List.mem_range.2 hi', hx⟩))) (fun q hq => hwt q ?_), fun j u hu => ?_⟩⟩
        · simp only [DataW.weights, ht, List.mem_cons, List.mem_append]
          exact .inr (.inl (weightsAll_mem (List.mem_map.2 ⟨i, List.mem_range.2 hil, rfl⟩) hq))
        · have hj : j < k := by have := (List.getElem?_eq_some_iff.1 hu).1; omega
          rw [← Go.Deep.add_add, hat j hj, hu]
      · exact ⟨[], fun h => absurd h hi'⟩
    have hex' : ∃ f : Nat → List Value, ∀ i, i < m → ((f i).length = k ∧ (i < len → ok (f i)) ∧ ∀ j u, (f i)[j]? = some u → w.cell? (a.add (i * k + j)) = some u) := ⟨fun i => Classical.choose (hex i), fun i => Classical.choose_spec (hex i)⟩
    obtain ⟨f, hf'⟩ := hex'
    refine ⟨some a, m, (List.range len).map f, by simpa using hcs, by simpa using hl, by simpa using hn, ?_, ?_⟩
    · intro x hx'
      obtain ⟨i, hi', rfl⟩ := List.mem_map.1 hx'
      have hil := List.mem_range.1 hi'
      have := hf' i (by omega)
      exact ⟨this.1, this.2.1 hil⟩
    · intro i x hx'
      rw [List.getElem?_map] at hx'
      by_cases hil : i < len
      · rw [List.getElem?_range hil] at hx'
        simp only [Option.map_some, Option.some.injEq] at hx'
        subst hx'
        obtain ⟨h1, h2, h3⟩ := hf' i (by omega)
        have hf0 := hf' 0 (by omega)
        have hc0 := hf0.2.2 0 ((f 0)[0]'(by omega)) (List.getElem?_eq_getElem (by omega))
        obtain ⟨b, off, spot⟩ := a
        have hspot : spot = none := by
          have := World.cell?_spot hc0
          simpa [Addr.add] using this
        subst hspot
        have hbW : b < w.heap.size := hlt (.cell b off) (List.mem_append_left _ (MemPlace.mem_row.2 ⟨0, Nat.mul_pos (by omega) hk, by simp⟩))
        refine ⟨h1, b, off, rfl, hbW, fun j u hu => ?_⟩
        have := h3 j u hu
        rw [add_plain, ← Nat.add_assoc] at this
        exact this
      · rw [List.getElem?_eq_none (by simpa using hil)] at hx'
        cases hx'
theorem weightsEach_get {m : Nat} : ∀ {ts : List TypeId} {ds : List (DataW H)} {j : Nat} {t : TypeId} {d : DataW H}, ts[j]? = some t → ds[j]? = some d → m ∈ d.weights P t → m ∈ DataW.weightsEach P ts ds := fun ht hd hm => DataW.weights_mem_each ht hd _ hm
theorem dec_struct {t : TypeId} {fs : Array Field} (ht : P.underlying t = some (.struct fs)) (oks : Nat → List Value → Prop) (hd : ∀ i f, fs[i]? = some f → Dec enc P w f.type (oks i)) :
    Dec enc P w t (fun cs => cs.length = P.cellsOf t ∧ ∀ i f, fs[i]? = some f → oks i ((cs.drop f.offset).take (P.cellsOf f.type))) := by
  intro fuel cs y h hlt hwt
  obtain ⟨xs, n', _, rfl, hl, hxl, hf⟩ := DataW.trod_struct ht h
  refine ⟨hl, fun i f hi => ?_⟩
  have hlt' : i < fs.size := (Array.getElem?_eq_some_iff.1 hi).1
  have hx : xs[i]? = some xs[i] := List.getElem?_eq_getElem (by omega)
  have h1 := hf i f hi
  rw [hx] at h1
  refine hd i f hi n' _ _ h1 (fun x hxm => hlt x (List.mem_flatMap.2 ⟨xs[i], List.getElem_mem _, hxm⟩)) (fun m hm => hwt m ?_)
  simp only [DataW.weights, ht]
  refine weightsEach_get (j := i) (t := f.type) (d := xs[i].1) ?_ ?_ hm
  · rw [List.getElem?_map, Array.getElem?_toList, hi]; rfl
  · rw [List.getElem?_map, hx]; rfl
/-- an argument that is a struct, by value -/
theorem dec_arg {t : TypeId} {fs : Array Field} {r : Reach} {b0 : Nat} {v : Value} {d : DataW H} {p : List MemPlace} {ok : List Value → Prop} (ht : P.underlying t = some (.struct fs)) (hd : Dec enc P w t ok) (hv : Value.okWide P w r b0 t v) (h : DataW.Trod enc P w 0 (fun _ => true) true t v d p)
    (hlt : ∀ x ∈ p, x.block < w.heap.size) (hw : ∀ m ∈ d.weights P t, m ≤ reachBytes) : ∃ cs : List Value, v = .agg cs.toArray ∧ ok cs := by
  obtain ⟨cs, rfl, _⟩ := okWide_struct ht hv
  obtain ⟨fuel, hf⟩ := h
  refine ⟨cs.toList, by simp, ?_⟩
  have := hd fuel _ _ hf hlt hw
  simpa [Value.cells] using this
/-- an argument that is a slice -/
theorem dec_argS {t e : TypeId} {r : Reach} {b0 : Nat} {v : Value} {d : DataW H} {p : List MemPlace} {ok : List Value → Prop} (ht : P.underlying t = some (.slice e)) (hd : Dec enc P w t ok) (hv : Value.okWide P w r b0 t v) (h : DataW.Trod enc P w 0 (fun _ => true) true t v d p)
    (hlt : ∀ x ∈ p, x.block < w.heap.size) (hw : ∀ m ∈ d.weights P t, m ≤ reachBytes) : ∃ A n c, v = .slice A n c ∧ ok [.slice A n c] := by
  obtain ⟨A, n, c, rfl⟩ := okWide_slice ht hv
  obtain ⟨fuel, hf⟩ := h
  exact ⟨A, n, c, rfl, by simpa [Value.cells] using hd fuel _ _ hf hlt hw⟩
theorem sized_arg {ts : List TypeId} {ds : List (DataW H)} (h : (DataW.weightsEach P ts ds).all (· ≤ reachBytes) = true) {j : Nat} {t : TypeId} {d : DataW H} (ht : ts[j]? = some t) (hd : ds[j]? = some d) : ∀ m ∈ d.weights P t, m ≤ reachBytes := fun m hm => by
  have := List.all_eq_true.1 h _ (DataW.weights_mem_each ht hd m hm)
  simpa using this
end
/-- rows of one int64 each -/
theorem ints_of_rows : ∀ rows : List (List Value), (∀ x ∈ rows, x.length = 1 ∧ IntOk x) → ∃ l : List Int, rows = l.map fun n => [Value.int .i64 n]
  | [], _ => ⟨[], rfl⟩
  | x :: r, h => by
    obtain ⟨l, hl⟩ := ints_of_rows r fun y hy => h y (by simp [hy])
    obtain ⟨n, hn, _⟩ := (h x (by simp)).2
    exact ⟨n :: l, by rw [List.map_cons, hl, hn]⟩
end Go.Proofs.YtendoabjjfinhaaGreatDoor
namespace Go.Proofs.YtendoabjjfinhaaGreatDoor
open Go.ChangeShapes Go.WideShapes Go.ChangeAt Go.RowKit Go.Deep
section
variable {H : Type} {enc : TypeId × Value → H} {P : Program} {w : World}
theorem dec_struct2 {t : TypeId} {f0 f1 : Field} (ht : P.underlying t = some (.struct #[f0, f1])) {k0 k1 : List Value → Prop} (h0 : Dec enc P w f0.type k0) (h1 : Dec enc P w f1.type k1) :
    Dec enc P w t (fun cs => cs.length = P.cellsOf t ∧ k0 ((cs.drop f0.offset).take (P.cellsOf f0.type)) ∧ k1 ((cs.drop f1.offset).take (P.cellsOf f1.type))) :=
  (dec_struct ht (fun i => if i = 0 then k0 else k1) (fun i f hi => by
    match i, hi with
    | 0, hi => obtain rfl : f0 = f := by simpa using hi
               exact h0
    | 1, hi => obtain rfl : f1 = f := by simpa using hi
               exact h1
    | (n + 2), hi => simp at hi)).imp fun cs ⟨hl, hf⟩ => ⟨hl, hf 0 f0 rfl, hf 1 f1 rfl⟩
theorem dec_struct3 {t : TypeId} {f0 f1 f2 : Field} (ht : P.underlying t = some (.struct #[f0, f1, f2])) {k0 k1 k2 : List Value → Prop} (h0 : Dec enc P w f0.type k0) (h1 : Dec enc P w f1.type k1) (h2 : Dec enc P w f2.type k2) :
    Dec enc P w t (fun cs => cs.length = P.cellsOf t ∧ k0 ((cs.drop f0.offset).take (P.cellsOf f0.type)) ∧ k1 ((cs.drop f1.offset).take (P.cellsOf f1.type)) ∧ k2 ((cs.drop f2.offset).take (P.cellsOf f2.type))) :=
  (dec_struct ht (fun i => if i = 0 then k0 else if i = 1 then k1 else k2) (fun i f hi => by
    match i, hi with
    | 0, hi => obtain rfl : f0 = f := by simpa using hi
               exact h0
    | 1, hi => obtain rfl : f1 = f := by simpa using hi
               exact h1
    | 2, hi => obtain rfl : f2 = f := by simpa using hi
               exact h2
    | (n + 3), hi => simp at hi)).imp fun cs ⟨hl, hf⟩ => ⟨hl, hf 0 f0 rfl, hf 1 f1 rfl, hf 2 f2 rfl⟩
end
section
variable {H : Type} {enc : TypeId × Value → H} {w : World}
theorem cells_int : Tryz.prog.cellsOf 2 = 1 := by kernel_rfl
def FigOk (cs : List Value) : Prop := ∃ a b : Int, cs = [.int .i64 a, .int .i64 b] ∧ (-9223372036854775808 ≤ a ∧ a ≤ 9223372036854775807) ∧ (-9223372036854775808 ≤ b ∧ b ≤ 9223372036854775807)
theorem dec_fig : Dec enc Tryz.prog w 24 FigOk :=
  (dec_struct2 Tryz.underlying24 (dec_int Tryz.underlying2) (dec_int Tryz.underlying2)).imp fun cs ⟨hl, h0, h1⟩ => by
    simp only [cells_int] at h0 h1
    rw [show Tryz.prog.cellsOf 24 = 2 from by kernel_rfl] at hl
    match cs, hl with
    | [x, y], _ =>
      obtain ⟨a, ha, ha'⟩ := h0
      obtain ⟨b, hb, hb'⟩ := h1
      simp at ha hb
      exact ⟨a, b, by rw [ha, hb], ha', hb'⟩
/-- a slice of int64 as a list -/
def IntsOk (w : World) (cs : List Value) : Prop := ∃ (A : Option Addr) (c : Nat) (l : List Int), cs = [.slice A l.length c] ∧ l.length ≤ c ∧ l.length ≤ 140737488351232 ∧ Sl w w.heap.size 1 A (l.map ic)
theorem dec_ints : Dec enc Tryz.prog w 25 (IntsOk w) :=
  (dec_slice (k := 1) Tryz.underlying25 (by kernel_rfl) (by omega) (of_decide_eq_true (by kernel_rfl)) (dec_int Tryz.underlying2)).imp fun cs ⟨A, c, xs, h1, h2, h3, h4, h5⟩ => by
    obtain ⟨l, rfl⟩ := ints_of_rows xs h4
    rw [List.length_map] at h1 h2 h3
    exact ⟨A, c, l, h1, h2, h3, h5⟩
end
end Go.Proofs.YtendoabjjfinhaaGreatDoor
namespace Go.Proofs.YtendoabjjfinhaaGreatDoor
open Go.ChangeShapes Go.WideShapes Go.ChangeAt Go.RowKit Go.Deep
section
variable {H : Type} {enc : TypeId × Value → H} {P : Program} {w : World}
def StrOk (cs : List Value) : Prop := ∃ s : ByteArray, cs = [.string s] ∧ s.size ≤ maxLen
theorem dec_str {t : TypeId} (ht : P.underlying t = some .string) : Dec enc P w t StrOk := fun n cs y h _ _ => by
  obtain ⟨s, h1, _, h2⟩ := DataW.trod_string ht h
  exact ⟨s, h1, h2⟩
theorem dec_struct4 {t : TypeId} {f0 f1 f2 f3 : Field} (ht : P.underlying t = some (.struct #[f0, f1, f2, f3])) {k0 k1 k2 k3 : List Value → Prop} (h0 : Dec enc P w f0.type k0) (h1 : Dec enc P w f1.type k1) (h2 : Dec enc P w f2.type k2) (h3 : Dec enc P w f3.type k3) :
    Dec enc P w t (fun cs => cs.length = P.cellsOf t ∧ k0 ((cs.drop f0.offset).take (P.cellsOf f0.type)) ∧ k1 ((cs.drop f1.offset).take (P.cellsOf f1.type)) ∧ k2 ((cs.drop f2.offset).take (P.cellsOf f2.type)) ∧ k3 ((cs.drop f3.offset).take (P.cellsOf f3.type))) :=
  (dec_struct ht (fun i => if i = 0 then k0 else if i = 1 then k1 else if i = 2 then k2 else k3) (fun i f hi => by
    match i, hi with
    | 0, hi => obtain rfl : f0 = f := by simpa using hi
               exact h0
    | 1, hi => obtain rfl : f1 = f := by simpa using hi
               exact h1
    | 2, hi => obtain rfl : f2 = f := by simpa using hi
               exact h2
    | 3, hi => obtain rfl : f3 = f := by simpa using hi
               exact h3
    | (n + 4), hi => simp at hi)).imp fun cs ⟨hl, hf⟩ => ⟨hl, hf 0 f0 rfl, hf 1 f1 rfl, hf 2 f2 rfl, hf 3 f3 rfl⟩
theorem dec_struct7 {t : TypeId} {f0 f1 f2 f3 f4 f5 f6 : Field} (ht : P.underlying t = some (.struct #[f0, f1, f2, f3, f4, f5, f6])) {k0 k1 k2 k3 k4 k5 k6 : List Value → Prop} (h0 : Dec enc P w f0.type k0) (h1 : Dec enc P w f1.type k1) (h2 : Dec enc P w f2.type k2) (h3 : Dec enc P w f3.type k3) (h4 : Dec enc P w f4.type k4) (h5 : Dec enc P w f5.type k5) (h6 : Dec enc P w f6.type k6) :
    Dec enc P w t (fun cs => cs.length = P.cellsOf t ∧ k0 ((cs.drop f0.offset).take (P.cellsOf f0.type)) ∧ k1 ((cs.drop f1.offset).take (P.cellsOf f1.type)) ∧ k2 ((cs.drop f2.offset).take (P.cellsOf f2.type)) ∧ k3 ((cs.drop f3.offset).take (P.cellsOf f3.type)) ∧ k4 ((cs.drop f4.offset).take (P.cellsOf f4.type)) ∧ k5 ((cs.drop f5.offset).take (P.cellsOf f5.type)) ∧ k6 ((cs.drop f6.offset).take (P.cellsOf f6.type))) :=
  (dec_struct ht (fun i => if i = 0 then k0 else if i = 1 then k1 else if i = 2 then k2 else if i = 3 then k3 else if i = 4 then k4 else if i = 5 then k5 else k6) (fun i f hi => by
    match i, hi with
    | 0, hi => obtain rfl : f0 = f := by simpa using hi
               exact h0
    | 1, hi => obtain rfl : f1 = f := by simpa using hi
               exact h1
    | 2, hi => obtain rfl : f2 = f := by simpa using hi
               exact h2
    | 3, hi => obtain rfl : f3 = f := by simpa using hi
               exact h3
    | 4, hi => obtain rfl : f4 = f := by simpa using hi
               exact h4
    | 5, hi => obtain rfl : f5 = f := by simpa using hi
               exact h5
    | 6, hi => obtain rfl : f6 = f := by simpa using hi
               exact h6
    | (n + 7), hi => simp at hi)).imp fun cs ⟨hl, hf⟩ => ⟨hl, hf 0 f0 rfl, hf 1 f1 rfl, hf 2 f2 rfl, hf 3 f3 rfl, hf 4 f4 rfl, hf 5 f5 rfl, hf 6 f6 rfl⟩
end
section
variable {H : Type} {enc : TypeId × Value → H} {w : World}
/-- a slice of numbers, as it lies -/
structure IntsLaid (w : World) (A : Option Addr) (c : Nat) (l : List Int) : Prop where
  k : l.length ≤ c
  z : l.length ≤ 140737488351232
  s : Sl w w.heap.size 1 A (l.map ic)
theorem IntsLaid.later {w W : World} {A : Option Addr} {c : Nat} {l : List Int} (E : IntsLaid w A c l) (hW : Below w.heap.size w W) : IntsLaid W A c l := ⟨E.k, E.z, (E.s.below hW).more hW.size⟩
def FormOk (w : World) (cs : List Value) : Prop := ∃ (fd ft : Int) (nm : ByteArray) (A1 : Option Addr) (c1 : Nat) (l1 : List Int), cs = [.int .i64 fd, .int .i64 ft, .string nm, .slice A1 l1.length c1] ∧ nm.size ≤ maxLen ∧ IntsLaid w A1 c1 l1
theorem dec_form : Dec enc Tryz.prog w 27 (FormOk w) :=
  (dec_struct3 Tryz.underlying27 dec_fig (dec_str Tryz.underlying9) dec_ints).imp fun cs ⟨hl, h0, h1, h2⟩ => by
    simp only [show Tryz.prog.cellsOf 24 = 2 from by kernel_rfl, show Tryz.prog.cellsOf 9 = 1 from by kernel_rfl, show Tryz.prog.cellsOf 25 = 1 from by kernel_rfl] at h0 h1 h2
    rw [show Tryz.prog.cellsOf 27 = 4 from by kernel_rfl] at hl
    match cs, hl with
    | [x0, x1, x2, x3], _ =>
      obtain ⟨a, b, e0, _⟩ := h0
      obtain ⟨s, e1, hs⟩ := h1
      obtain ⟨A1, c1, l1, e2, r1, r2, r3⟩ := h2
      simp at e0 e1 e2
      exact ⟨a, b, s, A1, c1, l1, by rw [e0.1, e0.2, e1, e2], hs, r1, r2, r3⟩
def ChOk (w : World) (cs : List Value) : Prop := ∃ (fd ft : Int) (nm : ByteArray) (A1 : Option Addr) (c1 : Nat) (l1 : List Int) (wd lf rt : Int), cs = [.int .i64 fd, .int .i64 ft, .string nm, .slice A1 l1.length c1, .int .i64 wd, .int .i64 lf, .int .i64 rt] ∧ nm.size ≤ maxLen ∧ IntsLaid w A1 c1 l1
theorem dec_chart : Dec enc Tryz.prog w 29 (ChOk w) :=
  (dec_struct4 Tryz.underlying29 dec_form (dec_int Tryz.underlying2) (dec_int Tryz.underlying2) (dec_int Tryz.underlying2)).imp fun cs ⟨hl, h0, h1, h2, h3⟩ => by
    simp only [show Tryz.prog.cellsOf 27 = 4 from by kernel_rfl, cells_int] at h0 h1 h2 h3
    rw [show Tryz.prog.cellsOf 29 = 7 from by kernel_rfl] at hl
    match cs, hl with
    | [x0, x1, x2, x3, x4, x5, x6], _ =>
      obtain ⟨fd, ft, nm, A1, c1, l1, e0, r1, r2⟩ := h0
      obtain ⟨a, e1, _⟩ := h1
      obtain ⟨b, e2, _⟩ := h2
      obtain ⟨c, e3, _⟩ := h3
      simp at e0 e1 e2 e3
      exact ⟨fd, ft, nm, A1, c1, l1, a, b, c, by rw [e0.1, e0.2.1, e0.2.2.1, e0.2.2.2, e1, e2, e3], r1, r2⟩
def RlOk (w : World) (cs : List Value) : Prop := ∃ (fd ft : Int) (nm : ByteArray) (A1 : Option Addr) (c1 : Nat) (l1 : List Int) (wd lf rt lud lut hud hut lvd lvt hvd hvt ey bo : Int), cs = [.int .i64 fd, .int .i64 ft, .string nm, .slice A1 l1.length c1, .int .i64 wd, .int .i64 lf, .int .i64 rt, .int .i64 lud, .int .i64 lut, .int .i64 hud, .int .i64 hut, .int .i64 lvd, .int .i64 lvt, .int .i64 hvd, .int .i64 hvt, .int .i64 ey, .int .i64 bo] ∧ nm.size ≤ maxLen ∧ IntsLaid w A1 c1 l1
theorem dec_release : Dec enc Tryz.prog w 31 (RlOk w) :=
  (dec_struct7 Tryz.underlying31 dec_chart dec_fig dec_fig dec_fig dec_fig (dec_int Tryz.underlying2) (dec_int Tryz.underlying2)).imp fun cs ⟨hl, h0, h1, h2, h3, h4, h5, h6⟩ => by
    simp only [show Tryz.prog.cellsOf 29 = 7 from by kernel_rfl, show Tryz.prog.cellsOf 24 = 2 from by kernel_rfl, cells_int] at h0 h1 h2 h3 h4 h5 h6
    rw [show Tryz.prog.cellsOf 31 = 17 from by kernel_rfl] at hl
    match cs, hl with
    | [x0, x1, x2, x3, x4, x5, x6, x7, x8, x9, x10, x11, x12, x13, x14, x15, x16], _ =>
      obtain ⟨fd, ft, nm, A1, c1, l1, wd, lf, rt, e0, r1, r2⟩ := h0
      obtain ⟨a1, b1, e1, _⟩ := h1
      obtain ⟨a2, b2, e2, _⟩ := h2
      obtain ⟨a3, b3, e3, _⟩ := h3
      obtain ⟨a4, b4, e4, _⟩ := h4
      obtain ⟨ey, e5, _⟩ := h5
      obtain ⟨bo, e6, _⟩ := h6
      simp at e0 e1 e2 e3 e4 e5 e6
      exact ⟨fd, ft, nm, A1, c1, l1, wd, lf, rt, a1, b1, a2, b2, a3, b3, a4, b4, ey, bo, by rw [e0.1, e0.2.1, e0.2.2.1, e0.2.2.2.1, e0.2.2.2.2.1, e0.2.2.2.2.2.1, e0.2.2.2.2.2.2, e1.1, e1.2, e2.1, e2.2, e3.1, e3.2, e4.1, e4.2, e5, e6], r1, r2⟩
end
end Go.Proofs.YtendoabjjfinhaaGreatDoor
namespace Go.Proofs.YtendoabjjfinhaaGreatDoor
open Go.ChangeShapes Go.WideShapes Go.ChangeAt Go.RowKit Go.Deep
section
variable {H : Type} {enc : TypeId × Value → H} {w : World}
def EnOk (w : World) (cs : List Value) : Prop := ∃ x : EnR, cs = x.cells ∧ x.Laid w
theorem dec_entry : Dec enc Tryz.prog w 33 (EnOk w) :=
  (dec_struct4 Tryz.underlying33 (dec_str Tryz.underlying9) (dec_int Tryz.underlying2) dec_release (dec_int Tryz.underlying2)).imp fun cs ⟨hl, h0, h1, h2, h3⟩ => by
    simp only [show Tryz.prog.cellsOf 9 = 1 from by kernel_rfl, show Tryz.prog.cellsOf 31 = 17 from by kernel_rfl, cells_int] at h0 h1 h2 h3
    rw [show Tryz.prog.cellsOf 33 = 20 from by kernel_rfl] at hl
    match cs, hl with
    | [x0, x1, x2, x3, x4, x5, x6, x7, x8, x9, x10, x11, x12, x13, x14, x15, x16, x17, x18, x19], _ =>
      obtain ⟨s, e0, hs⟩ := h0
      obtain ⟨a, e1, _⟩ := h1
      obtain ⟨fd, ft, nm, A1, c1, l1, wd, lf, rt, lud, lut, hud, hut, lvd, lvt, hvd, hvt, ey, bo, e2, r1, r2⟩ := h2
      obtain ⟨b, e3, _⟩ := h3
      simp at e0 e1 e2 e3
      obtain ⟨f0, f1, f2, f3, f4, f5, f6, f7, f8, f9, f10, f11, f12, f13, f14, f15, f16⟩ := e2
      exact ⟨⟨⟨s, a, ⟨fd, ft, nm, l1, wd, lf, rt, lud, lut, hud, hut, lvd, lvt, hvd, hvt, ey, bo⟩, b⟩, A1, c1⟩, by subst e0 e1 e3 f0 f1 f2 f3 f4 f5 f6 f7 f8 f9 f10 f11 f12 f13 f14 f15 f16; rfl, hs, r1, r2.k, r2.z, r2.s⟩
theorem ens_of_rows : ∀ rows : List (List Value), (∀ x ∈ rows, x.length = 20 ∧ EnOk w x) → ∃ l : List EnR, rows = l.map EnR.cells ∧ ∀ x ∈ l, x.Laid w
  | [], _ => ⟨[], rfl, by simp⟩
  | r :: rs, h => by
    obtain ⟨l, hl, hx⟩ := ens_of_rows rs fun y hy => h y (by simp [hy])
    obtain ⟨_, x, e, hxl⟩ := h r (by simp)
    refine ⟨x :: l, by rw [hl, e]; rfl, fun y hy => ?_⟩
    rcases List.mem_cons.1 hy with rfl | hy
    · exact hxl
    · exact hx y hy
/-- a list of entries, as an argument -/
def EnsOk (w : World) (cs : List Value) : Prop := ∃ (A : Option Addr) (c : Nat) (es : List EnR), cs = [.slice A es.length c] ∧ es.length ≤ c ∧ es.length ≤ 140737488351232 ∧ (∀ x ∈ es, x.Laid w) ∧ Sl w w.heap.size 20 A (es.map EnR.cells)
theorem dec_entries : Dec enc Tryz.prog w 22 (EnsOk w) :=
  (dec_slice (k := 20) Tryz.underlying22 (by kernel_rfl) (by omega) (of_decide_eq_true (by kernel_rfl)) dec_entry).imp fun cs ⟨A, c, xs, h1, h2, h3, h4, h5⟩ => by
    obtain ⟨l, rfl, hx⟩ := ens_of_rows xs h4
    rw [List.length_map] at h1 h2 h3
    exact ⟨A, c, l, h1, h2, h3, hx, h5⟩
end
end Go.Proofs.YtendoabjjfinhaaGreatDoor
