/- FnExactChangesBetween: the walk. Conditions: what an argument always is. -/
import Derived.Test.YtmdliicdlehibaaChg
import Derived.Test.YtmdliicdlehibaaKb
import Derived.Test.YtmdliicdlehibaaOpenF
namespace Go.Proofs.Ytmdliicdlehibaa
open Go.RowKit
set_option linter.unusedSimpArgs false
def Nb (lo hi : Nat) (k : Nat) : Prop := lo ≤ k ∧ k < hi
set_option maxRecDepth 100000 in
theorem markFormula_c (fd ft : Int) (s : ByteArray) (A : Option Addr) (c base hi : Nat) (l : List Int) (m : Int) (w : World) (hm : 0 ≤ m ∧ m ≤ 1000000000) (hl : l.length ≤ 1048576) (hO : Own w base 2 1 (.slice A l.length c) (l.map ic)) (hh : ∀ g, (Value.slice A l.length c).ownBlock = some g → g < hi) :
    Calls Try.prog 64 #[.agg #[.int .i64 fd, .int .i64 ft, .string s, .slice A l.length c], .int .i64 m] w fun e w' => e = .returned (.int .i64 (m + l.length)) ∧ Kb (Nb base hi) w w' := by
  have hb : Below w.heap.size w (w.alloc (.cells #[.int .i64 fd, .int .i64 ft, .string s, .slice A l.length c] 36)) := (by repeat (first | with_reducible exact Below.refl _ _ | with_reducible apply below_drewN' | with_reducible apply Below.drew | (with_reducible refine Below.alloc ?_ (by first | omega | (simp; omega) | simp | (have := (Below.refl _ _).size; omega) | (have := (Below.refl _ _).size; simp; omega)) _) | (with_reducible refine Below.setCell ?_ (by first | omega | (simp; omega) | simp | (have := (Below.refl _ _).size; omega) | (have := (Below.refl _ _).size; simp; omega)) _) | exact Below.refl _ _))
  have hge := hO.ownGe
  have HM := markInt64S_c A c base m (l.map ic) _ hm (by simp; omega) (by simpa using hO.alloc (.cells #[.int .i64 fd, .int .i64 ft, .string s, .slice A l.length c] 36))
  rw [List.length_map] at HM
  replace HM := Lib.hid HM
  go_enter Try.func64, Try.ntmps64
  go_wp2_with fail
  refine Calls.mono HM.out ?_; rintro e w1 ⟨rfl, _, hg⟩
  have hK : Kb (Nb base hi) w w1 := (Kb.of_below hb).trans (Kb.of_grown hg (fun k hk => ⟨hge k hk.symm, hh k hk.symm⟩))
  clear hg HM hO
  go_wp2
  go_ret
  exact ⟨rfl, hK⟩
set_option maxRecDepth 100000 in
theorem markChart_c (fd ft : Int) (s : ByteArray) (A : Option Addr) (c base hi : Nat) (l : List Int) (wd lf rt m : Int) (w : World) (hm : 0 ≤ m ∧ m ≤ 1000000000) (hl : l.length ≤ 1048576) (hO : Own w base 2 1 (.slice A l.length c) (l.map ic)) (hh : ∀ g, (Value.slice A l.length c).ownBlock = some g → g < hi) :
    Calls Try.prog 33 #[.agg #[.int .i64 fd, .int .i64 ft, .string s, .slice A l.length c, .int .i64 wd, .int .i64 lf, .int .i64 rt], .int .i64 m] w fun e w' => e = .returned (.int .i64 (m + l.length)) ∧ Kb (Nb base hi) w w' := by
  have hb : Below w.heap.size w (w.alloc (.cells #[.int .i64 fd, .int .i64 ft, .string s, .slice A l.length c, .int .i64 wd, .int .i64 lf, .int .i64 rt] 38)) := (by repeat (first | with_reducible exact Below.refl _ _ | with_reducible apply below_drewN' | with_reducible apply Below.drew | (with_reducible refine Below.alloc ?_ (by first | omega | (simp; omega) | simp | (have := (Below.refl _ _).size; omega) | (have := (Below.refl _ _).size; simp; omega)) _) | (with_reducible refine Below.setCell ?_ (by first | omega | (simp; omega) | simp | (have := (Below.refl _ _).size; omega) | (have := (Below.refl _ _).size; simp; omega)) _) | exact Below.refl _ _))
  have HM := Lib.hid (markFormula_c fd ft s A c base hi l m _ hm hl (hO.alloc (.cells #[.int .i64 fd, .int .i64 ft, .string s, .slice A l.length c, .int .i64 wd, .int .i64 lf, .int .i64 rt] 38)) hh)
  go_enter Try.func33, Try.ntmps33
  go_wp2_with fail
  refine Calls.mono HM.out ?_; rintro e w1 ⟨rfl, hk⟩
  have hK := (Kb.of_below (bad := Nb base hi) hb).trans hk
  clear hk HM hO
  go_wp2
  go_ret
  exact ⟨rfl, hK⟩
set_option maxRecDepth 100000 in
theorem markRl_c (r : Rl) (A : Option Addr) (c base hi : Nat) (m : Int) (w : World) (hm : 0 ≤ m ∧ m ≤ 1000000000) (hl : r.l.length ≤ 1048576) (hO : Own w base 2 1 (.slice A r.l.length c) (r.l.map ic)) (hh : ∀ g, (Value.slice A r.l.length c).ownBlock = some g → g < hi) :
    Calls Try.prog 14 #[.agg (r.cells A c).toArray, .int .i64 m] w fun e w' => e = .returned (.int .i64 (m + r.l.length)) ∧ Kb (Nb base hi) w w' := by
  have hb : Below w.heap.size w (w.alloc (.cells (r.cells A c).toArray 40)) := (by repeat (first | with_reducible exact Below.refl _ _ | with_reducible apply below_drewN' | with_reducible apply Below.drew | (with_reducible refine Below.alloc ?_ (by first | omega | (simp; omega) | simp | (have := (Below.refl _ _).size; omega) | (have := (Below.refl _ _).size; simp; omega)) _) | (with_reducible refine Below.setCell ?_ (by first | omega | (simp; omega) | simp | (have := (Below.refl _ _).size; omega) | (have := (Below.refl _ _).size; simp; omega)) _) | exact Below.refl _ _))
  have HM := Lib.hid (markChart_c r.fd r.ft r.nm A c base hi r.l r.wd r.lf r.rt m _ hm hl (hO.alloc (.cells (r.cells A c).toArray 40)) hh)
  have B0 := Blk.new w 40 (r.cells A c).toArray
  have hp : (w.alloc (.cells (r.cells A c).toArray 40)).rangeAt w.heap.size 0 [.int .i64 r.fd, .int .i64 r.ft, .string r.nm, .slice A r.l.length c, .int .i64 r.wd, .int .i64 r.lf, .int .i64 r.rt] := Blk.part (xs := []) (ys := [.int .i64 r.lud, .int .i64 r.lut, .int .i64 r.hud, .int .i64 r.hut, .int .i64 r.lvd, .int .i64 r.lvt, .int .i64 r.hvd, .int .i64 r.hvt, .int .i64 r.ey, .int .i64 r.bo]) B0 rfl
  generalize (r.cells A c).toArray = cs at *
  go_enter Try.func14, Try.ntmps14
  go_wp2_with (refine wpList_load_mid rfl 38 _ rfl (w.heap.size) 0 rfl [.int .i64 r.fd, .int .i64 r.ft, .string r.nm, .slice A r.l.length c, .int .i64 r.wd, .int .i64 r.lf, .int .i64 r.rt] _ hp Try.underlying38 rfl (by kernel_rfl) ?_)
  refine Calls.mono HM.out ?_; rintro e w1 ⟨rfl, hk⟩
  have hK := (Kb.of_below (bad := Nb base hi) hb).trans hk
  clear hk HM hO
  go_wp2
  go_ret
  exact ⟨rfl, hK⟩
theorem toRlO_c (r : Rl) (A : Option Addr) (c : Nat) (w : World) (E : RlIn w A c r) : Calls Try.prog 8 #[.agg (r.cells A c).toArray] w fun e w' => ∃ B d, e = .returned (.agg (r.cells B d).toArray) ∧ RlIn w' B d r ∧ Own w' w.heap.size 2 1 (.slice B r.l.length d) (r.l.map ic) ∧ Below w.heap.size w w' :=
  (toRelease_c r.fd r.ft r.nm A c r.l r.wd r.lf r.rt r.lud r.lut r.hud r.hut r.lvd r.lvt r.hvd r.hvt r.ey r.bo w E.h E.s).mono fun _ _ ⟨B, d, he, o, hb⟩ => ⟨B, d, he, ⟨E.h, E.hn, o.sl⟩, o, hb⟩
/-- while 'w0, w1 := F(toRelease(aA), toRelease(aB))' runs -/
structure CbS (W0 : World) (a b : Rl) (R : List Int) (b1 b3 b4 b5 b6 b8 : Bool) (x : (Option Addr × Nat) × (Option Addr × Nat) × (Option Addr × Nat)) (v : World) : Prop where
  hb : Below W0.heap.size W0 v
  q1 : b1 = true → RlIn v x.1.1 x.1.2 a
  q3 : b3 = true → RlIn v x.2.1.1 x.2.1.2 b
  q4 : b4 = true → Own v W0.heap.size 2 1 (.slice x.2.2.1 R.length x.2.2.2) (R.map ic)
  k5 : b5 = true → b4 = true
  k6 : b6 = true → b5 = true
  k8 : b8 = true → b6 = true
section
variable {W0 v v' : World} {a b : Rl} {R : List Int} {b1 b3 b4 b5 b6 b8 : Bool} {x : (Option Addr × Nat) × (Option Addr × Nat) × (Option Addr × Nat)}
theorem CbS.init : CbS W0 a b R false false false false false false x W0.drew := ⟨(Below.refl _ _).drew, nofun, nofun, nofun, nofun, nofun, nofun⟩
theorem CbS.c1 {B : Option Addr} {d : Nat} (h : CbS W0 a b R b1 b3 b4 b5 b6 b8 x v) (hb : Below v.heap.size v v') (E : RlIn v' B d a) : CbS W0 a b R true b3 b4 b5 b6 b8 ((B, d), x.2) v' :=
  ⟨h.hb.trans (hb.mono h.hb.size), fun _ => E, fun e => (h.q3 e).later hb, fun e => (h.q4 e).below hb, h.k5, h.k6, h.k8⟩
theorem CbS.c3 {B : Option Addr} {d : Nat} (h : CbS W0 a b R b1 b3 b4 b5 b6 b8 x v) (hb : Below v.heap.size v v') (E : RlIn v' B d b) : CbS W0 a b R b1 true b4 b5 b6 b8 (x.1, (B, d), x.2.2) v' :=
  ⟨h.hb.trans (hb.mono h.hb.size), fun e => (h.q1 e).later hb, fun _ => E, fun e => (h.q4 e).below hb, h.k5, h.k6, h.k8⟩
theorem CbS.c4 {B : Option Addr} {d : Nat} (h : CbS W0 a b R b1 b3 b4 b5 b6 b8 x v) (hb : Below v.heap.size v v') (o : Own v' v.heap.size 2 1 (.slice B R.length d) (R.map ic)) : CbS W0 a b R b1 b3 true b5 b6 b8 (x.1, x.2.1, (B, d)) v' :=
  ⟨h.hb.trans (hb.mono h.hb.size), fun e => (h.q1 e).later hb, fun e => (h.q3 e).later hb, fun _ => o.mono h.hb.size, fun _ => rfl, h.k6, h.k8⟩
theorem CbS.s5 (h : CbS W0 a b R b1 b3 b4 b5 b6 b8 x v) (e : b4 = true) : CbS W0 a b R b1 b3 b4 true b6 b8 x v := ⟨h.hb, h.q1, h.q3, h.q4, fun _ => e, fun _ => rfl, h.k8⟩
theorem CbS.s6 (h : CbS W0 a b R b1 b3 b4 b5 b6 b8 x v) (e : b5 = true) : CbS W0 a b R b1 b3 b4 b5 true b8 x v := ⟨h.hb, h.q1, h.q3, h.q4, h.k5, fun _ => e, fun _ => rfl⟩
theorem CbS.s8 (h : CbS W0 a b R b1 b3 b4 b5 b6 b8 x v) (e : b6 = true) : CbS W0 a b R b1 b3 b4 b5 b6 true x v := ⟨h.hb, h.q1, h.q3, h.q4, h.k5, h.k6, fun _ => e⟩
theorem CbS.no (h : CbS W0 a b R b1 b3 b4 b5 b6 b8 x v) (e : b4 = false) : b5 = false ∧ b6 = false ∧ b8 = false := by
  have h5 : b5 = false := by cases hb : b5 with
    | false => rfl
    | true => have := h.k5 hb; rw [e] at this; cases this
  have h6 : b6 = false := by cases hb : b6 with
    | false => rfl
    | true => have := h.k6 hb; rw [h5] at this; cases this
  exact ⟨h5, h6, by cases hb : b8 with
    | false => rfl
    | true => have := h.k8 hb; rw [h6] at this; cases this⟩
end
structure EqR2 (w1 : World) (b : Bool) (Q : Value → World → Prop) (x : Value) (v : World) : Prop where
  hb : Below w1.heap.size w1 v
  q : b = true → Q x v
set_option maxRecDepth 100000 in
set_option maxHeartbeats 4000000 in
theorem lawChangesBetween_c (a b : Rl) (A : Option Addr) (c : Nat) (A' : Option Addr) (c' : Nat) (w : World) (X : RlLaid w A c a) (Y : RlLaid w A' c' b) :
    Calls Try.prog 4 #[.agg (a.cells A c).toArray, .agg (b.cells A' c').toArray] w fun e w' => e = .returned (.bool true) ∧ Below w.heap.size w w' := by
  have hW : Below w.heap.size w ((w.alloc (.cells (a.cells A c).toArray 30)).alloc (.cells (b.cells A' c').toArray 30)) := (by repeat (first | with_reducible exact Below.refl _ _ | with_reducible apply below_drewN' | with_reducible apply Below.drew | (with_reducible refine Below.alloc ?_ (by first | omega | (simp; omega) | simp | (have := (Below.refl _ _).size; omega) | (have := (Below.refl _ _).size; simp; omega)) _) | (with_reducible refine Below.setCell ?_ (by first | omega | (simp; omega) | simp | (have := (Below.refl _ _).size; omega) | (have := (Below.refl _ _).size; simp; omega)) _) | exact Below.refl _ _))
  have X0 := (Blk.new w 30 (a.cells A c).toArray).alloc (.cells (b.cells A' c').toArray 30)
  have Y0 := Blk.new' (w.alloc (.cells (a.cells A c).toArray 30)) 30 (b.cells A' c').toArray (g := w.heap.size + 1) (by simp)
  have HZa := Lib.hid (fun W (hW : Below w.heap.size w W) => szRl_c a A c 1048576 W ⟨X.hm, X.k, X.z, (X.s.below hW).more hW.size⟩ (by omega))
  have HZb := Lib.hid (fun W left (hW : Below w.heap.size w W) h => szRl_c b A' c' left W ⟨Y.hm, Y.k, Y.z, (Y.s.below hW).more hW.size⟩ h)
  have HTa := Lib.hid (fun W (hW : Below w.heap.size w W) (E : RlIn w A c a) => toRlO_c a A c W (E.later hW))
  have HTb := Lib.hid (fun W (hW : Below w.heap.size w W) (E : RlIn w A' c' b) => toRlO_c b A' c' W (E.later hW))
  have HSp := Lib.hid (fun B d B' d' W (E : RlIn W B d a) (F : RlIn W B' d' b) => specChg_c a b B d B' d' W E F)
  have HIm := Lib.hid (fun B d B' d' W (E : RlIn W B d a) (F : RlIn W B' d' b) => implChg_c a b B d B' d' W E F)
  have HEa := Lib.hid (fun B d B' d' W (E : RlIn W B d a) (F : RlIn W B' d' a) => eqRl_c a B d B' d' W E F)
  have HEb := Lib.hid (fun B d B' d' W (E : RlIn W B d b) (F : RlIn W B' d' b) => eqRl_c b B d B' d' W E F)
  have HMa := Lib.hid (fun B d base hi m W => markRl_c a B d base hi m W)
  have HMb := Lib.hid (fun B d base hi m W => markRl_c b B d base hi m W)
  have hcla := Lib.hid (fun B d => a.len B d)
  have hclb := Lib.hid (fun B d => b.len B d)
  have hona := Lib.hid (fun B d => a.one B d)
  have honb := Lib.hid (fun B d => b.one B d)
  have hrl := Lib.hid (chgRes_len a b)
  have X := Lib.hid X
  have Y := Lib.hid Y
  generalize hcs : a.cells = cella at *
  clear hcs
  generalize hcs : b.cells = cellb at *
  clear hcs
  have hX := X0.range
  generalize cella A c = ca at *
  generalize cellb A' c' = cb at *
  generalize chgRes a b = R at *
  generalize chgCode a b = cd at *
  go_enter Try.func4, Try.ntmps4
  go_wp2_with (refine wpList_load_mid rfl 30 _ rfl (w.heap.size) 0 rfl (ca) _ hX Try.underlying30 rfl (by kernel_rfl) ?_)
  generalize (w.alloc (.cells ca.toArray 30)).alloc (.cells cb.toArray 30) = W at *
  clear hX
  refine Calls.mono (HZa.out W hW) ?_; rintro e w1 ⟨⟨v, rfl, hv⟩, hb1⟩
  replace X0 := X0.below hb1 X0.lt
  replace Y0 := Y0.below hb1 Y0.lt
  replace hW := hW.trans (hb1.mono hW.size)
  clear hb1
  clear HZa
  rcases hv with hv | ⟨hv0, hvl, hlen⟩
  · go_wp2
    go_ret
    exact ⟨rfl, (by repeat (first | with_reducible exact hW | with_reducible apply below_drewN' | with_reducible apply Below.drew | (with_reducible refine Below.alloc ?_ (by first | omega | (simp; omega) | simp | (have := (hW).size; omega) | (have := (hW).size; simp; omega)) _) | (with_reducible refine Below.setCell ?_ (by first | omega | (simp; omega) | simp | (have := (hW).size; omega) | (have := (hW).size; simp; omega)) _) | exact hW))⟩
  have hvn : ¬ v < 0 := by omega
  have E := Lib.hid (X.out.rl hlen)
  clear X hlen
  have hY := Y0.range
  go_wp2_with (refine wpList_load_mid rfl 30 _ rfl (w.heap.size + 1) 0 rfl (cb) _ hY Try.underlying30 rfl (by kernel_rfl) ?_)
  refine Calls.mono (HZb.out w1 v hW ⟨by omega, by omega⟩) ?_; rintro e w2 ⟨⟨u, rfl, hu⟩, hb2⟩
  replace X0 := X0.below hb2 X0.lt
  replace Y0 := Y0.below hb2 Y0.lt
  replace hW := hW.trans (hb2.mono hW.size)
  clear hb2
  clear HZb hY
  rcases hu with hu | ⟨hu0, _, hlen⟩
  · go_wp2
    go_ret
    exact ⟨rfl, (by repeat (first | with_reducible exact hW | with_reducible apply below_drewN' | with_reducible apply Below.drew | (with_reducible refine Below.alloc ?_ (by first | omega | (simp; omega) | simp | (have := (hW).size; omega) | (have := (hW).size; simp; omega)) _) | (with_reducible refine Below.setCell ?_ (by first | omega | (simp; omega) | simp | (have := (hW).size; omega) | (have := (hW).size; simp; omega)) _) | exact hW))⟩
  have hun : ¬ u < 0 := by omega
  have F := Lib.hid (Y.out.rl hlen)
  clear Y hlen
  replace HTa := Lib.hid (fun W hW => HTa.out W hW E.out)
  replace HTb := Lib.hid (fun W hW => HTb.out W hW F.out)
  have hla := Lib.hid E.out.h
  have hlb := Lib.hid F.out.h
  clear E F hvl
  go_wp2_with fail
  refine region_fx (X := (Option Addr × Nat) × (Option Addr × Nat) × (Option Addr × Nat)) 10 (fun f l x => match l with | a0_ :: a1_ :: a2_ :: a3_ :: a4_ :: a5_ :: a6_ :: a7_ :: a8_ :: a9_ :: a10_ :: a11_ :: a12_ :: a13_ :: a14_ :: a15_ :: a16_ :: a17_ :: a18_ :: a19_ :: a20_ :: a21_ :: a22_ :: a23_ :: a24_ :: a25_ :: a26_ :: a27_ :: a28_ :: a29_ :: a30_ :: a31_ :: a32_ :: a33_ :: a34_ :: a35_ :: a36_ :: a37_ :: a38_ :: a39_ :: a40_ :: a41_ :: a42_ :: a43_ :: a44_ :: a45_ :: a46_ :: a47_ :: a48_ :: a49_ :: a50_ :: a51_ :: a52_ :: a53_ :: a54_ :: a55_ :: a56_ :: a57_ :: a58_ :: a59_ :: a60_ :: a61_ :: a62_ :: a63_ :: a64_ :: a65_ :: a66_ :: a67_ :: a68_ :: a69_ :: a70_ :: a71_ :: a72_ :: a73_ :: a74_ :: a75_ :: a76_ :: a77_ :: a78_ :: a79_ :: a80_ :: a81_ :: a82_ :: a83_ :: a84_ :: a85_ :: a86_ :: a87_ :: a88_ :: a89_ :: a90_ :: a91_ :: a92_ :: a93_ :: a94_ :: a95_ :: a96_ :: a97_ :: a98_ :: a99_ :: a100_ :: a101_ :: a102_ :: a103_ :: a104_ :: a105_ :: a106_ :: a107_ :: a108_ :: a109_ :: a110_ :: a111_ :: a112_ :: a113_ :: a114_ :: a115_ :: a116_ :: a117_ :: a118_ :: [] => [a0_, a1_, a2_, a3_, a4_, a5_, bif f 8 then .slice x.2.2.1 R.length x.2.2.2 else a6_, bif f 9 then .int .i64 cd else a7_, a8_, a9_, a10_, a11_, a12_, a13_, a14_, a15_, a16_, a17_, a18_, a19_, a20_, a21_, a22_, a23_, a24_, a25_, a26_, bif f 5 then .tuple #[.slice x.2.2.1 R.length x.2.2.2, .int .i64 cd] else a27_, bif f 0 then .agg ca.toArray else a28_, bif f 1 then .agg (cella x.1.1 x.1.2).toArray else a29_, bif f 2 then .agg cb.toArray else a30_, bif f 3 then .agg (cellb x.2.1.1 x.2.1.2).toArray else a31_, bif f 4 then .tuple #[.slice x.2.2.1 R.length x.2.2.2, .int .i64 cd] else a32_, bif f 6 then .slice x.2.2.1 R.length x.2.2.2 else a33_, bif f 7 then .int .i64 cd else a34_, a35_, a36_, a37_, a38_, a39_, a40_, a41_, a42_, a43_, a44_, a45_, a46_, a47_, a48_, a49_, a50_, a51_, a52_, a53_, a54_, a55_, a56_, a57_, a58_, a59_, a60_, a61_, a62_, a63_, a64_, a65_, a66_, a67_, a68_, a69_, a70_, a71_, a72_, a73_, a74_, a75_, a76_, a77_, a78_, a79_, a80_, a81_, a82_, a83_, a84_, a85_, a86_, a87_, a88_, a89_, a90_, a91_, a92_, a93_, a94_, a95_, a96_, a97_, a98_, a99_, a100_, a101_, a102_, a103_, a104_, a105_, a106_, a107_, a108_, a109_, a110_, a111_, a112_, a113_, a114_, a115_, a116_, a117_, a118_] | l => l) (fun fL x v => CbS w2 a b R (fL 1) (fL 3) (fL 4) (fL 5) (fL 6) (fL 8) x v) (by kernel_rfl) (by decide +kernel) rfl ((none, 0), (none, 0), (none, 0)) rfl (CbS.init) ?_ ?_
  all_goals dsimp only
  · rintro fL x v hS i hi hf o ho hall
    have hn : i = 0 ∨ i = 1 ∨ i = 2 ∨ i = 3 ∨ i = 4 ∨ i = 5 ∨ i = 6 ∨ i = 7 ∨ i = 8 ∨ i = 9 := by omega
    clear hi
    rcases hn with rfl | rfl | rfl | rfl | rfl | rfl | rfl | rfl | rfl | rfl
    · obtain rfl := Option.some.inj ho
      clear hall ho
      try simp only [hf, cond_true, cond_false]
      refine wpOp_step rfl (fun K hK => ?_)
      refine wp_load_mid 30 _ rfl w.heap.size 0 rfl ca _ (X0.below hS.hb X0.lt).range Try.underlying30 rfl (by kernel_rfl) ?_
      exact hK _ _ ⟨x, (by simp only [upd, hf, Nat.reduceBEq, Bool.false_or, Bool.true_or, Bool.not_true, Bool.not_false, Bool.true_and, Bool.false_and, Bool.cond_self, cond_true, cond_false]; try rfl), hS⟩
    · obtain rfl := Option.some.inj ho
      have e0 : fL 0 = true := hall ⟨0, .data⟩ (by simp) rfl
      clear hall ho
      try simp only [e0, hf, cond_true, cond_false]
      refine wpOp_step rfl (fun K hK => ?_)
      go_simp
      refine Calls.mono (HTa.out v (hW.trans (hS.hb.mono hW.size))) ?_; rintro e w7 ⟨B7, d7, rfl, E7, _, hb7⟩
      go_simp
      exact hK _ _ ⟨((B7, d7), x.2), (by simp only [upd, e0, hf, Nat.reduceBEq, Bool.false_or, Bool.true_or, Bool.not_true, Bool.not_false, Bool.true_and, Bool.false_and, Bool.cond_self, cond_true, cond_false]; try rfl), hS.c1 hb7 E7⟩
    · obtain rfl := Option.some.inj ho
      clear hall ho
      try simp only [hf, cond_true, cond_false]
      refine wpOp_step rfl (fun K hK => ?_)
      refine wp_load_mid 30 _ rfl (w.heap.size + 1) 0 rfl cb _ (Y0.below hS.hb Y0.lt).range Try.underlying30 rfl (by kernel_rfl) ?_
      exact hK _ _ ⟨x, (by simp only [upd, hf, Nat.reduceBEq, Bool.false_or, Bool.true_or, Bool.not_true, Bool.not_false, Bool.true_and, Bool.false_and, Bool.cond_self, cond_true, cond_false]; try rfl), hS⟩
    · obtain rfl := Option.some.inj ho
      have e2 : fL 2 = true := hall ⟨2, .data⟩ (by simp) rfl
      clear hall ho
      try simp only [e2, hf, cond_true, cond_false]
      refine wpOp_step rfl (fun K hK => ?_)
      go_simp
      refine Calls.mono (HTb.out v (hW.trans (hS.hb.mono hW.size))) ?_; rintro e w7 ⟨B7, d7, rfl, E7, _, hb7⟩
      go_simp
      exact hK _ _ ⟨(x.1, (B7, d7), x.2.2), (by simp only [upd, e2, hf, Nat.reduceBEq, Bool.false_or, Bool.true_or, Bool.not_true, Bool.not_false, Bool.true_and, Bool.false_and, Bool.cond_self, cond_true, cond_false]; try rfl), hS.c3 hb7 E7⟩
    · obtain rfl := Option.some.inj ho
      have e1 : fL 1 = true := hall ⟨1, .data⟩ (by simp) rfl
      have e3 : fL 3 = true := hall ⟨3, .data⟩ (by simp) rfl
      clear hall ho
      try simp only [e1, e3, hf, cond_true, cond_false]
      refine wpOp_step rfl (fun K hK => ?_)
      obtain ⟨n5, n6, n8⟩ := hS.no hf
      go_simp
      refine Calls.mono (HSp.out _ _ _ _ v (hS.q1 e1) (hS.q3 e3)) ?_; rintro e w7 ⟨B7, d7, rfl, hO7, hb7⟩
      go_simp
      exact hK _ _ ⟨(x.1, x.2.1, (B7, d7)), (by simp only [upd, e1, e3, n5, n6, n8, hf, Nat.reduceBEq, Bool.false_or, Bool.true_or, Bool.not_true, Bool.not_false, Bool.true_and, Bool.false_and, Bool.cond_self, cond_true, cond_false]; try rfl), hS.c4 hb7 hO7⟩
    · obtain rfl := Option.some.inj ho
      have e4 : fL 4 = true := hall ⟨4, .data⟩ (by simp) rfl
      clear hall ho
      try simp only [e4, hf, cond_true, cond_false]
      refine wpOp_step rfl (fun K hK => ?_)
      go_simp
      exact hK _ _ ⟨x, (by simp only [upd, e4, hf, Nat.reduceBEq, Bool.false_or, Bool.true_or, Bool.not_true, Bool.not_false, Bool.true_and, Bool.false_and, Bool.cond_self, cond_true, cond_false]; try rfl), hS.s5 e4⟩
    · obtain rfl := Option.some.inj ho
      have e5 : fL 5 = true := hall ⟨5, .data⟩ (by simp) rfl
      clear hall ho
      try simp only [e5, hf, cond_true, cond_false]
      refine wpOp_step rfl (fun K hK => ?_)
      go_simp
      exact hK _ _ ⟨x, (by simp only [upd, e5, hf, Nat.reduceBEq, Bool.false_or, Bool.true_or, Bool.not_true, Bool.not_false, Bool.true_and, Bool.false_and, Bool.cond_self, cond_true, cond_false]; try rfl), hS.s6 e5⟩
    · obtain rfl := Option.some.inj ho
      have e5 : fL 5 = true := hall ⟨5, .data⟩ (by simp) rfl
      clear hall ho
      try simp only [e5, hf, cond_true, cond_false]
      refine wpOp_step rfl (fun K hK => ?_)
      go_simp
      exact hK _ _ ⟨x, (by simp only [upd, e5, hf, Nat.reduceBEq, Bool.false_or, Bool.true_or, Bool.not_true, Bool.not_false, Bool.true_and, Bool.false_and, Bool.cond_self, cond_true, cond_false]; try rfl), hS⟩
    · obtain rfl := Option.some.inj ho
      have e6 : fL 6 = true := hall ⟨6, .data⟩ (by simp) rfl
      clear hall ho
      try simp only [e6, hf, cond_true, cond_false]
      refine wpOp_step rfl (fun K hK => ?_)
      go_simp
      exact hK _ _ ⟨x, (by simp only [upd, e6, hf, Nat.reduceBEq, Bool.false_or, Bool.true_or, Bool.not_true, Bool.not_false, Bool.true_and, Bool.false_and, Bool.cond_self, cond_true, cond_false]; try rfl), hS.s8 e6⟩
    · obtain rfl := Option.some.inj ho
      have e7 : fL 7 = true := hall ⟨7, .data⟩ (by simp) rfl
      clear hall ho
      try simp only [e7, hf, cond_true, cond_false]
      refine wpOp_step rfl (fun K hK => ?_)
      go_simp
      exact hK _ _ ⟨x, (by simp only [upd, e7, hf, Nat.reduceBEq, Bool.false_or, Bool.true_or, Bool.not_true, Bool.not_false, Bool.true_and, Bool.false_and, Bool.cond_self, cond_true, cond_false]; try rfl), hS⟩
  · rintro fL x v hS hall
    have e0 : fL 0 = true := hall 0 (by omega)
    have e1 : fL 1 = true := hall 1 (by omega)
    have e2 : fL 2 = true := hall 2 (by omega)
    have e3 : fL 3 = true := hall 3 (by omega)
    have e4 : fL 4 = true := hall 4 (by omega)
    have e5 : fL 5 = true := hall 5 (by omega)
    have e6 : fL 6 = true := hall 6 (by omega)
    have e7 : fL 7 = true := hall 7 (by omega)
    have e8 : fL 8 = true := hall 8 (by omega)
    have e9 : fL 9 = true := hall 9 (by omega)
    simp only [e0, e1, e2, e3, e4, e5, e6, e7, e8, e9, cond_true]
    clear hall
    obtain ⟨⟨Bu, du⟩, ⟨Bv, dv⟩, Aw, cw⟩ := x
    have Ow := hS.q4 e4
    simp only at Ow ⊢
    have hbv := hS.hb
    clear hS
    obtain ⟨w3, hnm⟩ : ∃ u, u = v := ⟨_, rfl⟩
    subst hnm
    replace X0 := X0.below hbv X0.lt
    replace Y0 := Y0.below hbv Y0.lt
    replace hW := hW.trans (hbv.mono hW.size)
    have hlw := own_lt' Ow
    have hn3 := Y0.lt
    clear hbv
    have hX := X0.range
    go_wp2_with (refine wpList_load_mid rfl 30 _ rfl (w.heap.size) 0 rfl (ca) _ hX Try.underlying30 rfl (by kernel_rfl) ?_)
    refine Calls.mono (HTa.out w3 hW) ?_; rintro e w4 ⟨B4, d4, rfl, E4, O4, hb4⟩
    clear hX
    replace X0 := X0.below hb4 X0.lt
    replace Y0 := Y0.below hb4 Y0.lt
    replace Ow := Ow.below hb4
    replace hW := hW.trans (hb4.mono hW.size)
    have s34 := hb4.size
    have hl4o := own_lt' O4
    clear hb4
    have hl4 : (cella B4 d4).length = 17 := hcla.out B4 d4
    have ho4 := hona.out B4 d4
    generalize hx4 : cella B4 d4 = x4 at *
    replace hx4 := Lib.hid hx4
    have hba : Below w4.heap.size w4 (w4.alloc (.cells x4.toArray 40)) := (Below.refl _ _).alloc (Nat.le_refl _) _
    have D4 := Blk.new w4 40 x4.toArray
    replace X0 := X0.below hba X0.lt
    replace Y0 := Y0.below hba Y0.lt
    replace Ow := Ow.below hba
    replace O4 := O4.below hba
    replace E4 := E4.later hba
    replace hW := hW.trans (hba.mono hW.size)
    have hY := Y0.range
    go_wp2_with (first | (refine wpList_store_new rfl _ _ rfl x4 rfl rfl (by rw [hl4]; kernel_rfl) (by rw [hl4]; rfl) ho4 ?_) | (refine wpList_load_mid rfl 30 _ rfl (w.heap.size + 1) 0 rfl (cb) _ hY Try.underlying30 rfl (by kernel_rfl) ?_))
    clear hY hl4 ho4 hba
    have s45 := D4.lt
    generalize w4.alloc (.cells x4.toArray 40) = w5 at *
    generalize w4.heap.size = g4 at *
    refine Calls.mono (HTb.out w5 hW) ?_; rintro e w6 ⟨B6, d6, rfl, E6, O6, hb6⟩
    replace X0 := X0.below hb6 X0.lt
    replace Y0 := Y0.below hb6 Y0.lt
    replace D4 := D4.below hb6 D4.lt
    replace Ow := Ow.below hb6
    replace O4 := O4.below hb6
    replace E4 := E4.later hb6
    replace hW := hW.trans (hb6.mono hW.size)
    have s56 := hb6.size
    have hl6o := own_lt' O6
    clear hb6
    have hbc : Below w6.heap.size w6 (w6.alloc (.cells (cellb B6 d6).toArray 40)) := (Below.refl _ _).alloc (Nat.le_refl _) _
    have hcall := HIm.out B4 d4 B6 d6 (w6.alloc (.cells (cellb B6 d6).toArray 40)) (E4.later hbc) (E6.later hbc)
    rw [hx4.out] at hcall
    replace hcall := Lib.hid hcall
    have hl6 : (cellb B6 d6).length = 17 := hclb.out B6 d6
    have ho6 := honb.out B6 d6
    generalize hx6 : cellb B6 d6 = x6 at *
    replace hx6 := Lib.hid hx6
    have D6 := Blk.new w6 40 x6.toArray
    replace X0 := X0.below hbc X0.lt
    replace Y0 := Y0.below hbc Y0.lt
    replace D4 := D4.below hbc D4.lt
    replace Ow := Ow.below hbc
    replace O4 := O4.below hbc
    replace O6 := O6.below hbc
    replace E4 := E4.later hbc
    replace E6 := E6.later hbc
    replace hW := hW.trans (hbc.mono hW.size)
    have hD4 := D4.range
    have hD6 := D6.range
    go_wp2_with (first | (refine wpList_store_new rfl _ _ rfl x6 rfl rfl (by rw [hl6]; kernel_rfl) (by rw [hl6]; rfl) ho6 ?_) | (refine wpList_load_mid rfl 40 _ rfl (g4) 0 rfl (x4) _ hD4 Try.underlying40 rfl (by kernel_rfl) ?_) | (refine wpList_load_mid rfl 40 _ rfl (w6.heap.size) 0 rfl (x6) _ hD6 Try.underlying40 rfl (by kernel_rfl) ?_))
    clear hD4 hD6 hl6 ho6 hbc
    have s67 := D6.lt
    generalize w6.alloc (.cells x6.toArray 40) = w7 at *
    generalize w6.heap.size = g6 at *
    refine Calls.mono hcall.out ?_; rintro e w8 ⟨Ag, cg, rfl, Og, hb8⟩
    clear hcall
    replace X0 := X0.below hb8 X0.lt
    replace Y0 := Y0.below hb8 Y0.lt
    replace D4 := D4.below hb8 D4.lt
    replace D6 := D6.below hb8 D6.lt
    replace Ow := Ow.below hb8
    replace O4 := O4.below hb8
    replace O6 := O6.below hb8
    replace E4 := E4.later hb8
    replace E6 := E6.later hb8
    replace hW := hW.trans (hb8.mono hW.size)
    have hgg := Og.ownGe
    clear hb8
    go_wp2_with fail
    refine (eqInt64S_c Ag Aw cg cw R w8 (by have := hrl.out; omega) Og.sl Ow.sl).mono ?_; rintro e w9 ⟨rfl, hb9⟩
    replace X0 := X0.below hb9 X0.lt
    replace Y0 := Y0.below hb9 Y0.lt
    replace D4 := D4.below hb9 D4.lt
    replace D6 := D6.below hb9 D6.lt
    replace Ow := Ow.below hb9
    replace O4 := O4.below hb9
    replace O6 := O6.below hb9
    replace Og := Og.below hb9
    replace E4 := E4.later hb9
    replace E6 := E6.later hb9
    replace hW := hW.trans (hb9.mono hW.size)
    clear hb9
    have HEq : Hid (∀ B' d' W, Below w9.heap.size w9 W → RlIn W B' d' a → Calls Try.prog 10 #[.agg x4.toArray, .agg (cella B' d').toArray] W fun e w' => e = .returned (.bool true) ∧ Below W.heap.size W w') := Lib.hid (fun B' d' W hb F => by have h := HEa.out B4 d4 B' d' W (E4.later hb) F; rwa [hx4.out] at h)
    go_wp2_with fail
    refine wp_region_sink 4 (fun a0 fL bA v => ∃ v54 v55 v56 v57 : Value, bA = (((a0.put (some 54) v54).put (some 55) v55).put (some 56) v56).put (some 57) v57 ∧ (EqR2 w9 (fL 2) (fun x u => ∃ B d, x = .agg (cella B d).toArray ∧ RlIn u B d a) v56 v) ∧ (fL 0 = true → v54 = .agg x4.toArray) ∧ (fL 1 = true → v55 = .agg ca.toArray) ∧ (fL 2 = true → True) ∧ (fL 3 = true → v57 = .bool true)) (by kernel_rfl) (by decide +kernel) ?_ ?_ ?_
    · exact ⟨undef, undef, undef, undef, by simp only [Act.put, List.setIfInBounds_toArray, List.set_cons_zero, List.set_cons_succ], ⟨(Below.refl _ _).drew, nofun⟩, nofun, nofun, nofun, nofun⟩
    · rintro fL bA v ⟨v54, v55, v56, v57, rfl, hS, q0, q1, q2, q3⟩ i hi hf o ho hall
      simp only [Act.put, List.setIfInBounds_toArray, List.set_cons_zero, List.set_cons_succ]
      have hn : i = 0 ∨ i = 1 ∨ i = 2 ∨ i = 3 := by omega
      clear hi
      rcases hn with rfl | rfl | rfl | rfl
      · obtain rfl := Option.some.inj ho
        clear hall ho
        refine wpOp_step rfl (fun K hK => ?_)
        refine wp_load_mid 40 _ rfl g4 0 rfl x4 _ (D4.below hS.hb D4.lt).range Try.underlying40 rfl (by kernel_rfl) ?_
        exact hK _ _ ⟨_, _, _, _, rfl, hS, fun _ => rfl, q1, fun _ => trivial, q3⟩
      · obtain rfl := Option.some.inj ho
        clear hall ho
        refine wpOp_step rfl (fun K hK => ?_)
        refine wp_load_mid 30 _ rfl (w.heap.size) 0 rfl ca _ (X0.below hS.hb X0.lt).range Try.underlying30 rfl (by kernel_rfl) ?_
        exact hK _ _ ⟨_, _, _, _, rfl, hS, q0, fun _ => rfl, fun _ => trivial, q3⟩
      · obtain rfl := Option.some.inj ho
        obtain rfl := q1 (hall ⟨1, .data⟩ (by simp) rfl)
        clear hall ho
        refine wpOp_step rfl (fun K hK => ?_)
        go_simp
        refine Calls.mono (HTa.out v (hW.trans (hS.hb.mono hW.size))) ?_; rintro e w7 ⟨B7, d7, rfl, E7, _, hb7⟩
        go_simp
        exact hK _ _ ⟨_, _, _, _, rfl, ⟨hS.hb.trans (hb7.mono hS.hb.size), fun _ => ⟨B7, d7, rfl, E7⟩⟩, q0, fun _ => rfl, fun _ => trivial, q3⟩
      · obtain rfl := Option.some.inj ho
        obtain rfl := q0 (hall ⟨0, .data⟩ (by simp) rfl)
        have e2 : fL 2 = true := hall ⟨2, .data⟩ (by simp) rfl
        clear hall ho
        refine wpOp_step rfl (fun K hK => ?_)
        obtain ⟨H1, h1, rfl, EH⟩ := hS.q e2
        go_simp
        refine Calls.mono (HEq.out H1 h1 v hS.hb EH) ?_; rintro e w7 ⟨rfl, hb7⟩
        go_simp
        exact hK _ _ ⟨_, _, _, _, rfl, ⟨hS.hb.trans (hb7.mono hS.hb.size), fun e => let ⟨B, d, h1, h2⟩ := hS.q e; ⟨B, d, h1, h2.later hb7⟩⟩, fun _ => rfl, q1, fun _ => trivial, fun _ => rfl⟩
    · rintro fL bA v ⟨v54, v55, v56, v57, rfl, hS, q0, q1, q2, q3⟩ hall
      simp only [Act.put, List.setIfInBounds_toArray, List.set_cons_zero, List.set_cons_succ]
      obtain rfl := q0 (hall 0 (by omega))
      obtain rfl := q1 (hall 1 (by omega))
      have e2 : fL 2 = true := hall 2 (by omega)
      obtain rfl := q3 (hall 3 (by omega))
      clear hall
      simp only [List.drop_succ_cons, List.drop_zero]
      have hbv := hS.hb
      clear hS HEq
      obtain ⟨w10, hnm⟩ : ∃ u, u = v := ⟨_, rfl⟩
      subst hnm
      replace X0 := X0.below hbv X0.lt
      replace Y0 := Y0.below hbv Y0.lt
      replace D4 := D4.below hbv D4.lt
      replace D6 := D6.below hbv D6.lt
      replace Ow := Ow.below hbv
      replace O4 := O4.below hbv
      replace O6 := O6.below hbv
      replace Og := Og.below hbv
      replace E4 := E4.later hbv
      replace E6 := E6.later hbv
      replace hW := hW.trans (hbv.mono hW.size)
      clear hbv
      have HEq : Hid (∀ B' d' W, Below w10.heap.size w10 W → RlIn W B' d' b → Calls Try.prog 10 #[.agg x6.toArray, .agg (cellb B' d').toArray] W fun e w' => e = .returned (.bool true) ∧ Below W.heap.size W w') := Lib.hid (fun B' d' W hb F => by have h := HEb.out B6 d6 B' d' W (E6.later hb) F; rwa [hx6.out] at h)
      go_wp2_with fail
      refine wp_region_sink 4 (fun a0 fL bA v => ∃ v59 v60 v61 v62 : Value, bA = (((a0.put (some 59) v59).put (some 60) v60).put (some 61) v61).put (some 62) v62 ∧ (EqR2 w10 (fL 2) (fun x u => ∃ B d, x = .agg (cellb B d).toArray ∧ RlIn u B d b) v61 v) ∧ (fL 0 = true → v59 = .agg x6.toArray) ∧ (fL 1 = true → v60 = .agg cb.toArray) ∧ (fL 2 = true → True) ∧ (fL 3 = true → v62 = .bool true)) (by kernel_rfl) (by decide +kernel) ?_ ?_ ?_
      · exact ⟨undef, undef, undef, undef, by simp only [Act.put, List.setIfInBounds_toArray, List.set_cons_zero, List.set_cons_succ], ⟨(Below.refl _ _).drew, nofun⟩, nofun, nofun, nofun, nofun⟩
      · rintro fL bA v ⟨v59, v60, v61, v62, rfl, hS, q0, q1, q2, q3⟩ i hi hf o ho hall
        simp only [Act.put, List.setIfInBounds_toArray, List.set_cons_zero, List.set_cons_succ]
        have hn : i = 0 ∨ i = 1 ∨ i = 2 ∨ i = 3 := by omega
        clear hi
        rcases hn with rfl | rfl | rfl | rfl
        · obtain rfl := Option.some.inj ho
          clear hall ho
          refine wpOp_step rfl (fun K hK => ?_)
          refine wp_load_mid 40 _ rfl g6 0 rfl x6 _ (D6.below hS.hb D6.lt).range Try.underlying40 rfl (by kernel_rfl) ?_
          exact hK _ _ ⟨_, _, _, _, rfl, hS, fun _ => rfl, q1, fun _ => trivial, q3⟩
        · obtain rfl := Option.some.inj ho
          clear hall ho
          refine wpOp_step rfl (fun K hK => ?_)
          refine wp_load_mid 30 _ rfl (w.heap.size + 1) 0 rfl cb _ (Y0.below hS.hb Y0.lt).range Try.underlying30 rfl (by kernel_rfl) ?_
          exact hK _ _ ⟨_, _, _, _, rfl, hS, q0, fun _ => rfl, fun _ => trivial, q3⟩
        · obtain rfl := Option.some.inj ho
          obtain rfl := q1 (hall ⟨1, .data⟩ (by simp) rfl)
          clear hall ho
          refine wpOp_step rfl (fun K hK => ?_)
          go_simp
          refine Calls.mono (HTb.out v (hW.trans (hS.hb.mono hW.size))) ?_; rintro e w7 ⟨B7, d7, rfl, E7, _, hb7⟩
          go_simp
          exact hK _ _ ⟨_, _, _, _, rfl, ⟨hS.hb.trans (hb7.mono hS.hb.size), fun _ => ⟨B7, d7, rfl, E7⟩⟩, q0, fun _ => rfl, fun _ => trivial, q3⟩
        · obtain rfl := Option.some.inj ho
          obtain rfl := q0 (hall ⟨0, .data⟩ (by simp) rfl)
          have e2 : fL 2 = true := hall ⟨2, .data⟩ (by simp) rfl
          clear hall ho
          refine wpOp_step rfl (fun K hK => ?_)
          obtain ⟨H1, h1, rfl, EH⟩ := hS.q e2
          go_simp
          refine Calls.mono (HEq.out H1 h1 v hS.hb EH) ?_; rintro e w7 ⟨rfl, hb7⟩
          go_simp
          exact hK _ _ ⟨_, _, _, _, rfl, ⟨hS.hb.trans (hb7.mono hS.hb.size), fun e => let ⟨B, d, h1, h2⟩ := hS.q e; ⟨B, d, h1, h2.later hb7⟩⟩, fun _ => rfl, q1, fun _ => trivial, fun _ => rfl⟩
      · rintro fL bA v ⟨v59, v60, v61, v62, rfl, hS, q0, q1, q2, q3⟩ hall
        simp only [Act.put, List.setIfInBounds_toArray, List.set_cons_zero, List.set_cons_succ]
        obtain rfl := q0 (hall 0 (by omega))
        obtain rfl := q1 (hall 1 (by omega))
        have e2 : fL 2 = true := hall 2 (by omega)
        obtain rfl := q3 (hall 3 (by omega))
        clear hall
        simp only [List.drop_succ_cons, List.drop_zero]
        have hbv := hS.hb
        clear hS HEq E4 E6
        obtain ⟨w11, hnm⟩ : ∃ u, u = v := ⟨_, rfl⟩
        subst hnm
        replace X0 := X0.below hbv X0.lt
        replace Y0 := Y0.below hbv Y0.lt
        replace D4 := D4.below hbv D4.lt
        replace D6 := D6.below hbv D6.lt
        replace Ow := Ow.below hbv
        replace O4 := O4.below hbv
        replace O6 := O6.below hbv
        replace Og := Og.below hbv
        replace hW := hW.trans (hbv.mono hW.size)
        clear hbv
        have hD4 := D4.range
        have HM := HMa.out B4 d4 w3.heap.size g4 1 w11 (by omega) hla.out O4 hl4o
        rw [hx4.out] at HM
        replace HM := Lib.hid HM
        go_wp2_with (refine wpList_load_mid rfl 40 _ rfl (g4) 0 rfl (x4) _ hD4 Try.underlying40 rfl (by kernel_rfl) ?_)
        refine Calls.mono HM.out ?_; rintro e w12 ⟨rfl, hk⟩
        clear hD4 HM D4 O4 hl4o
        have h6 := O6.ownGe
        replace X0 := X0.kb hk (by unfold Nb; omega)
        replace Y0 := Y0.kb hk (by unfold Nb; omega)
        replace D6 := D6.kb hk (by unfold Nb; omega)
        replace Ow := Ow.kb hk (fun x hx => by have := hlw x hx; unfold Nb; omega)
        replace O6 := O6.kb hk (fun x hx => by have := h6 x hx; unfold Nb; omega)
        replace Og := Og.kb hk (fun x hx => by have := hgg x hx; unfold Nb; omega)
        replace hW := below_kb hW hk hW.size (fun k hk => by unfold Nb; omega)
        clear hk h6
        have hD6 := D6.range
        have HM := HMb.out B6 d6 w5.heap.size g6 (1 + a.l.length) w12 (by have := hla.out; omega) hlb.out O6 hl6o
        rw [hx6.out] at HM
        replace HM := Lib.hid HM
        have hla2 := hla.out
        have hlb2 := hlb.out
        go_wp2_with (refine wpList_load_mid rfl 40 _ rfl (g6) 0 rfl (x6) _ hD6 Try.underlying40 rfl (by kernel_rfl) ?_)
        refine Calls.mono HM.out ?_; rintro e w13 ⟨rfl, hk⟩
        clear hD6 HM D6 O6 hl6o
        replace X0 := X0.kb hk (by unfold Nb; omega)
        replace Y0 := Y0.kb hk (by unfold Nb; omega)
        replace Ow := Ow.kb hk (fun x hx => by have := hlw x hx; unfold Nb; omega)
        replace Og := Og.kb hk (fun x hx => by have := hgg x hx; unfold Nb; omega)
        replace hW := below_kb hW hk hW.size (fun k hk => by unfold Nb; omega)
        clear hk
        have hkn : ¬ (1 + (a.l.length : Int) + (b.l.length : Int)) < 0 := by omega
        go_wp2_with fail
        refine (eqInt64S_c Ag Aw cg cw R w13 (by have := hrl.out; omega) Og.sl Ow.sl).mono ?_; rintro e w14 ⟨rfl, hb9⟩
        replace X0 := X0.below hb9 X0.lt
        replace Y0 := Y0.below hb9 Y0.lt
        replace Ow := Ow.below hb9
        replace Og := Og.below hb9
        replace hW := hW.trans (hb9.mono hW.size)
        clear hb9
        have hmk := markInt64S_c Ag cg w7.heap.size 1 (R.map ic) w14 (by omega) (by simp; have := hrl.out; omega) (by rw [List.length_map]; exact Og)
        rw [List.length_map] at hmk
        replace hmk := Lib.hid hmk
        go_wp2_with fail
        refine hmk.out.mono ?_; rintro e w15 ⟨rfl, Og2, hg⟩
        have hk : Kb (fun k => w7.heap.size ≤ k) w14 w15 := Kb.of_grown hg (fun k hk => Og.ownGe k hk.symm)
        clear hmk hg Og
        replace X0 := X0.kb hk (by omega)
        replace Y0 := Y0.kb hk (by omega)
        replace Ow := Ow.kb hk (fun x hx => by have := hlw x hx; omega)
        replace hW := below_kb hW hk hW.size (fun k hk => by omega)
        clear hk
        have hR2 := hrl.out
        have hqn : ¬ (1 + (R.length : Int)) < 0 := by omega
        go_wp2_with fail
        refine (heldInt64S_c Ag R.length cg 1 w15 (by omega) (by omega) Og2.sl).mono ?_; rintro e w15' ⟨rfl, rfl⟩
        go_wp2_with fail
        refine region_fx (X := (Option Addr × Nat) × (Option Addr × Nat) × (Option Addr × Nat)) 10 (fun f l x => match l with | a0_ :: a1_ :: a2_ :: a3_ :: a4_ :: a5_ :: a6_ :: a7_ :: a8_ :: a9_ :: a10_ :: a11_ :: a12_ :: a13_ :: a14_ :: a15_ :: a16_ :: a17_ :: a18_ :: a19_ :: a20_ :: a21_ :: a22_ :: a23_ :: a24_ :: a25_ :: a26_ :: a27_ :: a28_ :: a29_ :: a30_ :: a31_ :: a32_ :: a33_ :: a34_ :: a35_ :: a36_ :: a37_ :: a38_ :: a39_ :: a40_ :: a41_ :: a42_ :: a43_ :: a44_ :: a45_ :: a46_ :: a47_ :: a48_ :: a49_ :: a50_ :: a51_ :: a52_ :: a53_ :: a54_ :: a55_ :: a56_ :: a57_ :: a58_ :: a59_ :: a60_ :: a61_ :: a62_ :: a63_ :: a64_ :: a65_ :: a66_ :: a67_ :: a68_ :: a69_ :: a70_ :: a71_ :: a72_ :: a73_ :: a74_ :: a75_ :: a76_ :: a77_ :: a78_ :: a79_ :: a80_ :: a81_ :: a82_ :: a83_ :: a84_ :: a85_ :: a86_ :: a87_ :: a88_ :: a89_ :: a90_ :: a91_ :: a92_ :: a93_ :: a94_ :: a95_ :: a96_ :: a97_ :: a98_ :: a99_ :: a100_ :: a101_ :: a102_ :: a103_ :: a104_ :: a105_ :: a106_ :: a107_ :: a108_ :: a109_ :: a110_ :: a111_ :: a112_ :: a113_ :: a114_ :: a115_ :: a116_ :: a117_ :: a118_ :: [] => [a0_, a1_, a2_, a3_, a4_, a5_, a6_, a7_, a8_, a9_, a10_, a11_, a12_, a13_, a14_, bif f 8 then .slice x.2.2.1 R.length x.2.2.2 else a15_, bif f 9 then .int .i64 cd else a16_, a17_, a18_, a19_, a20_, a21_, a22_, a23_, a24_, a25_, a26_, a27_, a28_, a29_, a30_, a31_, a32_, a33_, a34_, a35_, a36_, a37_, a38_, a39_, a40_, a41_, a42_, a43_, a44_, a45_, a46_, a47_, a48_, a49_, a50_, a51_, a52_, a53_, a54_, a55_, a56_, a57_, a58_, a59_, a60_, a61_, a62_, a63_, a64_, a65_, a66_, a67_, a68_, a69_, a70_, a71_, a72_, a73_, a74_, a75_, a76_, a77_, a78_, a79_, a80_, a81_, a82_, a83_, a84_, a85_, a86_, a87_, a88_, a89_, a90_, a91_, a92_, a93_, bif f 5 then .tuple #[.slice x.2.2.1 R.length x.2.2.2, .int .i64 cd] else a94_, bif f 0 then .agg ca.toArray else a95_, bif f 1 then .agg (cella x.1.1 x.1.2).toArray else a96_, bif f 2 then .agg cb.toArray else a97_, bif f 3 then .agg (cellb x.2.1.1 x.2.1.2).toArray else a98_, bif f 4 then .tuple #[.slice x.2.2.1 R.length x.2.2.2, .int .i64 cd] else a99_, bif f 6 then .slice x.2.2.1 R.length x.2.2.2 else a100_, bif f 7 then .int .i64 cd else a101_, a102_, a103_, a104_, a105_, a106_, a107_, a108_, a109_, a110_, a111_, a112_, a113_, a114_, a115_, a116_, a117_, a118_] | l => l) (fun fL x v => CbS w15 a b R (fL 1) (fL 3) (fL 4) (fL 5) (fL 6) (fL 8) x v) (by kernel_rfl) (by decide +kernel) rfl ((none, 0), (none, 0), (none, 0)) rfl (CbS.init) ?_ ?_
        all_goals dsimp only
        · rintro fL x v hS i hi hf o ho hall
          have hn : i = 0 ∨ i = 1 ∨ i = 2 ∨ i = 3 ∨ i = 4 ∨ i = 5 ∨ i = 6 ∨ i = 7 ∨ i = 8 ∨ i = 9 := by omega
          clear hi
          rcases hn with rfl | rfl | rfl | rfl | rfl | rfl | rfl | rfl | rfl | rfl
          · obtain rfl := Option.some.inj ho
            clear hall ho
            try simp only [hf, cond_true, cond_false]
            refine wpOp_step rfl (fun K hK => ?_)
            refine wp_load_mid 30 _ rfl w.heap.size 0 rfl ca _ (X0.below hS.hb X0.lt).range Try.underlying30 rfl (by kernel_rfl) ?_
            exact hK _ _ ⟨x, (by simp only [upd, hf, Nat.reduceBEq, Bool.false_or, Bool.true_or, Bool.not_true, Bool.not_false, Bool.true_and, Bool.false_and, Bool.cond_self, cond_true, cond_false]; try rfl), hS⟩
          · obtain rfl := Option.some.inj ho
            have e0 : fL 0 = true := hall ⟨0, .data⟩ (by simp) rfl
            clear hall ho
            try simp only [e0, hf, cond_true, cond_false]
            refine wpOp_step rfl (fun K hK => ?_)
            go_simp
            refine Calls.mono (HTa.out v (hW.trans (hS.hb.mono hW.size))) ?_; rintro e w7 ⟨B7, d7, rfl, E7, _, hb7⟩
            go_simp
            exact hK _ _ ⟨((B7, d7), x.2), (by simp only [upd, e0, hf, Nat.reduceBEq, Bool.false_or, Bool.true_or, Bool.not_true, Bool.not_false, Bool.true_and, Bool.false_and, Bool.cond_self, cond_true, cond_false]; try rfl), hS.c1 hb7 E7⟩
          · obtain rfl := Option.some.inj ho
            clear hall ho
            try simp only [hf, cond_true, cond_false]
            refine wpOp_step rfl (fun K hK => ?_)
            refine wp_load_mid 30 _ rfl (w.heap.size + 1) 0 rfl cb _ (Y0.below hS.hb Y0.lt).range Try.underlying30 rfl (by kernel_rfl) ?_
            exact hK _ _ ⟨x, (by simp only [upd, hf, Nat.reduceBEq, Bool.false_or, Bool.true_or, Bool.not_true, Bool.not_false, Bool.true_and, Bool.false_and, Bool.cond_self, cond_true, cond_false]; try rfl), hS⟩
          · obtain rfl := Option.some.inj ho
            have e2 : fL 2 = true := hall ⟨2, .data⟩ (by simp) rfl
            clear hall ho
            try simp only [e2, hf, cond_true, cond_false]
            refine wpOp_step rfl (fun K hK => ?_)
            go_simp
            refine Calls.mono (HTb.out v (hW.trans (hS.hb.mono hW.size))) ?_; rintro e w7 ⟨B7, d7, rfl, E7, _, hb7⟩
            go_simp
            exact hK _ _ ⟨(x.1, (B7, d7), x.2.2), (by simp only [upd, e2, hf, Nat.reduceBEq, Bool.false_or, Bool.true_or, Bool.not_true, Bool.not_false, Bool.true_and, Bool.false_and, Bool.cond_self, cond_true, cond_false]; try rfl), hS.c3 hb7 E7⟩
          · obtain rfl := Option.some.inj ho
            have e1 : fL 1 = true := hall ⟨1, .data⟩ (by simp) rfl
            have e3 : fL 3 = true := hall ⟨3, .data⟩ (by simp) rfl
            clear hall ho
            try simp only [e1, e3, hf, cond_true, cond_false]
            refine wpOp_step rfl (fun K hK => ?_)
            obtain ⟨n5, n6, n8⟩ := hS.no hf
            go_simp
            refine Calls.mono (HIm.out _ _ _ _ v (hS.q1 e1) (hS.q3 e3)) ?_; rintro e w7 ⟨B7, d7, rfl, hO7, hb7⟩
            go_simp
            exact hK _ _ ⟨(x.1, x.2.1, (B7, d7)), (by simp only [upd, e1, e3, n5, n6, n8, hf, Nat.reduceBEq, Bool.false_or, Bool.true_or, Bool.not_true, Bool.not_false, Bool.true_and, Bool.false_and, Bool.cond_self, cond_true, cond_false]; try rfl), hS.c4 hb7 hO7⟩
          · obtain rfl := Option.some.inj ho
            have e4 : fL 4 = true := hall ⟨4, .data⟩ (by simp) rfl
            clear hall ho
            try simp only [e4, hf, cond_true, cond_false]
            refine wpOp_step rfl (fun K hK => ?_)
            go_simp
            exact hK _ _ ⟨x, (by simp only [upd, e4, hf, Nat.reduceBEq, Bool.false_or, Bool.true_or, Bool.not_true, Bool.not_false, Bool.true_and, Bool.false_and, Bool.cond_self, cond_true, cond_false]; try rfl), hS.s5 e4⟩
          · obtain rfl := Option.some.inj ho
            have e5 : fL 5 = true := hall ⟨5, .data⟩ (by simp) rfl
            clear hall ho
            try simp only [e5, hf, cond_true, cond_false]
            refine wpOp_step rfl (fun K hK => ?_)
            go_simp
            exact hK _ _ ⟨x, (by simp only [upd, e5, hf, Nat.reduceBEq, Bool.false_or, Bool.true_or, Bool.not_true, Bool.not_false, Bool.true_and, Bool.false_and, Bool.cond_self, cond_true, cond_false]; try rfl), hS.s6 e5⟩
          · obtain rfl := Option.some.inj ho
            have e5 : fL 5 = true := hall ⟨5, .data⟩ (by simp) rfl
            clear hall ho
            try simp only [e5, hf, cond_true, cond_false]
            refine wpOp_step rfl (fun K hK => ?_)
            go_simp
            exact hK _ _ ⟨x, (by simp only [upd, e5, hf, Nat.reduceBEq, Bool.false_or, Bool.true_or, Bool.not_true, Bool.not_false, Bool.true_and, Bool.false_and, Bool.cond_self, cond_true, cond_false]; try rfl), hS⟩
          · obtain rfl := Option.some.inj ho
            have e6 : fL 6 = true := hall ⟨6, .data⟩ (by simp) rfl
            clear hall ho
            try simp only [e6, hf, cond_true, cond_false]
            refine wpOp_step rfl (fun K hK => ?_)
            go_simp
            exact hK _ _ ⟨x, (by simp only [upd, e6, hf, Nat.reduceBEq, Bool.false_or, Bool.true_or, Bool.not_true, Bool.not_false, Bool.true_and, Bool.false_and, Bool.cond_self, cond_true, cond_false]; try rfl), hS.s8 e6⟩
          · obtain rfl := Option.some.inj ho
            have e7 : fL 7 = true := hall ⟨7, .data⟩ (by simp) rfl
            clear hall ho
            try simp only [e7, hf, cond_true, cond_false]
            refine wpOp_step rfl (fun K hK => ?_)
            go_simp
            exact hK _ _ ⟨x, (by simp only [upd, e7, hf, Nat.reduceBEq, Bool.false_or, Bool.true_or, Bool.not_true, Bool.not_false, Bool.true_and, Bool.false_and, Bool.cond_self, cond_true, cond_false]; try rfl), hS⟩
        · rintro fL x v hS hall
          have e0 : fL 0 = true := hall 0 (by omega)
          have e1 : fL 1 = true := hall 1 (by omega)
          have e2 : fL 2 = true := hall 2 (by omega)
          have e3 : fL 3 = true := hall 3 (by omega)
          have e4 : fL 4 = true := hall 4 (by omega)
          have e5 : fL 5 = true := hall 5 (by omega)
          have e6 : fL 6 = true := hall 6 (by omega)
          have e7 : fL 7 = true := hall 7 (by omega)
          have e8 : fL 8 = true := hall 8 (by omega)
          have e9 : fL 9 = true := hall 9 (by omega)
          simp only [e0, e1, e2, e3, e4, e5, e6, e7, e8, e9, cond_true]
          clear hall
          obtain ⟨⟨Bu2, du2⟩, ⟨Bv2, dv2⟩, Ah, ch⟩ := x
          have Oh := hS.q4 e4
          simp only at Oh ⊢
          have hbv := hS.hb
          clear hS
          obtain ⟨w16, hnm⟩ : ∃ u, u = v := ⟨_, rfl⟩
          subst hnm
          replace Ow := Ow.below hbv
          replace Og2 := Og2.below hbv
          replace hW := hW.trans (hbv.mono hW.size)
          clear hbv
          go_wp2_with fail
          refine (eqInt64S_c Ah Aw ch cw R w16 (by omega) Oh.sl Ow.sl).mono ?_; rintro e w17 ⟨rfl, hb9⟩
          replace Og2 := Og2.below hb9
          replace hW := hW.trans (hb9.mono hW.size)
          clear hb9
          go_wp2_with fail
          refine (heldInt64S_c Ag R.length cg 1 w17 (by omega) (by omega) Og2.sl).mono ?_; rintro e w18 ⟨rfl, rfl⟩
          go_wp2
          go_ret
          exact ⟨rfl, (by repeat (first | with_reducible exact hW | with_reducible apply below_drewN' | with_reducible apply Below.drew | (with_reducible refine Below.alloc ?_ (by first | omega | (simp; omega) | simp | (have := (hW).size; omega) | (have := (hW).size; simp; omega)) _) | (with_reducible refine Below.setCell ?_ (by first | omega | (simp; omega) | simp | (have := (hW).size; omega) | (have := (hW).size; simp; omega)) _) | exact hW))⟩
end Go.Proofs.Ytmdliicdlehibaa
