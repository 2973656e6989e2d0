/- A figure read back off a strip: its angle lies near the first one's. Plain. -/
import Derived.Test.YtcpnmeebbbeakaaCirc2
import Derived.Test.YtcpnmeebbbeakaaFigStrip
import Derived.Test.YtcpnmeebbbeakaaSeen
namespace Go.Proofs.Ytcpnmeebbbeakaa
theorem strip_back {d t len : Int} (hd : 1000 ≤ d ∧ d ≤ 9999) (ht : 1 ≤ t ∧ t ≤ 20) (hl : 1 ≤ len ∧ len ≤ 100000) :
    angleRaw d t - angleRaw (nearD (stripAng (angleRaw d t / 1296000) (angleRaw d t % 1296000 * len / 1296000) len) t) t ≤ 2 * (1296000 / len + 1) + 2 ∧
    angleRaw (nearD (stripAng (angleRaw d t / 1296000) (angleRaw d t % 1296000 * len / 1296000) len) t) t - angleRaw d t ≤ 2 * (1296000 / len + 1) + 2 := by
  have hbest := nearD_best (T := stripAng (angleRaw d t / 1296000) (angleRaw d t % 1296000 * len / 1296000) len) ht hd
  generalize hT : stripAng (angleRaw d t / 1296000) (angleRaw d t % 1296000 * len / 1296000) len = T at *
  generalize angleRaw (nearD T t) t = z at *
  have hy := angleRaw_bd hd ht
  generalize angleRaw d t = y at *
  unfold stripAng at hT
  have hm : 0 ≤ y % 1296000 ∧ y % 1296000 < 1296000 := by omega
  have hym : y = y / 1296000 * 1296000 + y % 1296000 := by omega
  generalize y % 1296000 = m at *
  generalize hA : m * len = A at *
  generalize hp : A / 1296000 = p at *
  have hp1 : p * 1296000 ≤ A ∧ A < p * 1296000 + 1296000 := by omega
  have q1 := Int.emod_add_mul_ediv (p * 1296000) len
  have q2 := Int.emod_nonneg (p * 1296000) (show len ≠ 0 by omega)
  have q3 := Int.emod_lt_of_pos (p * 1296000) (show 0 < len by omega)
  have k1 := Int.emod_add_mul_ediv 1296000 len
  have k2 := Int.emod_nonneg 1296000 (show len ≠ 0 by omega)
  have k3 := Int.emod_lt_of_pos 1296000 (show 0 < len by omega)
  generalize hQ : p * 1296000 / len = Q at *
  generalize hK : 1296000 / len = K at *
  -- Q is at most m, and m at most Q + K + 1
  have hQm : Q ≤ m := by
    rcases (by omega : Q ≤ m ∨ m + 1 ≤ Q) with h | h
    · exact h
    · have h1 := Int.mul_le_mul_of_nonneg_left h (show 0 ≤ len by omega)
      rw [Int.mul_add, Int.mul_comm len m, hA] at h1
      omega
  have hmQ : m ≤ Q + K + 1 := by
    rcases (by omega : m ≤ Q + K + 1 ∨ Q + K + 2 ≤ m) with h | h
    · exact h
    · have h1 := Int.mul_le_mul_of_nonneg_left h (show 0 ≤ len by omega)
      rw [Int.mul_add, Int.mul_add, Int.mul_comm len m, hA] at h1
      omega
  unfold absI at hbest
  omega
theorem strip_in {d t len : Int} (hd : 1000 ≤ d ∧ d ≤ 9999) (ht : 1 ≤ t ∧ t ≤ 20) (hl : 1 ≤ len ∧ len ≤ 100000) :
    (0 ≤ angleRaw d t / 1296000 ∧ angleRaw d t / 1296000 ≤ t - 1) ∧ (0 ≤ angleRaw d t % 1296000 * len / 1296000 ∧ angleRaw d t % 1296000 * len / 1296000 ≤ len - 1) := by
  have hy := angleRaw_lt_full hd ht
  generalize angleRaw d t = y at *
  have hm : 0 ≤ y % 1296000 ∧ y % 1296000 ≤ 1295999 := by omega
  have h1 : 0 ≤ y % 1296000 * len := Int.mul_nonneg hm.1 (by omega)
  have h2 := Int.mul_le_mul_of_nonneg_right hm.2 (show 0 ≤ len by omega)
  generalize y % 1296000 * len = A at *
  omega
theorem strip_fig {d t len : Int} (hd : 1000 ≤ d ∧ d ≤ 9999) (ht : 1 ≤ t ∧ t ≤ 20) (hl : 1 ≤ len ∧ len ≤ 100000) :
    figStripRes (angleRaw d t / 1296000) (angleRaw d t % 1296000 * len / 1296000) t len = (⟨nearD (stripAng (angleRaw d t / 1296000) (angleRaw d t % 1296000 * len / 1296000) len) t, 0⟩, 0) := by
  obtain ⟨h1, h2⟩ := strip_in hd ht hl
  unfold figStripRes
  rw [inB_true.2 ht, inB_true.2 hl, inB_true.2 h1, inB_true.2 h2]
  rfl
theorem angle_ok {d n t : Int} (hf : figOK ⟨d, n⟩ = true) (ht : 1 ≤ t ∧ t ≤ 20) : angleRes ⟨d, n⟩ t = (angleRaw d t, 0) := by
  unfold angleRes
  rw [if_pos hf, if_pos (inB_true.2 ht)]
theorem turn_ok {x : Int} (h : (turnOf x).2.2 = 0) : (-25920000 ≤ x ∧ x ≤ 25920000) ∧ (turnOf x).1 * 1296000 + (turnOf x).2.1 = x ∧ 0 ≤ (turnOf x).2.1 ∧ (turnOf x).2.1 < 1296000 := by
  unfold turnOf at h ⊢
  split at h
  · rename_i h1
    rw [if_pos h1]
    have := angB_bd h1
    simp only
    omega
  · cases h
theorem strip_ok {f : Figure} {t len : Int} (h : (stripRes f t len).2.2 = 0) : figOK f = true ∧ (1 ≤ t ∧ t ≤ 20) ∧ (1 ≤ len ∧ len ≤ 100000) ∧ (stripRes f t len).1 = angleRaw f.digits t / 1296000 ∧ (stripRes f t len).2.1 = angleRaw f.digits t % 1296000 * len / 1296000 := by
  unfold stripRes at h ⊢
  cases h1 : figOK f <;> cases h2 : inB t 1 20 <;> cases h3 : inB len 1 100000 <;> simp [h1, h2, h3] at h ⊢
  exact ⟨inB_true.1 h2, inB_true.1 h3⟩
end Go.Proofs.Ytcpnmeebbbeakaa
