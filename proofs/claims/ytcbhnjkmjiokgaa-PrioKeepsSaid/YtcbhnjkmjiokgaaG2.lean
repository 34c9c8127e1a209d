/- The contract of rotate. -/
import Derived.Test.YtcbhnjkmjiokgaaG3
namespace Go.Proofs.Ytcbhnjkmjiokgaa.PPPrio
open Go.RowKit Go.Proofs.YtcbhnjkmjiokgaaW.PrintWords Go.Proofs.YtcbhnjkmjiokgaaW.PrintLast Go.Proofs.YtcbhnjkmjiokgaaW.PrintMore
set_option linter.unusedVariables false
set_option linter.unusedSimpArgs false

/-- What lies from mi to hi goes ahead of what lies from lo to mi. -/
def rotAt (f : Nat → S38) (lo mi hi : Nat) : Nat → S38 := fun k => if lo ≤ k ∧ k < lo + (hi - mi) then f (k - lo + mi) else if lo + (hi - mi) ≤ k ∧ k < hi then f (k - (hi - mi)) else f k
theorem rot_end (f : Nat → S38) (m i : Nat) (hi : i ≤ m) : swapAt f (m - i) m i = rotAt f (m - i) m (m + i) := by
  funext k
  unfold swapAt rotAt
  try dsimp only
  repeat' split
  all_goals (first | omega | rfl | (congr 1; omega))
theorem rot_left (f : Nat → S38) (m i j : Nat) (hi : i ≤ m) (hj : 0 < j) (h : j < i) : rotAt (swapAt f (m - i) m j) (m - (i - j)) m (m + j) = rotAt f (m - i) m (m + j) := by
  funext k
  unfold swapAt rotAt
  try dsimp only
  repeat' split
  all_goals (first | omega | rfl | (congr 1; omega))
theorem rot_right (f : Nat → S38) (m i j : Nat) (hi : i ≤ m) (hj : 0 < i) (h : i < j) : rotAt (swapAt f (m - i) (m + j - i) i) (m - i) m (m + (j - i)) = rotAt f (m - i) m (m + j) := by
  funext k
  unfold swapAt rotAt
  try dsimp only
  repeat' split
  all_goals (first | omega | rfl | (congr 1; omega))

set_option maxHeartbeats 1000000 in
set_option maxRecDepth 100000 in
theorem rotate_calls (g n cap a m b : Nat) (f : Nat → S38) (v : Value) (w : World) (hn : n < 1099511627776) (hR : RowF w g n cap f) (ham : a < m) (hmb : m < b) (hbn : b ≤ n) :
    Calls Try.prog 32 #[.slice (some ⟨g, 0, none⟩) n cap, .int .i64 a, .int .i64 m, .int .i64 b, v] w fun e w' => e = .returned (.tuple #[]) ∧ RowF w' g n cap (rotAt f a m b) ∧ w.grownBy w' (some g) ∧ Same n a b f (rotAt f a m b) := by
  have HR := Aside0.mk hR
  clear hR
  obtain ⟨i0, hi0⟩ : ∃ i0, i0 = m - a := ⟨_, rfl⟩
  obtain ⟨j0, hj0⟩ : ∃ j0, j0 = b - m := ⟨_, rfl⟩
  have hwi : (m : Int) - (a : Int) = (i0 : Int) := by omega
  have hwj : (b : Int) - (m : Int) = (j0 : Int) := by omega
  have H1 := Aside0.mk hi0
  have H2 := Aside0.mk hj0
  clear hi0 hj0
  go_enter Try.func32, Try.ntmps32
  go_wp2_with fail
  clear hwi hwj
  go_loopg [10, 11] (i0 + j0) (fun kq v10 v11 w' => ∃ (i j : Nat) (f' : Nat → S38), i + j = kq ∧ v10 = .int .i64 i ∧ v11 = .int .i64 j ∧ 0 < i ∧ 0 < j ∧ i ≤ m - a ∧ j ≤ b - m ∧ Aside0 (RowF w' g n cap f') ∧ Aside0 (rotAt f' (m - i) m (m + j) = rotAt f a m b) ∧ Aside0 (w.grownBy w' (some g)) ∧ Aside0 (Same n a b f f'))
  case atStart =>
    have e1 := H1.out
    have e2 := H2.out
    exact ⟨i0, j0, f, rfl, rfl, rfl, by omega, by omega, by omega, by omega, HR, ⟨by rw [show m - i0 = a by omega, show m + j0 = b by omega]⟩, ⟨.refl _ _⟩, ⟨.refl _ _ _ _⟩⟩
  case round =>
    clear HR H1 H2
    obtain ⟨i, j, f', hk, rfl, rfl, hi, hj, him, hjm, HR, HE, HG, HM⟩ := hrel
    obtain ⟨u, hu⟩ : ∃ u, u = m - i := ⟨_, rfl⟩
    have hmi : (m : Int) - (i : Int) = (u : Int) := by omega
    rcases Nat.lt_trichotomy i j with h | h | h
    · obtain ⟨p, hp⟩ : ∃ p, p = m + j - i := ⟨_, rfl⟩
      obtain ⟨q, hq⟩ : ∃ q, q = j - i := ⟨_, rfl⟩
      have hmj : (m : Int) + (j : Int) - (i : Int) = (p : Int) := by omega
      have hji : (j : Int) - (i : Int) = (q : Int) := by omega
      have h1 : ((i : Int) != (j : Int)) = true := by rw [bne_iff_ne]; omega
      have h2 : decide (j < i) = false := decide_eq_false (by omega)
      have HU := Aside0.mk hu
      have HP := Aside0.mk hp
      have HQ := Aside0.mk hq
      clear hu hp hq
      go_wp2_with fail
      refine (swapRange_calls g n cap u p i f' v _ hn HR.out (by rw [HU.out, HP.out]; omega) (by rw [HP.out]; omega)).mono ?_
      rintro e w1 ⟨rfl, hr, hg⟩
      have HR1 := Aside0.mk hr
      have HG1 := Aside0.mk (HG.out.trans hg)
      clear hr hg HR HG
      go_wp2_with fail
      clear hmi hmj hji h1 h2
      go_roundg (i + q)
      case measure => have := HQ.out; omega
      case rel =>
        have e1 := HU.out
        have e2 := HP.out
        have e3 := HQ.out
        refine ⟨i, q, _, rfl, rfl, rfl, hi, by omega, him, by omega, HR1, ⟨?_⟩, HG1, ⟨HM.out.trans (Same.swapAt f' u p (by omega) hbn i (by omega) (by omega))⟩⟩
        rw [e1, e2, e3, rot_right f' m i j (by omega) hi h]
        exact HE.out
    · subst h
      have h1 : ((i : Int) != (i : Int)) = false := by simp
      have HU := Aside0.mk hu
      clear hu
      go_wp2_with fail
      refine (swapRange_calls g n cap u m i f' v _ hn HR.out (by rw [HU.out]; omega) (by omega)).mono ?_
      rintro e w1 ⟨rfl, hr, hg⟩
      have HR1 := Aside0.mk hr
      have HG1 := Aside0.mk (HG.out.trans hg)
      clear hr hg HR HG
      go_wp2_with fail
      go_end0
      have hM := HM.out.trans (Same.swapAt f' u m (by have := HU.out; omega) hbn i (by have := HU.out; omega) (by have := HU.out; omega))
      rw [HU.out, rot_end f' m i (by omega), HE.out] at hM
      refine ⟨rfl, ?_, HG1.out, hM⟩
      have := HR1.out
      rw [HU.out, rot_end f' m i (by omega), HE.out] at this
      exact this
    · obtain ⟨q, hq⟩ : ∃ q, q = i - j := ⟨_, rfl⟩
      have hij : (i : Int) - (j : Int) = (q : Int) := by omega
      have h1 : ((i : Int) != (j : Int)) = true := by rw [bne_iff_ne]; omega
      have h2 : decide (j < i) = true := decide_eq_true (by omega)
      have HU := Aside0.mk hu
      have HQ := Aside0.mk hq
      clear hu hq
      go_wp2_with fail
      refine (swapRange_calls g n cap u m j f' v _ hn HR.out (by rw [HU.out]; omega) (by omega)).mono ?_
      rintro e w1 ⟨rfl, hr, hg⟩
      have HR1 := Aside0.mk hr
      have HG1 := Aside0.mk (HG.out.trans hg)
      clear hr hg HR HG
      go_wp2_with fail
      clear hmi hij h1 h2
      go_roundg (q + j)
      case measure => have := HQ.out; omega
      case rel =>
        have e1 := HU.out
        have e3 := HQ.out
        refine ⟨q, j, _, rfl, rfl, rfl, by omega, hj, by omega, hjm, HR1, ⟨?_⟩, HG1, ⟨HM.out.trans (Same.swapAt f' u m (by omega) hbn j (by omega) (by omega))⟩⟩
        rw [e1, e3, rot_left f' m i j (by omega) hj h]
        exact HE.out
end Go.Proofs.Ytcbhnjkmjiokgaa.PPPrio
